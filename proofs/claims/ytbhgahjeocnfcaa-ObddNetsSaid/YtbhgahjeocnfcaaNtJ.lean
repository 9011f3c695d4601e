/- ObddNets: part 10. -/
import Derived.Test.YtbhgahjeocnfcaaNtI
namespace Go.Proofs.Ytbhgahjeocnfcaa
open Go Go.Cx Go.RowKit
set_option linter.unusedVariables false
set_option linter.unusedSimpArgs false
set_option maxHeartbeats 4000000
attribute [local irreducible] J JC thenK blockK loopK drawK retK QW Qt pel List.set Calls
open Go.Maps Go.Lib
set_option maxRecDepth 8000
attribute [local irreducible] JE Br eK0 eK2 eK3 brK pc
section
variable {P : Program} {n : Nat} {w0 : World} {R : Heap} {l0 : List Oper} {K : Exit → Fr → List Heap → Prop} {f : Fr} {L : List Heap} {rest : List (Nat × Oper)} {κ : Nat}
variable {d : Nat} {ty : TypeId} {pos : String} {aft : Array Edge} {g : Option (Nat × Bool)} {t u : TypeId} {x y : Operand} {a b : Nat}
theorem J.gxr (ha : a < 2 ^ 64) (hb : b < 2 ^ 64) (kk : J P n w0 R l0 K rest (upd f d (.int .u64 ((a ^^^ b : Nat) : Int))) L) (hg : wantB n f l0 ⟨some d, .binOp .xor t x y u, ty, pos, aft, g⟩ = true := by exact rfl) (hx : Cx.ev n f x = .int .u64 (a : Int) := by exact rfl) (hy : Cx.ev n f y = .int .u64 (b : Int) := by exact rfl) : J P n w0 R l0 K ((κ, ⟨some d, .binOp .xor t x y u, ty, pos, aft, g⟩) :: rest) f L :=
  J.p hg (bin_run hx hy (fun w => by
    have e : (BitVec.ofInt IntKind.u64.bits (a : Int) ^^^ BitVec.ofInt IntKind.u64.bits (b : Int)).toNat = a ^^^ b := by
      show (BitVec.ofInt 64 (a : Int) ^^^ BitVec.ofInt 64 (b : Int)).toNat = _
      rw [BitVec.toNat_xor, bv_g _ _ ha, bv_g _ _ hb]
    have hw : IntKind.u64.wrap ((a ^^^ b : Nat) : Int) = ((a ^^^ b : Nat) : Int) := wU64 (Nat.xor_lt_two_pow (n := 64) ha hb)
    have : (Op.intBits .xor .u64 (a : Int) (b : Int)).run P w = .ok (.int .u64 ((a ^^^ b : Nat) : Int)) w := by
      show (pure (Value.int .u64 (IntKind.u64.wrap ((BitVec.ofInt IntKind.u64.bits (a : Int) ^^^ BitVec.ofInt IntKind.u64.bits (b : Int)).toNat : Int))) : Sem Value).run P w = _
      rw [e, hw]; rfl
    simpa [binOp] using this)) kk
end
theorem Bel.leneq {ns : List N3} {a : Nat} {l m : List Int} (h : Bel ns a l) (g : Bel ns a m) : l.length = m.length :=
  Nat.le_antisymm (nsub_len l m h.nodup fun x hx => (g.mem x).2 ((h.mem x).1 hx)) (nsub_len m l g.nodup fun x hx => (h.mem x).2 ((g.mem x).1 hx))
theorem net_law {order : List Int} {n : Nat} {ns : List N3} (w : WF n ns) (hno : order.length = n) (h8 : n ≤ 8) (ho : okOrd order) {a : Nat} (ha : a < ns.length) {vs : List NV} (hvs : (a < 2 ∧ vs.map pnV = [((a : Int), 0, [])]) ∨ (2 ≤ a ∧ ∃ bs, Bel ns a bs ∧ vs.map pnV = (netNt order ns bs).1.1)) {bs2 : List Int} (b2 : Bel ns a bs2) :
    checkP (maxO order) (vs.map pnV) = true ∧ DecP (vs.map pnV) ∧ DciP (vs.map pnV) ∧ vs.length ≤ 3 * bs2.length + 2 * order.length + 1 ∧ (∀ v ∈ vs, v.l.length ≤ 2) ∧ ∀ s, okS s → evalN s (maxO order) (vs.map pnV) = fn n ns a (asgS order s) := by
  have hm := maxO_rng ho.1
  have hlen : (vs.map pnV).length = vs.length := List.length_map _
  have h2n := pow8 h8
  have hbl := b2.len w ha
  suffices key : NW (maxO order) (vs.map pnV) ∧ (vs.map pnV).length ≤ 3 * bs2.length + 2 * order.length + 1 ∧ 1 ≤ (vs.map pnV).length ∧ ∀ s, okS s → (truT s (vs.map pnV)).getD ((vs.map pnV).length - 1) default = fn n ns a (asgS order s) by
    obtain ⟨nw, k1, k2, k3⟩ := key
    have hc : checkP (maxO order) (vs.map pnV) = true := by
      unfold checkP
      rw [nw.form, decide_eq_true ⟨hm.1, hm.2.1⟩, decide_eq_true ⟨k2, by omega⟩]
      rfl
    refine ⟨hc, nw.dec, nw.dci, by omega, fun v hv => nw.sm (pnV v) (List.mem_map_of_mem hv), fun s hs => ?_⟩
    unfold evalN
    rw [hc, Bool.true_and]
    exact k3 s hs
  rcases hvs with ⟨h2, e⟩ | ⟨h2, bs, b1, e⟩
  · rw [e]
    have hk : a = 0 ∨ a = 1 := by omega
    have hf : formedP ((a : Int), 0, []) (maxO order) 0 = true := by
      rcases hk with rfl | rfl <;> rfl
    refine ⟨⟨by unfold formAll formAll; rw [hf]; rfl, fun i hi h3 => ?_, fun i hi h4 => ?_, fun x hx => by rw [List.mem_singleton.1 hx]; exact Nat.zero_le _⟩, by show 1 ≤ _; omega, Nat.le_refl 1, fun s hs => ?_⟩
    · have hi : i < 1 := hi
      obtain rfl : i = 0 := by omega
      have h3 : (a : Int) = 3 := h3
      omega
    · have hi : i < 1 := hi
      obtain rfl : i = 0 := by omega
      have h4 : (a : Int) = 4 := h4
      omega
    · rcases hk with rfl | rfl
      · rw [fn_0 w]; rfl
      · rw [fn_1 w]; rfl
  · rw [e]
    obtain ⟨g1, g2, g3, g4⟩ := net_ok w hno ho h2 ha b1
    have := b1.leneq b2
    exact ⟨g1, by omega, g3, g4⟩
set_option maxHeartbeats 16000000 in
theorem nets30_any (l : List Int) (a : Option Addr) (c : Nat) (h : Heap) (hs : SlT encI 1 a l h) (ps : List Nat) (ap : Option Addr) (cp : Nat) (hp : Heap) (hsp : SlT encH 1 ap ps hp) (hpb : ∀ p ∈ ps, p < 65536) (x : Nat × Nat) (hx : okS x) (w : World) (hw1 : Holds (h ++ hp) w) :
    Calls Try.prog 9 #[.slice a l.length c, .slice ap ps.length cp, sv x] w fun e w' => e = .returned (.bool true) ∧ Below w.heap.size w w' := by
  have q0 : ∀ L, RdH (h ++ hp) L h := fun L => RdH.old fun _ hh => List.mem_append_left _ hh
  have q1 : ∀ L, RdH (h ++ hp) L hp := fun L => RdH.old fun _ hh => List.mem_append_right _ hh
  have cF := fun w hw => few_any l a c h hs w hw
  by_cases hf : l.length ≤ 8 ∧ okOrd l
  case neg =>
    rw [decide_eq_false hf] at cF
    refine calls_of_JC (R := (h ++ hp)) Try.func9 Try.ntmps9 rfl rfl (hw1) ?_
    repeat' first
      | (refine J.isJ ?_; first | (first | (refine J.fc 42 ?_; refine J.call0 eFew rfl rfl (fun w hw => cF w (hw.rdH (q0 _))) ?_) | (refine J.fc 29 ?_; refine J.call0 eWorks30 rfl rfl (fun w hw => works_any w) ?_)) | (first | (refine J.o 0 ?_; refine J.ev' hΓ ?_) | refine J.nil ?_ | refine J.kd ?_ | (refine J.o 4 ?_; first | refine J.lT default hΓ ?_ | refine J.lR hΓ ?_) | (refine J.o 3 ?_; first | refine J.iA hΓ ?_ | refine J.iJ hΓ ?_ | refine J.ev' hΓ ?_) | (refine J.o 1 ?_; first | refine J.ad ?_ | refine J.mu ?_) | (refine J.o 5 ?_; first | refine J.t0 hΓ ?_) | (refine J.o 6 ?_; refine J.bx (fun _ => ?_)) | (refine J.o 7 ?_; refine J.al hΓ (fun _ => ?_)) | (refine J.o 10 ?_; refine J.ev' hΓ ?_) | (refine J.o 11 ?_; refine J.ev' hΓ ?_)) | ((fail_if_success refine J.wt ?_); refine J.gc rfl rfl (fun hc => ?_) (fun hc => ?_) <;> ((try simp only [decide_eq_true_eq, decide_eq_false_iff_not, beq_iff_eq, beq_eq_false_iff_ne, bne_iff_ne, bne_eq_false_iff_eq, Bool.not_eq_true', Bool.not_eq_false', Bool.not_eq_true, Bool.not_eq_false] at hc) <;> first | (first | (exact absurd rfl hc) | (exfalso; omega) | (exact absurd (hc.symm.trans (by assumption : _ = false)) (by decide)) | (exact absurd (hc.symm.trans (by assumption : _ = true)) (by decide))) | skip)))
      | (first | refine JC.seq ?_ | refine JC.region ?_ | refine JC.block ?_ | refine JC.ret ?_ | refine JC.exit ?_ | refine JC.skip ?_ | refine thenK.nn ?_ | refine thenK.r ?_ | refine thenK.x ?_ | refine blockK.nn ?_ | refine blockK.hit rfl ?_ | refine JC.condT rfl ?_ | refine JC.condF rfl ?_ | (refine JC.cond rfl (fun hc => ?_) (fun hc => ?_) <;> ((try simp only [decide_eq_true_eq, decide_eq_false_iff_not, beq_iff_eq, beq_eq_false_iff_ne, bne_iff_ne, bne_eq_false_iff_eq, Bool.not_eq_true', Bool.not_eq_false', Bool.not_eq_true, Bool.not_eq_false] at hc) <;> first | (first | (exact absurd rfl hc) | (exfalso; omega) | (exact absurd (hc.symm.trans (by assumption : _ = false)) (by decide)) | (exact absurd (hc.symm.trans (by assumption : _ = true)) (by decide))) | skip)) | refine drawK.nn ?_ | refine loopK.x ?_)
      | (fail)
      | fail
    all_goals first | (exfalso; omega) | skip
    all_goals exact ret1f rfl rfl rfl (fun w1 hw => ⟨rfl, hw.below⟩)
  rw [decide_eq_true hf] at cF
  obtain ⟨h8, ho⟩ := hf
  by_cases h12 : ps.length ≤ 12
  case neg =>
    refine calls_of_JC (R := (h ++ hp)) Try.func9 Try.ntmps9 rfl rfl (hw1) ?_
    repeat' first
      | (refine J.isJ ?_; first | (first | (refine J.fc 42 ?_; refine J.call0 eFew rfl rfl (fun w hw => cF w (hw.rdH (q0 _))) ?_) | (refine J.fc 29 ?_; refine J.call0 eWorks30 rfl rfl (fun w hw => works_any w) ?_)) | (first | (refine J.o 0 ?_; refine J.ev' hΓ ?_) | refine J.nil ?_ | refine J.kd ?_ | (refine J.o 4 ?_; first | refine J.lT default hΓ ?_ | refine J.lR hΓ ?_) | (refine J.o 3 ?_; first | refine J.iA hΓ ?_ | refine J.iJ hΓ ?_ | refine J.ev' hΓ ?_) | (refine J.o 1 ?_; first | refine J.ad ?_ | refine J.mu ?_) | (refine J.o 5 ?_; first | refine J.t0 hΓ ?_) | (refine J.o 6 ?_; refine J.bx (fun _ => ?_)) | (refine J.o 7 ?_; refine J.al hΓ (fun _ => ?_)) | (refine J.o 10 ?_; refine J.ev' hΓ ?_) | (refine J.o 11 ?_; refine J.ev' hΓ ?_)) | ((fail_if_success refine J.wt ?_); refine J.gc rfl rfl (fun hc => ?_) (fun hc => ?_) <;> ((try simp only [decide_eq_true_eq, decide_eq_false_iff_not, beq_iff_eq, beq_eq_false_iff_ne, bne_iff_ne, bne_eq_false_iff_eq, Bool.not_eq_true', Bool.not_eq_false', Bool.not_eq_true, Bool.not_eq_false] at hc) <;> first | (first | (exact absurd rfl hc) | (exfalso; omega) | (exact absurd (hc.symm.trans (by assumption : _ = false)) (by decide)) | (exact absurd (hc.symm.trans (by assumption : _ = true)) (by decide))) | skip)))
      | (first | refine JC.seq ?_ | refine JC.region ?_ | refine JC.block ?_ | refine JC.ret ?_ | refine JC.exit ?_ | refine JC.skip ?_ | refine thenK.nn ?_ | refine thenK.r ?_ | refine thenK.x ?_ | refine blockK.nn ?_ | refine blockK.hit rfl ?_ | refine JC.condT rfl ?_ | refine JC.condF rfl ?_ | (refine JC.cond rfl (fun hc => ?_) (fun hc => ?_) <;> ((try simp only [decide_eq_true_eq, decide_eq_false_iff_not, beq_iff_eq, beq_eq_false_iff_ne, bne_iff_ne, bne_eq_false_iff_eq, Bool.not_eq_true', Bool.not_eq_false', Bool.not_eq_true, Bool.not_eq_false] at hc) <;> first | (first | (exact absurd rfl hc) | (exfalso; omega) | (exact absurd (hc.symm.trans (by assumption : _ = false)) (by decide)) | (exact absurd (hc.symm.trans (by assumption : _ = true)) (by decide))) | skip)) | refine drawK.nn ?_ | refine loopK.x ?_)
      | (fail)
      | fail
    all_goals first | (exfalso; omega) | skip
    all_goals exact ret1f rfl rfl rfl (fun w1 hw => ⟨rfl, hw.below⟩)
  have h2n := pow8 h8
  refine calls_of_JC (R := (h ++ hp)) Try.func9 Try.ntmps9 rfl rfl (hw1) ?_
  repeat' first
    | (refine J.isJ ?_; first | (first | (refine J.fc 42 ?_; refine J.call0 eFew rfl rfl (fun w hw => cF w (hw.rdH (q0 _))) ?_) | (refine J.fc 25 ?_; refine J.callx eNew rfl rfl (fun w hw => new_any l a c h hs ho (q0 _) hw) ?_; rintro _ _ ⟨b0, K, s, hO, hP, rfl, rfl, so, hns, po⟩; have hlen : s.ns.length = 2 := (by rw [hns]; rfl)) | (refine J.fc 43 ?_; refine J.callx eTerms rfl rfl (fun w hw => terms_any so po a c h hs ps ap cp hp hsp hpb false h8 h12 (by omega) q0 q1 hw) ?_; rintro _ _ ⟨s1, y1, rfl, rfl, ad1, f1⟩; have adl1 := ad1.le) | (refine J.fc 44 ?_; refine J.callx eNetS rfl rfl (fun w hw => Net_any ad1.ok po h8 b0 y1 ad1.lt (show Rd _ ([(b0, stO K s1.an s1.ns.length s1.cn)] :: s1.hN :: s1.hU :: s1.hM :: hO :: hP :: _) b0 _ from Rd.hd) (show RdH _ ([(b0, stO K s1.an s1.ns.length s1.cn)] :: s1.hN :: s1.hU :: s1.hM :: hO :: hP :: _) s1.hN from RdH.hd.tl) (show RdH _ ([(b0, stO K s1.an s1.ns.length s1.cn)] :: s1.hN :: s1.hU :: s1.hM :: hO :: hP :: _) hO from RdH.hd.tl.tl.tl.tl) hw) ?_; rintro _ _ ⟨aX, cX, vs, hX, hI, rfl, rfl, sX, iX, hvs⟩) | (refine J.o 7 ?_; refine J.al (d := 11) hΓ (fun b11 => ?_)) | (refine J.fc 20 ?_; refine J.callx eSize rfl rfl (fun w hw => Size_any ad1.ok b0 y1 ad1.lt (show Rd _ (_ :: _ :: _ :: [(b0, stO K s1.an s1.ns.length s1.cn)] :: s1.hN :: s1.hU :: s1.hM :: hO :: hP :: _) b0 _ from Rd.hd.tl.tl.tl) (show RdH _ (_ :: _ :: _ :: [(b0, stO K s1.an s1.ns.length s1.cn)] :: s1.hN :: s1.hU :: s1.hM :: hO :: hP :: _) s1.hN from RdH.hd.tl.tl.tl.tl) hw) ?_; rintro _ _ ⟨bs2, rfl, rfl, bel2⟩)) | (first | (refine J.o 0 ?_; refine J.ev' hΓ ?_) | refine J.nil ?_ | refine J.kd ?_ | (refine J.o 4 ?_; first | refine J.lT default hΓ ?_ | refine J.lR hΓ ?_) | (refine J.o 3 ?_; first | refine J.iA hΓ ?_ | refine J.iJ hΓ ?_ | refine J.ev' hΓ ?_) | (refine J.o 1 ?_; first | refine J.ad ?_ | refine J.mu ?_) | (refine J.o 5 ?_; first | refine J.t0 hΓ ?_) | (refine J.o 6 ?_; refine J.bx (fun _ => ?_)) | (refine J.o 7 ?_; refine J.al hΓ (fun _ => ?_)) | (refine J.o 10 ?_; refine J.ev' hΓ ?_) | (refine J.o 11 ?_; refine J.ev' hΓ ?_)) | ((fail_if_success refine J.wt ?_); refine J.gc rfl rfl (fun hc => ?_) (fun hc => ?_) <;> ((try simp only [decide_eq_true_eq, decide_eq_false_iff_not, beq_iff_eq, beq_eq_false_iff_ne, bne_iff_ne, bne_eq_false_iff_eq, Bool.not_eq_true', Bool.not_eq_false', Bool.not_eq_true, Bool.not_eq_false] at hc) <;> first | (first | (exact absurd rfl hc) | (exfalso; omega) | (exact absurd (hc.symm.trans (by assumption : _ = false)) (by decide)) | (exact absurd (hc.symm.trans (by assumption : _ = true)) (by decide))) | skip)))
    | (first | refine JC.seq ?_ | refine JC.region ?_ | refine JC.block ?_ | refine JC.ret ?_ | refine JC.exit ?_ | refine JC.skip ?_ | refine thenK.nn ?_ | refine thenK.r ?_ | refine thenK.x ?_ | refine blockK.nn ?_ | refine blockK.hit rfl ?_ | refine JC.condT rfl ?_ | refine JC.condF rfl ?_ | (refine JC.cond rfl (fun hc => ?_) (fun hc => ?_) <;> ((try simp only [decide_eq_true_eq, decide_eq_false_iff_not, beq_iff_eq, beq_eq_false_iff_ne, bne_iff_ne, bne_eq_false_iff_eq, Bool.not_eq_true', Bool.not_eq_false', Bool.not_eq_true, Bool.not_eq_false] at hc) <;> first | (first | (exact absurd rfl hc) | (exfalso; omega) | (exact absurd (hc.symm.trans (by assumption : _ = false)) (by decide)) | (exact absurd (hc.symm.trans (by assumption : _ = true)) (by decide))) | skip)) | refine drawK.nn ?_ | refine loopK.x ?_)
    | (fail)
    | fail
  all_goals first | (exfalso; omega) | skip
  rename_i b5
  have hlaw := net_law ad1.ok.wf rfl h8 ho ad1.lt hvs bel2
  obtain ⟨hck, hdec, hdci, hcnt, hsm, hev⟩ := hlaw
  have hmr := maxO_rng ho.1
  refine JC.weak (L' := [(b5, setO x)] :: [(b11, netOb (maxO l) aX vs.length cX)] :: hX :: hI :: (sF K b0 s1 ++ (hO :: hP :: []))) (fun w hw => H.sel (l := [_, _, _, _, _, _, _, _, _, _]) (M := []) hw [9, 0, 1, 2, 3, 4, 5, 6, 7, 8]) ?_
  refine JC.gen [(0, .slice a l.length c), (5, .pointer (some ⟨b5, 0, none⟩)), (7, .pointer (some ⟨b0, 0, none⟩)), (9, .int .i64 (y1 : Int)), (10, .bool true), (11, .pointer (some ⟨b11, 0, none⟩)), (12, .int .i64 0), (13, .int .i64 (bs2.length : Int)), (14, .int .i64 0), (15, .int .i64 0), (16, .int .i64 0)] ⟨rfl, rfl, rfl, rfl, rfl, rfl, rfl, rfl, rfl, rfl, rfl, trivial⟩ (fun F1 => ?_)
  refine JC.loop (fun i => i == 15 || i == 16 || Nat.ble 52 i) (fun m g L' => ∃ (k : Nat) (xk : Nat × Nat), g 16 = .int .i64 (k : Int) ∧ g 15 = .int .i64 (maxO (l.take k)) ∧ k + m = l.length ∧ okS xk ∧ L' = [(b5, setO xk)] :: [(b11, netOb (maxO l) aX vs.length cX)] :: hX :: hI :: (sF K b0 s1 ++ (hO :: hP :: []))) l.length ⟨0, x, rfl, rfl, by omega, hx, rfl⟩ ?_
  rintro m g _ ⟨k, xk, e16, e15, hkm, hxk, rfl⟩
  refine JC.pin 16 e16 (JC.pin 15 e15 ?_)
  clear e16 e15
  unfold setO
  obtain ⟨hx1, hx2⟩ := id hxk
  rcases Nat.lt_or_ge k l.length with hk | hk
  case inl =>
    have hst := maxO_snoc (l.take k) (l.getD k default)
    rw [← take_g l k hk] at hst
    have hvr := ho.1 _ (mem_g l k hk)
    have hmr1 := maxO_rng (l := l.take k) fun v hv => ho.1 v (List.mem_of_mem_take hv)
    obtain ⟨mm, hmm⟩ : ∃ mm : Nat, l.getD k default = ((mm + 1 : Nat) : Int) := ⟨(l.getD k default - 1).toNat, by omega⟩
    rw [hmm] at hvr hst
    have hsh : 1 * 2 ^ (mm % 64) < 2 ^ 64 := by
      rw [Nat.one_mul]
      exact Nat.pow_lt_pow_right (by decide) (Nat.mod_lt _ (by decide))
    rcases Nat.lt_or_ge mm 64 with h64 | h64
    ·
      have hq : mm / 64 = 0 := by omega
      repeat' first
        | (refine J.isJ ?_; first | (first | (refine J.o 3 ?_; first | refine J.iJ hΓ ?_ (hs := hs) | refine J.iA (t := 53) hΓ ?_) | (refine J.o 4 ?_; first | (refine J.lT default hΓ ?_ (hs := hs) (hr := q0 _); rw [hmm]) | refine J.lR hΓ ?_ (hr := Rd.hd)) | (refine J.o 1 ?_; first | refine J.grem (a := xk.1) (b := 3) ?_ | refine J.gsub (a := mm + 1) (b := 1) ?_ | refine J.gquo (a := mm) (b := 64) ?_ (hw := wI64 (by omega)) | refine J.grem (a := mm) (b := 64) ?_ | refine J.gshl (a := 1) (j := mm % 64) ?_ (hw := wU64 hsh)) | refine J.gxr (a := xk.1) (b := 1 * 2 ^ (mm % 64)) hx1 hsh ?_ | refine J.gxr (a := xk.2) (b := 1 * 2 ^ (mm % 64)) hx2 hsh ?_) | (first | (refine J.o 0 ?_; refine J.ev' hΓ ?_) | refine J.nil ?_ | refine J.kd ?_ | (refine J.o 4 ?_; first | refine J.lT default hΓ ?_ | refine J.lR hΓ ?_) | (refine J.o 3 ?_; first | refine J.iA hΓ ?_ | refine J.iJ hΓ ?_ | refine J.ev' hΓ ?_) | (refine J.o 1 ?_; first | refine J.ad ?_ | refine J.mu ?_) | (refine J.o 5 ?_; first | refine J.t0 hΓ ?_) | (refine J.o 6 ?_; refine J.bx (fun _ => ?_)) | (refine J.o 7 ?_; refine J.al hΓ (fun _ => ?_)) | (refine J.o 10 ?_; refine J.ev' hΓ ?_) | (refine J.o 11 ?_; refine J.ev' hΓ ?_)) | ((fail_if_success refine J.wt ?_); refine J.gc rfl rfl (fun hc => ?_) (fun hc => ?_) <;> ((try simp only [decide_eq_true_eq, decide_eq_false_iff_not, beq_iff_eq, beq_eq_false_iff_ne, bne_iff_ne, bne_eq_false_iff_eq, Bool.not_eq_true', Bool.not_eq_false', Bool.not_eq_true, Bool.not_eq_false] at hc) <;> first | (first | (exact absurd rfl hc) | (exfalso; omega) | (exact absurd (hc.symm.trans (by assumption : _ = false)) (by decide)) | (exact absurd (hc.symm.trans (by assumption : _ = true)) (by decide))) | skip)))
        | (first | refine JC.seq ?_ | refine JC.region ?_ | refine JC.block ?_ | refine JC.ret ?_ | refine JC.exit ?_ | refine JC.skip ?_ | refine thenK.nn ?_ | refine thenK.r ?_ | refine thenK.x ?_ | refine blockK.nn ?_ | refine blockK.hit rfl ?_ | refine JC.condT rfl ?_ | refine JC.condF rfl ?_ | (refine JC.cond rfl (fun hc => ?_) (fun hc => ?_) <;> ((try simp only [decide_eq_true_eq, decide_eq_false_iff_not, beq_iff_eq, beq_eq_false_iff_ne, bne_iff_ne, bne_eq_false_iff_eq, Bool.not_eq_true', Bool.not_eq_false', Bool.not_eq_true, Bool.not_eq_false] at hc) <;> first | (first | (exact absurd rfl hc) | (exfalso; omega) | (exact absurd (hc.symm.trans (by assumption : _ = false)) (by decide)) | (exact absurd (hc.symm.trans (by assumption : _ = true)) (by decide))) | skip)) | refine drawK.nn ?_ | refine loopK.x ?_)
        | ((refine JC.drawO [(0,0),(0,1),(0,2),(1,3),(0,4),(0,5),(0,6),(1,7),(0,8),(0,9),(0,10),(1,11),(0,12),(0,13),(0,14),(0,15),(0,16),(2,17)] (by kernel_rfl) (by kernel_rfl) ?_))
        | fail
      all_goals first | (exfalso; omega) | skip
      all_goals first
        | (refine loopK.nn (m - 1) (by omega) (by repeat (first | refine Ag.upd rfl ?_ | exact Ag.hv)) ⟨k + 1, (xk.1 ^^^ (1 * 2 ^ (mm % 64)), xk.2), ?_, by rw [hst]; rfl, by omega, ?_, rfl⟩
           · show Value.int .i64 _ = _; congr 1
           · exact ⟨Nat.xor_lt_two_pow hx1 hsh, hx2⟩)
        | (refine loopK.nn (m - 1) (by omega) (by repeat (first | refine Ag.upd rfl ?_ | exact Ag.hv)) ⟨k + 1, xk, ?_, by rw [hst]; rfl, by omega, hxk, rfl⟩
           show Value.int .i64 _ = _; congr 1)
    ·
      have hq : mm / 64 = 1 := by omega
      repeat' first
        | (refine J.isJ ?_; first | (first | (refine J.o 3 ?_; first | refine J.iJ hΓ ?_ (hs := hs) | refine J.iA (t := 53) hΓ ?_) | (refine J.o 4 ?_; first | (refine J.lT default hΓ ?_ (hs := hs) (hr := q0 _); rw [hmm]) | refine J.lR hΓ ?_ (hr := Rd.hd)) | (refine J.o 1 ?_; first | refine J.grem (a := xk.1) (b := 3) ?_ | refine J.gsub (a := mm + 1) (b := 1) ?_ | refine J.gquo (a := mm) (b := 64) ?_ (hw := wI64 (by omega)) | refine J.grem (a := mm) (b := 64) ?_ | refine J.gshl (a := 1) (j := mm % 64) ?_ (hw := wU64 hsh)) | refine J.gxr (a := xk.1) (b := 1 * 2 ^ (mm % 64)) hx1 hsh ?_ | refine J.gxr (a := xk.2) (b := 1 * 2 ^ (mm % 64)) hx2 hsh ?_) | (first | (refine J.o 0 ?_; refine J.ev' hΓ ?_) | refine J.nil ?_ | refine J.kd ?_ | (refine J.o 4 ?_; first | refine J.lT default hΓ ?_ | refine J.lR hΓ ?_) | (refine J.o 3 ?_; first | refine J.iA hΓ ?_ | refine J.iJ hΓ ?_ | refine J.ev' hΓ ?_) | (refine J.o 1 ?_; first | refine J.ad ?_ | refine J.mu ?_) | (refine J.o 5 ?_; first | refine J.t0 hΓ ?_) | (refine J.o 6 ?_; refine J.bx (fun _ => ?_)) | (refine J.o 7 ?_; refine J.al hΓ (fun _ => ?_)) | (refine J.o 10 ?_; refine J.ev' hΓ ?_) | (refine J.o 11 ?_; refine J.ev' hΓ ?_)) | ((fail_if_success refine J.wt ?_); refine J.gc rfl rfl (fun hc => ?_) (fun hc => ?_) <;> ((try simp only [decide_eq_true_eq, decide_eq_false_iff_not, beq_iff_eq, beq_eq_false_iff_ne, bne_iff_ne, bne_eq_false_iff_eq, Bool.not_eq_true', Bool.not_eq_false', Bool.not_eq_true, Bool.not_eq_false] at hc) <;> first | (first | (exact absurd rfl hc) | (exfalso; omega) | (exact absurd (hc.symm.trans (by assumption : _ = false)) (by decide)) | (exact absurd (hc.symm.trans (by assumption : _ = true)) (by decide))) | skip)))
        | (first | refine JC.seq ?_ | refine JC.region ?_ | refine JC.block ?_ | refine JC.ret ?_ | refine JC.exit ?_ | refine JC.skip ?_ | refine thenK.nn ?_ | refine thenK.r ?_ | refine thenK.x ?_ | refine blockK.nn ?_ | refine blockK.hit rfl ?_ | refine JC.condT rfl ?_ | refine JC.condF rfl ?_ | (refine JC.cond rfl (fun hc => ?_) (fun hc => ?_) <;> ((try simp only [decide_eq_true_eq, decide_eq_false_iff_not, beq_iff_eq, beq_eq_false_iff_ne, bne_iff_ne, bne_eq_false_iff_eq, Bool.not_eq_true', Bool.not_eq_false', Bool.not_eq_true, Bool.not_eq_false] at hc) <;> first | (first | (exact absurd rfl hc) | (exfalso; omega) | (exact absurd (hc.symm.trans (by assumption : _ = false)) (by decide)) | (exact absurd (hc.symm.trans (by assumption : _ = true)) (by decide))) | skip)) | refine drawK.nn ?_ | refine loopK.x ?_)
        | ((refine JC.drawO [(0,0),(0,1),(0,2),(1,3),(0,4),(0,5),(0,6),(1,7),(0,8),(0,9),(0,10),(1,11),(0,12),(0,13),(0,14),(0,15),(0,16),(2,17)] (by kernel_rfl) (by kernel_rfl) ?_))
        | fail
      all_goals first | (exfalso; omega) | skip
      all_goals first
        | (refine loopK.nn (m - 1) (by omega) (by repeat (first | refine Ag.upd rfl ?_ | exact Ag.hv)) ⟨k + 1, (xk.1, xk.2 ^^^ (1 * 2 ^ (mm % 64))), ?_, by rw [hst]; rfl, by omega, ?_, rfl⟩
           · show Value.int .i64 _ = _; congr 1
           · exact ⟨hx1, Nat.xor_lt_two_pow hx2 hsh⟩)
        | (refine loopK.nn (m - 1) (by omega) (by repeat (first | refine Ag.upd rfl ?_ | exact Ag.hv)) ⟨k + 1, xk, ?_, by rw [hst]; rfl, by omega, hxk, rfl⟩
           show Value.int .i64 _ = _; congr 1)
  rw [List.take_of_length_le hk]
  have hbb : bs2.length ≤ 300 := by have := bel2.len ad1.ok.wf ad1.lt; omega
  have hvl : vs.length ≤ 1000 := by omega
  have nin : NetIn aX vs (hX ++ hI) := ⟨sX.sub fun y hy => List.mem_append_left _ hy, fun v hv => (iX v hv).sub fun y hy => List.mem_append_right _ hy, fun v hv => by have := hsm v hv; omega, by omega⟩
  have cC := fun w hw => checkN_any (maxO l) aX cX vs (hX ++ hI) nin w hw
  rw [hck, if_pos rfl] at cC
  have cD := fun w hw => decomp_any (maxO l) aX cX vs (hX ++ hI) nin hck hdec w hw
  have cI := fun w hw => decis_any (maxO l) aX cX vs (hX ++ hI) nin (fun v hv => by have := hsm v hv; omega) hck hdci w hw
  have cE := fun w hw => evalN_any xk hxk (maxO l) aX cX vs (hX ++ hI) nin w hw
  have cS := fun w hw => Eval_any ad1.ok po b0 y1 ad1.lt xk hxk w hw
  rw [hev xk hxk] at cE
  have hbq : (maxO l == maxO l) = true := beq_self_eq_true _
  unfold netOb
  generalize fn l.length s1.ns y1 (asgS l xk) = fv at cE cS
  cases fv
  all_goals
    repeat' first
      | (refine J.isJ ?_; first | (first | (refine J.o 4 ?_; first | refine J.lR hΓ ?_ (hr := Rd.hd) | refine J.lR hΓ ?_ (hr := Rd.hd.tl)) | (refine J.o 11 ?_; refine J.ev' hΓ ?_; first | rw [hbq] | skip) | (refine J.fc 45 ?_; refine J.call0 eCheckN rfl rfl (fun w hw => cC w ((hw.rdH RdH.hd.tl.tl).append (hw.rdH RdH.hd.tl.tl.tl))) ?_) | (refine J.fc 46 ?_; refine J.call0 eDecomp rfl rfl (fun w hw => cD w ((hw.rdH RdH.hd.tl.tl).append (hw.rdH RdH.hd.tl.tl.tl))) ?_) | (refine J.fc 47 ?_; refine J.call0 eDecis rfl rfl (fun w hw => cI w ((hw.rdH RdH.hd.tl.tl).append (hw.rdH RdH.hd.tl.tl.tl))) ?_) | (refine J.fc 48 ?_; refine J.call0 eEvalN rfl rfl (fun w hw => cE w ((hw.rdH RdH.hd.tl.tl).append (hw.rdH RdH.hd.tl.tl.tl))) ?_) | (refine J.fc 34 ?_; refine J.call0 eEvalS rfl rfl (fun w hw => cS w (stR_of2 (stR_hd _).tl.tl.tl.tl hw)) ?_) | (refine J.fc 29 ?_; refine J.call0 eWorks30 rfl rfl (fun w hw => works_any w) ?_)) | (first | (refine J.o 0 ?_; refine J.ev' hΓ ?_) | refine J.nil ?_ | refine J.kd ?_ | (refine J.o 4 ?_; first | refine J.lT default hΓ ?_ | refine J.lR hΓ ?_) | (refine J.o 3 ?_; first | refine J.iA hΓ ?_ | refine J.iJ hΓ ?_ | refine J.ev' hΓ ?_) | (refine J.o 1 ?_; first | refine J.ad ?_ | refine J.mu ?_) | (refine J.o 5 ?_; first | refine J.t0 hΓ ?_) | (refine J.o 6 ?_; refine J.bx (fun _ => ?_)) | (refine J.o 7 ?_; refine J.al hΓ (fun _ => ?_)) | (refine J.o 10 ?_; refine J.ev' hΓ ?_) | (refine J.o 11 ?_; refine J.ev' hΓ ?_)) | ((fail_if_success refine J.wt ?_); refine J.gc rfl rfl (fun hc => ?_) (fun hc => ?_) <;> ((try simp only [decide_eq_true_eq, decide_eq_false_iff_not, beq_iff_eq, beq_eq_false_iff_ne, bne_iff_ne, bne_eq_false_iff_eq, Bool.not_eq_true', Bool.not_eq_false', Bool.not_eq_true, Bool.not_eq_false] at hc) <;> first | (first | (exact absurd rfl hc) | (exfalso; omega) | (exact absurd (hc.symm.trans (by assumption : _ = false)) (by decide)) | (exact absurd (hc.symm.trans (by assumption : _ = true)) (by decide))) | skip)))
      | (first | refine JC.seq ?_ | refine JC.region ?_ | refine JC.block ?_ | refine JC.ret ?_ | refine JC.exit ?_ | refine JC.skip ?_ | refine thenK.nn ?_ | refine thenK.r ?_ | refine thenK.x ?_ | refine blockK.nn ?_ | refine blockK.hit rfl ?_ | refine JC.condT rfl ?_ | refine JC.condF rfl ?_ | (refine JC.cond rfl (fun hc => ?_) (fun hc => ?_) <;> ((try simp only [decide_eq_true_eq, decide_eq_false_iff_not, beq_iff_eq, beq_eq_false_iff_ne, bne_iff_ne, bne_eq_false_iff_eq, Bool.not_eq_true', Bool.not_eq_false', Bool.not_eq_true, Bool.not_eq_false] at hc) <;> first | (first | (exact absurd rfl hc) | (exfalso; omega) | (exact absurd (hc.symm.trans (by assumption : _ = false)) (by decide)) | (exact absurd (hc.symm.trans (by assumption : _ = true)) (by decide))) | skip)) | refine drawK.nn ?_ | refine loopK.x ?_)
      | ((refine JC.drawW [] [] (by kernel_rfl) (by kernel_rfl) ?_))
      | fail
    all_goals first | (exfalso; omega) | skip
    all_goals exact ret1f rfl rfl rfl (fun w1 hw => ⟨rfl, hw.below⟩)
end Go.Proofs.Ytbhgahjeocnfcaa
