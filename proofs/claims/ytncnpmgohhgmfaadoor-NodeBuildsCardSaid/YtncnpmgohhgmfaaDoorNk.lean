/- Add, the walk. -/
import Derived.Test.YtncnpmgohhgmfaaDoorNj
namespace Go.Proofs.YtncnpmgohhgmfaaDoor
open Go Go.Cx Go.RowKit
set_option linter.unusedVariables false
set_option linter.unusedSimpArgs false
set_option maxHeartbeats 4000000
attribute [local irreducible] J JC thenK blockK loopK roundK drawK retK QW Qt pel List.set Calls
attribute [local irreducible] JE Br eK0 eK2 eK3 brK
section
variable {P : Program} {n : Nat} {w0 : World} {R : Heap} {l0 : List Oper} {K : Exit → Fr → List Heap → Prop} {f : Fr} {L : List Heap} {rest : List (Nat × Oper)} {κ : Nat}
variable {Γ : List (Nat × TI)} {d : Nat} {ty : TypeId} {pos : String} {aft : Array Edge} {g : Option (Nat × Bool)} {t u kt et : TypeId} {x y : Operand}
/-- a map held against nil -/
theorem J.mN {p : Option Nat} {s1 b1 : Nat} {z1 : Option Value} (hΓ : Fits P Γ) (k : J P n w0 R l0 K rest (upd f d (.bool p.isNone)) L) (hg : wantB n f l0 ⟨some d, .binOp .eql t x y u, ty, pos, aft, g⟩ = true := by exact rfl) (hx : Cx.ev n f x = .map p := by exact rfl) (hy : Cx.ev n f y = .map none := by exact rfl) (ht : Go.Cx.look Γ t = some ⟨.map kt et, s1, z1, b1⟩ := by exact rfl) : J P n w0 R l0 K ((κ, ⟨some d, .binOp .eql t x y u, ty, pos, aft, g⟩) :: rest) f L :=
  J.p hg (fun w => by
    have hu := (hΓ t _ ht).1
    have h : ∀ d : Nat, (Op.equalIn (d + 1) t (.map p) (.map none)).run P w = .ok p.isNone w := fun d => by
      cases p <;> simp [Op.equalIn, run_underlying hu]
    have h2 : (binOp .eql t (.map p) (.map none)).run P w = .ok (.bool p.isNone) w := by
      simp only [binOp]
      simp [Op.equal, Op.maxDepth, h 9999]
    have h3 : (eqGuard .eql t x y (.map p) (.map none)).run P w = .ok () w := by simp [eqGuard]
    simp only [execOp, hx, hy, Sem.run_bind, h3, Result.andThen_ok, h2]
    rfl) k
end
theorem hrot4 {w0 w : World} {R x a b c d : Heap} {L : List Heap} (h : H w0 R (x :: a :: b :: c :: d :: L) w) : H w0 R (a :: b :: c :: d :: x :: L) w := H.sel (l := [_, _, _, _, _]) (M := L) h [1, 2, 3, 4, 0]
theorem lit_sl (a : Option Addr) : SlT encI 1 a [] [] := ⟨fun _ => rfl, fun i hi => absurd hi (Nat.not_lt_zero _)⟩
theorem eAdd : Entr Tryd.prog 21 := Entr.of Tryd.func21 rfl rfl
set_option maxHeartbeats 16000000 in
theorem add_any (N : Int) (hN : 0 ≤ N ∧ N ≤ 128) (v : NV) {w0 w : World} {R : Heap} {L : List Heap} {b cap bm : Nat} {a : Option Addr} {vs : List NV} {ho hi hm hl : Heap} (hsl : SlT encI 1 v.a v.l hl) (rl : RdH R L hl) (hvl : v.l.length ≤ 1000000) (hf : formedP (pnV v) N vs.length = true) (hT : Tab w0) (bs : BS vs a cap bm ho hi hm) (op : OkP (vs.map pnV)) (hv65 : vs.length < 65536) (hw : H w0 R (bL N b a vs cap bm ho hi hm ++ L) w) :
    Calls Tryd.prog 21 #[.pointer (some ⟨b, 0, none⟩), .agg ⟨encNV v⟩] w fun e w' => ∃ v' L', e = .returned v' ∧ H w0 R L' w' ∧ ∃ a' cap' ho' hi' hm' vs', v' = .tuple #[.int .i64 (addP (vs.map pnV) (pnV v)).1, .int .i64 0] ∧ L' = bL N b a' vs' cap' bm ho' hi' hm' ++ L ∧ BS vs' a' cap' bm ho' hi' hm' ∧ vs'.map pnV = (addP (vs.map pnV) (pnV v)).2 := by
  have cF := fun w hw => formed_any v hl hsl hvl N vs.length hN w hw
  rw [hf] at cF
  by_cases hk : v.kind = 3 ∨ v.kind = 4
  case neg =>
    have hA : addP (vs.map pnV) (pnV v) = putP (vs.map pnV) (v.kind, v.lit, []) := add_const (x := pnV v) ⟨fun e => hk (.inl e), fun e => hk (.inr e)⟩
    rw [hA]
    unfold bL at hw
    simp only [List.cons_append, List.nil_append] at hw
    have hlen : (vs.map pnV).length = vs.length := List.length_map ..
    refine calls_in Tryd.func21 Tryd.ntmps21 rfl rfl (hw) ?_
    unfold bO
    have okv : OkV ⟨v.kind, v.lit, none, 0, []⟩ := by
      have hx := formed_const (m := 0) hN hf hk
      exact ⟨hx.k, hx.t, Nat.zero_le _, fun k hk => absurd hk List.not_mem_nil⟩
    repeat' first
      | (refine J.isJ ?_; first | (first | (refine J.o 11 ?_; first | refine J.pN hΓ ?_ | refine J.mN hΓ ?_) | (refine J.fc 40 ?_; refine J.call0 eForm rfl rfl (fun w hw => cF w (hw.rdH rl.tl.tl.tl.tl.tl)) ?_) | (refine J.fc 41 ?_; refine J.callx ePut rfl rfl (fun w hw => put_any ⟨v.kind, v.lit, none, 0, []⟩ okv hT bs (lit_sl none) hv65 (H.sel (l := [_, _, _, _, _, _]) (M := L) hw.nilF [0, 2, 3, 4, 5])) ?_; rintro _ _ ⟨a2, c2, ho2, hi2, hm2, vs2, rfl, rfl, bs2, e2, _⟩)) | (first | (refine J.o 0 ?_; refine J.ev' hΓ ?_) | refine J.nil ?_ | refine J.kd ?_ | (refine J.o 4 ?_; first | refine J.e0 hΓ ?_ | refine J.e1 hΓ ?_ | refine J.e2 hΓ ?_ | refine J.lT default hΓ ?_ | refine J.lR hΓ ?_) | (refine J.o 3 ?_; first | refine J.iJ hΓ ?_ | refine J.fP hΓ ?_ | refine J.iC hΓ ?_ | refine J.ev' hΓ ?_) | (refine J.o 1 ?_; first | refine J.ad ?_ | refine J.sb ?_ | refine J.ng ?_) | (refine J.o 5 ?_; first | refine J.t0 hΓ ?_ | refine J.t1 hΓ ?_ | refine J.t2 hΓ ?_ | refine J.tT _ default hΓ (fun _ _ => ?_) | refine J.tT1 _ default hΓ (fun _ _ => ?_) | refine J.tT2 _ default hΓ (fun _ _ => ?_)) | (refine J.o 6 ?_; refine J.bx (fun _ => ?_)) | (refine J.o 7 ?_; refine J.al hΓ (fun _ => ?_)) | (refine J.o 8 ?_; refine J.bd hΓ ?_) | (refine J.o 9 ?_; refine J.bl hΓ (fun _ => ?_)) | (refine J.o 10 ?_; refine J.ev' hΓ ?_) | (refine J.o 11 ?_; refine J.ev' hΓ ?_) | refine J.kn ?_) | ((fail_if_success refine J.wt ?_); refine J.gc rfl rfl (fun hc => ?_) (fun hc => ?_) <;> ((try simp only [decide_eq_true_eq, decide_eq_false_iff_not, beq_iff_eq, beq_eq_false_iff_ne, bne_iff_ne, bne_eq_false_iff_eq, Bool.not_eq_true', Bool.not_eq_false', Bool.not_eq_true, Bool.not_eq_false] at hc) <;> first | (first | (exact absurd rfl hc) | (exfalso; omega) | (exact absurd (hc.symm.trans (by assumption : _ = false)) (by decide)) | (exact absurd (hc.symm.trans (by assumption : _ = true)) (by decide))) | skip)))
      | (first | refine JC.seq ?_ | refine JC.region ?_ | refine JC.block ?_ | refine JC.ret ?_ | refine JC.exit ?_ | refine JC.skip ?_ | refine thenK.nn ?_ | refine thenK.r ?_ | refine thenK.x ?_ | refine blockK.nn ?_ | refine blockK.r ?_ | refine blockK.hit rfl ?_ | refine blockK.miss rfl ?_ | refine JC.condT rfl ?_ | refine JC.condF rfl ?_ | (refine JC.cond rfl (fun hc => ?_) (fun hc => ?_) <;> ((try simp only [decide_eq_true_eq, decide_eq_false_iff_not, beq_iff_eq, beq_eq_false_iff_ne, bne_iff_ne, bne_eq_false_iff_eq, Bool.not_eq_true', Bool.not_eq_false', Bool.not_eq_true, Bool.not_eq_false] at hc) <;> first | (first | (exact absurd rfl hc) | (exfalso; omega) | (exact absurd (hc.symm.trans (by assumption : _ = false)) (by decide)) | (exact absurd (hc.symm.trans (by assumption : _ = true)) (by decide))) | skip)) | refine drawK.nn ?_ | refine roundK.nn ?_ | refine roundK.r ?_ | refine roundK.x ?_ | refine loopK.r ?_ | refine loopK.x ?_)
      | ((refine JC.drawN [] [] (by kernel_rfl) (by kernel_rfl) ?_))
      | fail
    all_goals first | (exfalso; omega) | skip
    exact ret2f rfl rfl rfl rfl rfl (fun w1 hw => ⟨_, _, rfl, hw, a2, c2, ho2, hi2, hm2, vs2, rfl, rfl, bs2, e2⟩)
  have hlen : (vs.map pnV).length = vs.length := List.length_map ..
  have hf' := hf
  rw [← hlen] at hf'
  have hrg : ∀ i, i ∈ v.l → 0 ≤ i ∧ i < vs.length := formed_rng hf
  have okb := op.okB (by omega)
  have okC : ∀ k : Int, 0 ≤ k ∧ k ≤ 1 → OkV ⟨k, 0, none, 0, []⟩ := fun k hk => ⟨by show 0 ≤ k ∧ k ≤ 4; omega, ⟨(by decide : (-128 : Int) ≤ 0), (by decide : (0 : Int) ≤ 128)⟩, Nat.zero_le _, fun i hi => absurd hi List.not_mem_nil⟩
  unfold bL at hw
  simp only [List.cons_append, List.nil_append] at hw
  rcases hk with hk | hk
  · have hd : dropK v.kind = 1 := by unfold dropK; rw [hk]; rfl
    have he : endK v.kind = 0 := by unfold endK; rw [hk]; rfl
    have hA := add_gate op (kind := v.kind) (lt := v.lit) (l := v.l) (by omega) _ rfl
    have hof := fun ho => out_facts op (kind := v.kind) (l := v.l) (formed_rng hf') _ rfl ho
    rw [hd, he] at hA
    rw [hd, he] at hof
    have hA : addP (vs.map pnV) (pnV v) = (if (stW vs v.kind 1 0 v.l).open_ = true then (if (stW vs v.kind 1 0 v.l).out.length = 0 then putP (vs.map pnV) (1, 0, []) else if (stW vs v.kind 1 0 v.l).out.length = 1 then ((sortS (stW vs v.kind 1 0 v.l).out).getD 0 default, vs.map pnV) else putP (vs.map pnV) (v.kind, 0, sortS (stW vs v.kind 1 0 v.l).out)) else putP (vs.map pnV) (0, 0, [])) := hA
    have hof : (stW vs v.kind 1 0 v.l).open_ = true → (sortS (stW vs v.kind 1 0 v.l).out).Pairwise (· < ·) ∧ _ ∧ ∀ i, i ∈ sortS (stW vs v.kind 1 0 v.l).out → 0 ≤ i ∧ i < ((vs.map pnV).length : Int) := hof
    rw [hlen] at hof
    have okM : (stW vs v.kind 1 0 v.l).open_ = true → ∀ ao co, OkV ⟨v.kind, 0, ao, co, sortS (stW vs v.kind 1 0 v.l).out⟩ := fun ho ao co => by
      have h := hof ho
      have h2 := asc_len _ 0 vs.length (by omega) h.1 h.2.2
      exact ⟨by show 0 ≤ v.kind ∧ v.kind ≤ 4; omega, ⟨(by decide : (-128 : Int) ≤ 0), (by decide : (0 : Int) ≤ 128)⟩, by show (sortS (stW vs v.kind 1 0 v.l).out).length ≤ 1000000; omega, fun k hk => by have := h.2.2 k hk; omega⟩
    have hln := sortS_len (stW vs v.kind 1 0 v.l).out
    refine calls_in Tryd.func21 Tryd.ntmps21 rfl rfl (hw) ?_
    unfold bO
    repeat' first
      | (refine J.isJ ?_; first | (first | (refine J.o 11 ?_; first | refine J.pN hΓ ?_ | refine J.mN hΓ ?_) | (refine J.o 4 ?_; first | refine J.lT default hΓ ?_ (hs := oO.sl) (hr := RdH.hd) | refine J.lR hΓ ?_ (hr := Rd.hd.tl.tl.tl.tl.tl)) | (refine J.fc 40 ?_; refine J.call0 eForm rfl rfl (fun w hw => cF w (hw.rdH rl.tl.tl.tl.tl.tl)) ?_) | (refine J.fc 42 ?_; refine J.callx eInp rfl rfl (fun w hw => inputs_any v.kind 1 0 v.l v.a v.c hsl rl.tl bs.ow bs.ins okb (by omega) hvl hrg (show H w0 R (bL N b a vs cap bm ho hi hm ++ (_ :: L)) w from hrot4 hw)) ?_; rintro _ _ ⟨ao, co, hO, rfl, rfl, oO⟩; unfold bL bO; simp only [List.cons_append, List.nil_append]) | (refine J.fc 41 ?_; (first | refine J.callx ePut rfl rfl (fun w hw => put_any ⟨v.kind, 0, ao, co, sortS (stW vs v.kind 1 0 v.l).out⟩ (okM (by assumption) ao co) hT bs oO.sl hv65 (H.sel (l := [_, _, _, _, _, _]) (M := L) hw [0, 1, 2, 3, 4])) ?_ | refine J.callx ePut rfl rfl (fun w hw => put_any ⟨0, 0, none, 0, []⟩ (okC 0 (by decide)) hT bs (lit_sl none) hv65 (H.sel (l := [_, _, _, _, _, _, _]) (M := L) hw.nilF [0, 2, 3, 4, 5])) ?_ | refine J.callx ePut rfl rfl (fun w hw => put_any ⟨1, 0, none, 0, []⟩ (okC 1 (by decide)) hT bs (lit_sl none) hv65 (H.sel (l := [_, _, _, _, _, _, _]) (M := L) hw.nilF [0, 2, 3, 4, 5])) ?_); rintro _ _ ⟨a2, c2, ho2, hi2, hm2, vs2, rfl, rfl, bs2, e2, _⟩)) | (first | (refine J.o 0 ?_; refine J.ev' hΓ ?_) | refine J.nil ?_ | refine J.kd ?_ | (refine J.o 4 ?_; first | refine J.e0 hΓ ?_ | refine J.e1 hΓ ?_ | refine J.e2 hΓ ?_ | refine J.lT default hΓ ?_ | refine J.lR hΓ ?_) | (refine J.o 3 ?_; first | refine J.iJ hΓ ?_ | refine J.fP hΓ ?_ | refine J.iC hΓ ?_ | refine J.ev' hΓ ?_) | (refine J.o 1 ?_; first | refine J.ad ?_ | refine J.sb ?_ | refine J.ng ?_) | (refine J.o 5 ?_; first | refine J.t0 hΓ ?_ | refine J.t1 hΓ ?_ | refine J.t2 hΓ ?_ | refine J.tT _ default hΓ (fun _ _ => ?_) | refine J.tT1 _ default hΓ (fun _ _ => ?_) | refine J.tT2 _ default hΓ (fun _ _ => ?_)) | (refine J.o 6 ?_; refine J.bx (fun _ => ?_)) | (refine J.o 7 ?_; refine J.al hΓ (fun _ => ?_)) | (refine J.o 8 ?_; refine J.bd hΓ ?_) | (refine J.o 9 ?_; refine J.bl hΓ (fun _ => ?_)) | (refine J.o 10 ?_; refine J.ev' hΓ ?_) | (refine J.o 11 ?_; refine J.ev' hΓ ?_) | refine J.kn ?_) | ((fail_if_success refine J.wt ?_); refine J.gc rfl rfl (fun hc => ?_) (fun hc => ?_) <;> ((try simp only [decide_eq_true_eq, decide_eq_false_iff_not, beq_iff_eq, beq_eq_false_iff_ne, bne_iff_ne, bne_eq_false_iff_eq, Bool.not_eq_true', Bool.not_eq_false', Bool.not_eq_true, Bool.not_eq_false] at hc) <;> first | (first | (exact absurd rfl hc) | (exfalso; omega) | (exact absurd (hc.symm.trans (by assumption : _ = false)) (by decide)) | (exact absurd (hc.symm.trans (by assumption : _ = true)) (by decide))) | skip)))
      | (first | refine JC.seq ?_ | refine JC.region ?_ | refine JC.block ?_ | refine JC.ret ?_ | refine JC.exit ?_ | refine JC.skip ?_ | refine thenK.nn ?_ | refine thenK.r ?_ | refine thenK.x ?_ | refine blockK.nn ?_ | refine blockK.r ?_ | refine blockK.hit rfl ?_ | refine blockK.miss rfl ?_ | refine JC.condT rfl ?_ | refine JC.condF rfl ?_ | (refine JC.cond rfl (fun hc => ?_) (fun hc => ?_) <;> ((try simp only [decide_eq_true_eq, decide_eq_false_iff_not, beq_iff_eq, beq_eq_false_iff_ne, bne_iff_ne, bne_eq_false_iff_eq, Bool.not_eq_true', Bool.not_eq_false', Bool.not_eq_true, Bool.not_eq_false] at hc) <;> first | (first | (exact absurd rfl hc) | (exfalso; omega) | (exact absurd (hc.symm.trans (by assumption : _ = false)) (by decide)) | (exact absurd (hc.symm.trans (by assumption : _ = true)) (by decide))) | skip)) | refine drawK.nn ?_ | refine roundK.nn ?_ | refine roundK.r ?_ | refine roundK.x ?_ | refine loopK.r ?_ | refine loopK.x ?_)
      | ((refine JC.drawN [] [] (by kernel_rfl) (by kernel_rfl) ?_))
      | fail
    all_goals first | (exfalso; omega) | skip
    all_goals rw [hA]
    · rw [if_neg (by rw [hc]; decide)]
      exact ret2f rfl rfl rfl rfl rfl (fun w1 hw => ⟨_, _, rfl, hw, a2, c2, ho2, hi2, hm2, vs2, rfl, rfl, bs2, e2⟩)
    · rw [if_pos (by assumption : (stW vs v.kind 1 0 v.l).open_ = true), if_pos (by omega : (stW vs v.kind 1 0 v.l).out.length = 0)]
      exact ret2f rfl rfl rfl rfl rfl (fun w1 hw => ⟨_, _, rfl, hw, a2, c2, ho2, hi2, hm2, vs2, rfl, rfl, bs2, e2⟩)
    · rw [if_pos (by assumption : (stW vs v.kind 1 0 v.l).open_ = true), if_neg (by omega : ¬ (stW vs v.kind 1 0 v.l).out.length = 0), if_pos (by omega : (stW vs v.kind 1 0 v.l).out.length = 1)]
      exact ret2f rfl rfl rfl rfl rfl (fun w1 hw => ⟨_, _, rfl, H.sel (l := [_, _, _, _, _, _]) (M := L) hw [1, 2, 3, 4], a, cap, ho, hi, hm, vs, rfl, rfl, bs, rfl⟩)
    · rw [if_pos (by assumption : (stW vs v.kind 1 0 v.l).open_ = true), if_neg (by omega : ¬ (stW vs v.kind 1 0 v.l).out.length = 0), if_neg (by omega : ¬ (stW vs v.kind 1 0 v.l).out.length = 1)]
      exact ret2f rfl rfl rfl rfl rfl (fun w1 hw => ⟨_, _, rfl, hw, a2, c2, ho2, hi2, hm2, vs2, rfl, rfl, bs2, e2⟩)
  · have hd : dropK v.kind = 0 := by unfold dropK; rw [hk]; rfl
    have he : endK v.kind = 1 := by unfold endK; rw [hk]; rfl
    have hA := add_gate op (kind := v.kind) (lt := v.lit) (l := v.l) (by omega) _ rfl
    have hof := fun ho => out_facts op (kind := v.kind) (l := v.l) (formed_rng hf') _ rfl ho
    rw [hd, he] at hA
    rw [hd, he] at hof
    have hA : addP (vs.map pnV) (pnV v) = (if (stW vs v.kind 0 1 v.l).open_ = true then (if (stW vs v.kind 0 1 v.l).out.length = 0 then putP (vs.map pnV) (0, 0, []) else if (stW vs v.kind 0 1 v.l).out.length = 1 then ((sortS (stW vs v.kind 0 1 v.l).out).getD 0 default, vs.map pnV) else putP (vs.map pnV) (v.kind, 0, sortS (stW vs v.kind 0 1 v.l).out)) else putP (vs.map pnV) (1, 0, [])) := hA
    have hof : (stW vs v.kind 0 1 v.l).open_ = true → (sortS (stW vs v.kind 0 1 v.l).out).Pairwise (· < ·) ∧ _ ∧ ∀ i, i ∈ sortS (stW vs v.kind 0 1 v.l).out → 0 ≤ i ∧ i < ((vs.map pnV).length : Int) := hof
    rw [hlen] at hof
    have okM : (stW vs v.kind 0 1 v.l).open_ = true → ∀ ao co, OkV ⟨v.kind, 0, ao, co, sortS (stW vs v.kind 0 1 v.l).out⟩ := fun ho ao co => by
      have h := hof ho
      have h2 := asc_len _ 0 vs.length (by omega) h.1 h.2.2
      exact ⟨by show 0 ≤ v.kind ∧ v.kind ≤ 4; omega, ⟨(by decide : (-128 : Int) ≤ 0), (by decide : (0 : Int) ≤ 128)⟩, by show (sortS (stW vs v.kind 0 1 v.l).out).length ≤ 1000000; omega, fun k hk => by have := h.2.2 k hk; omega⟩
    have hln := sortS_len (stW vs v.kind 0 1 v.l).out
    refine calls_in Tryd.func21 Tryd.ntmps21 rfl rfl (hw) ?_
    unfold bO
    repeat' first
      | (refine J.isJ ?_; first | (first | (refine J.o 11 ?_; first | refine J.pN hΓ ?_ | refine J.mN hΓ ?_) | (refine J.o 4 ?_; first | refine J.lT default hΓ ?_ (hs := oO.sl) (hr := RdH.hd) | refine J.lR hΓ ?_ (hr := Rd.hd.tl.tl.tl.tl.tl)) | (refine J.fc 40 ?_; refine J.call0 eForm rfl rfl (fun w hw => cF w (hw.rdH rl.tl.tl.tl.tl.tl)) ?_) | (refine J.fc 42 ?_; refine J.callx eInp rfl rfl (fun w hw => inputs_any v.kind 0 1 v.l v.a v.c hsl rl.tl bs.ow bs.ins okb (by omega) hvl hrg (show H w0 R (bL N b a vs cap bm ho hi hm ++ (_ :: L)) w from hrot4 hw)) ?_; rintro _ _ ⟨ao, co, hO, rfl, rfl, oO⟩; unfold bL bO; simp only [List.cons_append, List.nil_append]) | (refine J.fc 41 ?_; (first | refine J.callx ePut rfl rfl (fun w hw => put_any ⟨v.kind, 0, ao, co, sortS (stW vs v.kind 0 1 v.l).out⟩ (okM (by assumption) ao co) hT bs oO.sl hv65 (H.sel (l := [_, _, _, _, _, _]) (M := L) hw [0, 1, 2, 3, 4])) ?_ | refine J.callx ePut rfl rfl (fun w hw => put_any ⟨1, 0, none, 0, []⟩ (okC 1 (by decide)) hT bs (lit_sl none) hv65 (H.sel (l := [_, _, _, _, _, _, _]) (M := L) hw.nilF [0, 2, 3, 4, 5])) ?_ | refine J.callx ePut rfl rfl (fun w hw => put_any ⟨0, 0, none, 0, []⟩ (okC 0 (by decide)) hT bs (lit_sl none) hv65 (H.sel (l := [_, _, _, _, _, _, _]) (M := L) hw.nilF [0, 2, 3, 4, 5])) ?_); rintro _ _ ⟨a2, c2, ho2, hi2, hm2, vs2, rfl, rfl, bs2, e2, _⟩)) | (first | (refine J.o 0 ?_; refine J.ev' hΓ ?_) | refine J.nil ?_ | refine J.kd ?_ | (refine J.o 4 ?_; first | refine J.e0 hΓ ?_ | refine J.e1 hΓ ?_ | refine J.e2 hΓ ?_ | refine J.lT default hΓ ?_ | refine J.lR hΓ ?_) | (refine J.o 3 ?_; first | refine J.iJ hΓ ?_ | refine J.fP hΓ ?_ | refine J.iC hΓ ?_ | refine J.ev' hΓ ?_) | (refine J.o 1 ?_; first | refine J.ad ?_ | refine J.sb ?_ | refine J.ng ?_) | (refine J.o 5 ?_; first | refine J.t0 hΓ ?_ | refine J.t1 hΓ ?_ | refine J.t2 hΓ ?_ | refine J.tT _ default hΓ (fun _ _ => ?_) | refine J.tT1 _ default hΓ (fun _ _ => ?_) | refine J.tT2 _ default hΓ (fun _ _ => ?_)) | (refine J.o 6 ?_; refine J.bx (fun _ => ?_)) | (refine J.o 7 ?_; refine J.al hΓ (fun _ => ?_)) | (refine J.o 8 ?_; refine J.bd hΓ ?_) | (refine J.o 9 ?_; refine J.bl hΓ (fun _ => ?_)) | (refine J.o 10 ?_; refine J.ev' hΓ ?_) | (refine J.o 11 ?_; refine J.ev' hΓ ?_) | refine J.kn ?_) | ((fail_if_success refine J.wt ?_); refine J.gc rfl rfl (fun hc => ?_) (fun hc => ?_) <;> ((try simp only [decide_eq_true_eq, decide_eq_false_iff_not, beq_iff_eq, beq_eq_false_iff_ne, bne_iff_ne, bne_eq_false_iff_eq, Bool.not_eq_true', Bool.not_eq_false', Bool.not_eq_true, Bool.not_eq_false] at hc) <;> first | (first | (exact absurd rfl hc) | (exfalso; omega) | (exact absurd (hc.symm.trans (by assumption : _ = false)) (by decide)) | (exact absurd (hc.symm.trans (by assumption : _ = true)) (by decide))) | skip)))
      | (first | refine JC.seq ?_ | refine JC.region ?_ | refine JC.block ?_ | refine JC.ret ?_ | refine JC.exit ?_ | refine JC.skip ?_ | refine thenK.nn ?_ | refine thenK.r ?_ | refine thenK.x ?_ | refine blockK.nn ?_ | refine blockK.r ?_ | refine blockK.hit rfl ?_ | refine blockK.miss rfl ?_ | refine JC.condT rfl ?_ | refine JC.condF rfl ?_ | (refine JC.cond rfl (fun hc => ?_) (fun hc => ?_) <;> ((try simp only [decide_eq_true_eq, decide_eq_false_iff_not, beq_iff_eq, beq_eq_false_iff_ne, bne_iff_ne, bne_eq_false_iff_eq, Bool.not_eq_true', Bool.not_eq_false', Bool.not_eq_true, Bool.not_eq_false] at hc) <;> first | (first | (exact absurd rfl hc) | (exfalso; omega) | (exact absurd (hc.symm.trans (by assumption : _ = false)) (by decide)) | (exact absurd (hc.symm.trans (by assumption : _ = true)) (by decide))) | skip)) | refine drawK.nn ?_ | refine roundK.nn ?_ | refine roundK.r ?_ | refine roundK.x ?_ | refine loopK.r ?_ | refine loopK.x ?_)
      | ((refine JC.drawN [] [] (by kernel_rfl) (by kernel_rfl) ?_))
      | fail
    all_goals first | (exfalso; omega) | skip
    all_goals rw [hA]
    · rw [if_neg (by rw [hc]; decide)]
      exact ret2f rfl rfl rfl rfl rfl (fun w1 hw => ⟨_, _, rfl, hw, a2, c2, ho2, hi2, hm2, vs2, rfl, rfl, bs2, e2⟩)
    · rw [if_pos (by assumption : (stW vs v.kind 0 1 v.l).open_ = true), if_pos (by omega : (stW vs v.kind 0 1 v.l).out.length = 0)]
      exact ret2f rfl rfl rfl rfl rfl (fun w1 hw => ⟨_, _, rfl, hw, a2, c2, ho2, hi2, hm2, vs2, rfl, rfl, bs2, e2⟩)
    · rw [if_pos (by assumption : (stW vs v.kind 0 1 v.l).open_ = true), if_neg (by omega : ¬ (stW vs v.kind 0 1 v.l).out.length = 0), if_pos (by omega : (stW vs v.kind 0 1 v.l).out.length = 1)]
      exact ret2f rfl rfl rfl rfl rfl (fun w1 hw => ⟨_, _, rfl, H.sel (l := [_, _, _, _, _, _]) (M := L) hw [1, 2, 3, 4], a, cap, ho, hi, hm, vs, rfl, rfl, bs, rfl⟩)
    · rw [if_pos (by assumption : (stW vs v.kind 0 1 v.l).open_ = true), if_neg (by omega : ¬ (stW vs v.kind 0 1 v.l).out.length = 0), if_neg (by omega : ¬ (stW vs v.kind 0 1 v.l).out.length = 1)]
      exact ret2f rfl rfl rfl rfl rfl (fun w1 hw => ⟨_, _, rfl, hw, a2, c2, ho2, hi2, hm2, vs2, rfl, rfl, bs2, e2⟩)
end Go.Proofs.YtncnpmgohhgmfaaDoor
