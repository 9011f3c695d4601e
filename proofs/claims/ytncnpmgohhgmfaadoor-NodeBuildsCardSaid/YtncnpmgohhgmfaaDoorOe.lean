/- Writing into memory of the call's own that is handed about as one fragment. -/
import Derived.Test.YtncnpmgohhgmfaaDoorNr
namespace Go.Proofs.YtncnpmgohhgmfaaDoor
open Go Go.Cx Go.RowKit
set_option linter.unusedVariables false
set_option linter.unusedSimpArgs false
set_option maxHeartbeats 4000000
theorem H.flat {w0 w : World} {R : Heap} {L L' : List Heap} (h : H w0 R L w) (hf : L.flatten.Perm L'.flatten) : H w0 R L' w :=
  ⟨h.below, h.old, h.own.mono fun x hx => (hf.mem_iff).2 hx, fun x hx => h.new x ((hf.mem_iff).2 hx), ((hf.map _).nodup_iff).1 h.nodup⟩
section
variable {P : Program} {n : Nat} {w0 : World} {R : Heap} {l0 : List Oper} {K : Exit → Fr → List Heap → Prop} {f : Fr} {L : List Heap} {rest : List (Nat × Oper)} {κ : Nat}
variable {Γ : List (Nat × TI)} {ty : TypeId} {pos : String} {aft : Array Edge} {g : Option (Nat × Bool)}
theorem J.flat {L' : List Heap} {l : List (Nat × Oper)} (hf : L.flatten.Perm L'.flatten) (k : J P n w0 R l0 K l f L') : J P n w0 R l0 K l f L := fun a ha => by
  have : H w0 R L = H w0 R L' := funext fun w => propext ⟨fun h => H.flat h hf, fun h => H.flat h hf.symm⟩
  rw [this]
  exact k a ha
/-- the same blocks of a type, of the same sizes -/
def SameB (e : TypeId) (h h' : Heap) : Prop := ∀ g cs, (g, Obj.cells ⟨cs⟩ e (0, 0)) ∈ h → ∃ cs', (g, Obj.cells ⟨cs'⟩ e (0, 0)) ∈ h' ∧ cs'.length = cs.length
theorem SameB.rfl' {e : TypeId} {h : Heap} : SameB e h h := fun g cs hm => ⟨cs, hm, rfl⟩
theorem SameB.trans {e : TypeId} {a b c : Heap} (h1 : SameB e a b) (h2 : SameB e b c) : SameB e a c := fun g cs hm => by
  obtain ⟨c1, m1, l1⟩ := h1 g cs hm
  obtain ⟨c2, m2, l2⟩ := h2 g c1 m1
  exact ⟨c2, m2, by omega⟩
/-- a store into a block of a fragment -/
theorem J.tW {t : TypeId} {ti : TI} {x y : Operand} {v : Value} {h : Heap} {gb i : Nat} {cs : List Value} {e : TypeId} (hΓ : Fits P Γ) (hm : (gb, Obj.cells ⟨cs⟩ e (0, 0)) ∈ h) (hi : i < cs.length)
    (k : ∀ h', SameB e h h' → J P n w0 R l0 K rest f (h' :: L)) (hg : wantB n f l0 ⟨none, .store t x y, ty, pos, aft, g⟩ = true := by exact rfl) (hp : Cx.ev n f x = pel (some ⟨gb, 0, none⟩) 1 i 0 := by exact rfl) (ht : Go.Cx.look Γ t = some ti := by exact rfl) (hv : vcells (Cx.ev n f y) = some [v] := by exact rfl) (hn : Nat.beq 1 ti.size = true := by exact rfl) (h1 : ones [v] = true := by exact rfl) :
    J P n w0 R l0 K ((2, ⟨none, .store t x y, ty, pos, aft, g⟩) :: rest) f (h :: L) := by
  obtain ⟨p, q, rfl⟩ := List.append_of_mem hm
  have hcs : putE cs i [v] = some (putL cs i [v]) := by
    unfold putE
    rw [show Nat.ble (i + [v].length) cs.length = true by rw [Nat.ble_eq]; exact hi]
    exact forceL_eq _ _
  have hpp : Cx.ev n f x = .pointer (some ⟨gb, i, none⟩) := by
    rw [hp, ← pel_arr, Nat.zero_add, Nat.mul_one]
  refine J.flat (L' := [(gb, .cells ⟨cs⟩ e (0, 0))] :: (p ++ q) :: L) (by
    simp only [List.flatten_cons, ← List.append_assoc]
    exact (List.perm_middle.trans (by simp)).append_right _) ?_
  refine J.store0 hΓ hg hpp ht hv hn h1 hcs (J.flat (L' := ((gb, .cells ⟨putL cs i [v]⟩ e (0, 0)) :: (p ++ q)) :: L) (by simp) (k _ fun g2 cs2 hm2 => ?_))
  rcases List.mem_append.1 hm2 with hm2 | hm2
  · exact ⟨cs2, List.mem_cons_of_mem _ (List.mem_append_left _ hm2), rfl⟩
  · rcases List.mem_cons.1 hm2 with hm2 | hm2
    · cases hm2
      exact ⟨_, List.mem_cons_self, putL_length _ _ _⟩
    · exact ⟨cs2, List.mem_cons_of_mem _ (List.mem_append_right _ hm2), rfl⟩
end
attribute [local irreducible] J JC thenK blockK loopK roundK drawK retK QW Qt pel List.set Calls
attribute [local irreducible] JE Br eK0 eK2 eK3 brK
theorem eCopied : Entr Tryd.prog 16 := Entr.of Tryd.func16 rfl rfl
theorem copied_any (N : Int) (a : Option Addr) (cap : Nat) (vs : List NV) (h : Heap) (hr : NetIn a vs h) (w : World) (hw : Holds h w) :
    Calls Tryd.prog 16 #[.agg ⟨[.int .i64 N, .slice a vs.length cap]⟩] w (Gives (fun v g => ∃ a' c' us, v = .agg ⟨[.int .i64 N, .slice a' us.length c']⟩ ∧ NetIn a' us g ∧ us.map pnV = vs.map pnV) w) := by
  have q0 : ∀ L, RdH h L h := fun L => RdH.old fun _ hh => hh
  obtain ⟨so, si, sl, hl⟩ := hr
  refine calls_of_JC (R := h) Tryd.func16 Tryd.ntmps16 rfl rfl (hw) ?_
  repeat' first
    | (refine J.isJ ?_; first | ((refine J.o 4 ?_; first | refine J.e3 hΓ ?_ | refine J.e4 hΓ ?_)) | (first | (refine J.o 0 ?_; refine J.ev' hΓ ?_) | refine J.nil ?_ | refine J.kd ?_ | (refine J.o 4 ?_; first | refine J.e0 hΓ ?_ | refine J.e1 hΓ ?_ | refine J.e2 hΓ ?_ | refine J.lT default hΓ ?_ | refine J.lR hΓ ?_) | (refine J.o 3 ?_; first | refine J.iJ hΓ ?_ | refine J.fP hΓ ?_ | refine J.iC hΓ ?_ | refine J.ev' hΓ ?_) | (refine J.o 1 ?_; first | refine J.ad ?_ | refine J.sb ?_ | refine J.ng ?_) | (refine J.o 5 ?_; first | refine J.t0 hΓ ?_ | refine J.t1 hΓ ?_ | refine J.t2 hΓ ?_ | refine J.tT _ default hΓ (fun _ _ => ?_) | refine J.tT1 _ default hΓ (fun _ _ => ?_) | refine J.tT2 _ default hΓ (fun _ _ => ?_)) | (refine J.o 6 ?_; refine J.bx (fun _ => ?_)) | (refine J.o 7 ?_; refine J.al hΓ (fun _ => ?_)) | (refine J.o 8 ?_; refine J.bd hΓ ?_) | (refine J.o 9 ?_; refine J.bl hΓ (fun _ => ?_)) | (refine J.o 10 ?_; refine J.ev' hΓ ?_) | (refine J.o 11 ?_; refine J.ev' hΓ ?_) | refine J.kn ?_) | ((fail_if_success refine J.wt ?_); refine J.gc rfl rfl (fun hc => ?_) (fun hc => ?_) <;> ((try simp only [decide_eq_true_eq, decide_eq_false_iff_not, beq_iff_eq, beq_eq_false_iff_ne, bne_iff_ne, bne_eq_false_iff_eq, Bool.not_eq_true', Bool.not_eq_false', Bool.not_eq_true, Bool.not_eq_false] at hc) <;> first | (first | (exact absurd rfl hc) | (exfalso; omega) | (exact absurd (hc.symm.trans (by assumption : _ = false)) (by decide)) | (exact absurd (hc.symm.trans (by assumption : _ = true)) (by decide))) | skip)))
    | (first | refine JC.seq ?_ | refine JC.region ?_ | refine JC.block ?_ | refine JC.ret ?_ | refine JC.exit ?_ | refine JC.skip ?_ | refine thenK.nn ?_ | refine thenK.r ?_ | refine thenK.x ?_ | refine blockK.nn ?_ | refine blockK.r ?_ | refine blockK.hit rfl ?_ | refine blockK.miss rfl ?_ | refine JC.condT rfl ?_ | refine JC.condF rfl ?_ | (refine JC.cond rfl (fun hc => ?_) (fun hc => ?_) <;> ((try simp only [decide_eq_true_eq, decide_eq_false_iff_not, beq_iff_eq, beq_eq_false_iff_ne, bne_iff_ne, bne_eq_false_iff_eq, Bool.not_eq_true', Bool.not_eq_false', Bool.not_eq_true, Bool.not_eq_false] at hc) <;> first | (first | (exact absurd rfl hc) | (exfalso; omega) | (exact absurd (hc.symm.trans (by assumption : _ = false)) (by decide)) | (exact absurd (hc.symm.trans (by assumption : _ = true)) (by decide))) | skip)) | refine drawK.nn ?_ | refine roundK.nn ?_ | refine roundK.r ?_ | refine roundK.x ?_ | refine loopK.r ?_ | refine loopK.x ?_)
    | (fail)
    | fail
  all_goals first | (exfalso; omega) | skip
  rename_i n1 n2 n3
  refine JC.weak (L' := [[], [], [(n3, netOb N none 0 0)], [(n2, netOb 0 none 0 0)], [(n1, netOb N a vs.length cap)]]) (fun w hw => hw.nilF.nilF) ?_
  refine JC.gen [(1, .pointer (some ⟨n1, 0, none⟩)), (2, .pointer (some ⟨n2, 0, none⟩)), (3, .pointer (some ⟨n3, 0, none⟩)), (4, .int .i64 0)] ⟨rfl, rfl, rfl, rfl, trivial⟩ (fun F1 => ?_)
  refine JC.loopG (fun i => Nat.ble 4 i) (fun m g L' => ∃ (k : Nat) (ao : Option Addr) (co : Nat) (us : List NV) (hO hI : Heap), g 4 = .int .i64 (k : Int) ∧ k + m = vs.length ∧ OwT encNV 3 40 ao co us hO ∧ (∀ v, v ∈ us → SlT encI 1 v.a v.l hI) ∧ us.map pnV = (vs.take k).map pnV ∧ L' = [hO, hI, [(n3, netOb N ao us.length co)], [(n2, netOb 0 none 0 0)], [(n1, netOb N a vs.length cap)]]) vs.length ⟨0, none, 0, [], [], [], rfl, by omega, OwT.nil (fun _ => rfl), (fun v hv => absurd hv List.not_mem_nil), rfl, rfl⟩ ?_
  rintro m g L' ⟨k, ao, co, us, hO, hI, e4, hkm, oO, oI, hus, rfl⟩
  refine JC.pin 4 e4 ?_
  clear e4
  unfold netOb
  have hul : us.length = k := by have := congrArg List.length hus; rw [List.length_map, List.length_map, List.length_take] at this; omega
  rcases Nat.lt_or_ge k vs.length with hk | hk
  case inr =>
    rw [List.take_of_length_le hk] at hus
    repeat' first
      | (refine J.isJ ?_; first | (first | (refine J.o 4 ?_; first | refine J.e3 hΓ ?_ | refine J.e4 hΓ ?_) | (refine J.o 5 ?_; first | (refine J.perm br3 ?_; refine J.t0 hΓ ?_) | (refine J.perm br4 ?_; refine J.t0 hΓ ?_) | (refine J.perm br5 ?_; refine J.t0 hΓ ?_) | (refine J.perm br6 ?_; refine J.t0 hΓ ?_) | (refine J.perm br7 ?_; refine J.t0 hΓ ?_))) | (first | (refine J.o 0 ?_; refine J.ev' hΓ ?_) | refine J.nil ?_ | refine J.kd ?_ | (refine J.o 4 ?_; first | refine J.e0 hΓ ?_ | refine J.e1 hΓ ?_ | refine J.e2 hΓ ?_ | refine J.lT default hΓ ?_ | refine J.lR hΓ ?_) | (refine J.o 3 ?_; first | refine J.iJ hΓ ?_ | refine J.fP hΓ ?_ | refine J.iC hΓ ?_ | refine J.ev' hΓ ?_) | (refine J.o 1 ?_; first | refine J.ad ?_ | refine J.sb ?_ | refine J.ng ?_) | (refine J.o 5 ?_; first | refine J.t0 hΓ ?_ | refine J.t1 hΓ ?_ | refine J.t2 hΓ ?_ | refine J.tT _ default hΓ (fun _ _ => ?_) | refine J.tT1 _ default hΓ (fun _ _ => ?_) | refine J.tT2 _ default hΓ (fun _ _ => ?_)) | (refine J.o 6 ?_; refine J.bx (fun _ => ?_)) | (refine J.o 7 ?_; refine J.al hΓ (fun _ => ?_)) | (refine J.o 8 ?_; refine J.bd hΓ ?_) | (refine J.o 9 ?_; refine J.bl hΓ (fun _ => ?_)) | (refine J.o 10 ?_; refine J.ev' hΓ ?_) | (refine J.o 11 ?_; refine J.ev' hΓ ?_) | refine J.kn ?_) | ((fail_if_success refine J.wt ?_); refine J.gc rfl rfl (fun hc => ?_) (fun hc => ?_) <;> ((try simp only [decide_eq_true_eq, decide_eq_false_iff_not, beq_iff_eq, beq_eq_false_iff_ne, bne_iff_ne, bne_eq_false_iff_eq, Bool.not_eq_true', Bool.not_eq_false', Bool.not_eq_true, Bool.not_eq_false] at hc) <;> first | (first | (exact absurd rfl hc) | (exfalso; omega) | (exact absurd (hc.symm.trans (by assumption : _ = false)) (by decide)) | (exact absurd (hc.symm.trans (by assumption : _ = true)) (by decide))) | skip)))
      | (first | refine JC.seq ?_ | refine JC.region ?_ | refine JC.block ?_ | refine JC.ret ?_ | refine JC.exit ?_ | refine JC.skip ?_ | refine thenK.nn ?_ | refine thenK.r ?_ | refine thenK.x ?_ | refine blockK.nn ?_ | refine blockK.r ?_ | refine blockK.hit rfl ?_ | refine blockK.miss rfl ?_ | refine JC.condT rfl ?_ | refine JC.condF rfl ?_ | (refine JC.cond rfl (fun hc => ?_) (fun hc => ?_) <;> ((try simp only [decide_eq_true_eq, decide_eq_false_iff_not, beq_iff_eq, beq_eq_false_iff_ne, bne_iff_ne, bne_eq_false_iff_eq, Bool.not_eq_true', Bool.not_eq_false', Bool.not_eq_true, Bool.not_eq_false] at hc) <;> first | (first | (exact absurd rfl hc) | (exfalso; omega) | (exact absurd (hc.symm.trans (by assumption : _ = false)) (by decide)) | (exact absurd (hc.symm.trans (by assumption : _ = true)) (by decide))) | skip)) | refine drawK.nn ?_ | refine roundK.nn ?_ | refine roundK.r ?_ | refine roundK.x ?_ | refine loopK.r ?_ | refine loopK.x ?_)
      | (fail)
      | fail
    all_goals first | (exfalso; omega) | skip
    refine retC hΓ rfl rfl rfl Rd.hd rfl (fun w1 hw => Gives.of (H.sel (l := [_, _, _, _, _]) (M := []) hw [1, 2]).mg1 ⟨ao, co, us, rfl, ⟨oO.sl.sub fun x hx => List.mem_append_left _ hx, fun v hv => (oI v hv).sub fun x hx => List.mem_append_right _ hx, fun v hv => ?_, by omega⟩, hus⟩)
    have : pnV v ∈ vs.map pnV := hus ▸ List.mem_map_of_mem hv
    obtain ⟨u, hu, e⟩ := List.mem_map.1 this
    have e2 : u.l = v.l := congrArg (fun x : PN => x.2.2) e
    rw [← e2]; exact sl u hu
  have hmk := mem_g vs k hk
  have hVl := sl _ hmk
  have hVs := si _ hmk
  repeat' first
    | (refine J.isJ ?_; first | (first | (refine J.o 4 ?_; first | refine J.e3 hΓ ?_ | refine J.e4 hΓ ?_) | (refine J.o 4 ?_; first | refine J.lT default hΓ ?_ (hs := so) (hr := q0 _)) | (refine J.o 9 ?_; refine J.apA hΓ (lit_nil _ _) hVs (q0 _) (fun a2 c2 h2 o2 => ?_); rw [List.nil_append] at o2; rw [List.nil_append]) | (refine J.o 5 ?_; first | (refine J.perm br3 ?_; refine J.t0 hΓ ?_) | (refine J.perm br4 ?_; refine J.t0 hΓ ?_) | (refine J.perm br5 ?_; refine J.t0 hΓ ?_) | (refine J.perm br6 ?_; refine J.t0 hΓ ?_) | (refine J.perm br7 ?_; refine J.t0 hΓ ?_)) | (refine J.o 9 ?_; first | (first | (refine J.ap1 (enc := encNV) [⟨(vs.getD k default).kind, (vs.getD k default).lit, a2, c2, (vs.getD k default).l⟩] hΓ (fun a3 c3 h3 o3 => ?_)) | (refine J.perm (br1.cons _) ?_; refine J.ap1 (enc := encNV) [⟨(vs.getD k default).kind, (vs.getD k default).lit, a2, c2, (vs.getD k default).l⟩] hΓ (fun a3 c3 h3 o3 => ?_)) | (refine J.perm (br2.cons _) ?_; refine J.ap1 (enc := encNV) [⟨(vs.getD k default).kind, (vs.getD k default).lit, a2, c2, (vs.getD k default).l⟩] hΓ (fun a3 c3 h3 o3 => ?_)) | (refine J.perm (br3.cons _) ?_; refine J.ap1 (enc := encNV) [⟨(vs.getD k default).kind, (vs.getD k default).lit, a2, c2, (vs.getD k default).l⟩] hΓ (fun a3 c3 h3 o3 => ?_)) | (refine J.perm (br4.cons _) ?_; refine J.ap1 (enc := encNV) [⟨(vs.getD k default).kind, (vs.getD k default).lit, a2, c2, (vs.getD k default).l⟩] hΓ (fun a3 c3 h3 o3 => ?_)) | (refine J.perm (br5.cons _) ?_; refine J.ap1 (enc := encNV) [⟨(vs.getD k default).kind, (vs.getD k default).lit, a2, c2, (vs.getD k default).l⟩] hΓ (fun a3 c3 h3 o3 => ?_))) | (refine J.perm br1 ?_; first | (refine J.ap1 (enc := encNV) [⟨(vs.getD k default).kind, (vs.getD k default).lit, a2, c2, (vs.getD k default).l⟩] hΓ (fun a3 c3 h3 o3 => ?_)) | (refine J.perm (br1.cons _) ?_; refine J.ap1 (enc := encNV) [⟨(vs.getD k default).kind, (vs.getD k default).lit, a2, c2, (vs.getD k default).l⟩] hΓ (fun a3 c3 h3 o3 => ?_)) | (refine J.perm (br2.cons _) ?_; refine J.ap1 (enc := encNV) [⟨(vs.getD k default).kind, (vs.getD k default).lit, a2, c2, (vs.getD k default).l⟩] hΓ (fun a3 c3 h3 o3 => ?_)) | (refine J.perm (br3.cons _) ?_; refine J.ap1 (enc := encNV) [⟨(vs.getD k default).kind, (vs.getD k default).lit, a2, c2, (vs.getD k default).l⟩] hΓ (fun a3 c3 h3 o3 => ?_)) | (refine J.perm (br4.cons _) ?_; refine J.ap1 (enc := encNV) [⟨(vs.getD k default).kind, (vs.getD k default).lit, a2, c2, (vs.getD k default).l⟩] hΓ (fun a3 c3 h3 o3 => ?_)) | (refine J.perm (br5.cons _) ?_; refine J.ap1 (enc := encNV) [⟨(vs.getD k default).kind, (vs.getD k default).lit, a2, c2, (vs.getD k default).l⟩] hΓ (fun a3 c3 h3 o3 => ?_))) | (refine J.perm br2 ?_; first | (refine J.ap1 (enc := encNV) [⟨(vs.getD k default).kind, (vs.getD k default).lit, a2, c2, (vs.getD k default).l⟩] hΓ (fun a3 c3 h3 o3 => ?_)) | (refine J.perm (br1.cons _) ?_; refine J.ap1 (enc := encNV) [⟨(vs.getD k default).kind, (vs.getD k default).lit, a2, c2, (vs.getD k default).l⟩] hΓ (fun a3 c3 h3 o3 => ?_)) | (refine J.perm (br2.cons _) ?_; refine J.ap1 (enc := encNV) [⟨(vs.getD k default).kind, (vs.getD k default).lit, a2, c2, (vs.getD k default).l⟩] hΓ (fun a3 c3 h3 o3 => ?_)) | (refine J.perm (br3.cons _) ?_; refine J.ap1 (enc := encNV) [⟨(vs.getD k default).kind, (vs.getD k default).lit, a2, c2, (vs.getD k default).l⟩] hΓ (fun a3 c3 h3 o3 => ?_)) | (refine J.perm (br4.cons _) ?_; refine J.ap1 (enc := encNV) [⟨(vs.getD k default).kind, (vs.getD k default).lit, a2, c2, (vs.getD k default).l⟩] hΓ (fun a3 c3 h3 o3 => ?_)) | (refine J.perm (br5.cons _) ?_; refine J.ap1 (enc := encNV) [⟨(vs.getD k default).kind, (vs.getD k default).lit, a2, c2, (vs.getD k default).l⟩] hΓ (fun a3 c3 h3 o3 => ?_))))) | (first | (refine J.o 0 ?_; refine J.ev' hΓ ?_) | refine J.nil ?_ | refine J.kd ?_ | (refine J.o 4 ?_; first | refine J.e0 hΓ ?_ | refine J.e1 hΓ ?_ | refine J.e2 hΓ ?_ | refine J.lT default hΓ ?_ | refine J.lR hΓ ?_) | (refine J.o 3 ?_; first | refine J.iJ hΓ ?_ | refine J.fP hΓ ?_ | refine J.iC hΓ ?_ | refine J.ev' hΓ ?_) | (refine J.o 1 ?_; first | refine J.ad ?_ | refine J.sb ?_ | refine J.ng ?_) | (refine J.o 5 ?_; first | refine J.t0 hΓ ?_ | refine J.t1 hΓ ?_ | refine J.t2 hΓ ?_ | refine J.tT _ default hΓ (fun _ _ => ?_) | refine J.tT1 _ default hΓ (fun _ _ => ?_) | refine J.tT2 _ default hΓ (fun _ _ => ?_)) | (refine J.o 6 ?_; refine J.bx (fun _ => ?_)) | (refine J.o 7 ?_; refine J.al hΓ (fun _ => ?_)) | (refine J.o 8 ?_; refine J.bd hΓ ?_) | (refine J.o 9 ?_; refine J.bl hΓ (fun _ => ?_)) | (refine J.o 10 ?_; refine J.ev' hΓ ?_) | (refine J.o 11 ?_; refine J.ev' hΓ ?_) | refine J.kn ?_) | ((fail_if_success refine J.wt ?_); refine J.gc rfl rfl (fun hc => ?_) (fun hc => ?_) <;> ((try simp only [decide_eq_true_eq, decide_eq_false_iff_not, beq_iff_eq, beq_eq_false_iff_ne, bne_iff_ne, bne_eq_false_iff_eq, Bool.not_eq_true', Bool.not_eq_false', Bool.not_eq_true, Bool.not_eq_false] at hc) <;> first | (first | (exact absurd rfl hc) | (exfalso; omega) | (exact absurd (hc.symm.trans (by assumption : _ = false)) (by decide)) | (exact absurd (hc.symm.trans (by assumption : _ = true)) (by decide))) | skip)))
    | (first | refine JC.seq ?_ | refine JC.region ?_ | refine JC.block ?_ | refine JC.ret ?_ | refine JC.exit ?_ | refine JC.skip ?_ | refine thenK.nn ?_ | refine thenK.r ?_ | refine thenK.x ?_ | refine blockK.nn ?_ | refine blockK.r ?_ | refine blockK.hit rfl ?_ | refine blockK.miss rfl ?_ | refine JC.condT rfl ?_ | refine JC.condF rfl ?_ | (refine JC.cond rfl (fun hc => ?_) (fun hc => ?_) <;> ((try simp only [decide_eq_true_eq, decide_eq_false_iff_not, beq_iff_eq, beq_eq_false_iff_ne, bne_iff_ne, bne_eq_false_iff_eq, Bool.not_eq_true', Bool.not_eq_false', Bool.not_eq_true, Bool.not_eq_false] at hc) <;> first | (first | (exact absurd rfl hc) | (exfalso; omega) | (exact absurd (hc.symm.trans (by assumption : _ = false)) (by decide)) | (exact absurd (hc.symm.trans (by assumption : _ = true)) (by decide))) | skip)) | refine drawK.nn ?_ | refine roundK.nn ?_ | refine roundK.r ?_ | refine roundK.x ?_ | refine loopK.r ?_ | refine loopK.x ?_)
    | ((refine JC.drawN [] [] (by kernel_rfl) (by kernel_rfl) ?_))
    | fail
  all_goals first | (exfalso; omega) | skip
  refine loopK.nn (m - 1) (by omega) (by repeat (first | refine Ag.upd rfl ?_ | exact Ag.hv)) ⟨_, ⟨k + 1, a3, c3, us ++ [(⟨(vs.getD k default).kind, (vs.getD k default).lit, a2, c2, (vs.getD k default).l⟩ : NV)], h3, hI ++ h2, ?_, by omega, o3, fun v hv => ?_, ?_, rfl⟩, fun w hw => H.sel (l := [_, _, _, _, _]) (M := []) (H.sel (l := [_, _, _, _, _, _, _]) (M := []) hw [4, 2, 1, 0, 5, 6]).mg1 [1, 0, 2, 3, 4]⟩
  · show Value.int .i64 _ = _; congr 1
  · rcases List.mem_append.1 hv with hv | hv
    · exact (oI v hv).sub fun y hy => List.mem_append_left _ hy
    · rw [List.mem_singleton.1 hv]; exact o2.sl.sub fun y hy => List.mem_append_right _ hy
  · rw [take_g vs k hk, List.map_append, List.map_append, hus]; rfl
end Go.Proofs.YtncnpmgohhgmfaaDoor
