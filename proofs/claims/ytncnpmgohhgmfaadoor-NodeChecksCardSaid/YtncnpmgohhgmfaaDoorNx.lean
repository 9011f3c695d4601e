/- Variables of nets; NodeDepends' walk. -/
import Derived.Test.YtncnpmgohhgmfaaDoorNv
namespace Go.Proofs.YtncnpmgohhgmfaaDoor
open Go Go.Cx Go.RowKit
set_option linter.unusedVariables false
set_option linter.unusedSimpArgs false
set_option maxHeartbeats 4000000
attribute [local irreducible] J JC thenK blockK loopK roundK drawK retK QW Qt pel List.set Calls
attribute [local irreducible] JE Br eK0 eK2 eK3 brK
def uniS (s t : Nat × Nat) : Nat × Nat := (s.1 ||| t.1, s.2 ||| t.2)
theorem okS_uni {s t : Nat × Nat} (hs : okS s) (ht : okS t) : okS (uniS s t) := ⟨Nat.or_lt_two_pow hs.1 ht.1, Nat.or_lt_two_pow hs.2 ht.2⟩
theorem has_uni (s t : Nat × Nat) (u : Int) : hasB (uniS s t) u = (hasB s u || hasB t u) := by
  unfold hasB uniS
  split
  · exact Nat.testBit_or _ _ _
  · split
    · exact Nat.testBit_or _ _ _
    · rfl
theorem okS_zero : okS (0, 0) := ⟨by decide, by decide⟩
theorem eOf : Entr Tryd.prog 49 := Entr.of Tryd.func49 rfl rfl
theorem eUnion : Entr Tryd.prog 51 := Entr.of Tryd.func51 rfl rfl
theorem eVarsN : Entr Tryd.prog 28 := Entr.of Tryd.func28 rfl rfl
def ofS (l : List Int) : Nat × Nat := l.foldl withS (0, 0)
theorem okS_of : ∀ (l : List Int) (s : Nat × Nat), okS s → okS (l.foldl withS s)
  | [], s, h => h
  | x :: l, s, h => by rw [List.foldl_cons]; exact okS_of l _ (okS_with h x)
def setO (s : Nat × Nat) : Obj := .cells ⟨[.int .u64 (s.1 : Int), .int .u64 (s.2 : Int)]⟩ 27 (0, 0)
theorem of_any (a : Option Addr) (c : Nat) (l : List Int) (h : Heap) (hs : SlT encI 1 a l h) (hl : l.length ≤ 1000000) (w : World) (hw : Holds h w) :
    Calls Tryd.prog 49 #[.slice a l.length c] w fun e w' => e = .returned (sv (ofS l)) ∧ Below w.heap.size w w' := by
  have q0 : ∀ L, RdH h L h := fun L => RdH.old fun _ hh => hh
  refine calls_of_JC (R := h) Tryd.func49 Tryd.ntmps49 rfl rfl (hw) ?_
  repeat' first
    | (refine J.isJ ?_; first | (fail) | (first | (refine J.o 0 ?_; refine J.ev' hΓ ?_) | refine J.nil ?_ | refine J.kd ?_ | (refine J.o 4 ?_; first | refine J.e0 hΓ ?_ | refine J.lT default hΓ ?_ | refine J.e1 hΓ ?_ | refine J.e2 hΓ ?_ | refine J.lR hΓ ?_) | (refine J.o 3 ?_; first | refine J.iA hΓ ?_ | refine J.iJ hΓ ?_ | refine J.fP hΓ ?_ | refine J.iC hΓ ?_ | refine J.ev' hΓ ?_) | (refine J.o 1 ?_; first | refine J.ad ?_ | refine J.ct ?_ | refine J.sb ?_ | refine J.mu ?_ | refine J.ng ?_ | refine J.qu ?_ | refine J.rm ?_ | refine J.s1 ?_ | refine J.sr ?_ | refine J.aW ?_ | refine J.oW ?_ | refine J.nW ?_) | (refine J.o 2 ?_; refine J.cv _ hΓ ?_) | (refine J.o 5 ?_; first | refine J.t0 hΓ ?_ | refine J.t1 hΓ ?_ | refine J.t2 hΓ ?_ | refine J.tT _ default hΓ (fun _ _ => ?_) | refine J.tT1 _ default hΓ (fun _ _ => ?_) | refine J.tT2 _ default hΓ (fun _ _ => ?_) | refine J.tT3 _ default hΓ (fun _ _ => ?_)) | (refine J.o 6 ?_; refine J.bx (fun _ => ?_)) | (refine J.o 7 ?_; refine J.al hΓ (fun _ => ?_)) | (refine J.o 8 ?_; refine J.bd hΓ ?_) | (refine J.o 9 ?_; refine J.bl hΓ (fun _ => ?_)) | (refine J.o 10 ?_; first | refine J.ls hΓ ?_ | refine J.ev' hΓ ?_) | (refine J.o 11 ?_; first | refine J.eS ?_ | refine J.xS ?_ | refine J.ev' hΓ ?_ | refine J.nT hΓ ?_) | (refine J.o 12 ?_; refine J.ix hΓ ?_) | (refine J.o 13 ?_; first | refine J.sL hΓ ?_ | refine J.sH hΓ ?_) | (refine J.o 14 ?_; refine J.mf hΓ ?_) | refine J.kn ?_) | ((fail_if_success refine J.wt ?_); refine J.gc rfl rfl (fun hc => ?_) (fun hc => ?_) <;> ((try simp only [decide_eq_true_eq, decide_eq_false_iff_not, beq_iff_eq, beq_eq_false_iff_ne, bne_iff_ne, bne_eq_false_iff_eq, Bool.not_eq_true', Bool.not_eq_false', Bool.not_eq_true, Bool.not_eq_false] at hc) <;> first | (first | (exact absurd rfl hc) | (exfalso; omega) | (exact absurd (hc.symm.trans (by assumption : _ = false)) (by decide)) | (exact absurd (hc.symm.trans (by assumption : _ = true)) (by decide))) | skip)))
    | (first | refine JC.seq ?_ | refine JC.region ?_ | refine JC.block ?_ | refine JC.ret ?_ | refine JC.exit ?_ | refine JC.skip ?_ | refine thenK.nn ?_ | refine thenK.r ?_ | refine thenK.x ?_ | refine blockK.nn ?_ | refine blockK.r ?_ | refine blockK.hit rfl ?_ | refine blockK.miss rfl ?_ | refine JC.condT rfl ?_ | refine JC.condF rfl ?_ | (refine JC.cond rfl (fun hc => ?_) (fun hc => ?_) <;> ((try simp only [decide_eq_true_eq, decide_eq_false_iff_not, beq_iff_eq, beq_eq_false_iff_ne, bne_iff_ne, bne_eq_false_iff_eq, Bool.not_eq_true', Bool.not_eq_false', Bool.not_eq_true, Bool.not_eq_false] at hc) <;> first | (first | (exact absurd rfl hc) | (exfalso; omega) | (exact absurd (hc.symm.trans (by assumption : _ = false)) (by decide)) | (exact absurd (hc.symm.trans (by assumption : _ = true)) (by decide))) | skip)) | refine drawK.nn ?_ | refine roundK.nn ?_ | refine roundK.r ?_ | refine roundK.x ?_ | refine loopK.r ?_ | refine loopK.x ?_)
    | (fail)
    | fail
  all_goals first | (exfalso; omega) | skip
  rename_i n2 n3
  refine JC.gen [(2, .pointer (some ⟨n2, 0, none⟩)), (3, .pointer (some ⟨n3, 0, none⟩)), (6, .slice a l.length c), (7, .int .i64 l.length), (8, .int .i64 0)] ⟨rfl, rfl, rfl, rfl, rfl, trivial⟩ (fun F1 => ?_)
  refine JC.loop (fun i => i == 5 || Nat.ble 8 i) (fun m g L' => ∃ (k : Nat), g 8 = .int .i64 (k : Int) ∧ k + m = l.length ∧ L' = [[(n3, setO (ofS (l.take k)))], [(n2, setO (0, 0))]]) l.length ⟨0, rfl, by omega, rfl⟩ ?_
  rintro m g L' ⟨k, e8, hkm, rfl⟩
  refine JC.pin 8 e8 ?_
  clear e8
  unfold setO
  have hok : okS (ofS (l.take k)) := okS_of _ _ okS_zero
  rcases Nat.lt_or_ge k l.length with hk | hk
  case inr =>
    rw [List.take_of_length_le hk] at hok ⊢
    repeat' first
      | (refine J.isJ ?_; first | (fail) | (first | (refine J.o 0 ?_; refine J.ev' hΓ ?_) | refine J.nil ?_ | refine J.kd ?_ | (refine J.o 4 ?_; first | refine J.e0 hΓ ?_ | refine J.lT default hΓ ?_ | refine J.e1 hΓ ?_ | refine J.e2 hΓ ?_ | refine J.lR hΓ ?_) | (refine J.o 3 ?_; first | refine J.iA hΓ ?_ | refine J.iJ hΓ ?_ | refine J.fP hΓ ?_ | refine J.iC hΓ ?_ | refine J.ev' hΓ ?_) | (refine J.o 1 ?_; first | refine J.ad ?_ | refine J.ct ?_ | refine J.sb ?_ | refine J.mu ?_ | refine J.ng ?_ | refine J.qu ?_ | refine J.rm ?_ | refine J.s1 ?_ | refine J.sr ?_ | refine J.aW ?_ | refine J.oW ?_ | refine J.nW ?_) | (refine J.o 2 ?_; refine J.cv _ hΓ ?_) | (refine J.o 5 ?_; first | refine J.t0 hΓ ?_ | refine J.t1 hΓ ?_ | refine J.t2 hΓ ?_ | refine J.tT _ default hΓ (fun _ _ => ?_) | refine J.tT1 _ default hΓ (fun _ _ => ?_) | refine J.tT2 _ default hΓ (fun _ _ => ?_) | refine J.tT3 _ default hΓ (fun _ _ => ?_)) | (refine J.o 6 ?_; refine J.bx (fun _ => ?_)) | (refine J.o 7 ?_; refine J.al hΓ (fun _ => ?_)) | (refine J.o 8 ?_; refine J.bd hΓ ?_) | (refine J.o 9 ?_; refine J.bl hΓ (fun _ => ?_)) | (refine J.o 10 ?_; first | refine J.ls hΓ ?_ | refine J.ev' hΓ ?_) | (refine J.o 11 ?_; first | refine J.eS ?_ | refine J.xS ?_ | refine J.ev' hΓ ?_ | refine J.nT hΓ ?_) | (refine J.o 12 ?_; refine J.ix hΓ ?_) | (refine J.o 13 ?_; first | refine J.sL hΓ ?_ | refine J.sH hΓ ?_) | (refine J.o 14 ?_; refine J.mf hΓ ?_) | refine J.kn ?_) | ((fail_if_success refine J.wt ?_); refine J.gc rfl rfl (fun hc => ?_) (fun hc => ?_) <;> ((try simp only [decide_eq_true_eq, decide_eq_false_iff_not, beq_iff_eq, beq_eq_false_iff_ne, bne_iff_ne, bne_eq_false_iff_eq, Bool.not_eq_true', Bool.not_eq_false', Bool.not_eq_true, Bool.not_eq_false] at hc) <;> first | (first | (exact absurd rfl hc) | (exfalso; omega) | (exact absurd (hc.symm.trans (by assumption : _ = false)) (by decide)) | (exact absurd (hc.symm.trans (by assumption : _ = true)) (by decide))) | skip)))
      | (first | refine JC.seq ?_ | refine JC.region ?_ | refine JC.block ?_ | refine JC.ret ?_ | refine JC.exit ?_ | refine JC.skip ?_ | refine thenK.nn ?_ | refine thenK.r ?_ | refine thenK.x ?_ | refine blockK.nn ?_ | refine blockK.r ?_ | refine blockK.hit rfl ?_ | refine blockK.miss rfl ?_ | refine JC.condT rfl ?_ | refine JC.condF rfl ?_ | (refine JC.cond rfl (fun hc => ?_) (fun hc => ?_) <;> ((try simp only [decide_eq_true_eq, decide_eq_false_iff_not, beq_iff_eq, beq_eq_false_iff_ne, bne_iff_ne, bne_eq_false_iff_eq, Bool.not_eq_true', Bool.not_eq_false', Bool.not_eq_true, Bool.not_eq_false] at hc) <;> first | (first | (exact absurd rfl hc) | (exfalso; omega) | (exact absurd (hc.symm.trans (by assumption : _ = false)) (by decide)) | (exact absurd (hc.symm.trans (by assumption : _ = true)) (by decide))) | skip)) | refine drawK.nn ?_ | refine roundK.nn ?_ | refine roundK.r ?_ | refine roundK.x ?_ | refine loopK.r ?_ | refine loopK.x ?_)
      | (fail)
      | fail
    all_goals first | (exfalso; omega) | skip
    exact retC hΓ rfl rfl rfl (by first | exact Rd.hd | exact Rd.hd.tl) rfl (fun w1 hw => ⟨rfl, hw.below⟩)
  have hst : withS (ofS (l.take k)) (l.getD k default) = ofS (l.take (k + 1)) := by
    unfold ofS; rw [take_g l k hk, List.foldl_append]; rfl
  have cW := fun w => with_any (ofS (l.take k)) hok (l.getD k default) w
  rw [hst] at cW
  repeat' first
    | (refine J.isJ ?_; first | (first | (refine J.o 4 ?_; refine J.lT default hΓ ?_ (hs := hs) (hr := q0 _)) | (refine J.fc 67 ?_; refine J.call0 eWith rfl rfl (fun w hw => cW w) ?_)) | (first | (refine J.o 0 ?_; refine J.ev' hΓ ?_) | refine J.nil ?_ | refine J.kd ?_ | (refine J.o 4 ?_; first | refine J.e0 hΓ ?_ | refine J.lT default hΓ ?_ | refine J.e1 hΓ ?_ | refine J.e2 hΓ ?_ | refine J.lR hΓ ?_) | (refine J.o 3 ?_; first | refine J.iA hΓ ?_ | refine J.iJ hΓ ?_ | refine J.fP hΓ ?_ | refine J.iC hΓ ?_ | refine J.ev' hΓ ?_) | (refine J.o 1 ?_; first | refine J.ad ?_ | refine J.ct ?_ | refine J.sb ?_ | refine J.mu ?_ | refine J.ng ?_ | refine J.qu ?_ | refine J.rm ?_ | refine J.s1 ?_ | refine J.sr ?_ | refine J.aW ?_ | refine J.oW ?_ | refine J.nW ?_) | (refine J.o 2 ?_; refine J.cv _ hΓ ?_) | (refine J.o 5 ?_; first | refine J.t0 hΓ ?_ | refine J.t1 hΓ ?_ | refine J.t2 hΓ ?_ | refine J.tT _ default hΓ (fun _ _ => ?_) | refine J.tT1 _ default hΓ (fun _ _ => ?_) | refine J.tT2 _ default hΓ (fun _ _ => ?_) | refine J.tT3 _ default hΓ (fun _ _ => ?_)) | (refine J.o 6 ?_; refine J.bx (fun _ => ?_)) | (refine J.o 7 ?_; refine J.al hΓ (fun _ => ?_)) | (refine J.o 8 ?_; refine J.bd hΓ ?_) | (refine J.o 9 ?_; refine J.bl hΓ (fun _ => ?_)) | (refine J.o 10 ?_; first | refine J.ls hΓ ?_ | refine J.ev' hΓ ?_) | (refine J.o 11 ?_; first | refine J.eS ?_ | refine J.xS ?_ | refine J.ev' hΓ ?_ | refine J.nT hΓ ?_) | (refine J.o 12 ?_; refine J.ix hΓ ?_) | (refine J.o 13 ?_; first | refine J.sL hΓ ?_ | refine J.sH hΓ ?_) | (refine J.o 14 ?_; refine J.mf hΓ ?_) | refine J.kn ?_) | ((fail_if_success refine J.wt ?_); refine J.gc rfl rfl (fun hc => ?_) (fun hc => ?_) <;> ((try simp only [decide_eq_true_eq, decide_eq_false_iff_not, beq_iff_eq, beq_eq_false_iff_ne, bne_iff_ne, bne_eq_false_iff_eq, Bool.not_eq_true', Bool.not_eq_false', Bool.not_eq_true, Bool.not_eq_false] at hc) <;> first | (first | (exact absurd rfl hc) | (exfalso; omega) | (exact absurd (hc.symm.trans (by assumption : _ = false)) (by decide)) | (exact absurd (hc.symm.trans (by assumption : _ = true)) (by decide))) | skip)))
    | (first | refine JC.seq ?_ | refine JC.region ?_ | refine JC.block ?_ | refine JC.ret ?_ | refine JC.exit ?_ | refine JC.skip ?_ | refine thenK.nn ?_ | refine thenK.r ?_ | refine thenK.x ?_ | refine blockK.nn ?_ | refine blockK.r ?_ | refine blockK.hit rfl ?_ | refine blockK.miss rfl ?_ | refine JC.condT rfl ?_ | refine JC.condF rfl ?_ | (refine JC.cond rfl (fun hc => ?_) (fun hc => ?_) <;> ((try simp only [decide_eq_true_eq, decide_eq_false_iff_not, beq_iff_eq, beq_eq_false_iff_ne, bne_iff_ne, bne_eq_false_iff_eq, Bool.not_eq_true', Bool.not_eq_false', Bool.not_eq_true, Bool.not_eq_false] at hc) <;> first | (first | (exact absurd rfl hc) | (exfalso; omega) | (exact absurd (hc.symm.trans (by assumption : _ = false)) (by decide)) | (exact absurd (hc.symm.trans (by assumption : _ = true)) (by decide))) | skip)) | refine drawK.nn ?_ | refine roundK.nn ?_ | refine roundK.r ?_ | refine roundK.x ?_ | refine loopK.r ?_ | refine loopK.x ?_)
    | (fail)
    | fail
  all_goals first | (exfalso; omega) | skip
  refine loopK.nn (m - 1) (by omega) (by repeat (first | refine Ag.upd rfl ?_ | exact Ag.hv)) ⟨k + 1, ?_, by omega, rfl⟩
  show Value.int .i64 _ = _; congr 1
theorem of1_any (v : Int) (b : Nat) (w : World) (hw : Holds [(b, .cells ⟨[.int .i64 v]⟩ 3 (0, 0))] w) : Calls Tryd.prog 49 #[.slice (some ⟨b, 0, none⟩) 1 1] w fun e w' => e = .returned (sv (withS (0, 0) v)) ∧ Below w.heap.size w w' :=
  of_any (some ⟨b, 0, none⟩) 1 [v] _ (litO (enc := encI) (fun _ => rfl) b 3 [v] rfl).sl (by show 1 ≤ 1000000; decide) w hw
theorem union_any (s t : Nat × Nat) (hs : okS s) (ht : okS t) (w : World) : Calls Tryd.prog 51 #[sv s, sv t] w fun e w' => e = .returned (sv (uniS s t)) ∧ Below w.heap.size w w' := by
  obtain ⟨h1, h2⟩ := hs
  obtain ⟨h3, h4⟩ := ht
  refine calls_of_JC (R := []) Tryd.func51 Tryd.ntmps51 rfl rfl (Holds.nil _) ?_
  repeat' first
    | (refine J.isJ ?_; (first | (first | (refine J.o 0 ?_; refine J.ev' hΓ ?_) | refine J.nil ?_ | refine J.kd ?_ | (refine J.o 4 ?_; first | refine J.e0 hΓ ?_ | refine J.lT default hΓ ?_ | refine J.e1 hΓ ?_ | refine J.e2 hΓ ?_ | refine J.lR hΓ ?_) | (refine J.o 3 ?_; first | refine J.iA hΓ ?_ | refine J.iJ hΓ ?_ | refine J.fP hΓ ?_ | refine J.iC hΓ ?_ | refine J.ev' hΓ ?_) | (refine J.o 1 ?_; first | refine J.ad ?_ | refine J.ct ?_ | refine J.sb ?_ | refine J.mu ?_ | refine J.ng ?_ | refine J.qu ?_ | refine J.rm ?_ | refine J.s1 ?_ | refine J.sr ?_ | refine J.aW ?_ | refine J.oW ?_ | refine J.nW ?_) | (refine J.o 2 ?_; refine J.cv _ hΓ ?_) | (refine J.o 5 ?_; first | refine J.t0 hΓ ?_ | refine J.t1 hΓ ?_ | refine J.t2 hΓ ?_ | refine J.tT _ default hΓ (fun _ _ => ?_) | refine J.tT1 _ default hΓ (fun _ _ => ?_) | refine J.tT2 _ default hΓ (fun _ _ => ?_) | refine J.tT3 _ default hΓ (fun _ _ => ?_)) | (refine J.o 6 ?_; refine J.bx (fun _ => ?_)) | (refine J.o 7 ?_; refine J.al hΓ (fun _ => ?_)) | (refine J.o 8 ?_; refine J.bd hΓ ?_) | (refine J.o 9 ?_; refine J.bl hΓ (fun _ => ?_)) | (refine J.o 10 ?_; first | refine J.ls hΓ ?_ | refine J.ev' hΓ ?_) | (refine J.o 11 ?_; first | refine J.eS ?_ | refine J.xS ?_ | refine J.ev' hΓ ?_ | refine J.nT hΓ ?_) | (refine J.o 12 ?_; refine J.ix hΓ ?_) | (refine J.o 13 ?_; first | refine J.sL hΓ ?_ | refine J.sH hΓ ?_) | (refine J.o 14 ?_; refine J.mf hΓ ?_) | refine J.kn ?_) | ((fail_if_success refine J.wt ?_); refine J.gc rfl rfl (fun hc => ?_) (fun hc => ?_) <;> ((try simp only [decide_eq_true_eq, decide_eq_false_iff_not, beq_iff_eq, beq_eq_false_iff_ne, bne_iff_ne, bne_eq_false_iff_eq, Bool.not_eq_true', Bool.not_eq_false', Bool.not_eq_true, Bool.not_eq_false] at hc) <;> first | (first | (exact absurd rfl hc) | (exfalso; omega) | (exact absurd (hc.symm.trans (by assumption : _ = false)) (by decide)) | (exact absurd (hc.symm.trans (by assumption : _ = true)) (by decide))) | skip))))
    | (first | refine JC.seq ?_ | refine JC.region ?_ | refine JC.block ?_ | refine JC.ret ?_ | refine JC.exit ?_ | refine JC.skip ?_ | refine thenK.nn ?_ | refine thenK.r ?_ | refine thenK.x ?_ | refine blockK.nn ?_ | refine blockK.r ?_ | refine blockK.hit rfl ?_ | refine blockK.miss rfl ?_ | refine JC.condT rfl ?_ | refine JC.condF rfl ?_ | (refine JC.cond rfl (fun hc => ?_) (fun hc => ?_) <;> ((try simp only [decide_eq_true_eq, decide_eq_false_iff_not, beq_iff_eq, beq_eq_false_iff_ne, bne_iff_ne, bne_eq_false_iff_eq, Bool.not_eq_true', Bool.not_eq_false', Bool.not_eq_true, Bool.not_eq_false] at hc) <;> first | (first | (exact absurd rfl hc) | (exfalso; omega) | (exact absurd (hc.symm.trans (by assumption : _ = false)) (by decide)) | (exact absurd (hc.symm.trans (by assumption : _ = true)) (by decide))) | skip)) | (refine JC.drawA [] (by kernel_rfl) (by kernel_rfl) ?_) | refine drawK.nn ?_ | refine roundK.nn ?_ | refine roundK.r ?_ | refine roundK.x ?_ | refine loopK.r ?_ | refine loopK.x ?_)
    | fail
  all_goals first | (exfalso; omega) | skip
  all_goals (refine retC hΓ rfl rfl rfl Rd.hd rfl (fun w1 hw => ⟨rfl, hw.below⟩))
/-- P20.2: a node's variables, those before it given -/
def varS (T : List (Nat × Nat)) (x : PN) : Nat × Nat := x.2.2.foldl (fun s k => uniS s (T.getD k.toNat default)) (withS (0, 0) (varI x.2.1))
def varT (X : List PN) : List (Nat × Nat) := X.foldl (fun T x => T ++ [varS T x]) []
theorem varT_snoc (X : List PN) (x : PN) : varT (X ++ [x]) = varT X ++ [varS (varT X) x] := by
  unfold varT; rw [List.foldl_append]; rfl
theorem varT_len : ∀ (X : List PN), (varT X).length = X.length := fun X => by
  have h : ∀ (X : List PN) (T : List (Nat × Nat)), (X.foldl (fun T x => T ++ [varS T x]) T).length = T.length + X.length := fun X => by
    induction X with
    | nil => intro T; rfl
    | cons x X ih => intro T; rw [List.foldl_cons, ih]; simp only [List.length_append, List.length_cons, List.length_nil]; omega
  have := h X []
  rw [List.length_nil, Nat.zero_add] at this
  exact this
theorem okS_d (T : List (Nat × Nat)) (hT : ∀ s, s ∈ T → okS s) (k : Nat) : okS (T.getD k default) := by
  by_cases h : k < T.length
  · exact hT _ (mem_g T k h)
  · rw [List.getD_eq_getElem?_getD, List.getElem?_eq_none (by omega)]; exact okS_zero
theorem okS_fold (T : List (Nat × Nat)) (hT : ∀ s, s ∈ T → okS s) : ∀ (l : List Int) (s : Nat × Nat), okS s → okS (l.foldl (fun s (k : Int) => uniS s (T.getD k.toNat default)) s)
  | [], s, h => h
  | x :: l, s, h => by rw [List.foldl_cons]; exact okS_fold T hT l _ (okS_uni h (okS_d T hT _))
theorem okS_varS (T : List (Nat × Nat)) (hT : ∀ s, s ∈ T → okS s) (x : PN) : okS (varS T x) := okS_fold T hT _ _ (okS_with okS_zero _)
theorem okS_varT : ∀ (X : List PN) (s : Nat × Nat), s ∈ varT X → okS s := fun X => by
  have h : ∀ (X : List PN) (T : List (Nat × Nat)), (∀ s, s ∈ T → okS s) → ∀ s, s ∈ (X.foldl (fun T x => T ++ [varS T x]) T) → okS s := fun X => by
    induction X with
    | nil => intro T hT; exact hT
    | cons x X ih =>
      intro T hT
      rw [List.foldl_cons]
      refine ih _ fun s hs => ?_
      rcases List.mem_append.1 hs with hs | hs
      · exact hT s hs
      · rw [List.mem_singleton.1 hs]; exact okS_varS T hT x
  exact h X [] fun s hs => absurd hs List.not_mem_nil
theorem app_getD {α : Type} [Inhabited α] (s t : List α) (j : Nat) (h : j < s.length) : (s ++ t).getD j default = s.getD j default := by
  rw [List.getD_eq_getElem?_getD, List.getElem?_append_left h, ← List.getD_eq_getElem?_getD]
theorem app_at {α : Type} [Inhabited α] (s : List α) (x : α) (t : List α) : (s ++ x :: t).getD s.length default = x := by
  rw [List.getD_eq_getElem?_getD, List.getElem?_append_right (Nat.le_refl _), Nat.sub_self]; rfl
theorem app_st {α : Type} (s : List α) (x y : α) (t : List α) : (s ++ x :: t).set s.length y = s ++ y :: t := by
  rw [List.set_append_right _ _ (Nat.le_refl _), Nat.sub_self, List.set_cons_zero]
def parV (T : List (Nat × Nat)) (x : PN) (q : Nat) : Nat × Nat := (x.2.2.take q).foldl (fun s k => uniS s (T.getD k.toNat default)) (withS (0, 0) (varI x.2.1))
theorem parV_all (T : List (Nat × Nat)) (x : PN) (q : Nat) (h : x.2.2.length ≤ q) : parV T x q = varS T x := by
  unfold parV varS; rw [List.take_of_length_le h]
theorem parV_step (T : List (Nat × Nat)) (x : PN) (q : Nat) (h : q < x.2.2.length) : parV T x (q + 1) = uniS (parV T x q) (T.getD (x.2.2.getD q default).toNat default) := by
  unfold parV; rw [take_g _ q h, List.foldl_append]; rfl
theorem okS_par (T : List (Nat × Nat)) (hT : ∀ s, s ∈ T → okS s) (x : PN) (q : Nat) : okS (parV T x q) := okS_fold T hT _ _ (okS_with okS_zero _)
set_option maxHeartbeats 16000000 in
theorem vars_any (N : Int) (a : Option Addr) (cap : Nat) (vs : List NV) (h : Heap) (hr : NetIn a vs h) (w : World) (hw : Holds h w) :
    Calls Tryd.prog 28 #[.agg ⟨[.int .i64 N, .slice a vs.length cap]⟩] w (Gives (fun v g => ∃ a' c', v = .slice a' (if checkP N (vs.map pnV) = true then varT (vs.map pnV) else []).length c' ∧ SlT encS 2 a' (if checkP N (vs.map pnV) = true then varT (vs.map pnV) else []) g) w) := by
  have q0 : ∀ L, RdH h L h := fun L => RdH.old fun _ hh => hh
  have cC := fun w hw => check_any N a cap vs h hr w hw
  obtain ⟨so, si, sl, hl⟩ := hr
  have hX : (vs.map pnV).length = vs.length := List.length_map ..
  cases hC : checkP N (vs.map pnV) with
  | false =>
    rw [hC, if_neg (by decide)] at cC
    rw [if_neg (by decide)]
    refine calls_of_JC (R := h) Tryd.func28 Tryd.ntmps28 rfl rfl (hw) ?_
    repeat' first
      | (refine J.isJ ?_; first | (first | (refine J.o 0 ?_; refine J.ev' hΓ ?_) | refine J.nil ?_ | refine J.kd ?_ | (refine J.o 4 ?_; first | refine J.e0 hΓ ?_ | refine J.lT default hΓ ?_ | refine J.e1 hΓ ?_ | refine J.e2 hΓ ?_ | refine J.lR hΓ ?_) | (refine J.o 3 ?_; first | refine J.iA hΓ ?_ | refine J.iJ hΓ ?_ | refine J.fP hΓ ?_ | refine J.iC hΓ ?_ | refine J.ev' hΓ ?_) | (refine J.o 1 ?_; first | refine J.ad ?_ | refine J.ct ?_ | refine J.sb ?_ | refine J.mu ?_ | refine J.ng ?_ | refine J.qu ?_ | refine J.rm ?_ | refine J.s1 ?_ | refine J.sr ?_ | refine J.aW ?_ | refine J.oW ?_ | refine J.nW ?_) | (refine J.o 2 ?_; refine J.cv _ hΓ ?_) | (refine J.o 5 ?_; first | refine J.t0 hΓ ?_ | refine J.t1 hΓ ?_ | refine J.t2 hΓ ?_ | refine J.tT _ default hΓ (fun _ _ => ?_) | refine J.tT1 _ default hΓ (fun _ _ => ?_) | refine J.tT2 _ default hΓ (fun _ _ => ?_) | refine J.tT3 _ default hΓ (fun _ _ => ?_)) | (refine J.o 6 ?_; refine J.bx (fun _ => ?_)) | (refine J.o 7 ?_; refine J.al hΓ (fun _ => ?_)) | (refine J.o 8 ?_; refine J.bd hΓ ?_) | (refine J.o 9 ?_; refine J.bl hΓ (fun _ => ?_)) | (refine J.o 10 ?_; first | refine J.ls hΓ ?_ | refine J.ev' hΓ ?_) | (refine J.o 11 ?_; first | refine J.eS ?_ | refine J.xS ?_ | refine J.ev' hΓ ?_ | refine J.nT hΓ ?_) | (refine J.o 12 ?_; refine J.ix hΓ ?_) | (refine J.o 13 ?_; first | refine J.sL hΓ ?_ | refine J.sH hΓ ?_) | (refine J.o 14 ?_; refine J.mf hΓ ?_) | refine J.kn ?_) | ((refine J.fc 25 ?_; refine J.call0 eCheck rfl rfl (fun w hw => cC w (hw.rdH (q0 _))) ?_)) | ((fail_if_success refine J.wt ?_); refine J.gc rfl rfl (fun hc => ?_) (fun hc => ?_) <;> ((try simp only [decide_eq_true_eq, decide_eq_false_iff_not, beq_iff_eq, beq_eq_false_iff_ne, bne_iff_ne, bne_eq_false_iff_eq, Bool.not_eq_true', Bool.not_eq_false', Bool.not_eq_true, Bool.not_eq_false] at hc) <;> first | (first | (exact absurd rfl hc) | (exfalso; omega) | (exact absurd (hc.symm.trans (by assumption : _ = false)) (by decide)) | (exact absurd (hc.symm.trans (by assumption : _ = true)) (by decide))) | skip)))
      | (first | refine JC.seq ?_ | refine JC.region ?_ | refine JC.block ?_ | refine JC.ret ?_ | refine JC.exit ?_ | refine JC.skip ?_ | refine thenK.nn ?_ | refine thenK.r ?_ | refine thenK.x ?_ | refine blockK.nn ?_ | refine blockK.r ?_ | refine blockK.hit rfl ?_ | refine blockK.miss rfl ?_ | refine JC.condT rfl ?_ | refine JC.condF rfl ?_ | (refine JC.cond rfl (fun hc => ?_) (fun hc => ?_) <;> ((try simp only [decide_eq_true_eq, decide_eq_false_iff_not, beq_iff_eq, beq_eq_false_iff_ne, bne_iff_ne, bne_eq_false_iff_eq, Bool.not_eq_true', Bool.not_eq_false', Bool.not_eq_true, Bool.not_eq_false] at hc) <;> first | (first | (exact absurd rfl hc) | (exfalso; omega) | (exact absurd (hc.symm.trans (by assumption : _ = false)) (by decide)) | (exact absurd (hc.symm.trans (by assumption : _ = true)) (by decide))) | skip)) | (refine JC.drawA [] (by kernel_rfl) (by kernel_rfl) ?_) | refine drawK.nn ?_ | refine roundK.nn ?_ | refine roundK.r ?_ | refine roundK.x ?_ | refine loopK.r ?_ | refine loopK.x ?_)
      | fail
    all_goals first | (exfalso; omega) | skip
    exact ret1f rfl rfl rfl (fun w1 hw => Gives.of (H.sel (l := [_]) (M := []) hw [0]) ⟨none, 0, rfl, ⟨fun _ => rfl, fun i hi => absurd hi (Nat.not_lt_zero _)⟩⟩)
  | true =>
    rw [hC, if_pos rfl] at cC
    rw [if_pos rfl, varT_len, hX]
    obtain ⟨hN, hM, hFA⟩ := check_facts hC
    rw [hX] at hM
    refine calls_of_JC (R := h) Tryd.func28 Tryd.ntmps28 rfl rfl (hw) ?_
    repeat' first
      | (refine J.isJ ?_; first | (first | (refine J.fc 25 ?_; refine J.call0 eCheck rfl rfl (fun w hw => cC w (hw.rdH (q0 _))) ?_) | (refine J.o 9 ?_; refine J.make (enc := encS) (m := vs.length) ((0, 0) : Nat × Nat) hΓ rfl rfl rfl rfl rfl rfl (fun _ => rfl) (by omega) (by omega) (fun bA hA oA => ?_); generalize (some (⟨bA, 0, none⟩ : Addr)) = aA at oA ⊢)) | (first | (refine J.o 0 ?_; refine J.ev' hΓ ?_) | refine J.nil ?_ | refine J.kd ?_ | (refine J.o 4 ?_; first | refine J.e0 hΓ ?_ | refine J.lT default hΓ ?_ | refine J.e1 hΓ ?_ | refine J.e2 hΓ ?_ | refine J.lR hΓ ?_) | (refine J.o 3 ?_; first | refine J.iA hΓ ?_ | refine J.iJ hΓ ?_ | refine J.fP hΓ ?_ | refine J.iC hΓ ?_ | refine J.ev' hΓ ?_) | (refine J.o 1 ?_; first | refine J.ad ?_ | refine J.ct ?_ | refine J.sb ?_ | refine J.mu ?_ | refine J.ng ?_ | refine J.qu ?_ | refine J.rm ?_ | refine J.s1 ?_ | refine J.sr ?_ | refine J.aW ?_ | refine J.oW ?_ | refine J.nW ?_) | (refine J.o 2 ?_; refine J.cv _ hΓ ?_) | (refine J.o 5 ?_; first | refine J.t0 hΓ ?_ | refine J.t1 hΓ ?_ | refine J.t2 hΓ ?_ | refine J.tT _ default hΓ (fun _ _ => ?_) | refine J.tT1 _ default hΓ (fun _ _ => ?_) | refine J.tT2 _ default hΓ (fun _ _ => ?_) | refine J.tT3 _ default hΓ (fun _ _ => ?_)) | (refine J.o 6 ?_; refine J.bx (fun _ => ?_)) | (refine J.o 7 ?_; refine J.al hΓ (fun _ => ?_)) | (refine J.o 8 ?_; refine J.bd hΓ ?_) | (refine J.o 9 ?_; refine J.bl hΓ (fun _ => ?_)) | (refine J.o 10 ?_; first | refine J.ls hΓ ?_ | refine J.ev' hΓ ?_) | (refine J.o 11 ?_; first | refine J.eS ?_ | refine J.xS ?_ | refine J.ev' hΓ ?_ | refine J.nT hΓ ?_) | (refine J.o 12 ?_; refine J.ix hΓ ?_) | (refine J.o 13 ?_; first | refine J.sL hΓ ?_ | refine J.sH hΓ ?_) | (refine J.o 14 ?_; refine J.mf hΓ ?_) | refine J.kn ?_) | ((fail_if_success refine J.wt ?_); refine J.gc rfl rfl (fun hc => ?_) (fun hc => ?_) <;> ((try simp only [decide_eq_true_eq, decide_eq_false_iff_not, beq_iff_eq, beq_eq_false_iff_ne, bne_iff_ne, bne_eq_false_iff_eq, Bool.not_eq_true', Bool.not_eq_false', Bool.not_eq_true, Bool.not_eq_false] at hc) <;> first | (first | (exact absurd rfl hc) | (exfalso; omega) | (exact absurd (hc.symm.trans (by assumption : _ = false)) (by decide)) | (exact absurd (hc.symm.trans (by assumption : _ = true)) (by decide))) | skip)))
      | (first | refine JC.seq ?_ | refine JC.region ?_ | refine JC.block ?_ | refine JC.ret ?_ | refine JC.exit ?_ | refine JC.skip ?_ | refine thenK.nn ?_ | refine thenK.r ?_ | refine thenK.x ?_ | refine blockK.nn ?_ | refine blockK.r ?_ | refine blockK.hit rfl ?_ | refine blockK.miss rfl ?_ | refine JC.condT rfl ?_ | refine JC.condF rfl ?_ | (refine JC.cond rfl (fun hc => ?_) (fun hc => ?_) <;> ((try simp only [decide_eq_true_eq, decide_eq_false_iff_not, beq_iff_eq, beq_eq_false_iff_ne, bne_iff_ne, bne_eq_false_iff_eq, Bool.not_eq_true', Bool.not_eq_false', Bool.not_eq_true, Bool.not_eq_false] at hc) <;> first | (first | (exact absurd rfl hc) | (exfalso; omega) | (exact absurd (hc.symm.trans (by assumption : _ = false)) (by decide)) | (exact absurd (hc.symm.trans (by assumption : _ = true)) (by decide))) | skip)) | refine drawK.nn ?_ | refine roundK.nn ?_ | refine roundK.r ?_ | refine roundK.x ?_ | refine loopK.r ?_ | refine loopK.x ?_)
      | (fail)
      | fail
    all_goals first | (exfalso; omega) | skip
    rename_i n1
    refine JC.weak (L' := [hA]) (fun w hw => H.sel (l := [_, _]) (M := []) hw [0]) ?_
    refine JC.gen [(3, .slice aA vs.length vs.length), (16, .slice a vs.length cap), (17, .int .i64 vs.length), (18, .int .i64 0)] ⟨rfl, rfl, rfl, rfl, trivial⟩ (fun F1 => ?_)
    refine JC.loopG (fun i => i == 4 || i == 5 || i == 7 || Nat.ble 18 i) (fun m g L' => ∃ (k : Nat) (hA : Heap), g 18 = .int .i64 (k : Int) ∧ k + m = vs.length ∧ OwT encS 2 27 aA vs.length (varT ((vs.map pnV).take k) ++ List.replicate m (0, 0)) hA ∧ L' = [hA]) vs.length ⟨0, hA, rfl, by omega, oA, rfl⟩ ?_
    clear oA
    rintro m g L' ⟨k, hA, e18, hkm, oA, rfl⟩
    refine JC.pin 18 e18 ?_
    clear e18
    have hst := varT_len ((vs.map pnV).take k)
    rw [List.length_take, hX] at hst
    have hlT : (varT ((vs.map pnV).take k) ++ List.replicate m ((0, 0) : Nat × Nat)).length = vs.length := by rw [List.length_append, List.length_replicate]; omega
    rcases Nat.lt_or_ge k vs.length with hk | hk
    case inr =>
      have hm0 : m = 0 := by omega
      subst hm0
      rw [List.take_of_length_le (by omega), List.replicate_zero, List.append_nil] at oA
      repeat' first
        | (refine J.isJ ?_; first | (fail) | (first | (refine J.o 0 ?_; refine J.ev' hΓ ?_) | refine J.nil ?_ | refine J.kd ?_ | (refine J.o 4 ?_; first | refine J.e0 hΓ ?_ | refine J.lT default hΓ ?_ | refine J.e1 hΓ ?_ | refine J.e2 hΓ ?_ | refine J.lR hΓ ?_) | (refine J.o 3 ?_; first | refine J.iA hΓ ?_ | refine J.iJ hΓ ?_ | refine J.fP hΓ ?_ | refine J.iC hΓ ?_ | refine J.ev' hΓ ?_) | (refine J.o 1 ?_; first | refine J.ad ?_ | refine J.ct ?_ | refine J.sb ?_ | refine J.mu ?_ | refine J.ng ?_ | refine J.qu ?_ | refine J.rm ?_ | refine J.s1 ?_ | refine J.sr ?_ | refine J.aW ?_ | refine J.oW ?_ | refine J.nW ?_) | (refine J.o 2 ?_; refine J.cv _ hΓ ?_) | (refine J.o 5 ?_; first | refine J.t0 hΓ ?_ | refine J.t1 hΓ ?_ | refine J.t2 hΓ ?_ | refine J.tT _ default hΓ (fun _ _ => ?_) | refine J.tT1 _ default hΓ (fun _ _ => ?_) | refine J.tT2 _ default hΓ (fun _ _ => ?_) | refine J.tT3 _ default hΓ (fun _ _ => ?_)) | (refine J.o 6 ?_; refine J.bx (fun _ => ?_)) | (refine J.o 7 ?_; refine J.al hΓ (fun _ => ?_)) | (refine J.o 8 ?_; refine J.bd hΓ ?_) | (refine J.o 9 ?_; refine J.bl hΓ (fun _ => ?_)) | (refine J.o 10 ?_; first | refine J.ls hΓ ?_ | refine J.ev' hΓ ?_) | (refine J.o 11 ?_; first | refine J.eS ?_ | refine J.xS ?_ | refine J.ev' hΓ ?_ | refine J.nT hΓ ?_) | (refine J.o 12 ?_; refine J.ix hΓ ?_) | (refine J.o 13 ?_; first | refine J.sL hΓ ?_ | refine J.sH hΓ ?_) | (refine J.o 14 ?_; refine J.mf hΓ ?_) | refine J.kn ?_) | ((fail_if_success refine J.wt ?_); refine J.gc rfl rfl (fun hc => ?_) (fun hc => ?_) <;> ((try simp only [decide_eq_true_eq, decide_eq_false_iff_not, beq_iff_eq, beq_eq_false_iff_ne, bne_iff_ne, bne_eq_false_iff_eq, Bool.not_eq_true', Bool.not_eq_false', Bool.not_eq_true, Bool.not_eq_false] at hc) <;> first | (first | (exact absurd rfl hc) | (exfalso; omega) | (exact absurd (hc.symm.trans (by assumption : _ = false)) (by decide)) | (exact absurd (hc.symm.trans (by assumption : _ = true)) (by decide))) | skip)))
        | (first | refine JC.seq ?_ | refine JC.region ?_ | refine JC.block ?_ | refine JC.ret ?_ | refine JC.exit ?_ | refine JC.skip ?_ | refine thenK.nn ?_ | refine thenK.r ?_ | refine thenK.x ?_ | refine blockK.nn ?_ | refine blockK.r ?_ | refine blockK.hit rfl ?_ | refine blockK.miss rfl ?_ | refine JC.condT rfl ?_ | refine JC.condF rfl ?_ | (refine JC.cond rfl (fun hc => ?_) (fun hc => ?_) <;> ((try simp only [decide_eq_true_eq, decide_eq_false_iff_not, beq_iff_eq, beq_eq_false_iff_ne, bne_iff_ne, bne_eq_false_iff_eq, Bool.not_eq_true', Bool.not_eq_false', Bool.not_eq_true, Bool.not_eq_false] at hc) <;> first | (first | (exact absurd rfl hc) | (exfalso; omega) | (exact absurd (hc.symm.trans (by assumption : _ = false)) (by decide)) | (exact absurd (hc.symm.trans (by assumption : _ = true)) (by decide))) | skip)) | refine drawK.nn ?_ | refine roundK.nn ?_ | refine roundK.r ?_ | refine roundK.x ?_ | refine loopK.r ?_ | refine loopK.x ?_)
        | (fail)
        | fail
      all_goals first | (exfalso; omega) | exact ret1f rfl rfl rfl (fun w1 hw => Gives.of hw ⟨aA, vs.length, rfl, oA.sl⟩)
    have hkX : k < (vs.map pnV).length := by omega
    have hmk := mem_g vs k hk
    have hVl := sl _ hmk
    have hVs := si _ hmk
    have hfk : formedP (pnV (vs.getD k default)) N k = true := by
      have := formAll_at N (vs.map pnV) 0 hFA k hkX
      rw [Int.zero_add, getD_map] at this
      exact this
    have hVo : ∀ i, i ∈ (vs.getD k default).l → 0 ≤ i ∧ i < k := formed_rng hfk
    have hnext : varT ((vs.map pnV).take (k + 1)) = varT ((vs.map pnV).take k) ++ [varS (varT ((vs.map pnV).take k)) (pnV (vs.getD k default))] := by
      rw [take_g _ k hkX, varT_snoc, getD_map]
    obtain ⟨m', rfl⟩ : ∃ m', m = m' + 1 := ⟨m - 1, by omega⟩
    have hokT := okS_varT ((vs.map pnV).take k)
    have hlk : (varT ((vs.map pnV).take k)).length = k := by omega
    generalize varT ((vs.map pnV).take k) = T at *
    have hset : (T ++ List.replicate (m' + 1) ((0, 0) : Nat × Nat)).set k (parV T (pnV (vs.getD k default)) 0) = T ++ parV T (pnV (vs.getD k default)) 0 :: List.replicate m' (0, 0) := by
      have := app_st T (0, 0) (parV T (pnV (vs.getD k default)) 0) (List.replicate m' ((0, 0) : Nat × Nat))
      rw [hlk] at this
      rw [List.replicate_succ]; exact this
    repeat' first
      | (refine J.isJ ?_; first | (first | (refine J.o 4 ?_; refine J.lT default hΓ ?_ (hs := so) (hr := q0 _)) | (refine J.fc 50 ?_; refine J.call0 eVar rfl rfl (fun w hw => var_any (vs.getD k default).lit w) ?_) | (refine J.fc 49 ?_; refine J.call0 eOf rfl rfl (fun w hw => of1_any (varI (vs.getD k default).lit) _ w (hw.rdH RdH.hd)) ?_) | (refine J.o 5 ?_; refine J.perm br2 ?_; refine J.tT (parV T (pnV (vs.getD k default)) 0) default hΓ (fun hA2 oA2 => ?_))) | (first | (refine J.o 0 ?_; refine J.ev' hΓ ?_) | refine J.nil ?_ | refine J.kd ?_ | (refine J.o 4 ?_; first | refine J.e0 hΓ ?_ | refine J.lT default hΓ ?_ | refine J.e1 hΓ ?_ | refine J.e2 hΓ ?_ | refine J.lR hΓ ?_) | (refine J.o 3 ?_; first | refine J.iA hΓ ?_ | refine J.iJ hΓ ?_ | refine J.fP hΓ ?_ | refine J.iC hΓ ?_ | refine J.ev' hΓ ?_) | (refine J.o 1 ?_; first | refine J.ad ?_ | refine J.ct ?_ | refine J.sb ?_ | refine J.mu ?_ | refine J.ng ?_ | refine J.qu ?_ | refine J.rm ?_ | refine J.s1 ?_ | refine J.sr ?_ | refine J.aW ?_ | refine J.oW ?_ | refine J.nW ?_) | (refine J.o 2 ?_; refine J.cv _ hΓ ?_) | (refine J.o 5 ?_; first | refine J.t0 hΓ ?_ | refine J.t1 hΓ ?_ | refine J.t2 hΓ ?_ | refine J.tT _ default hΓ (fun _ _ => ?_) | refine J.tT1 _ default hΓ (fun _ _ => ?_) | refine J.tT2 _ default hΓ (fun _ _ => ?_) | refine J.tT3 _ default hΓ (fun _ _ => ?_)) | (refine J.o 6 ?_; refine J.bx (fun _ => ?_)) | (refine J.o 7 ?_; refine J.al hΓ (fun _ => ?_)) | (refine J.o 8 ?_; refine J.bd hΓ ?_) | (refine J.o 9 ?_; refine J.bl hΓ (fun _ => ?_)) | (refine J.o 10 ?_; first | refine J.ls hΓ ?_ | refine J.ev' hΓ ?_) | (refine J.o 11 ?_; first | refine J.eS ?_ | refine J.xS ?_ | refine J.ev' hΓ ?_ | refine J.nT hΓ ?_) | (refine J.o 12 ?_; refine J.ix hΓ ?_) | (refine J.o 13 ?_; first | refine J.sL hΓ ?_ | refine J.sH hΓ ?_) | (refine J.o 14 ?_; refine J.mf hΓ ?_) | refine J.kn ?_) | ((fail_if_success refine J.wt ?_); refine J.gc rfl rfl (fun hc => ?_) (fun hc => ?_) <;> ((try simp only [decide_eq_true_eq, decide_eq_false_iff_not, beq_iff_eq, beq_eq_false_iff_ne, bne_iff_ne, bne_eq_false_iff_eq, Bool.not_eq_true', Bool.not_eq_false', Bool.not_eq_true, Bool.not_eq_false] at hc) <;> first | (first | (exact absurd rfl hc) | (exfalso; omega) | (exact absurd (hc.symm.trans (by assumption : _ = false)) (by decide)) | (exact absurd (hc.symm.trans (by assumption : _ = true)) (by decide))) | skip)))
      | (first | refine JC.seq ?_ | refine JC.region ?_ | refine JC.block ?_ | refine JC.ret ?_ | refine JC.exit ?_ | refine JC.skip ?_ | refine thenK.nn ?_ | refine thenK.r ?_ | refine thenK.x ?_ | refine blockK.nn ?_ | refine blockK.r ?_ | refine blockK.hit rfl ?_ | refine blockK.miss rfl ?_ | refine JC.condT rfl ?_ | refine JC.condF rfl ?_ | (refine JC.cond rfl (fun hc => ?_) (fun hc => ?_) <;> ((try simp only [decide_eq_true_eq, decide_eq_false_iff_not, beq_iff_eq, beq_eq_false_iff_ne, bne_iff_ne, bne_eq_false_iff_eq, Bool.not_eq_true', Bool.not_eq_false', Bool.not_eq_true, Bool.not_eq_false] at hc) <;> first | (first | (exact absurd rfl hc) | (exfalso; omega) | (exact absurd (hc.symm.trans (by assumption : _ = false)) (by decide)) | (exact absurd (hc.symm.trans (by assumption : _ = true)) (by decide))) | skip)) | refine drawK.nn ?_ | refine roundK.nn ?_ | refine roundK.r ?_ | refine roundK.x ?_ | refine loopK.r ?_ | refine loopK.x ?_)
      | ((refine JC.drawN [] [] (by kernel_rfl) (by kernel_rfl) ?_))
      | fail
    all_goals first | (exfalso; omega) | skip
    rename_i oA2
    rw [hset] at oA2
    refine JC.loopG (fun i => i == 7 || Nat.ble 34 i) (fun m2 g L' => ∃ (q : Nat) (hA : Heap), g 34 = .int .i64 (q : Int) ∧ q + m2 = (vs.getD k default).l.length ∧ OwT encS 2 27 aA vs.length (T ++ parV T (pnV (vs.getD k default)) q :: List.replicate m' (0, 0)) hA ∧ L' = hA :: _) (vs.getD k default).l.length ⟨0, _, rfl, by omega, oA2, rfl⟩ ?_
    clear oA oA2
    rintro m2 g2 L' ⟨q, hA, e34, hqm, oA, rfl⟩
    refine JC.pin 34 e34 ?_
    clear e34
    rcases Nat.lt_or_ge q (vs.getD k default).l.length with hq | hq
    case inr =>
      rw [parV_all _ _ _ hq] at oA
      repeat' first
        | (refine J.isJ ?_; first | (fail) | (first | (refine J.o 0 ?_; refine J.ev' hΓ ?_) | refine J.nil ?_ | refine J.kd ?_ | (refine J.o 4 ?_; first | refine J.e0 hΓ ?_ | refine J.lT default hΓ ?_ | refine J.e1 hΓ ?_ | refine J.e2 hΓ ?_ | refine J.lR hΓ ?_) | (refine J.o 3 ?_; first | refine J.iA hΓ ?_ | refine J.iJ hΓ ?_ | refine J.fP hΓ ?_ | refine J.iC hΓ ?_ | refine J.ev' hΓ ?_) | (refine J.o 1 ?_; first | refine J.ad ?_ | refine J.ct ?_ | refine J.sb ?_ | refine J.mu ?_ | refine J.ng ?_ | refine J.qu ?_ | refine J.rm ?_ | refine J.s1 ?_ | refine J.sr ?_ | refine J.aW ?_ | refine J.oW ?_ | refine J.nW ?_) | (refine J.o 2 ?_; refine J.cv _ hΓ ?_) | (refine J.o 5 ?_; first | refine J.t0 hΓ ?_ | refine J.t1 hΓ ?_ | refine J.t2 hΓ ?_ | refine J.tT _ default hΓ (fun _ _ => ?_) | refine J.tT1 _ default hΓ (fun _ _ => ?_) | refine J.tT2 _ default hΓ (fun _ _ => ?_) | refine J.tT3 _ default hΓ (fun _ _ => ?_)) | (refine J.o 6 ?_; refine J.bx (fun _ => ?_)) | (refine J.o 7 ?_; refine J.al hΓ (fun _ => ?_)) | (refine J.o 8 ?_; refine J.bd hΓ ?_) | (refine J.o 9 ?_; refine J.bl hΓ (fun _ => ?_)) | (refine J.o 10 ?_; first | refine J.ls hΓ ?_ | refine J.ev' hΓ ?_) | (refine J.o 11 ?_; first | refine J.eS ?_ | refine J.xS ?_ | refine J.ev' hΓ ?_ | refine J.nT hΓ ?_) | (refine J.o 12 ?_; refine J.ix hΓ ?_) | (refine J.o 13 ?_; first | refine J.sL hΓ ?_ | refine J.sH hΓ ?_) | (refine J.o 14 ?_; refine J.mf hΓ ?_) | refine J.kn ?_) | ((fail_if_success refine J.wt ?_); refine J.gc rfl rfl (fun hc => ?_) (fun hc => ?_) <;> ((try simp only [decide_eq_true_eq, decide_eq_false_iff_not, beq_iff_eq, beq_eq_false_iff_ne, bne_iff_ne, bne_eq_false_iff_eq, Bool.not_eq_true', Bool.not_eq_false', Bool.not_eq_true, Bool.not_eq_false] at hc) <;> first | (first | (exact absurd rfl hc) | (exfalso; omega) | (exact absurd (hc.symm.trans (by assumption : _ = false)) (by decide)) | (exact absurd (hc.symm.trans (by assumption : _ = true)) (by decide))) | skip)))
        | (first | refine JC.seq ?_ | refine JC.region ?_ | refine JC.block ?_ | refine JC.ret ?_ | refine JC.exit ?_ | refine JC.skip ?_ | refine thenK.nn ?_ | refine thenK.r ?_ | refine thenK.x ?_ | refine blockK.nn ?_ | refine blockK.r ?_ | refine blockK.hit rfl ?_ | refine blockK.miss rfl ?_ | refine JC.condT rfl ?_ | refine JC.condF rfl ?_ | (refine JC.cond rfl (fun hc => ?_) (fun hc => ?_) <;> ((try simp only [decide_eq_true_eq, decide_eq_false_iff_not, beq_iff_eq, beq_eq_false_iff_ne, bne_iff_ne, bne_eq_false_iff_eq, Bool.not_eq_true', Bool.not_eq_false', Bool.not_eq_true, Bool.not_eq_false] at hc) <;> first | (first | (exact absurd rfl hc) | (exfalso; omega) | (exact absurd (hc.symm.trans (by assumption : _ = false)) (by decide)) | (exact absurd (hc.symm.trans (by assumption : _ = true)) (by decide))) | skip)) | refine drawK.nn ?_ | refine roundK.nn ?_ | refine roundK.r ?_ | refine roundK.x ?_ | refine loopK.r ?_ | refine loopK.x ?_)
        | (fail)
        | fail
      all_goals first | (exfalso; omega) | skip
      have e : T ++ varS T (pnV (vs.getD k default)) :: List.replicate m' ((0, 0) : Nat × Nat) = varT ((vs.map pnV).take (k + 1)) ++ List.replicate m' (0, 0) := by rw [hnext, List.append_assoc]; rfl
      rw [e] at oA
      refine loopK.nn m' (by omega) (by repeat (first | refine Ag.upd rfl ?_ | exact Ag.hv | refine Ag.hv2 (fun i hi => by simp at hi ⊢; omega) ?_)) ⟨_, ⟨k + 1, hA, ?_, by omega, oA, rfl⟩, fun w hw => H.sel (l := [_, _, _]) (M := []) hw [0]⟩
      show Value.int .i64 _ = _; congr 1
    have hxq := hVo _ (mem_g (vs.getD k default).l q hq)
    have g1 := app_at T (parV T (pnV (vs.getD k default)) q) (List.replicate m' (0, 0))
    rw [hlk] at g1
    have g2 : (T ++ parV T (pnV (vs.getD k default)) q :: List.replicate m' (0, 0)).getD ((vs.getD k default).l.getD q default).toNat default = T.getD ((vs.getD k default).l.getD q default).toNat default := app_getD _ _ _ (by omega)
    have hl5 : (T ++ parV T (pnV (vs.getD k default)) q :: List.replicate m' ((0, 0) : Nat × Nat)).length = vs.length := by rw [List.length_append, List.length_cons, List.length_replicate]; omega
    have cU := fun w => union_any (parV T (pnV (vs.getD k default)) q) (T.getD ((vs.getD k default).l.getD q default).toNat default) (okS_par T hokT _ _) (okS_d T hokT _) w
    have hstp := parV_step T (pnV (vs.getD k default)) q hq
    have hstp : parV T (pnV (vs.getD k default)) (q + 1) = uniS (parV T (pnV (vs.getD k default)) q) (T.getD ((vs.getD k default).l.getD q default).toNat default) := hstp
    rw [← hstp] at cU
    have hset2 := app_st T (parV T (pnV (vs.getD k default)) q) (parV T (pnV (vs.getD k default)) (q + 1)) (List.replicate m' ((0, 0) : Nat × Nat))
    rw [hlk] at hset2
    have hVs2 := hVs
    repeat' first
      | (refine J.isJ ?_; first | (first | (refine J.o 4 ?_; first | refine J.lT default hΓ ?_ (hs := hVs2) (hr := q0 _) | (refine J.lT default hΓ ?_ (hs := oA.sl) (hr := RdH.hd); first | rw [g1] | rw [g2])) | (refine J.fc 51 ?_; refine J.call0 eUnion rfl rfl (fun w hw => cU w) ?_) | (refine J.o 5 ?_; refine J.tT (parV T (pnV (vs.getD k default)) (q + 1)) default hΓ (fun hA2 oA2 => ?_))) | (first | (refine J.o 0 ?_; refine J.ev' hΓ ?_) | refine J.nil ?_ | refine J.kd ?_ | (refine J.o 4 ?_; first | refine J.e0 hΓ ?_ | refine J.lT default hΓ ?_ | refine J.e1 hΓ ?_ | refine J.e2 hΓ ?_ | refine J.lR hΓ ?_) | (refine J.o 3 ?_; first | refine J.iA hΓ ?_ | refine J.iJ hΓ ?_ | refine J.fP hΓ ?_ | refine J.iC hΓ ?_ | refine J.ev' hΓ ?_) | (refine J.o 1 ?_; first | refine J.ad ?_ | refine J.ct ?_ | refine J.sb ?_ | refine J.mu ?_ | refine J.ng ?_ | refine J.qu ?_ | refine J.rm ?_ | refine J.s1 ?_ | refine J.sr ?_ | refine J.aW ?_ | refine J.oW ?_ | refine J.nW ?_) | (refine J.o 2 ?_; refine J.cv _ hΓ ?_) | (refine J.o 5 ?_; first | refine J.t0 hΓ ?_ | refine J.t1 hΓ ?_ | refine J.t2 hΓ ?_ | refine J.tT _ default hΓ (fun _ _ => ?_) | refine J.tT1 _ default hΓ (fun _ _ => ?_) | refine J.tT2 _ default hΓ (fun _ _ => ?_) | refine J.tT3 _ default hΓ (fun _ _ => ?_)) | (refine J.o 6 ?_; refine J.bx (fun _ => ?_)) | (refine J.o 7 ?_; refine J.al hΓ (fun _ => ?_)) | (refine J.o 8 ?_; refine J.bd hΓ ?_) | (refine J.o 9 ?_; refine J.bl hΓ (fun _ => ?_)) | (refine J.o 10 ?_; first | refine J.ls hΓ ?_ | refine J.ev' hΓ ?_) | (refine J.o 11 ?_; first | refine J.eS ?_ | refine J.xS ?_ | refine J.ev' hΓ ?_ | refine J.nT hΓ ?_) | (refine J.o 12 ?_; refine J.ix hΓ ?_) | (refine J.o 13 ?_; first | refine J.sL hΓ ?_ | refine J.sH hΓ ?_) | (refine J.o 14 ?_; refine J.mf hΓ ?_) | refine J.kn ?_) | ((fail_if_success refine J.wt ?_); refine J.gc rfl rfl (fun hc => ?_) (fun hc => ?_) <;> ((try simp only [decide_eq_true_eq, decide_eq_false_iff_not, beq_iff_eq, beq_eq_false_iff_ne, bne_iff_ne, bne_eq_false_iff_eq, Bool.not_eq_true', Bool.not_eq_false', Bool.not_eq_true, Bool.not_eq_false] at hc) <;> first | (first | (exact absurd rfl hc) | (exfalso; omega) | (exact absurd (hc.symm.trans (by assumption : _ = false)) (by decide)) | (exact absurd (hc.symm.trans (by assumption : _ = true)) (by decide))) | skip)))
      | (first | refine JC.seq ?_ | refine JC.region ?_ | refine JC.block ?_ | refine JC.ret ?_ | refine JC.exit ?_ | refine JC.skip ?_ | refine thenK.nn ?_ | refine thenK.r ?_ | refine thenK.x ?_ | refine blockK.nn ?_ | refine blockK.r ?_ | refine blockK.hit rfl ?_ | refine blockK.miss rfl ?_ | refine JC.condT rfl ?_ | refine JC.condF rfl ?_ | (refine JC.cond rfl (fun hc => ?_) (fun hc => ?_) <;> ((try simp only [decide_eq_true_eq, decide_eq_false_iff_not, beq_iff_eq, beq_eq_false_iff_ne, bne_iff_ne, bne_eq_false_iff_eq, Bool.not_eq_true', Bool.not_eq_false', Bool.not_eq_true, Bool.not_eq_false] at hc) <;> first | (first | (exact absurd rfl hc) | (exfalso; omega) | (exact absurd (hc.symm.trans (by assumption : _ = false)) (by decide)) | (exact absurd (hc.symm.trans (by assumption : _ = true)) (by decide))) | skip)) | refine drawK.nn ?_ | refine roundK.nn ?_ | refine roundK.r ?_ | refine roundK.x ?_ | refine loopK.r ?_ | refine loopK.x ?_)
      | ((refine JC.drawN [] [] (by kernel_rfl) (by kernel_rfl) ?_))
      | fail
    all_goals first | (exfalso; omega) | skip
    rename_i oA2
    rw [hset2] at oA2
    refine loopK.nn (m2 - 1) (by omega) (by repeat (first | refine Ag.upd rfl ?_ | exact Ag.hv)) ⟨_, ⟨q + 1, _, ?_, by omega, oA2, rfl⟩, fun w hw => hw⟩
    show Value.int .i64 _ = _; congr 1
/-! a net does not see variables that are none of its root's -/
theorem varT_at (X : List PN) (k j : Nat) (h : j < k) (hk : k ≤ X.length) : (varT (X.take k)).getD j default = (varT X).getD j default := by
  have : ∀ d, k + d ≤ X.length → (varT (X.take (k + d))).getD j default = (varT (X.take k)).getD j default := fun d => by
    induction d with
    | zero => intro _; rfl
    | succ d ih =>
      intro hd
      rw [show k + (d + 1) = (k + d) + 1 by omega, take_g X (k + d) (by omega), varT_snoc, app_getD _ _ _ (by rw [varT_len, List.length_take]; omega)]
      exact ih (by omega)
  have h2 := this (X.length - k) (by omega)
  rw [show k + (X.length - k) = X.length by omega, List.take_length] at h2
  exact h2.symm
theorem has_fold (T : List (Nat × Nat)) (u : Int) : ∀ (l : List Int) (s : Nat × Nat), hasB (l.foldl (fun s (k : Int) => uniS s (T.getD k.toNat default)) s) u = true ↔ hasB s u = true ∨ ∃ k, k ∈ l ∧ hasB (T.getD k.toNat default) u = true
  | [], s => by simp
  | x :: l, s => by
    rw [List.foldl_cons, has_fold T u l, has_uni, Bool.or_eq_true]
    constructor
    · rintro ((h | h) | ⟨k, h1, h2⟩)
      · exact .inl h
      · exact .inr ⟨x, List.mem_cons_self, h⟩
      · exact .inr ⟨k, List.mem_cons_of_mem _ h1, h2⟩
    · rintro (h | ⟨k, h1, h2⟩)
      · exact .inl (.inl h)
      · rcases List.mem_cons.1 h1 with rfl | h1
        · exact .inl (.inr h2)
        · exact .inr ⟨k, h1, h2⟩
theorem tru_dep (a b : Nat × Nat) {N : Int} (hN : 0 ≤ N ∧ N ≤ 128) {X : List PN} (hf : formAll N X 0 = true) : ∀ k, k ≤ X.length → ∀ j, j < k → (∀ u, hasB ((varT (X.take k)).getD j default) u = true → hasB a u = hasB b u) → (truT a (X.take k)).getD j default = (truT b (X.take k)).getD j default := fun k => by
  induction k with
  | zero => intro _ j hj; omega
  | succ k ih =>
    intro hk j hj hu
    have ih := ih (by omega)
    have h2 := formAll_at N X 0 hf k (by omega)
    rw [Int.zero_add] at h2
    have hr := formed_rng h2
    have hlt : (X.take k).length = k := by rw [List.length_take]; omega
    rw [take_g X k (by omega), varT_snoc] at hu
    rw [take_g X k (by omega), truT_snoc, truT_snoc]
    by_cases e : j < k
    · rw [app_getD _ _ _ (by rw [varT_len]; omega)] at hu
      rw [app_getD _ _ _ (by rw [truT_len]; omega), app_getD _ _ _ (by rw [truT_len]; omega)]
      exact ih j e hu
    · have e : j = k := by omega
      subst e
      have v1 := app_at (varT (X.take j)) (varS (varT (X.take j)) (X.getD j default)) []
      have v2 := app_at (truT a (X.take j)) (truS a (truT a (X.take j)) (X.getD j default)) []
      have v3 := app_at (truT b (X.take j)) (truS b (truT b (X.take j)) (X.getD j default)) []
      rw [varT_len, hlt] at v1
      rw [truT_len, hlt] at v2 v3
      rw [v1] at hu
      rw [v2, v3]
      have hin : ∀ q, q ∈ (X.getD j default).2.2 → (truT a (X.take j)).getD q.toNat default = (truT b (X.take j)).getD q.toNat default := fun q hq => by
        have := hr q hq
        exact ih q.toNat (by omega) fun u h => hu u ((has_fold _ u _ _).2 (.inr ⟨q, hq, h⟩))
      have hlit : (X.getD j default).1 = 2 → hasB a (absI (X.getD j default).2.1) = hasB b (absI (X.getD j default).2.1) := fun h => by
        rcases formed_kinds h2 with e | e | ⟨e, e1, e2, e3⟩ | e | e
        · omega
        · omega
        · have hv : varI (X.getD j default).2.1 = absI (X.getD j default).2.1 := by unfold varI absI; grind
          have hv2 : 1 ≤ absI (X.getD j default).2.1 ∧ absI (X.getD j default).2.1 ≤ 128 := by unfold absI; omega
          refine hu _ ((has_fold _ _ _ _).2 (.inl ?_))
          rw [hv]
          exact (has_with _ _ _ hv2).2 (.inr rfl)
        · omega
        · omega
      unfold truS
      by_cases c1 : (X.getD j default).1 = 1
      · rw [if_pos c1, if_pos c1]
      · rw [if_neg c1, if_neg c1]
        by_cases c2 : (X.getD j default).1 = 2
        · rw [if_pos c2, if_pos c2, hlit c2]
        · rw [if_neg c2, if_neg c2, any_congr (l := (X.getD j default).2.2) (p := fun k => !((truT a (X.take j)).getD k.toNat default)) (q := fun k => !((truT b (X.take j)).getD k.toNat default)) fun k hk => by rw [hin k hk], any_congr (l := (X.getD j default).2.2) (p := fun k => (truT a (X.take j)).getD k.toNat default) (q := fun k => (truT b (X.take j)).getD k.toNat default) hin]
theorem eval_dep (a b : Nat × Nat) {N : Int} {X : List PN} (h : checkP N X = true) (hu : ∀ u, hasB ((varT X).getD (X.length - 1) default) u = true → hasB a u = hasB b u) : evalP a N X = evalP b N X := by
  obtain ⟨hN, hM, hF⟩ := check_facts h
  have := tru_dep a b hN hF X.length (Nat.le_refl _) (X.length - 1) (by omega) (by rw [List.take_length]; exact hu)
  rw [List.take_length] at this
  unfold evalP
  rw [this]
/-- a, but o where s is not -/
def mixS (a s o : Nat × Nat) : Nat × Nat := ((a.1 &&& s.1) ||| (o.1 &&& (2 ^ 64 - 1 - s.1)), (a.2 &&& s.2) ||| (o.2 &&& (2 ^ 64 - 1 - s.2)))
theorem mix_bit {a s o : Nat} (hs : s < 2 ^ 64) (i : Nat) (hi : i < 64) (h : s.testBit i = true) : ((a &&& s) ||| (o &&& (2 ^ 64 - 1 - s))).testBit i = a.testBit i := by
  rw [Nat.testBit_or, Nat.testBit_and, Nat.testBit_and, show 2 ^ 64 - 1 - s = 2 ^ 64 - (s + 1) by omega, Nat.testBit_two_pow_sub_succ hs, h]
  simp
theorem has_mix {a s o : Nat × Nat} (hs : okS s) (u : Int) (h : hasB s u = true) : hasB a u = hasB (mixS a s o) u := by
  unfold hasB at h ⊢
  split
  · rename_i hc
    rw [if_pos hc] at h
    exact (mix_bit hs.1 _ (by omega) h).symm
  · rename_i hc
    rw [if_neg hc] at h
    split
    · rename_i hd
      rw [if_pos hd] at h
      exact (mix_bit hs.2 _ (by omega) h).symm
    · rfl
theorem okS_mix {a s o : Nat × Nat} (ha : okS a) (ho : okS o) : okS (mixS a s o) := ⟨Nat.or_lt_two_pow (Nat.lt_of_le_of_lt Nat.and_le_left ha.1) (Nat.lt_of_le_of_lt Nat.and_le_left ho.1), Nat.or_lt_two_pow (Nat.lt_of_le_of_lt Nat.and_le_left ha.2) (Nat.lt_of_le_of_lt Nat.and_le_left ho.2)⟩
theorem nodeDepends_walk (x : NetV) (a o : Nat × Nat) (ha : okS a) (ho : okS o) (W : World) (g : GoodNet W x) (hT : Tab W) : Calls Tryd.prog 10 #[.agg ⟨encNet x⟩, sv a, sv o] W fun e w' => e = .returned (.bool true) ∧ Below W.heap.size W w' := by
  have q0 : ∀ L, RdH (heapOf W) L (heapOf W) := fun L => RdH.old fun _ hh => hh
  have cF := fun w hw => few_net g w hw
  unfold encNet at cF ⊢
  cases hf : fewP (x.vs.map pnV) with
  | false =>
    rw [hf] at cF
    refine calls_of_JC (R := heapOf W) Tryd.func10 Tryd.ntmps10 rfl rfl (heapOf_holds W) ?_
    repeat' first
      | (refine J.isJ ?_; first | (first | (refine J.o 4 ?_; first | refine J.e3 hΓ ?_ | refine J.e4 hΓ ?_) | (refine J.fc 12 ?_; refine J.call0 eFew rfl rfl (fun w hw => cF w (hw.rdH (q0 _))) ?_) | (refine J.fc 15 ?_; refine J.call0 eWorks rfl rfl (fun w hw => works_any w (hT.below hw.below)) ?_)) | (first | (refine J.o 0 ?_; refine J.ev' hΓ ?_) | refine J.nil ?_ | refine J.kd ?_ | (refine J.o 4 ?_; first | refine J.e0 hΓ ?_ | refine J.lT default hΓ ?_ | refine J.e1 hΓ ?_ | refine J.e2 hΓ ?_ | refine J.lR hΓ ?_) | (refine J.o 3 ?_; first | refine J.iA hΓ ?_ | refine J.iJ hΓ ?_ | refine J.fP hΓ ?_ | refine J.iC hΓ ?_ | refine J.ev' hΓ ?_) | (refine J.o 1 ?_; first | refine J.ad ?_ | refine J.ct ?_ | refine J.sb ?_ | refine J.mu ?_ | refine J.ng ?_ | refine J.qu ?_ | refine J.rm ?_ | refine J.s1 ?_ | refine J.sr ?_ | refine J.aW ?_ | refine J.oW ?_ | refine J.nW ?_) | (refine J.o 2 ?_; refine J.cv _ hΓ ?_) | (refine J.o 5 ?_; first | refine J.t0 hΓ ?_ | refine J.t1 hΓ ?_ | refine J.t2 hΓ ?_ | refine J.tT _ default hΓ (fun _ _ => ?_) | refine J.tT1 _ default hΓ (fun _ _ => ?_) | refine J.tT2 _ default hΓ (fun _ _ => ?_) | refine J.tT3 _ default hΓ (fun _ _ => ?_)) | (refine J.o 6 ?_; refine J.bx (fun _ => ?_)) | (refine J.o 7 ?_; refine J.al hΓ (fun _ => ?_)) | (refine J.o 8 ?_; refine J.bd hΓ ?_) | (refine J.o 9 ?_; refine J.bl hΓ (fun _ => ?_)) | (refine J.o 10 ?_; first | refine J.ls hΓ ?_ | refine J.ev' hΓ ?_) | (refine J.o 11 ?_; first | refine J.eS ?_ | refine J.xS ?_ | refine J.ev' hΓ ?_ | refine J.nT hΓ ?_) | (refine J.o 12 ?_; refine J.ix hΓ ?_) | (refine J.o 13 ?_; first | refine J.sL hΓ ?_ | refine J.sH hΓ ?_) | (refine J.o 14 ?_; refine J.mf hΓ ?_) | refine J.kn ?_) | ((fail_if_success refine J.wt ?_); refine J.gc rfl rfl (fun hc => ?_) (fun hc => ?_) <;> ((try simp only [decide_eq_true_eq, decide_eq_false_iff_not, beq_iff_eq, beq_eq_false_iff_ne, bne_iff_ne, bne_eq_false_iff_eq, Bool.not_eq_true', Bool.not_eq_false', Bool.not_eq_true, Bool.not_eq_false] at hc) <;> first | (first | (exact absurd rfl hc) | (exfalso; omega) | (exact absurd (hc.symm.trans (by assumption : _ = false)) (by decide)) | (exact absurd (hc.symm.trans (by assumption : _ = true)) (by decide))) | skip)))
      | (first | refine JC.seq ?_ | refine JC.region ?_ | refine JC.block ?_ | refine JC.ret ?_ | refine JC.exit ?_ | refine JC.skip ?_ | refine thenK.nn ?_ | refine thenK.r ?_ | refine thenK.x ?_ | refine blockK.nn ?_ | refine blockK.r ?_ | refine blockK.hit rfl ?_ | refine blockK.miss rfl ?_ | refine JC.condT rfl ?_ | refine JC.condF rfl ?_ | (refine JC.cond rfl (fun hc => ?_) (fun hc => ?_) <;> ((try simp only [decide_eq_true_eq, decide_eq_false_iff_not, beq_iff_eq, beq_eq_false_iff_ne, bne_iff_ne, bne_eq_false_iff_eq, Bool.not_eq_true', Bool.not_eq_false', Bool.not_eq_true, Bool.not_eq_false] at hc) <;> first | (first | (exact absurd rfl hc) | (exfalso; omega) | (exact absurd (hc.symm.trans (by assumption : _ = false)) (by decide)) | (exact absurd (hc.symm.trans (by assumption : _ = true)) (by decide))) | skip)) | refine drawK.nn ?_ | refine roundK.nn ?_ | refine roundK.r ?_ | refine roundK.x ?_ | refine loopK.r ?_ | refine loopK.x ?_)
      | ((refine JC.drawN [] [] (by kernel_rfl) (by kernel_rfl) ?_))
      | fail
    all_goals first | (exfalso; omega) | exact ret1f rfl rfl rfl (fun w1 hw => ⟨rfl, hw.below⟩)
  | true =>
    rw [hf] at cF
    have ni := NetIn.of g hf
    have hX : (x.vs.map pnV).length = x.vs.length := List.length_map ..
    have cV := fun w hw => vars_any x.n x.a x.c x.vs (heapOf W) ni w hw
    have cE1 := fun w hw => eval_any a ha x.n x.a x.c x.vs (heapOf W) ni w hw
    cases hC : checkP x.n (x.vs.map pnV) with
    | false =>
      rw [hC, if_neg (by decide)] at cV
      have he : evalP a x.n (x.vs.map pnV) = false := by unfold evalP; rw [hC]; rfl
      rw [he] at cE1
      refine calls_of_JC (R := heapOf W) Tryd.func10 Tryd.ntmps10 rfl rfl (heapOf_holds W) ?_
      repeat' first
        | (refine J.isJ ?_; first | (first | (refine J.o 4 ?_; first | refine J.e3 hΓ ?_ | refine J.e4 hΓ ?_) | (refine J.fc 12 ?_; refine J.call0 eFew rfl rfl (fun w hw => cF w (hw.rdH (q0 _))) ?_) | (refine J.fc 28 ?_; refine J.call1 eVarsN rfl rfl (fun w hw => cV w (hw.rdH (q0 _))) ?_; rintro _ hv ⟨av, cv, rfl, sv1⟩) | (refine J.fc 13 ?_; refine J.call0 eEval rfl rfl (fun w hw => cE1 w (hw.rdH (q0 _))) ?_) | (refine J.fc 15 ?_; refine J.call0 eWorks rfl rfl (fun w hw => works_any w (hT.below hw.below)) ?_)) | (first | (refine J.o 0 ?_; refine J.ev' hΓ ?_) | refine J.nil ?_ | refine J.kd ?_ | (refine J.o 4 ?_; first | refine J.e0 hΓ ?_ | refine J.lT default hΓ ?_ | refine J.e1 hΓ ?_ | refine J.e2 hΓ ?_ | refine J.lR hΓ ?_) | (refine J.o 3 ?_; first | refine J.iA hΓ ?_ | refine J.iJ hΓ ?_ | refine J.fP hΓ ?_ | refine J.iC hΓ ?_ | refine J.ev' hΓ ?_) | (refine J.o 1 ?_; first | refine J.ad ?_ | refine J.ct ?_ | refine J.sb ?_ | refine J.mu ?_ | refine J.ng ?_ | refine J.qu ?_ | refine J.rm ?_ | refine J.s1 ?_ | refine J.sr ?_ | refine J.aW ?_ | refine J.oW ?_ | refine J.nW ?_) | (refine J.o 2 ?_; refine J.cv _ hΓ ?_) | (refine J.o 5 ?_; first | refine J.t0 hΓ ?_ | refine J.t1 hΓ ?_ | refine J.t2 hΓ ?_ | refine J.tT _ default hΓ (fun _ _ => ?_) | refine J.tT1 _ default hΓ (fun _ _ => ?_) | refine J.tT2 _ default hΓ (fun _ _ => ?_) | refine J.tT3 _ default hΓ (fun _ _ => ?_)) | (refine J.o 6 ?_; refine J.bx (fun _ => ?_)) | (refine J.o 7 ?_; refine J.al hΓ (fun _ => ?_)) | (refine J.o 8 ?_; refine J.bd hΓ ?_) | (refine J.o 9 ?_; refine J.bl hΓ (fun _ => ?_)) | (refine J.o 10 ?_; first | refine J.ls hΓ ?_ | refine J.ev' hΓ ?_) | (refine J.o 11 ?_; first | refine J.eS ?_ | refine J.xS ?_ | refine J.ev' hΓ ?_ | refine J.nT hΓ ?_) | (refine J.o 12 ?_; refine J.ix hΓ ?_) | (refine J.o 13 ?_; first | refine J.sL hΓ ?_ | refine J.sH hΓ ?_) | (refine J.o 14 ?_; refine J.mf hΓ ?_) | refine J.kn ?_) | ((fail_if_success refine J.wt ?_); refine J.gc rfl rfl (fun hc => ?_) (fun hc => ?_) <;> ((try simp only [decide_eq_true_eq, decide_eq_false_iff_not, beq_iff_eq, beq_eq_false_iff_ne, bne_iff_ne, bne_eq_false_iff_eq, Bool.not_eq_true', Bool.not_eq_false', Bool.not_eq_true, Bool.not_eq_false] at hc) <;> first | (first | (exact absurd rfl hc) | (exfalso; omega) | (exact absurd (hc.symm.trans (by assumption : _ = false)) (by decide)) | (exact absurd (hc.symm.trans (by assumption : _ = true)) (by decide))) | skip)))
        | (first | refine JC.seq ?_ | refine JC.region ?_ | refine JC.block ?_ | refine JC.ret ?_ | refine JC.exit ?_ | refine JC.skip ?_ | refine thenK.nn ?_ | refine thenK.r ?_ | refine thenK.x ?_ | refine blockK.nn ?_ | refine blockK.r ?_ | refine blockK.hit rfl ?_ | refine blockK.miss rfl ?_ | refine JC.condT rfl ?_ | refine JC.condF rfl ?_ | (refine JC.cond rfl (fun hc => ?_) (fun hc => ?_) <;> ((try simp only [decide_eq_true_eq, decide_eq_false_iff_not, beq_iff_eq, beq_eq_false_iff_ne, bne_iff_ne, bne_eq_false_iff_eq, Bool.not_eq_true', Bool.not_eq_false', Bool.not_eq_true, Bool.not_eq_false] at hc) <;> first | (first | (exact absurd rfl hc) | (exfalso; omega) | (exact absurd (hc.symm.trans (by assumption : _ = false)) (by decide)) | (exact absurd (hc.symm.trans (by assumption : _ = true)) (by decide))) | skip)) | refine drawK.nn ?_ | refine roundK.nn ?_ | refine roundK.r ?_ | refine roundK.x ?_ | refine loopK.r ?_ | refine loopK.x ?_)
        | ((refine JC.drawN [] [] (by kernel_rfl) (by kernel_rfl) ?_))
        | fail
      all_goals first | (exfalso; omega) | exact ret1f rfl rfl rfl (fun w1 hw => ⟨rfl, hw.below⟩)
    | true =>
      obtain ⟨hN, hM, hFA⟩ := check_facts hC
      rw [hX] at hM
      rw [hC, if_pos rfl] at cV
      have hvl := varT_len (x.vs.map pnV)
      rw [hX] at hvl
      have hok := okS_d _ (okS_varT (x.vs.map pnV)) (x.vs.length - 1)
      have hmx := okS_mix (s := (varT (x.vs.map pnV)).getD (x.vs.length - 1) default) ha ho
      have hed := eval_dep a (mixS a ((varT (x.vs.map pnV)).getD (x.vs.length - 1) default) o) hC (by rw [hX]; exact fun u hu => has_mix hok u hu)
      have cE2 := fun w hw => eval_any _ hmx x.n x.a x.c x.vs (heapOf W) ni w hw
      rw [← hed] at cE2
      generalize evalP a x.n (x.vs.map pnV) = b at cE1 cE2
      clear hed
      have hx1 : ((x.vs.length : Int) - 1).toNat = x.vs.length - 1 := by omega
      have hx2 : (((varT (x.vs.map pnV)).length : Int) - 1).toNat = x.vs.length - 1 := by omega
      generalize varT (x.vs.map pnV) = T at *
      obtain ⟨ha1, ha2⟩ := ha
      obtain ⟨ho1, ho2⟩ := ho
      obtain ⟨hk1, hk2⟩ := hok
      have hb1 : a.1 &&& (T.getD (x.vs.length - 1) default).1 < 2 ^ 64 := Nat.lt_of_le_of_lt Nat.and_le_left ha1
      have hb2 : a.2 &&& (T.getD (x.vs.length - 1) default).2 < 2 ^ 64 := Nat.lt_of_le_of_lt Nat.and_le_left ha2
      have hb3 : o.1 &&& (2 ^ 64 - 1 - (T.getD (x.vs.length - 1) default).1) < 2 ^ 64 := Nat.lt_of_le_of_lt Nat.and_le_left ho1
      have hb4 : o.2 &&& (2 ^ 64 - 1 - (T.getD (x.vs.length - 1) default).2) < 2 ^ 64 := Nat.lt_of_le_of_lt Nat.and_le_left ho2
      refine calls_of_JC (R := heapOf W) Tryd.func10 Tryd.ntmps10 rfl rfl (heapOf_holds W) ?_
      repeat' first
        | (refine J.isJ ?_; first | (first | (refine J.o 4 ?_; first | refine J.e3 hΓ ?_ | refine J.e4 hΓ ?_) | (refine J.o 4 ?_; refine J.lT default hΓ ?_ (hs := sv1) (hr := RdH.hd); rw [hx2]) | (refine J.o 4 ?_; refine J.lR hΓ ?_ (hr := Rd.hd.tl.tl.tl.tl.tl)) | (refine J.fc 12 ?_; refine J.call0 eFew rfl rfl (fun w hw => cF w (hw.rdH (q0 _))) ?_) | (refine J.fc 28 ?_; refine J.call1 eVarsN rfl rfl (fun w hw => cV w (hw.rdH (q0 _))) ?_; rintro _ hv ⟨av, cv, rfl, sv1⟩) | (refine J.fc 13 ?_; refine J.call0 eEval rfl rfl (fun w hw => cE1 w (hw.rdH (q0 _))) ?_) | (refine J.fc 13 ?_; refine J.call0 eEval rfl rfl (fun w hw => cE2 w (hw.rdH (q0 _))) ?_) | (refine J.fc 15 ?_; refine J.call0 eWorks rfl rfl (fun w hw => works_any w (hT.below hw.below)) ?_)) | (first | (refine J.o 0 ?_; refine J.ev' hΓ ?_) | refine J.nil ?_ | refine J.kd ?_ | (refine J.o 4 ?_; first | refine J.e0 hΓ ?_ | refine J.lT default hΓ ?_ | refine J.e1 hΓ ?_ | refine J.e2 hΓ ?_ | refine J.lR hΓ ?_) | (refine J.o 3 ?_; first | refine J.iA hΓ ?_ | refine J.iJ hΓ ?_ | refine J.fP hΓ ?_ | refine J.iC hΓ ?_ | refine J.ev' hΓ ?_) | (refine J.o 1 ?_; first | refine J.ad ?_ | refine J.ct ?_ | refine J.sb ?_ | refine J.mu ?_ | refine J.ng ?_ | refine J.qu ?_ | refine J.rm ?_ | refine J.s1 ?_ | refine J.sr ?_ | refine J.aW ?_ | refine J.oW ?_ | refine J.nW ?_) | (refine J.o 2 ?_; refine J.cv _ hΓ ?_) | (refine J.o 5 ?_; first | refine J.t0 hΓ ?_ | refine J.t1 hΓ ?_ | refine J.t2 hΓ ?_ | refine J.tT _ default hΓ (fun _ _ => ?_) | refine J.tT1 _ default hΓ (fun _ _ => ?_) | refine J.tT2 _ default hΓ (fun _ _ => ?_) | refine J.tT3 _ default hΓ (fun _ _ => ?_)) | (refine J.o 6 ?_; refine J.bx (fun _ => ?_)) | (refine J.o 7 ?_; refine J.al hΓ (fun _ => ?_)) | (refine J.o 8 ?_; refine J.bd hΓ ?_) | (refine J.o 9 ?_; refine J.bl hΓ (fun _ => ?_)) | (refine J.o 10 ?_; first | refine J.ls hΓ ?_ | refine J.ev' hΓ ?_) | (refine J.o 11 ?_; first | refine J.eS ?_ | refine J.xS ?_ | refine J.ev' hΓ ?_ | refine J.nT hΓ ?_) | (refine J.o 12 ?_; refine J.ix hΓ ?_) | (refine J.o 13 ?_; first | refine J.sL hΓ ?_ | refine J.sH hΓ ?_) | (refine J.o 14 ?_; refine J.mf hΓ ?_) | refine J.kn ?_) | ((fail_if_success refine J.wt ?_); refine J.gc rfl rfl (fun hc => ?_) (fun hc => ?_) <;> ((try simp only [decide_eq_true_eq, decide_eq_false_iff_not, beq_iff_eq, beq_eq_false_iff_ne, bne_iff_ne, bne_eq_false_iff_eq, Bool.not_eq_true', Bool.not_eq_false', Bool.not_eq_true, Bool.not_eq_false] at hc) <;> first | (first | (exact absurd rfl hc) | (exfalso; omega) | (exact absurd (hc.symm.trans (by assumption : _ = false)) (by decide)) | (exact absurd (hc.symm.trans (by assumption : _ = true)) (by decide))) | skip)))
        | (first | refine JC.seq ?_ | refine JC.region ?_ | refine JC.block ?_ | refine JC.ret ?_ | refine JC.exit ?_ | refine JC.skip ?_ | refine thenK.nn ?_ | refine thenK.r ?_ | refine thenK.x ?_ | refine blockK.nn ?_ | refine blockK.r ?_ | refine blockK.hit rfl ?_ | refine blockK.miss rfl ?_ | refine JC.condT rfl ?_ | refine JC.condF rfl ?_ | (refine JC.cond rfl (fun hc => ?_) (fun hc => ?_) <;> ((try simp only [decide_eq_true_eq, decide_eq_false_iff_not, beq_iff_eq, beq_eq_false_iff_ne, bne_iff_ne, bne_eq_false_iff_eq, Bool.not_eq_true', Bool.not_eq_false', Bool.not_eq_true, Bool.not_eq_false] at hc) <;> first | (first | (exact absurd rfl hc) | (exfalso; omega) | (exact absurd (hc.symm.trans (by assumption : _ = false)) (by decide)) | (exact absurd (hc.symm.trans (by assumption : _ = true)) (by decide))) | skip)) | refine drawK.nn ?_ | refine roundK.nn ?_ | refine roundK.r ?_ | refine roundK.x ?_ | refine loopK.r ?_ | refine loopK.x ?_)
        | ((refine JC.drawN [] [] (by kernel_rfl) (by kernel_rfl) ?_))
        | fail
      all_goals first | (exfalso; omega) | exact ret1f rfl rfl rfl (fun w1 hw => ⟨rfl, hw.below⟩) | trace_state
end Go.Proofs.YtncnpmgohhgmfaaDoor
