/- The document's sets (chapter 3), further: List, Of, With, All, Sub, Subsets. -/
import Derived.Test.YtfegpmoephdkpaaDoorYa
namespace Go.Proofs.YtfegpmoephdkpaaDoor
open Go Go.Cx Go.RowKit
set_option linter.unusedVariables false
set_option linter.unusedSimpArgs false
set_option maxHeartbeats 4000000
attribute [local irreducible] J JC thenK blockK loopK roundK drawK retK QW Qt pel List.set Calls

/-- the variables of a set up to a number -/
def upTo (s : Nat × Nat) : Nat → List Int
  | 0 => []
  | k + 1 => upTo s k ++ (if hasB s ((k : Int) + 1) then [(k : Int) + 1] else [])
theorem upTo_len (s : Nat × Nat) : ∀ k, (upTo s k).length ≤ k
  | 0 => Nat.le_refl _
  | k + 1 => by
    have := upTo_len s k
    rw [upTo, List.length_append]
    split <;> simp <;> omega
theorem upTo_mem (s : Nat × Nat) : ∀ (k : Nat) (u : Int), u ∈ upTo s k ↔ (1 ≤ u ∧ u ≤ k ∧ hasB s u = true)
  | 0, u => by simp [upTo]; omega
  | k + 1, u => by
    rw [upTo, List.mem_append, upTo_mem s k u]
    by_cases h : hasB s ((k : Int) + 1) = true
    · rw [if_pos h, List.mem_singleton]
      constructor
      · rintro (⟨a, b, c⟩ | rfl)
        · exact ⟨a, by omega, c⟩
        · exact ⟨by omega, by omega, h⟩
      · rintro ⟨a, b, c⟩
        by_cases hu : u = k + 1
        · exact .inr hu
        · exact .inl ⟨a, by omega, c⟩
    · rw [if_neg h]
      constructor
      · rintro (⟨a, b, c⟩ | h')
        · exact ⟨a, by omega, c⟩
        · cases h'
      · rintro ⟨a, b, c⟩
        refine .inl ⟨a, ?_, c⟩
        by_cases hu : u = k + 1
        · subst hu; exact absurd c h
        · omega
theorem upTo_succ (s : Nat × Nat) (k : Nat) : upTo s (k + 1) = upTo s k ++ (if hasB s ((k : Int) + 1) then [(k : Int) + 1] else []) := rfl
theorem upTo_zero (s : Nat × Nat) : upTo s 0 = [] := rfl
attribute [local irreducible] upTo
theorem eList3 : Entr Tryd.prog 67 := Entr.of Tryd.func67 rfl rfl
set_option maxRecDepth 20000 in
theorem list3_any (s : Nat × Nat) (hok : okS s) (w : World) : Calls Tryd.prog 67 #[sv s] w (Gives (Sls encI 1 3 (upTo s 128)) w) := by
  refine calls_of_JC (R := []) Tryd.func67 Tryd.ntmps67 rfl rfl (Holds.nil _) ?_
  repeat' first
    | (refine J.isJ ?_; (first | (first | (refine J.o 0 ?_; refine J.ev' hΓ ?_) | refine J.nil ?_ | refine J.kd ?_ | (refine J.o 4 ?_; first | refine J.e0 hΓ ?_ | refine J.lT default hΓ ?_ | refine J.e1 hΓ ?_ | refine J.e2 hΓ ?_ | refine J.lR hΓ ?_) | (refine J.o 3 ?_; first | refine J.iA hΓ ?_ | refine J.iJ hΓ ?_ | refine J.fP hΓ ?_ | refine J.iC hΓ ?_ | refine J.ev' hΓ ?_) | (refine J.o 1 ?_; first | refine J.ad ?_ | refine J.ct ?_ | refine J.sb ?_ | refine J.mu ?_ | refine J.ng ?_ | refine J.qu ?_ | refine J.rm ?_ | refine J.s1 ?_ | refine J.sr ?_ | refine J.aW ?_ | refine J.oW ?_ | refine J.nW ?_) | (refine J.o 2 ?_; refine J.cv _ hΓ ?_) | (refine J.o 5 ?_; first | refine J.t0 hΓ ?_ | refine J.t1 hΓ ?_ | refine J.t2 hΓ ?_ | refine J.tT _ default hΓ (fun _ _ => ?_) | refine J.tT1 _ default hΓ (fun _ _ => ?_) | refine J.tT2 _ default hΓ (fun _ _ => ?_) | refine J.tT3 _ default hΓ (fun _ _ => ?_)) | (refine J.o 6 ?_; refine J.bx (fun _ => ?_)) | (refine J.o 7 ?_; refine J.al hΓ (fun _ => ?_)) | (refine J.o 8 ?_; refine J.bd hΓ ?_) | (refine J.o 9 ?_; refine J.bl hΓ (fun _ => ?_)) | (refine J.o 10 ?_; first | refine J.ls hΓ ?_ | refine J.ev' hΓ ?_) | (refine J.o 11 ?_; first | refine J.eS ?_ | refine J.xS ?_ | refine J.ev' hΓ ?_ | refine J.nT hΓ ?_) | (refine J.o 12 ?_; refine J.ix hΓ ?_) | (refine J.o 13 ?_; first | refine J.sL hΓ ?_ | refine J.sH hΓ ?_) | (refine J.o 14 ?_; refine J.mf hΓ ?_) | refine J.kn ?_) | ((fail_if_success refine J.wt ?_); refine J.gc rfl rfl (fun hc => ?_) (fun hc => ?_) <;> ((try simp only [decide_eq_true_eq, decide_eq_false_iff_not, beq_iff_eq, beq_eq_false_iff_ne, bne_iff_ne, bne_eq_false_iff_eq, Bool.not_eq_true', Bool.not_eq_false', Bool.not_eq_true, Bool.not_eq_false] at hc) <;> first | (first | (exact absurd rfl hc) | (exfalso; omega) | (exact absurd (hc.symm.trans (by assumption : _ = false)) (by decide)) | (exact absurd (hc.symm.trans (by assumption : _ = true)) (by decide))) | skip))))
    | (first | refine JC.seq ?_ | refine JC.region ?_ | refine JC.block ?_ | refine JC.ret ?_ | refine JC.exit ?_ | refine JC.skip ?_ | refine thenK.nn ?_ | refine thenK.r ?_ | refine thenK.x ?_ | refine blockK.nn ?_ | refine blockK.r ?_ | refine blockK.hit rfl ?_ | refine blockK.miss rfl ?_ | refine JC.condT rfl ?_ | refine JC.condF rfl ?_ | (refine JC.cond rfl (fun hc => ?_) (fun hc => ?_) <;> ((try simp only [decide_eq_true_eq, decide_eq_false_iff_not, beq_iff_eq, beq_eq_false_iff_ne, bne_iff_ne, bne_eq_false_iff_eq, Bool.not_eq_true', Bool.not_eq_false', Bool.not_eq_true, Bool.not_eq_false] at hc) <;> first | (first | (exact absurd rfl hc) | (exfalso; omega) | (exact absurd (hc.symm.trans (by assumption : _ = false)) (by decide)) | (exact absurd (hc.symm.trans (by assumption : _ = true)) (by decide))) | skip)) | (refine JC.drawA [] (by kernel_rfl) (by kernel_rfl) ?_) | refine drawK.nn ?_ | refine roundK.nn ?_ | refine roundK.r ?_ | refine roundK.x ?_ | refine loopK.r ?_ | refine loopK.x ?_)
    | fail
  refine JC.nilF ?_
  refine JC.loop (fun i => i == 3 || i == 4 || Nat.ble 5 i) (fun m g L' => ∃ (k : Nat) (a : Option Addr) (cap : Nat) (h : Heap), g 4 = .int .i64 ((k : Int) + 1) ∧ g 3 = .slice a (upTo s k).length cap ∧ k + m = 128 ∧ OwT encI 1 3 a cap (upTo s k) h ∧ L' = [h, _]) 128 ⟨0, none, 0, [], rfl, by rw [upTo_zero]; rfl, by omega, by rw [upTo_zero]; exact OwT.nil (fun _ => rfl), rfl⟩ ?_
  rintro m g L' ⟨k, a, cap, h, e4, e3, hkm, oh, rfl⟩
  refine JC.pin 4 e4 (JC.pin 3 e3 ?_)
  clear e4 e3
  have hlen := upTo_len s k
  by_cases hk : k < 128
  case neg =>
    obtain rfl : k = 128 := by omega
    repeat' first
      | (refine J.isJ ?_; (first | (first | (refine J.o 0 ?_; refine J.ev' hΓ ?_) | refine J.nil ?_ | refine J.kd ?_ | (refine J.o 4 ?_; first | refine J.e0 hΓ ?_ | refine J.lT default hΓ ?_ | refine J.e1 hΓ ?_ | refine J.e2 hΓ ?_ | refine J.lR hΓ ?_) | (refine J.o 3 ?_; first | refine J.iA hΓ ?_ | refine J.iJ hΓ ?_ | refine J.fP hΓ ?_ | refine J.iC hΓ ?_ | refine J.ev' hΓ ?_) | (refine J.o 1 ?_; first | refine J.ad ?_ | refine J.ct ?_ | refine J.sb ?_ | refine J.mu ?_ | refine J.ng ?_ | refine J.qu ?_ | refine J.rm ?_ | refine J.s1 ?_ | refine J.sr ?_ | refine J.aW ?_ | refine J.oW ?_ | refine J.nW ?_) | (refine J.o 2 ?_; refine J.cv _ hΓ ?_) | (refine J.o 5 ?_; first | refine J.t0 hΓ ?_ | refine J.t1 hΓ ?_ | refine J.t2 hΓ ?_ | refine J.tT _ default hΓ (fun _ _ => ?_) | refine J.tT1 _ default hΓ (fun _ _ => ?_) | refine J.tT2 _ default hΓ (fun _ _ => ?_) | refine J.tT3 _ default hΓ (fun _ _ => ?_)) | (refine J.o 6 ?_; refine J.bx (fun _ => ?_)) | (refine J.o 7 ?_; refine J.al hΓ (fun _ => ?_)) | (refine J.o 8 ?_; refine J.bd hΓ ?_) | (refine J.o 9 ?_; refine J.bl hΓ (fun _ => ?_)) | (refine J.o 10 ?_; first | refine J.ls hΓ ?_ | refine J.ev' hΓ ?_) | (refine J.o 11 ?_; first | refine J.eS ?_ | refine J.xS ?_ | refine J.ev' hΓ ?_ | refine J.nT hΓ ?_) | (refine J.o 12 ?_; refine J.ix hΓ ?_) | (refine J.o 13 ?_; first | refine J.sL hΓ ?_ | refine J.sH hΓ ?_) | (refine J.o 14 ?_; refine J.mf hΓ ?_) | refine J.kn ?_) | ((fail_if_success refine J.wt ?_); refine J.gc rfl rfl (fun hc => ?_) (fun hc => ?_) <;> ((try simp only [decide_eq_true_eq, decide_eq_false_iff_not, beq_iff_eq, beq_eq_false_iff_ne, bne_iff_ne, bne_eq_false_iff_eq, Bool.not_eq_true', Bool.not_eq_false', Bool.not_eq_true, Bool.not_eq_false] at hc) <;> first | (first | (exact absurd rfl hc) | (exfalso; omega) | (exact absurd (hc.symm.trans (by assumption : _ = false)) (by decide)) | (exact absurd (hc.symm.trans (by assumption : _ = true)) (by decide))) | skip))))
      | (first | refine JC.seq ?_ | refine JC.region ?_ | refine JC.block ?_ | refine JC.ret ?_ | refine JC.exit ?_ | refine JC.skip ?_ | refine thenK.nn ?_ | refine thenK.r ?_ | refine thenK.x ?_ | refine blockK.nn ?_ | refine blockK.r ?_ | refine blockK.hit rfl ?_ | refine blockK.miss rfl ?_ | refine JC.condT rfl ?_ | refine JC.condF rfl ?_ | (refine JC.cond rfl (fun hc => ?_) (fun hc => ?_) <;> ((try simp only [decide_eq_true_eq, decide_eq_false_iff_not, beq_iff_eq, beq_eq_false_iff_ne, bne_iff_ne, bne_eq_false_iff_eq, Bool.not_eq_true', Bool.not_eq_false', Bool.not_eq_true, Bool.not_eq_false] at hc) <;> first | (first | (exact absurd rfl hc) | (exfalso; omega) | (exact absurd (hc.symm.trans (by assumption : _ = false)) (by decide)) | (exact absurd (hc.symm.trans (by assumption : _ = true)) (by decide))) | skip)) | (refine JC.drawA [] (by kernel_rfl) (by kernel_rfl) ?_) | refine drawK.nn ?_ | refine roundK.nn ?_ | refine roundK.r ?_ | refine roundK.x ?_ | refine loopK.r ?_ | refine loopK.x ?_)
      | fail
    all_goals first | (exfalso; omega) | exact ret1f rfl rfl rfl (fun w1 hw => Gives.of hw ⟨_, _, rfl, oh⟩)
  have hu := upTo_succ s k
  have cH := fun w => refHas_any s hok ((k : Int) + 1) w
  cases hb : hasB s ((k : Int) + 1) with
  | true =>
    rw [hb, if_pos rfl] at hu
    rw [hb] at cH
    repeat' first
      | (refine J.isJ ?_; first | (first | (refine J.o 0 ?_; refine J.ev' hΓ ?_) | refine J.nil ?_ | refine J.kd ?_ | (refine J.o 4 ?_; first | refine J.e0 hΓ ?_ | refine J.lT default hΓ ?_ | refine J.e1 hΓ ?_ | refine J.e2 hΓ ?_ | refine J.lR hΓ ?_) | (refine J.o 3 ?_; first | refine J.iA hΓ ?_ | refine J.iJ hΓ ?_ | refine J.fP hΓ ?_ | refine J.iC hΓ ?_ | refine J.ev' hΓ ?_) | (refine J.o 1 ?_; first | refine J.ad ?_ | refine J.ct ?_ | refine J.sb ?_ | refine J.mu ?_ | refine J.ng ?_ | refine J.qu ?_ | refine J.rm ?_ | refine J.s1 ?_ | refine J.sr ?_ | refine J.aW ?_ | refine J.oW ?_ | refine J.nW ?_) | (refine J.o 2 ?_; refine J.cv _ hΓ ?_) | (refine J.o 5 ?_; first | refine J.t0 hΓ ?_ | refine J.t1 hΓ ?_ | refine J.t2 hΓ ?_ | refine J.tT _ default hΓ (fun _ _ => ?_) | refine J.tT1 _ default hΓ (fun _ _ => ?_) | refine J.tT2 _ default hΓ (fun _ _ => ?_) | refine J.tT3 _ default hΓ (fun _ _ => ?_)) | (refine J.o 6 ?_; refine J.bx (fun _ => ?_)) | (refine J.o 7 ?_; refine J.al hΓ (fun _ => ?_)) | (refine J.o 8 ?_; refine J.bd hΓ ?_) | (refine J.o 9 ?_; refine J.bl hΓ (fun _ => ?_)) | (refine J.o 10 ?_; first | refine J.ls hΓ ?_ | refine J.ev' hΓ ?_) | (refine J.o 11 ?_; first | refine J.eS ?_ | refine J.xS ?_ | refine J.ev' hΓ ?_ | refine J.nT hΓ ?_) | (refine J.o 12 ?_; refine J.ix hΓ ?_) | (refine J.o 13 ?_; first | refine J.sL hΓ ?_ | refine J.sH hΓ ?_) | (refine J.o 14 ?_; refine J.mf hΓ ?_) | refine J.kn ?_) | (first | (refine J.fc 38 ?_; refine J.call0 eHasR rfl rfl (fun w hw => cH w) ?_) | (refine J.app1 (enc := encI) [(k : Int) + 1] hΓ rfl rfl rfl rfl rfl rfl rfl oh rfl rfl rfl rfl (by omega) (by omega) (by omega) (fun a3 cap3 h3 o3 => ?_))) | ((fail_if_success refine J.wt ?_); refine J.gc rfl rfl (fun hc => ?_) (fun hc => ?_) <;> ((try simp only [decide_eq_true_eq, decide_eq_false_iff_not, beq_iff_eq, beq_eq_false_iff_ne, bne_iff_ne, bne_eq_false_iff_eq, Bool.not_eq_true', Bool.not_eq_false', Bool.not_eq_true, Bool.not_eq_false] at hc) <;> first | (first | (exact absurd rfl hc) | (exfalso; omega) | (exact absurd (hc.symm.trans (by assumption : _ = false)) (by decide)) | (exact absurd (hc.symm.trans (by assumption : _ = true)) (by decide))) | skip)))
      | (first | refine JC.seq ?_ | refine JC.region ?_ | refine JC.block ?_ | refine JC.ret ?_ | refine JC.exit ?_ | refine JC.skip ?_ | refine thenK.nn ?_ | refine thenK.r ?_ | refine thenK.x ?_ | refine blockK.nn ?_ | refine blockK.r ?_ | refine blockK.hit rfl ?_ | refine blockK.miss rfl ?_ | refine JC.condT rfl ?_ | refine JC.condF rfl ?_ | (refine JC.cond rfl (fun hc => ?_) (fun hc => ?_) <;> ((try simp only [decide_eq_true_eq, decide_eq_false_iff_not, beq_iff_eq, beq_eq_false_iff_ne, bne_iff_ne, bne_eq_false_iff_eq, Bool.not_eq_true', Bool.not_eq_false', Bool.not_eq_true, Bool.not_eq_false] at hc) <;> first | (first | (exact absurd rfl hc) | (exfalso; omega) | (exact absurd (hc.symm.trans (by assumption : _ = false)) (by decide)) | (exact absurd (hc.symm.trans (by assumption : _ = true)) (by decide))) | skip)) | (refine JC.drawA [] (by kernel_rfl) (by kernel_rfl) ?_) | refine drawK.nn ?_ | refine roundK.nn ?_ | refine roundK.r ?_ | refine roundK.x ?_ | refine loopK.r ?_ | refine loopK.x ?_)
      | fail
    all_goals first | (exfalso; omega) | skip
    all_goals refine loopK.nn (m - 1) (by omega) (by repeat (first | refine Ag.upd rfl ?_ | exact Ag.hv)) ⟨k + 1, _, _, _, ?_, ?_, by omega, by rw [hu]; exact o3, rfl⟩
    · show Value.int .i64 _ = _; congr 1
    · rw [hu]; show Value.slice _ _ _ = _; congr 1; simp
  | false =>
    rw [hb, if_neg (by decide), List.append_nil] at hu
    rw [hb] at cH
    repeat' first
      | (refine J.isJ ?_; first | (first | (refine J.o 0 ?_; refine J.ev' hΓ ?_) | refine J.nil ?_ | refine J.kd ?_ | (refine J.o 4 ?_; first | refine J.e0 hΓ ?_ | refine J.lT default hΓ ?_ | refine J.e1 hΓ ?_ | refine J.e2 hΓ ?_ | refine J.lR hΓ ?_) | (refine J.o 3 ?_; first | refine J.iA hΓ ?_ | refine J.iJ hΓ ?_ | refine J.fP hΓ ?_ | refine J.iC hΓ ?_ | refine J.ev' hΓ ?_) | (refine J.o 1 ?_; first | refine J.ad ?_ | refine J.ct ?_ | refine J.sb ?_ | refine J.mu ?_ | refine J.ng ?_ | refine J.qu ?_ | refine J.rm ?_ | refine J.s1 ?_ | refine J.sr ?_ | refine J.aW ?_ | refine J.oW ?_ | refine J.nW ?_) | (refine J.o 2 ?_; refine J.cv _ hΓ ?_) | (refine J.o 5 ?_; first | refine J.t0 hΓ ?_ | refine J.t1 hΓ ?_ | refine J.t2 hΓ ?_ | refine J.tT _ default hΓ (fun _ _ => ?_) | refine J.tT1 _ default hΓ (fun _ _ => ?_) | refine J.tT2 _ default hΓ (fun _ _ => ?_) | refine J.tT3 _ default hΓ (fun _ _ => ?_)) | (refine J.o 6 ?_; refine J.bx (fun _ => ?_)) | (refine J.o 7 ?_; refine J.al hΓ (fun _ => ?_)) | (refine J.o 8 ?_; refine J.bd hΓ ?_) | (refine J.o 9 ?_; refine J.bl hΓ (fun _ => ?_)) | (refine J.o 10 ?_; first | refine J.ls hΓ ?_ | refine J.ev' hΓ ?_) | (refine J.o 11 ?_; first | refine J.eS ?_ | refine J.xS ?_ | refine J.ev' hΓ ?_ | refine J.nT hΓ ?_) | (refine J.o 12 ?_; refine J.ix hΓ ?_) | (refine J.o 13 ?_; first | refine J.sL hΓ ?_ | refine J.sH hΓ ?_) | (refine J.o 14 ?_; refine J.mf hΓ ?_) | refine J.kn ?_) | ((refine J.fc 38 ?_; refine J.call0 eHasR rfl rfl (fun w hw => cH w) ?_)) | ((fail_if_success refine J.wt ?_); refine J.gc rfl rfl (fun hc => ?_) (fun hc => ?_) <;> ((try simp only [decide_eq_true_eq, decide_eq_false_iff_not, beq_iff_eq, beq_eq_false_iff_ne, bne_iff_ne, bne_eq_false_iff_eq, Bool.not_eq_true', Bool.not_eq_false', Bool.not_eq_true, Bool.not_eq_false] at hc) <;> first | (first | (exact absurd rfl hc) | (exfalso; omega) | (exact absurd (hc.symm.trans (by assumption : _ = false)) (by decide)) | (exact absurd (hc.symm.trans (by assumption : _ = true)) (by decide))) | skip)))
      | (first | refine JC.seq ?_ | refine JC.region ?_ | refine JC.block ?_ | refine JC.ret ?_ | refine JC.exit ?_ | refine JC.skip ?_ | refine thenK.nn ?_ | refine thenK.r ?_ | refine thenK.x ?_ | refine blockK.nn ?_ | refine blockK.r ?_ | refine blockK.hit rfl ?_ | refine blockK.miss rfl ?_ | refine JC.condT rfl ?_ | refine JC.condF rfl ?_ | (refine JC.cond rfl (fun hc => ?_) (fun hc => ?_) <;> ((try simp only [decide_eq_true_eq, decide_eq_false_iff_not, beq_iff_eq, beq_eq_false_iff_ne, bne_iff_ne, bne_eq_false_iff_eq, Bool.not_eq_true', Bool.not_eq_false', Bool.not_eq_true, Bool.not_eq_false] at hc) <;> first | (first | (exact absurd rfl hc) | (exfalso; omega) | (exact absurd (hc.symm.trans (by assumption : _ = false)) (by decide)) | (exact absurd (hc.symm.trans (by assumption : _ = true)) (by decide))) | skip)) | (refine JC.drawA [] (by kernel_rfl) (by kernel_rfl) ?_) | refine drawK.nn ?_ | refine roundK.nn ?_ | refine roundK.r ?_ | refine roundK.x ?_ | refine loopK.r ?_ | refine loopK.x ?_)
      | fail
    all_goals first | (exfalso; omega) | skip
    all_goals refine loopK.nn (m - 1) (by omega) (by repeat (first | refine Ag.upd rfl ?_ | exact Ag.hv)) ⟨k + 1, _, _, _, ?_, ?_, by omega, by rw [hu]; exact oh, rfl⟩
    · show Value.int .i64 _ = _; congr 1
    · rw [hu]; rfl

/-- the numbers of a list, noted in a row of truths -/
def mark : List Int → List Bool → List Bool
  | [], x => x
  | v :: l, x => mark l (if 1 ≤ v ∧ v ≤ 128 then x.set v.toNat true else x)
theorem mark_len : ∀ (l : List Int) (x : List Bool), (mark l x).length = x.length
  | [], _ => rfl
  | v :: l, x => by rw [mark, mark_len l]; split <;> simp
theorem mark_get : ∀ (l : List Int) (x : List Bool) (u : Int), x.length = 129 → 1 ≤ u → u ≤ 128 → ((mark l x).getD u.toNat false = true ↔ x.getD u.toNat false = true ∨ u ∈ l)
  | [], x, u, _, _, _ => by simp [mark]
  | v :: l, x, u, hx, h1, h2 => by
    rw [mark]
    by_cases hv : 1 ≤ v ∧ v ≤ 128
    · rw [if_pos hv, mark_get l _ u (by rw [List.length_set]; exact hx) h1 h2]
      have hg : (x.set v.toNat true).getD u.toNat false = if v.toNat = u.toNat then true else x.getD u.toNat false := by
        rw [List.getD_eq_getElem?_getD, List.getElem?_set, List.getD_eq_getElem?_getD]
        by_cases he : v.toNat = u.toNat
        · rw [if_pos he, if_pos (by omega), if_pos he]; rfl
        · rw [if_neg he, if_neg he]
      rw [hg]
      by_cases he : v = u
      · subst he; rw [if_pos rfl]; simp
      · rw [if_neg (by omega), List.mem_cons]
        constructor
        · rintro (h | h)
          · exact .inl h
          · exact .inr (.inr h)
        · rintro (h | h | h)
          · exact .inl h
          · exact absurd h.symm he
          · exact .inr h
    · rw [if_neg hv, mark_get l x u hx h1 h2, List.mem_cons]
      constructor
      · rintro (h | h)
        · exact .inl h
        · exact .inr (.inr h)
      · rintro (h | h | h)
        · exact .inl h
        · omega
        · exact .inr h
def ofP (l : List Int) : Nat × Nat := setP (mark l (List.replicate 129 false))
theorem ofP_ok (l : List Int) : okS (ofP l) := setP_ok _
theorem ofP_has (l : List Int) (u : Int) : hasB (ofP l) u = true ↔ 1 ≤ u ∧ u ≤ 128 ∧ u ∈ l := by
  unfold ofP
  rw [setP_has _ (by rw [mark_len]; simp)]
  constructor
  · rintro ⟨h1, h2, h3⟩
    rcases (mark_get l _ u (by simp) h1 h2).1 h3 with h | h
    · rw [List.getD_eq_getElem?_getD, List.getElem?_replicate] at h
      split at h <;> cases h
    · exact ⟨h1, h2, h⟩
  · rintro ⟨h1, h2, h3⟩
    exact ⟨h1, h2, (mark_get l _ u (by simp) h1 h2).2 (.inr h3)⟩
theorem with_ofP (s : Nat × Nat) (hok : okS s) (v : Int) (hv : 1 ≤ v ∧ v ≤ 128) : ofP (upTo s 128 ++ [v]) = withS s v := by
  refine set_ext (ofP_ok _) (ok_with hok v) (fun u h1 h2 => ?_)
  have a := ofP_has (upTo s 128 ++ [v]) u
  have b := has_with s v u hv
  rw [List.mem_append, upTo_mem, List.mem_singleton] at a
  cases h3 : hasB (ofP (upTo s 128 ++ [v])) u <;> cases h4 : hasB (withS s v) u <;> first | rfl | (exfalso; simp_all)
theorem eOf3 : Entr Tryd.prog 66 := Entr.of Tryd.func66 rfl rfl
theorem of3_any (a : Option Addr) (cap : Nat) (l : List Int) (h : Heap) (hs : SlT encI 1 a l h) (hl : l.length ≤ 1000000) (w : World) (hw : Holds h w) :
    Calls Tryd.prog 66 #[.slice a l.length cap] w fun e w' => e = .returned (sv (ofP l)) ∧ Below w.heap.size w w' := by
  refine calls_of_JC (R := h) Tryd.func66 Tryd.ntmps66 rfl rfl (hw) ?_
  repeat' first
    | (refine J.isJ ?_; first | (first | (refine J.o 0 ?_; refine J.ev' hΓ ?_) | refine J.nil ?_ | refine J.kd ?_ | (refine J.o 4 ?_; first | refine J.e0 hΓ ?_ | refine J.lT default hΓ ?_ | refine J.e1 hΓ ?_ | refine J.e2 hΓ ?_ | refine J.lR hΓ ?_) | (refine J.o 3 ?_; first | refine J.iA hΓ ?_ | refine J.iJ hΓ ?_ | refine J.fP hΓ ?_ | refine J.iC hΓ ?_ | refine J.ev' hΓ ?_) | (refine J.o 1 ?_; first | refine J.ad ?_ | refine J.ct ?_ | refine J.sb ?_ | refine J.mu ?_ | refine J.ng ?_ | refine J.qu ?_ | refine J.rm ?_ | refine J.s1 ?_ | refine J.sr ?_ | refine J.aW ?_ | refine J.oW ?_ | refine J.nW ?_) | (refine J.o 2 ?_; refine J.cv _ hΓ ?_) | (refine J.o 5 ?_; first | refine J.t0 hΓ ?_ | refine J.t1 hΓ ?_ | refine J.t2 hΓ ?_ | refine J.tT _ default hΓ (fun _ _ => ?_) | refine J.tT1 _ default hΓ (fun _ _ => ?_) | refine J.tT2 _ default hΓ (fun _ _ => ?_) | refine J.tT3 _ default hΓ (fun _ _ => ?_)) | (refine J.o 6 ?_; refine J.bx (fun _ => ?_)) | (refine J.o 7 ?_; refine J.al hΓ (fun _ => ?_)) | (refine J.o 8 ?_; refine J.bd hΓ ?_) | (refine J.o 9 ?_; refine J.bl hΓ (fun _ => ?_)) | (refine J.o 10 ?_; first | refine J.ls hΓ ?_ | refine J.ev' hΓ ?_) | (refine J.o 11 ?_; first | refine J.eS ?_ | refine J.xS ?_ | refine J.ev' hΓ ?_ | refine J.nT hΓ ?_) | (refine J.o 12 ?_; refine J.ix hΓ ?_) | (refine J.o 13 ?_; first | refine J.sL hΓ ?_ | refine J.sH hΓ ?_) | (refine J.o 14 ?_; refine J.mf hΓ ?_) | refine J.kn ?_) | ((refine J.fc 68 ?_; refine J.call1 eNone3 rfl rfl (fun w hw => none_any w) ?_; rintro _ hx ⟨bx, rfl, ox⟩)) | ((fail_if_success refine J.wt ?_); refine J.gc rfl rfl (fun hc => ?_) (fun hc => ?_) <;> ((try simp only [decide_eq_true_eq, decide_eq_false_iff_not, beq_iff_eq, beq_eq_false_iff_ne, bne_iff_ne, bne_eq_false_iff_eq, Bool.not_eq_true', Bool.not_eq_false', Bool.not_eq_true, Bool.not_eq_false] at hc) <;> first | (first | (exact absurd rfl hc) | (exfalso; omega) | (exact absurd (hc.symm.trans (by assumption : _ = false)) (by decide)) | (exact absurd (hc.symm.trans (by assumption : _ = true)) (by decide))) | skip)))
    | (first | refine JC.seq ?_ | refine JC.region ?_ | refine JC.block ?_ | refine JC.ret ?_ | refine JC.exit ?_ | refine JC.skip ?_ | refine thenK.nn ?_ | refine thenK.r ?_ | refine thenK.x ?_ | refine blockK.nn ?_ | refine blockK.r ?_ | refine blockK.hit rfl ?_ | refine blockK.miss rfl ?_ | refine JC.condT rfl ?_ | refine JC.condF rfl ?_ | (refine JC.cond rfl (fun hc => ?_) (fun hc => ?_) <;> ((try simp only [decide_eq_true_eq, decide_eq_false_iff_not, beq_iff_eq, beq_eq_false_iff_ne, bne_iff_ne, bne_eq_false_iff_eq, Bool.not_eq_true', Bool.not_eq_false', Bool.not_eq_true, Bool.not_eq_false] at hc) <;> first | (first | (exact absurd rfl hc) | (exfalso; omega) | (exact absurd (hc.symm.trans (by assumption : _ = false)) (by decide)) | (exact absurd (hc.symm.trans (by assumption : _ = true)) (by decide))) | skip)) | (refine JC.drawA [] (by kernel_rfl) (by kernel_rfl) ?_) | refine drawK.nn ?_ | refine roundK.nn ?_ | refine roundK.r ?_ | refine roundK.x ?_ | refine loopK.r ?_ | refine loopK.x ?_)
    | fail
  refine JC.loop (fun i => i == 4 || Nat.ble 6 i) (fun m g L' => ∃ (k : Nat) (x : List Bool) (hx : Heap), g 4 = .int .i64 (k : Int) ∧ k + m = l.length ∧ x.length = 129 ∧ mark (l.drop k) x = mark l (List.replicate 129 false) ∧ OwT encBo 1 4 (some ⟨bx, 0, none⟩) 129 x hx ∧ L' = [hx, _]) l.length ⟨0, _, _, rfl, by omega, by simp, rfl, ox, rfl⟩ ?_
  rintro m g L' ⟨k, x, hx, e4, hkm, hxl, hch, ox', rfl⟩
  refine JC.pin 4 e4 ?_
  clear e4 ox
  rcases Nat.lt_or_ge k l.length with hk | hk
  case inr =>
    rw [List.drop_eq_nil_of_le hk, mark] at hch
    have cS := fun w hw => set_any (some ⟨bx, 0, none⟩) 129 x hx ox'.sl hxl w hw
    rw [hxl, hch] at cS
    repeat' first
      | (refine J.isJ ?_; first | (first | (refine J.o 0 ?_; refine J.ev' hΓ ?_) | refine J.nil ?_ | refine J.kd ?_ | (refine J.o 4 ?_; first | refine J.e0 hΓ ?_ | refine J.lT default hΓ ?_ | refine J.e1 hΓ ?_ | refine J.e2 hΓ ?_ | refine J.lR hΓ ?_) | (refine J.o 3 ?_; first | refine J.iA hΓ ?_ | refine J.iJ hΓ ?_ | refine J.fP hΓ ?_ | refine J.iC hΓ ?_ | refine J.ev' hΓ ?_) | (refine J.o 1 ?_; first | refine J.ad ?_ | refine J.ct ?_ | refine J.sb ?_ | refine J.mu ?_ | refine J.ng ?_ | refine J.qu ?_ | refine J.rm ?_ | refine J.s1 ?_ | refine J.sr ?_ | refine J.aW ?_ | refine J.oW ?_ | refine J.nW ?_) | (refine J.o 2 ?_; refine J.cv _ hΓ ?_) | (refine J.o 5 ?_; first | refine J.t0 hΓ ?_ | refine J.t1 hΓ ?_ | refine J.t2 hΓ ?_ | refine J.tT _ default hΓ (fun _ _ => ?_) | refine J.tT1 _ default hΓ (fun _ _ => ?_) | refine J.tT2 _ default hΓ (fun _ _ => ?_) | refine J.tT3 _ default hΓ (fun _ _ => ?_)) | (refine J.o 6 ?_; refine J.bx (fun _ => ?_)) | (refine J.o 7 ?_; refine J.al hΓ (fun _ => ?_)) | (refine J.o 8 ?_; refine J.bd hΓ ?_) | (refine J.o 9 ?_; refine J.bl hΓ (fun _ => ?_)) | (refine J.o 10 ?_; first | refine J.ls hΓ ?_ | refine J.ev' hΓ ?_) | (refine J.o 11 ?_; first | refine J.eS ?_ | refine J.xS ?_ | refine J.ev' hΓ ?_ | refine J.nT hΓ ?_) | (refine J.o 12 ?_; refine J.ix hΓ ?_) | (refine J.o 13 ?_; first | refine J.sL hΓ ?_ | refine J.sH hΓ ?_) | (refine J.o 14 ?_; refine J.mf hΓ ?_) | refine J.kn ?_) | ((refine J.fc 69 ?_; refine J.call0 eSet3 rfl rfl (fun w hw => cS w (hw.rdH (by first | exact RdH.hd | exact RdH.hd.tl | exact RdH.hd.tl.tl | exact RdH.hd.tl.tl.tl | exact RdH.hd.tl.tl.tl.tl | exact RdH.hd.tl.tl.tl.tl.tl | exact RdH.hd.tl.tl.tl.tl.tl.tl | exact RdH.hd.tl.tl.tl.tl.tl.tl.tl | exact RdH.old (fun _ hh => hh) | assumption))) ?_)) | ((fail_if_success refine J.wt ?_); refine J.gc rfl rfl (fun hc => ?_) (fun hc => ?_) <;> ((try simp only [decide_eq_true_eq, decide_eq_false_iff_not, beq_iff_eq, beq_eq_false_iff_ne, bne_iff_ne, bne_eq_false_iff_eq, Bool.not_eq_true', Bool.not_eq_false', Bool.not_eq_true, Bool.not_eq_false] at hc) <;> first | (first | (exact absurd rfl hc) | (exfalso; omega) | (exact absurd (hc.symm.trans (by assumption : _ = false)) (by decide)) | (exact absurd (hc.symm.trans (by assumption : _ = true)) (by decide))) | skip)))
      | (first | refine JC.seq ?_ | refine JC.region ?_ | refine JC.block ?_ | refine JC.ret ?_ | refine JC.exit ?_ | refine JC.skip ?_ | refine thenK.nn ?_ | refine thenK.r ?_ | refine thenK.x ?_ | refine blockK.nn ?_ | refine blockK.r ?_ | refine blockK.hit rfl ?_ | refine blockK.miss rfl ?_ | refine JC.condT rfl ?_ | refine JC.condF rfl ?_ | (refine JC.cond rfl (fun hc => ?_) (fun hc => ?_) <;> ((try simp only [decide_eq_true_eq, decide_eq_false_iff_not, beq_iff_eq, beq_eq_false_iff_ne, bne_iff_ne, bne_eq_false_iff_eq, Bool.not_eq_true', Bool.not_eq_false', Bool.not_eq_true, Bool.not_eq_false] at hc) <;> first | (first | (exact absurd rfl hc) | (exfalso; omega) | (exact absurd (hc.symm.trans (by assumption : _ = false)) (by decide)) | (exact absurd (hc.symm.trans (by assumption : _ = true)) (by decide))) | skip)) | (refine JC.drawA [] (by kernel_rfl) (by kernel_rfl) ?_) | refine drawK.nn ?_ | refine roundK.nn ?_ | refine roundK.r ?_ | refine roundK.x ?_ | refine loopK.r ?_ | refine loopK.x ?_)
      | fail
    all_goals first | (exfalso; omega) | exact retC hΓ rfl rfl rfl (Rd.tl Rd.hd) rfl (fun w1 hw => ⟨rfl, hw.below⟩)
  rw [drop_one l k hk, mark] at hch
  by_cases hv : 1 ≤ l.getD k default ∧ l.getD k default ≤ 128
  · rw [if_pos hv] at hch
    obtain ⟨v1, v2⟩ := hv
    repeat' first
      | (refine J.isJ ?_; (first | (first | (refine J.o 0 ?_; refine J.ev' hΓ ?_) | refine J.nil ?_ | refine J.kd ?_ | (refine J.o 4 ?_; first | refine J.e0 hΓ ?_ | refine J.lT default hΓ ?_ | refine J.e1 hΓ ?_ | refine J.e2 hΓ ?_ | refine J.lR hΓ ?_) | (refine J.o 3 ?_; first | refine J.iA hΓ ?_ | refine J.iJ hΓ ?_ | refine J.fP hΓ ?_ | refine J.iC hΓ ?_ | refine J.ev' hΓ ?_) | (refine J.o 1 ?_; first | refine J.ad ?_ | refine J.ct ?_ | refine J.sb ?_ | refine J.mu ?_ | refine J.ng ?_ | refine J.qu ?_ | refine J.rm ?_ | refine J.s1 ?_ | refine J.sr ?_ | refine J.aW ?_ | refine J.oW ?_ | refine J.nW ?_) | (refine J.o 2 ?_; refine J.cv _ hΓ ?_) | (refine J.o 5 ?_; first | refine J.t0 hΓ ?_ | refine J.t1 hΓ ?_ | refine J.t2 hΓ ?_ | refine J.tT _ default hΓ (fun _ _ => ?_) | refine J.tT1 _ default hΓ (fun _ _ => ?_) | refine J.tT2 _ default hΓ (fun _ _ => ?_) | refine J.tT3 _ default hΓ (fun _ _ => ?_)) | (refine J.o 6 ?_; refine J.bx (fun _ => ?_)) | (refine J.o 7 ?_; refine J.al hΓ (fun _ => ?_)) | (refine J.o 8 ?_; refine J.bd hΓ ?_) | (refine J.o 9 ?_; refine J.bl hΓ (fun _ => ?_)) | (refine J.o 10 ?_; first | refine J.ls hΓ ?_ | refine J.ev' hΓ ?_) | (refine J.o 11 ?_; first | refine J.eS ?_ | refine J.xS ?_ | refine J.ev' hΓ ?_ | refine J.nT hΓ ?_) | (refine J.o 12 ?_; refine J.ix hΓ ?_) | (refine J.o 13 ?_; first | refine J.sL hΓ ?_ | refine J.sH hΓ ?_) | (refine J.o 14 ?_; refine J.mf hΓ ?_) | refine J.kn ?_) | ((fail_if_success refine J.wt ?_); refine J.gc rfl rfl (fun hc => ?_) (fun hc => ?_) <;> ((try simp only [decide_eq_true_eq, decide_eq_false_iff_not, beq_iff_eq, beq_eq_false_iff_ne, bne_iff_ne, bne_eq_false_iff_eq, Bool.not_eq_true', Bool.not_eq_false', Bool.not_eq_true, Bool.not_eq_false] at hc) <;> first | (first | (exact absurd rfl hc) | (exfalso; omega) | (exact absurd (hc.symm.trans (by assumption : _ = false)) (by decide)) | (exact absurd (hc.symm.trans (by assumption : _ = true)) (by decide))) | skip))))
      | (first | refine JC.seq ?_ | refine JC.region ?_ | refine JC.block ?_ | refine JC.ret ?_ | refine JC.exit ?_ | refine JC.skip ?_ | refine thenK.nn ?_ | refine thenK.r ?_ | refine thenK.x ?_ | refine blockK.nn ?_ | refine blockK.r ?_ | refine blockK.hit rfl ?_ | refine blockK.miss rfl ?_ | refine JC.condT rfl ?_ | refine JC.condF rfl ?_ | (refine JC.cond rfl (fun hc => ?_) (fun hc => ?_) <;> ((try simp only [decide_eq_true_eq, decide_eq_false_iff_not, beq_iff_eq, beq_eq_false_iff_ne, bne_iff_ne, bne_eq_false_iff_eq, Bool.not_eq_true', Bool.not_eq_false', Bool.not_eq_true, Bool.not_eq_false] at hc) <;> first | (first | (exact absurd rfl hc) | (exfalso; omega) | (exact absurd (hc.symm.trans (by assumption : _ = false)) (by decide)) | (exact absurd (hc.symm.trans (by assumption : _ = true)) (by decide))) | skip)) | (refine JC.drawA [] (by kernel_rfl) (by kernel_rfl) ?_) | refine drawK.nn ?_ | refine roundK.nn ?_ | refine roundK.r ?_ | refine roundK.x ?_ | refine loopK.r ?_ | refine loopK.x ?_)
      | fail
    all_goals first | (exfalso; omega) | skip
    all_goals refine loopK.nn (m - 1) (by omega) (by repeat (first | refine Ag.upd rfl ?_ | exact Ag.hv)) ⟨k + 1, _, _, ?_, by omega, ?_, hch, by assumption, rfl⟩
    · show Value.int .i64 _ = _; congr 1
    · rw [List.length_set]; exact hxl
  · rw [if_neg hv] at hch
    have hv' : l.getD k default < 1 ∨ 128 < l.getD k default := by omega
    repeat' first
      | (refine J.isJ ?_; (first | (first | (refine J.o 0 ?_; refine J.ev' hΓ ?_) | refine J.nil ?_ | refine J.kd ?_ | (refine J.o 4 ?_; first | refine J.e0 hΓ ?_ | refine J.lT default hΓ ?_ | refine J.e1 hΓ ?_ | refine J.e2 hΓ ?_ | refine J.lR hΓ ?_) | (refine J.o 3 ?_; first | refine J.iA hΓ ?_ | refine J.iJ hΓ ?_ | refine J.fP hΓ ?_ | refine J.iC hΓ ?_ | refine J.ev' hΓ ?_) | (refine J.o 1 ?_; first | refine J.ad ?_ | refine J.ct ?_ | refine J.sb ?_ | refine J.mu ?_ | refine J.ng ?_ | refine J.qu ?_ | refine J.rm ?_ | refine J.s1 ?_ | refine J.sr ?_ | refine J.aW ?_ | refine J.oW ?_ | refine J.nW ?_) | (refine J.o 2 ?_; refine J.cv _ hΓ ?_) | (refine J.o 5 ?_; first | refine J.t0 hΓ ?_ | refine J.t1 hΓ ?_ | refine J.t2 hΓ ?_ | refine J.tT _ default hΓ (fun _ _ => ?_) | refine J.tT1 _ default hΓ (fun _ _ => ?_) | refine J.tT2 _ default hΓ (fun _ _ => ?_) | refine J.tT3 _ default hΓ (fun _ _ => ?_)) | (refine J.o 6 ?_; refine J.bx (fun _ => ?_)) | (refine J.o 7 ?_; refine J.al hΓ (fun _ => ?_)) | (refine J.o 8 ?_; refine J.bd hΓ ?_) | (refine J.o 9 ?_; refine J.bl hΓ (fun _ => ?_)) | (refine J.o 10 ?_; first | refine J.ls hΓ ?_ | refine J.ev' hΓ ?_) | (refine J.o 11 ?_; first | refine J.eS ?_ | refine J.xS ?_ | refine J.ev' hΓ ?_ | refine J.nT hΓ ?_) | (refine J.o 12 ?_; refine J.ix hΓ ?_) | (refine J.o 13 ?_; first | refine J.sL hΓ ?_ | refine J.sH hΓ ?_) | (refine J.o 14 ?_; refine J.mf hΓ ?_) | refine J.kn ?_) | ((fail_if_success refine J.wt ?_); refine J.gc rfl rfl (fun hc => ?_) (fun hc => ?_) <;> ((try simp only [decide_eq_true_eq, decide_eq_false_iff_not, beq_iff_eq, beq_eq_false_iff_ne, bne_iff_ne, bne_eq_false_iff_eq, Bool.not_eq_true', Bool.not_eq_false', Bool.not_eq_true, Bool.not_eq_false] at hc) <;> first | (first | (exact absurd rfl hc) | (exfalso; omega) | (exact absurd (hc.symm.trans (by assumption : _ = false)) (by decide)) | (exact absurd (hc.symm.trans (by assumption : _ = true)) (by decide))) | skip))))
      | (first | refine JC.seq ?_ | refine JC.region ?_ | refine JC.block ?_ | refine JC.ret ?_ | refine JC.exit ?_ | refine JC.skip ?_ | refine thenK.nn ?_ | refine thenK.r ?_ | refine thenK.x ?_ | refine blockK.nn ?_ | refine blockK.r ?_ | refine blockK.hit rfl ?_ | refine blockK.miss rfl ?_ | refine JC.condT rfl ?_ | refine JC.condF rfl ?_ | (refine JC.cond rfl (fun hc => ?_) (fun hc => ?_) <;> ((try simp only [decide_eq_true_eq, decide_eq_false_iff_not, beq_iff_eq, beq_eq_false_iff_ne, bne_iff_ne, bne_eq_false_iff_eq, Bool.not_eq_true', Bool.not_eq_false', Bool.not_eq_true, Bool.not_eq_false] at hc) <;> first | (first | (exact absurd rfl hc) | (exfalso; omega) | (exact absurd (hc.symm.trans (by assumption : _ = false)) (by decide)) | (exact absurd (hc.symm.trans (by assumption : _ = true)) (by decide))) | skip)) | (refine JC.drawA [] (by kernel_rfl) (by kernel_rfl) ?_) | refine drawK.nn ?_ | refine roundK.nn ?_ | refine roundK.r ?_ | refine roundK.x ?_ | refine loopK.r ?_ | refine loopK.x ?_)
      | fail
    all_goals first | (exfalso; omega) | skip
    all_goals refine loopK.nn (m - 1) (by omega) (by repeat (first | refine Ag.upd rfl ?_ | exact Ag.hv)) ⟨k + 1, _, _, ?_, by omega, hxl, hch, ox', rfl⟩
    all_goals (show Value.int .i64 _ = _; congr 1)
theorem eWith3 : Entr Tryd.prog 56 := Entr.of Tryd.func56 rfl rfl
theorem with3_any (s : Nat × Nat) (hok : okS s) (v : Int) (hv : 1 ≤ v ∧ v ≤ 128) (w : World) :
    Calls Tryd.prog 56 #[sv s, .int .i64 v] w fun e w' => e = .returned (sv (withS s v)) ∧ Below w.heap.size w w' := by
  have hlen := upTo_len s 128
  have hwo := with_ofP s hok v hv
  have cO : ∀ (a : Option Addr) (cap : Nat) (h : Heap), SlT encI 1 a (upTo s 128 ++ [v]) h → ∀ w, Holds h w → Calls Tryd.prog 66 #[.slice a ((upTo s 128).length + 1) cap] w fun e w' => e = .returned (sv (withS s v)) ∧ Below w.heap.size w w' := fun a cap h hs w hw => by
    have e : (upTo s 128).length + 1 = (upTo s 128 ++ [v]).length := by simp
    rw [← hwo, e]; exact of3_any a cap _ h hs (by rw [List.length_append]; simp only [List.length_cons, List.length_nil]; omega) w hw
  refine calls_of_JC (R := []) Tryd.func56 Tryd.ntmps56 rfl rfl (Holds.nil _) ?_
  repeat' first
    | (refine J.isJ ?_; first | (first | (refine J.o 0 ?_; refine J.ev' hΓ ?_) | refine J.nil ?_ | refine J.kd ?_ | (refine J.o 4 ?_; first | refine J.e0 hΓ ?_ | refine J.lT default hΓ ?_ | refine J.e1 hΓ ?_ | refine J.e2 hΓ ?_ | refine J.lR hΓ ?_) | (refine J.o 3 ?_; first | refine J.iA hΓ ?_ | refine J.iJ hΓ ?_ | refine J.fP hΓ ?_ | refine J.iC hΓ ?_ | refine J.ev' hΓ ?_) | (refine J.o 1 ?_; first | refine J.ad ?_ | refine J.ct ?_ | refine J.sb ?_ | refine J.mu ?_ | refine J.ng ?_ | refine J.qu ?_ | refine J.rm ?_ | refine J.s1 ?_ | refine J.sr ?_ | refine J.aW ?_ | refine J.oW ?_ | refine J.nW ?_) | (refine J.o 2 ?_; refine J.cv _ hΓ ?_) | (refine J.o 5 ?_; first | refine J.t0 hΓ ?_ | refine J.t1 hΓ ?_ | refine J.t2 hΓ ?_ | refine J.tT _ default hΓ (fun _ _ => ?_) | refine J.tT1 _ default hΓ (fun _ _ => ?_) | refine J.tT2 _ default hΓ (fun _ _ => ?_) | refine J.tT3 _ default hΓ (fun _ _ => ?_)) | (refine J.o 6 ?_; refine J.bx (fun _ => ?_)) | (refine J.o 7 ?_; refine J.al hΓ (fun _ => ?_)) | (refine J.o 8 ?_; refine J.bd hΓ ?_) | (refine J.o 9 ?_; refine J.bl hΓ (fun _ => ?_)) | (refine J.o 10 ?_; first | refine J.ls hΓ ?_ | refine J.ev' hΓ ?_) | (refine J.o 11 ?_; first | refine J.eS ?_ | refine J.xS ?_ | refine J.ev' hΓ ?_ | refine J.nT hΓ ?_) | (refine J.o 12 ?_; refine J.ix hΓ ?_) | (refine J.o 13 ?_; first | refine J.sL hΓ ?_ | refine J.sH hΓ ?_) | (refine J.o 14 ?_; refine J.mf hΓ ?_) | refine J.kn ?_) | (first | (refine J.fc 67 ?_; refine J.call1 eList3 rfl rfl (fun w hw => list3_any s hok w) ?_; rintro _ hl ⟨al, cl, rfl, ol⟩) | (refine J.app1 (enc := encI) [v] hΓ rfl rfl rfl rfl rfl rfl rfl ol rfl rfl rfl rfl (by omega) (by omega) (by omega) (fun a3 cap3 h3 o3 => ?_)) | (refine J.fc 66 ?_; refine J.call0 eOf3 rfl rfl (fun w hw => cO _ _ _ o3.sl w (hw.rdH (by first | exact RdH.hd | exact RdH.hd.tl | exact RdH.hd.tl.tl | exact RdH.hd.tl.tl.tl | exact RdH.hd.tl.tl.tl.tl | exact RdH.hd.tl.tl.tl.tl.tl | exact RdH.hd.tl.tl.tl.tl.tl.tl | exact RdH.hd.tl.tl.tl.tl.tl.tl.tl | exact RdH.old (fun _ hh => hh) | assumption))) ?_)) | ((fail_if_success refine J.wt ?_); refine J.gc rfl rfl (fun hc => ?_) (fun hc => ?_) <;> ((try simp only [decide_eq_true_eq, decide_eq_false_iff_not, beq_iff_eq, beq_eq_false_iff_ne, bne_iff_ne, bne_eq_false_iff_eq, Bool.not_eq_true', Bool.not_eq_false', Bool.not_eq_true, Bool.not_eq_false] at hc) <;> first | (first | (exact absurd rfl hc) | (exfalso; omega) | (exact absurd (hc.symm.trans (by assumption : _ = false)) (by decide)) | (exact absurd (hc.symm.trans (by assumption : _ = true)) (by decide))) | skip)))
    | (first | refine JC.seq ?_ | refine JC.region ?_ | refine JC.block ?_ | refine JC.ret ?_ | refine JC.exit ?_ | refine JC.skip ?_ | refine thenK.nn ?_ | refine thenK.r ?_ | refine thenK.x ?_ | refine blockK.nn ?_ | refine blockK.r ?_ | refine blockK.hit rfl ?_ | refine blockK.miss rfl ?_ | refine JC.condT rfl ?_ | refine JC.condF rfl ?_ | (refine JC.cond rfl (fun hc => ?_) (fun hc => ?_) <;> ((try simp only [decide_eq_true_eq, decide_eq_false_iff_not, beq_iff_eq, beq_eq_false_iff_ne, bne_iff_ne, bne_eq_false_iff_eq, Bool.not_eq_true', Bool.not_eq_false', Bool.not_eq_true, Bool.not_eq_false] at hc) <;> first | (first | (exact absurd rfl hc) | (exfalso; omega) | (exact absurd (hc.symm.trans (by assumption : _ = false)) (by decide)) | (exact absurd (hc.symm.trans (by assumption : _ = true)) (by decide))) | skip)) | (refine JC.drawA [] (by kernel_rfl) (by kernel_rfl) ?_) | refine drawK.nn ?_ | refine roundK.nn ?_ | refine roundK.r ?_ | refine roundK.x ?_ | refine loopK.r ?_ | refine loopK.x ?_)
    | fail
  all_goals first | (exfalso; omega) | exact retC hΓ rfl rfl rfl (by first | exact Rd.hd | exact Rd.hd.tl | exact Rd.hd.tl.tl) rfl (fun w1 hw => ⟨rfl, hw.below⟩)
end Go.Proofs.YtfegpmoephdkpaaDoor
