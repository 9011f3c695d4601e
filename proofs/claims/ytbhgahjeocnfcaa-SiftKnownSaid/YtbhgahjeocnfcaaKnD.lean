/- SiftKnown: part 4. -/
import Derived.Test.YtbhgahjeocnfcaaKnC
import Derived.Test.YtbhgahjeocnfcaaRows
import Derived.RangeFuncNested
import Derived.RangeFuncBound
import Derived.RangeFuncCalls
import Derived.RangeFuncLeaves
import Derived.TacticsIn
import Derived.OrdersIn
import Derived.LoopNIn
import Derived.Lib.AppendStr
import Derived.Laws.BytesArg
import Derived.Laws.Slices
namespace Go.Proofs.Ytbhgahjeocnfcaa
open Go Go.Cx Go.RowKit
set_option linter.unusedVariables false
set_option linter.unusedSimpArgs false
set_option maxHeartbeats 4000000
attribute [local irreducible] J JC thenK blockK loopK roundK drawK retK QW Qt pel List.set Calls
set_option maxRecDepth 8000
attribute [local irreducible] JE Br eK0 eK3 brK pc
theorem drop_g {α : Type} [Inhabited α] (l : List α) (k : Nat) (hk : k < l.length) : l.drop k = l.getD k default :: l.drop (k + 1) := by
  rw [List.drop_eq_getElem_cons hk, List.getD_eq_getElem?_getD, List.getElem?_eq_getElem hk]; rfl
theorem take_g {α : Type} [Inhabited α] (l : List α) (k : Nat) (hk : k < l.length) : l.take (k + 1) = l.take k ++ [l.getD k default] := by
  rw [List.take_add_one, List.getD_eq_getElem?_getD, List.getElem?_eq_getElem hk]; rfl
theorem mem_g {α : Type} [Inhabited α] (l : List α) (k : Nat) (hk : k < l.length) : l.getD k default ∈ l := by
  rw [List.getD_eq_getElem?_getD, List.getElem?_eq_getElem hk]
  exact List.getElem_mem hk
def sv (s : Nat × Nat) : Value := .agg ⟨[.int .u64 (s.1 : Int), .int .u64 (s.2 : Int)]⟩
def hasB (s : Nat × Nat) (v : Int) : Bool := if 1 ≤ v ∧ v ≤ 64 then s.1.testBit (v - 1).toNat else if 65 ≤ v ∧ v ≤ 128 then s.2.testBit (v - 65).toNat else false
def withS (s : Nat × Nat) (v : Int) : Nat × Nat := if 1 ≤ v ∧ v ≤ 64 then (s.1 ||| 2 ^ (v - 1).toNat, s.2) else if 65 ≤ v ∧ v ≤ 128 then (s.1, s.2 ||| 2 ^ (v - 65).toNat) else s
theorem and_pow (a k : Nat) : a &&& 2 ^ k = if a.testBit k then 2 ^ k else 0 := by
  apply Nat.eq_of_testBit_eq
  intro i
  rw [Nat.testBit_and, Nat.testBit_two_pow]
  by_cases h : k = i
  · subst h; cases hb : a.testBit k <;> simp
  · cases hb : a.testBit k <;> simp [h, Nat.testBit_two_pow]
theorem bit_ne (a k : Nat) : (((a &&& 2 ^ k : Nat) : Int) != 0) = a.testBit k := by
  rw [and_pow]
  have := Nat.two_pow_pos k
  cases a.testBit k
  · rfl
  · simp only [if_true, bne_iff_ne, ne_eq]; omega
theorem place_out (v : Int) (h : v < 1 ∨ 128 < v) (w : World) :
    Calls Try.prog 126 #[.int .i64 v] w fun e w' => e = .returned (.tuple #[.int .i64 0, .int .u64 0, .bool false]) ∧ Below w.heap.size w w' := by
  refine calls_of_JC (R := []) Try.func126 Try.ntmps126 rfl rfl (Holds.nil _) ?_
  repeat' first
    | (refine J.isJ ?_; (first | (first | (refine J.o 0 ?_; refine J.ev' hΓ ?_) | refine J.nil ?_ | refine J.kd ?_ | (refine J.o 3 ?_; first | refine J.ev' hΓ ?_) | (refine J.o 10 ?_; first | refine J.ev' hΓ ?_) | (refine J.o 11 ?_; first | refine J.ev' hΓ ?_)) | ((fail_if_success refine J.wt ?_); refine J.gc rfl rfl (fun hc => ?_) (fun hc => ?_) <;> ((try simp only [decide_eq_true_eq, decide_eq_false_iff_not, beq_iff_eq, beq_eq_false_iff_ne, bne_iff_ne, bne_eq_false_iff_eq, Bool.not_eq_true', Bool.not_eq_false', Bool.not_eq_true, Bool.not_eq_false] at hc) <;> first | (first | (exact absurd rfl hc) | (exfalso; omega) | (exact absurd (hc.symm.trans (by assumption : _ = false)) (by decide)) | (exact absurd (hc.symm.trans (by assumption : _ = true)) (by decide))) | skip))))
    | (first | refine JC.seq ?_ | refine JC.region ?_ | refine JC.ret ?_ | refine thenK.nn ?_ | refine thenK.r ?_ | refine JC.condT rfl ?_ | (refine JC.cond rfl (fun hc => ?_) (fun hc => ?_) <;> ((try simp only [decide_eq_true_eq, decide_eq_false_iff_not, beq_iff_eq, beq_eq_false_iff_ne, bne_iff_ne, bne_eq_false_iff_eq, Bool.not_eq_true', Bool.not_eq_false', Bool.not_eq_true, Bool.not_eq_false] at hc) <;> first | (first | (exact absurd rfl hc) | (exfalso; omega) | (exact absurd (hc.symm.trans (by assumption : _ = false)) (by decide)) | (exact absurd (hc.symm.trans (by assumption : _ = true)) (by decide))) | skip)))
    | fail
  all_goals first | omega | skip
  all_goals (refine ret3f rfl rfl rfl rfl rfl rfl rfl (fun w1 hw => ⟨?_, hw.below⟩))
  all_goals first | rfl | omega
theorem place_low (v : Int) (h : 1 ≤ v ∧ v ≤ 64) (w : World) :
    Calls Try.prog 126 #[.int .i64 v] w fun e w' => e = .returned (.tuple #[.int .i64 0, .int .u64 ((2 ^ (v - 1).toNat : Nat) : Int), .bool true]) ∧ Below w.heap.size w w' := by
  refine calls_of_JC (R := []) Try.func126 Try.ntmps126 rfl rfl (Holds.nil _) ?_
  repeat' first
    | (refine J.isJ ?_; (first | (first | (refine J.o 0 ?_; refine J.ev' hΓ ?_) | refine J.nil ?_ | (refine J.o 3 ?_; first | refine J.ev' hΓ ?_) | (refine J.o 1 ?_; first | refine J.sb ?_ | refine J.qu ?_ | refine J.rm ?_ | refine J.s1 ?_) | (refine J.o 2 ?_; refine J.cv _ hΓ ?_) | (refine J.o 10 ?_; first | refine J.ev' hΓ ?_) | (refine J.o 11 ?_; first | refine J.ev' hΓ ?_)) | ((fail_if_success refine J.wt ?_); refine J.gc rfl rfl (fun hc => ?_) (fun hc => ?_) <;> ((try simp only [decide_eq_true_eq, decide_eq_false_iff_not, beq_iff_eq, beq_eq_false_iff_ne, bne_iff_ne, bne_eq_false_iff_eq, Bool.not_eq_true', Bool.not_eq_false', Bool.not_eq_true, Bool.not_eq_false] at hc) <;> first | (first | (exact absurd rfl hc) | (exfalso; omega) | (exact absurd (hc.symm.trans (by assumption : _ = false)) (by decide)) | (exact absurd (hc.symm.trans (by assumption : _ = true)) (by decide))) | skip))))
    | (first | refine JC.seq ?_ | refine JC.region ?_ | refine JC.ret ?_ | refine JC.skip ?_ | refine thenK.nn ?_ | (refine JC.cond rfl (fun hc => ?_) (fun hc => ?_) <;> ((try simp only [decide_eq_true_eq, decide_eq_false_iff_not, beq_iff_eq, beq_eq_false_iff_ne, bne_iff_ne, bne_eq_false_iff_eq, Bool.not_eq_true', Bool.not_eq_false', Bool.not_eq_true, Bool.not_eq_false] at hc) <;> first | (first | (exact absurd rfl hc) | (exfalso; omega) | (exact absurd (hc.symm.trans (by assumption : _ = false)) (by decide)) | (exact absurd (hc.symm.trans (by assumption : _ = true)) (by decide))) | skip)))
    | fail
  all_goals first | omega | skip
  all_goals (refine ret3f rfl rfl rfl rfl rfl rfl rfl (fun w1 hw => ⟨?_, hw.below⟩))
  all_goals (first | omega | (rw [show (v - 1) / 64 = 0 by omega, show (v - 1) % 64 = v - 1 by omega]))
theorem place_high (v : Int) (h : 65 ≤ v ∧ v ≤ 128) (w : World) :
    Calls Try.prog 126 #[.int .i64 v] w fun e w' => e = .returned (.tuple #[.int .i64 1, .int .u64 ((2 ^ (v - 65).toNat : Nat) : Int), .bool true]) ∧ Below w.heap.size w w' := by
  refine calls_of_JC (R := []) Try.func126 Try.ntmps126 rfl rfl (Holds.nil _) ?_
  repeat' first
    | (refine J.isJ ?_; (first | (first | (refine J.o 0 ?_; refine J.ev' hΓ ?_) | refine J.nil ?_ | (refine J.o 3 ?_; first | refine J.ev' hΓ ?_) | (refine J.o 1 ?_; first | refine J.sb ?_ | refine J.qu ?_ | refine J.rm ?_ | refine J.s1 ?_) | (refine J.o 2 ?_; refine J.cv _ hΓ ?_) | (refine J.o 10 ?_; first | refine J.ev' hΓ ?_) | (refine J.o 11 ?_; first | refine J.ev' hΓ ?_)) | ((fail_if_success refine J.wt ?_); refine J.gc rfl rfl (fun hc => ?_) (fun hc => ?_) <;> ((try simp only [decide_eq_true_eq, decide_eq_false_iff_not, beq_iff_eq, beq_eq_false_iff_ne, bne_iff_ne, bne_eq_false_iff_eq, Bool.not_eq_true', Bool.not_eq_false', Bool.not_eq_true, Bool.not_eq_false] at hc) <;> first | (first | (exact absurd rfl hc) | (exfalso; omega) | (exact absurd (hc.symm.trans (by assumption : _ = false)) (by decide)) | (exact absurd (hc.symm.trans (by assumption : _ = true)) (by decide))) | skip))))
    | (first | refine JC.seq ?_ | refine JC.region ?_ | refine JC.ret ?_ | refine JC.skip ?_ | refine thenK.nn ?_ | (refine JC.cond rfl (fun hc => ?_) (fun hc => ?_) <;> ((try simp only [decide_eq_true_eq, decide_eq_false_iff_not, beq_iff_eq, beq_eq_false_iff_ne, bne_iff_ne, bne_eq_false_iff_eq, Bool.not_eq_true', Bool.not_eq_false', Bool.not_eq_true, Bool.not_eq_false] at hc) <;> first | (first | (exact absurd rfl hc) | (exfalso; omega) | (exact absurd (hc.symm.trans (by assumption : _ = false)) (by decide)) | (exact absurd (hc.symm.trans (by assumption : _ = true)) (by decide))) | skip)))
    | fail
  all_goals first | omega | skip
  all_goals (refine ret3f rfl rfl rfl rfl rfl rfl rfl (fun w1 hw => ⟨?_, hw.below⟩))
  all_goals (first | omega | (rw [show (v - 1) / 64 = 1 by omega, show (v - 1) % 64 = v - 65 by omega]))
theorem ePlace : Entr Try.prog 126 := Entr.of Try.func126 rfl rfl
theorem has_any (s : Nat × Nat) (hs : okS s) (v : Int) (w : World) :
    Calls Try.prog 82 #[sv s, .int .i64 v] w fun e w' => e = .returned (.bool (hasB s v)) ∧ Below w.heap.size w w' := by
  obtain ⟨h1, h2⟩ := hs
  unfold hasB
  by_cases hl : 1 ≤ v ∧ v ≤ 64
  · have hp := pow64 (j := (v - 1).toNat) (by omega)
    refine calls_of_JC (R := []) Try.func82 Try.ntmps82 rfl rfl (Holds.nil _) ?_
    repeat' first
      | (refine J.isJ ?_; first | (first | (refine J.o 0 ?_; refine J.ev' hΓ ?_) | refine J.nil ?_ | refine J.kd ?_ | (refine J.o 4 ?_; first | refine J.e0 hΓ ?_) | (refine J.o 3 ?_; first | refine J.iA hΓ ?_ | refine J.ev' hΓ ?_) | (refine J.o 1 ?_; first | refine J.aW ?_) | (refine J.o 6 ?_; refine J.bx (fun _ => ?_)) | (refine J.o 10 ?_; first | refine J.ev' hΓ ?_) | (refine J.o 11 ?_; first | refine J.ev' hΓ ?_)) | (refine J.call0 ePlace rfl rfl (fun w hw => place_low v hl w) ?_))
      | (first | refine JC.seq ?_ | refine JC.region ?_ | refine JC.ret ?_ | refine thenK.nn ?_)
      | fail
    all_goals (refine ret1f rfl rfl rfl (fun w1 hw => ⟨retB ?_, hw.below⟩))
    rw [if_pos hl, bit_ne]
  by_cases hh : 65 ≤ v ∧ v ≤ 128
  · have hp := pow64 (j := (v - 65).toNat) (by omega)
    refine calls_of_JC (R := []) Try.func82 Try.ntmps82 rfl rfl (Holds.nil _) ?_
    repeat' first
      | (refine J.isJ ?_; first | (first | (refine J.o 0 ?_; refine J.ev' hΓ ?_) | refine J.nil ?_ | refine J.kd ?_ | (refine J.o 4 ?_; first | refine J.e0 hΓ ?_) | (refine J.o 3 ?_; first | refine J.iA hΓ ?_ | refine J.ev' hΓ ?_) | (refine J.o 1 ?_; first | refine J.aW ?_) | (refine J.o 6 ?_; refine J.bx (fun _ => ?_)) | (refine J.o 10 ?_; first | refine J.ev' hΓ ?_) | (refine J.o 11 ?_; first | refine J.ev' hΓ ?_)) | (refine J.call0 ePlace rfl rfl (fun w hw => place_high v hh w) ?_))
      | (first | refine JC.seq ?_ | refine JC.region ?_ | refine JC.ret ?_ | refine thenK.nn ?_)
      | fail
    all_goals (refine ret1f rfl rfl rfl (fun w1 hw => ⟨retB ?_, hw.below⟩))
    rw [if_neg hl, if_pos hh, bit_ne]
  ·
    refine calls_of_JC (R := []) Try.func82 Try.ntmps82 rfl rfl (Holds.nil _) ?_
    repeat' first
      | (refine J.isJ ?_; first | (first | (refine J.o 0 ?_; refine J.ev' hΓ ?_) | refine J.nil ?_ | refine J.kd ?_ | (refine J.o 4 ?_; first | refine J.e0 hΓ ?_) | (refine J.o 3 ?_; first | refine J.iA hΓ ?_ | refine J.ev' hΓ ?_) | (refine J.o 1 ?_; first | refine J.aW ?_) | (refine J.o 6 ?_; refine J.bx (fun _ => ?_)) | (refine J.o 10 ?_; first | refine J.ev' hΓ ?_) | (refine J.o 11 ?_; first | refine J.ev' hΓ ?_)) | (refine J.call0 ePlace rfl rfl (fun w hw => place_out v (by omega) w) ?_))
      | (first | refine JC.seq ?_ | refine JC.region ?_ | refine JC.ret ?_ | refine thenK.nn ?_)
      | fail
    all_goals (refine ret1f rfl rfl rfl (fun w1 hw => ⟨retB ?_, hw.below⟩))
    rw [if_neg hl, if_neg hh]
theorem with_any (s : Nat × Nat) (hs : okS s) (v : Int) (w : World) :
    Calls Try.prog 114 #[sv s, .int .i64 v] w fun e w' => e = .returned (sv (withS s v)) ∧ Below w.heap.size w w' := by
  obtain ⟨h1, h2⟩ := hs
  unfold withS
  by_cases hl : 1 ≤ v ∧ v ≤ 64
  · have hp := pow64 (j := (v - 1).toNat) (by omega)
    rw [if_pos hl]
    refine calls_of_JC (R := []) Try.func114 Try.ntmps114 rfl rfl (Holds.nil _) ?_
    repeat' first
      | (refine J.isJ ?_; first | (first | (refine J.o 0 ?_; refine J.ev' hΓ ?_) | refine J.nil ?_ | (refine J.o 4 ?_; first | refine J.e1 hΓ ?_) | (refine J.o 3 ?_; first | refine J.iA hΓ ?_ | refine J.ev' hΓ ?_) | (refine J.o 1 ?_; first | refine J.oW ?_) | (refine J.o 5 ?_; first | refine J.t0 hΓ ?_ | refine J.t1 hΓ ?_) | (refine J.o 6 ?_; refine J.bx (fun _ => ?_)) | (refine J.o 7 ?_; refine J.al hΓ (fun _ => ?_)) | (refine J.o 10 ?_; first | refine J.ev' hΓ ?_) | (refine J.o 11 ?_; first | refine J.ev' hΓ ?_)) | (refine J.call0 ePlace rfl rfl (fun w hw => place_low v hl w) ?_))
      | (first | refine JC.seq ?_ | refine JC.region ?_ | refine JC.ret ?_ | refine JC.skip ?_ | refine thenK.nn ?_ | refine JC.condT rfl ?_ | refine JC.condF rfl ?_)
      | fail
    all_goals (refine retC hΓ rfl rfl rfl Rd.hd rfl (fun w1 hw => ⟨rfl, hw.below⟩))
  by_cases hh : 65 ≤ v ∧ v ≤ 128
  · have hp := pow64 (j := (v - 65).toNat) (by omega)
    rw [if_neg hl, if_pos hh]
    refine calls_of_JC (R := []) Try.func114 Try.ntmps114 rfl rfl (Holds.nil _) ?_
    repeat' first
      | (refine J.isJ ?_; first | (first | (refine J.o 0 ?_; refine J.ev' hΓ ?_) | refine J.nil ?_ | (refine J.o 4 ?_; first | refine J.e1 hΓ ?_) | (refine J.o 3 ?_; first | refine J.iA hΓ ?_ | refine J.ev' hΓ ?_) | (refine J.o 1 ?_; first | refine J.oW ?_) | (refine J.o 5 ?_; first | refine J.t0 hΓ ?_ | refine J.t1 hΓ ?_) | (refine J.o 6 ?_; refine J.bx (fun _ => ?_)) | (refine J.o 7 ?_; refine J.al hΓ (fun _ => ?_)) | (refine J.o 10 ?_; first | refine J.ev' hΓ ?_) | (refine J.o 11 ?_; first | refine J.ev' hΓ ?_)) | (refine J.call0 ePlace rfl rfl (fun w hw => place_high v hh w) ?_))
      | (first | refine JC.seq ?_ | refine JC.region ?_ | refine JC.ret ?_ | refine JC.skip ?_ | refine thenK.nn ?_ | refine JC.condT rfl ?_ | refine JC.condF rfl ?_)
      | fail
    all_goals (refine retC hΓ rfl rfl rfl Rd.hd rfl (fun w1 hw => ⟨rfl, hw.below⟩))
  · rw [if_neg hl, if_neg hh]
    refine calls_of_JC (R := []) Try.func114 Try.ntmps114 rfl rfl (Holds.nil _) ?_
    repeat' first
      | (refine J.isJ ?_; first | (first | (refine J.o 0 ?_; refine J.ev' hΓ ?_) | refine J.nil ?_ | (refine J.o 4 ?_; first | refine J.e1 hΓ ?_) | (refine J.o 3 ?_; first | refine J.iA hΓ ?_ | refine J.ev' hΓ ?_) | (refine J.o 1 ?_; first | refine J.oW ?_) | (refine J.o 5 ?_; first | refine J.t0 hΓ ?_ | refine J.t1 hΓ ?_) | (refine J.o 6 ?_; refine J.bx (fun _ => ?_)) | (refine J.o 7 ?_; refine J.al hΓ (fun _ => ?_)) | (refine J.o 10 ?_; first | refine J.ev' hΓ ?_) | (refine J.o 11 ?_; first | refine J.ev' hΓ ?_)) | (refine J.call0 ePlace rfl rfl (fun w hw => place_out v (by omega) w) ?_))
      | (first | refine JC.seq ?_ | refine JC.region ?_ | refine JC.ret ?_ | refine JC.skip ?_ | refine thenK.nn ?_ | refine JC.condT rfl ?_ | refine JC.condF rfl ?_)
      | fail
    all_goals (refine retC hΓ rfl rfl rfl Rd.hd rfl (fun w1 hw => ⟨rfl, hw.below⟩))
theorem has_with (s : Nat × Nat) (v u : Int) (hv : 1 ≤ v ∧ v ≤ 128) : hasB (withS s v) u = true ↔ (hasB s u = true ∨ u = v) := by
  unfold hasB withS
  by_cases h1 : 1 ≤ v ∧ v ≤ 64
  · rw [if_pos h1]
    by_cases h2 : 1 ≤ u ∧ u ≤ 64
    · rw [if_pos h2, if_pos h2]
      simp only [Nat.testBit_or, Nat.testBit_two_pow, Bool.or_eq_true, decide_eq_true_iff]
      constructor
      · rintro (h | h)
        · exact .inl h
        · exact .inr (by omega)
      · rintro (h | h)
        · exact .inl h
        · exact .inr (by omega)
    · rw [if_neg h2, if_neg h2]
      exact ⟨.inl, fun h => h.elim id (fun h => by omega)⟩
  · rw [if_neg h1, if_pos (show 65 ≤ v ∧ v ≤ 128 by omega)]
    by_cases h2 : 1 ≤ u ∧ u ≤ 64
    · rw [if_pos h2, if_pos h2]
      exact ⟨.inl, fun h => h.elim id (fun h => by omega)⟩
    · rw [if_neg h2, if_neg h2]
      by_cases h3 : 65 ≤ u ∧ u ≤ 128
      · rw [if_pos h3, if_pos h3]
        simp only [Nat.testBit_or, Nat.testBit_two_pow, Bool.or_eq_true, decide_eq_true_iff]
        constructor
        · rintro (h | h)
          · exact .inl h
          · exact .inr (by omega)
        · rintro (h | h)
          · exact .inl h
          · exact .inr (by omega)
      · rw [if_neg h3, if_neg h3]
        exact ⟨.inl, fun h => h.elim id (fun h => by omega)⟩
theorem okS_with {s : Nat × Nat} (hs : okS s) (v : Int) : okS (withS s v) := by
  obtain ⟨h1, h2⟩ := hs
  unfold withS
  split
  · exact ⟨Nat.or_lt_two_pow h1 (pow64 (by omega)), h2⟩
  · split
    · exact ⟨h1, Nat.or_lt_two_pow h2 (pow64 (by omega))⟩
    · exact ⟨h1, h2⟩
theorem has_zero (u : Int) : hasB (0, 0) u = false := by
  unfold hasB
  split
  · exact Nat.zero_testBit _
  · split
    · exact Nat.zero_testBit _
    · rfl
theorem eWith : Entr Try.prog 114 := Entr.of Try.func114 rfl rfl
theorem okS_zero : okS (0, 0) := ⟨by decide, by decide⟩
theorem eOf : Entr Try.prog 54 := Entr.of Try.func54 rfl rfl
def ofS (l : List Int) : Nat × Nat := l.foldl withS (0, 0)
theorem okS_of : ∀ (l : List Int) (s : Nat × Nat), okS s → okS (l.foldl withS s)
  | [], s, h => h
  | x :: l, s, h => by rw [List.foldl_cons]; exact okS_of l _ (okS_with h x)
def setO (s : Nat × Nat) : Obj := .cells ⟨[.int .u64 (s.1 : Int), .int .u64 (s.2 : Int)]⟩ 53 (0, 0)
theorem of_any (a : Option Addr) (c : Nat) (l : List Int) (h : Heap) (hs : SlT encI 1 a l h) (hl : l.length ≤ 1000000) (w : World) (hw : Holds h w) :
    Calls Try.prog 54 #[.slice a l.length c] w fun e w' => e = .returned (sv (ofS l)) ∧ Below w.heap.size w w' := by
  have q0 : ∀ L, RdH h L h := fun L => RdH.old fun _ hh => hh
  refine calls_of_JC (R := h) Try.func54 Try.ntmps54 rfl rfl (hw) ?_
  repeat' first
    | (refine J.isJ ?_; first | (fail) | (first | (refine J.o 0 ?_; refine J.ev' hΓ ?_) | refine J.nil ?_ | (refine J.o 4 ?_; first | refine J.e0 hΓ ?_ | refine J.lT default hΓ ?_) | (refine J.o 3 ?_; first | refine J.iJ hΓ ?_ | refine J.ev' hΓ ?_) | (refine J.o 1 ?_; first | refine J.ad ?_) | (refine J.o 5 ?_; first | refine J.t0 hΓ ?_ | refine J.t1 hΓ ?_) | (refine J.o 7 ?_; refine J.al hΓ (fun _ => ?_)) | (refine J.o 10 ?_; first | refine J.ev' hΓ ?_) | (refine J.o 11 ?_; first | refine J.ev' hΓ ?_)))
    | (first | refine JC.seq ?_ | refine JC.region ?_ | refine JC.block ?_ | refine JC.ret ?_ | refine JC.exit ?_ | refine JC.skip ?_ | refine thenK.nn ?_ | refine thenK.x ?_ | refine blockK.nn ?_ | refine blockK.hit rfl ?_ | (refine JC.cond rfl (fun hc => ?_) (fun hc => ?_) <;> ((try simp only [decide_eq_true_eq, decide_eq_false_iff_not, beq_iff_eq, beq_eq_false_iff_ne, bne_iff_ne, bne_eq_false_iff_eq, Bool.not_eq_true', Bool.not_eq_false', Bool.not_eq_true, Bool.not_eq_false] at hc) <;> first | (first | (exact absurd rfl hc) | (exfalso; omega) | (exact absurd (hc.symm.trans (by assumption : _ = false)) (by decide)) | (exact absurd (hc.symm.trans (by assumption : _ = true)) (by decide))) | skip)) | refine loopK.x ?_)
    | (fail)
    | fail
  all_goals first | (exfalso; omega) | skip
  rename_i n2 n3
  refine JC.gen [(2, .pointer (some ⟨n2, 0, none⟩)), (3, .pointer (some ⟨n3, 0, none⟩)), (6, .slice a l.length c), (7, .int .i64 l.length), (8, .int .i64 0)] ⟨rfl, rfl, rfl, rfl, rfl, trivial⟩ (fun F1 => ?_)
  refine JC.loop (fun i => i == 5 || Nat.ble 8 i) (fun m g L' => ∃ (k : Nat), g 8 = .int .i64 (k : Int) ∧ k + m = l.length ∧ L' = [[(n3, setO (ofS (l.take k)))], [(n2, setO (0, 0))]]) l.length ⟨0, rfl, by omega, rfl⟩ ?_
  rintro m g L' ⟨k, e8, hkm, rfl⟩
  refine JC.pin 8 e8 ?_
  clear e8
  unfold setO
  have hok : okS (ofS (l.take k)) := okS_of _ _ okS_zero
  rcases Nat.lt_or_ge k l.length with hk | hk
  case inr =>
    rw [List.take_of_length_le hk] at hok ⊢
    repeat' first
      | (refine J.isJ ?_; first | (fail) | (first | (refine J.o 0 ?_; refine J.ev' hΓ ?_) | refine J.nil ?_ | (refine J.o 4 ?_; first | refine J.e0 hΓ ?_ | refine J.lT default hΓ ?_) | (refine J.o 3 ?_; first | refine J.iJ hΓ ?_ | refine J.ev' hΓ ?_) | (refine J.o 1 ?_; first | refine J.ad ?_) | (refine J.o 5 ?_; first | refine J.t0 hΓ ?_ | refine J.t1 hΓ ?_) | (refine J.o 7 ?_; refine J.al hΓ (fun _ => ?_)) | (refine J.o 10 ?_; first | refine J.ev' hΓ ?_) | (refine J.o 11 ?_; first | refine J.ev' hΓ ?_)))
      | (first | refine JC.seq ?_ | refine JC.region ?_ | refine JC.block ?_ | refine JC.ret ?_ | refine JC.exit ?_ | refine JC.skip ?_ | refine thenK.nn ?_ | refine thenK.x ?_ | refine blockK.nn ?_ | refine blockK.hit rfl ?_ | (refine JC.cond rfl (fun hc => ?_) (fun hc => ?_) <;> ((try simp only [decide_eq_true_eq, decide_eq_false_iff_not, beq_iff_eq, beq_eq_false_iff_ne, bne_iff_ne, bne_eq_false_iff_eq, Bool.not_eq_true', Bool.not_eq_false', Bool.not_eq_true, Bool.not_eq_false] at hc) <;> first | (first | (exact absurd rfl hc) | (exfalso; omega) | (exact absurd (hc.symm.trans (by assumption : _ = false)) (by decide)) | (exact absurd (hc.symm.trans (by assumption : _ = true)) (by decide))) | skip)) | refine loopK.x ?_)
      | (fail)
      | fail
    all_goals first | (exfalso; omega) | skip
    exact retC hΓ rfl rfl rfl (by first | exact Rd.hd | exact Rd.hd.tl) rfl (fun w1 hw => ⟨rfl, hw.below⟩)
  have hst : withS (ofS (l.take k)) (l.getD k default) = ofS (l.take (k + 1)) := by
    unfold ofS; rw [take_g l k hk, List.foldl_append]; rfl
  have cW := fun w => with_any (ofS (l.take k)) hok (l.getD k default) w
  rw [hst] at cW
  repeat' first
    | (refine J.isJ ?_; first | (first | (refine J.o 4 ?_; refine J.lT default hΓ ?_ (hs := hs) (hr := q0 _)) | (refine J.fc 114 ?_; refine J.call0 eWith rfl rfl (fun w hw => cW w) ?_)) | (first | (refine J.o 0 ?_; refine J.ev' hΓ ?_) | refine J.nil ?_ | (refine J.o 4 ?_; first | refine J.e0 hΓ ?_ | refine J.lT default hΓ ?_) | (refine J.o 3 ?_; first | refine J.iJ hΓ ?_ | refine J.ev' hΓ ?_) | (refine J.o 1 ?_; first | refine J.ad ?_) | (refine J.o 5 ?_; first | refine J.t0 hΓ ?_ | refine J.t1 hΓ ?_) | (refine J.o 7 ?_; refine J.al hΓ (fun _ => ?_)) | (refine J.o 10 ?_; first | refine J.ev' hΓ ?_) | (refine J.o 11 ?_; first | refine J.ev' hΓ ?_)))
    | (first | refine JC.seq ?_ | refine JC.region ?_ | refine JC.block ?_ | refine JC.ret ?_ | refine JC.exit ?_ | refine JC.skip ?_ | refine thenK.nn ?_ | refine thenK.x ?_ | refine blockK.nn ?_ | refine blockK.hit rfl ?_ | (refine JC.cond rfl (fun hc => ?_) (fun hc => ?_) <;> ((try simp only [decide_eq_true_eq, decide_eq_false_iff_not, beq_iff_eq, beq_eq_false_iff_ne, bne_iff_ne, bne_eq_false_iff_eq, Bool.not_eq_true', Bool.not_eq_false', Bool.not_eq_true, Bool.not_eq_false] at hc) <;> first | (first | (exact absurd rfl hc) | (exfalso; omega) | (exact absurd (hc.symm.trans (by assumption : _ = false)) (by decide)) | (exact absurd (hc.symm.trans (by assumption : _ = true)) (by decide))) | skip)) | refine loopK.x ?_)
    | (fail)
    | fail
  all_goals first | (exfalso; omega) | skip
  refine loopK.nn (m - 1) (by omega) (by repeat (first | refine Ag.upd rfl ?_ | exact Ag.hv)) ⟨k + 1, ?_, by omega, rfl⟩
  show Value.int .i64 _ = _; congr 1
section
variable {Γ : List (Nat × TI)} {e : TypeId}
variable {P : Program} {n : Nat} {w0 : World} {R : Heap} {l0 : List Oper} {K : Exit → Fr → List Heap → Prop} {f : Fr} {L : List Heap} {rest : List (Nat × Oper)} {κ : Nat}
variable {d : Nat} {ty : TypeId} {pos : String} {aft : Array Edge} {g : Option (Nat × Bool)} {t u : TypeId} {x y : Operand}
theorem J.sN {a : Option Addr} {m c s1 b1 : Nat} {z1 : Option Value} (hΓ : Fits P Γ) (k : J P n w0 R l0 K rest (upd f d (.bool a.isNone)) L) (hg : wantB n f l0 ⟨some d, .binOp .eql t x y u, ty, pos, aft, g⟩ = true := by exact rfl) (hx : Cx.ev n f x = .slice a m c := by exact rfl) (hy : Cx.ev n f y = .slice none 0 0 := by exact rfl) (ht : Go.Cx.look Γ t = some ⟨.slice e, s1, z1, b1⟩ := by exact rfl) : J P n w0 R l0 K ((κ, ⟨some d, .binOp .eql t x y u, ty, pos, aft, g⟩) :: rest) f L :=
  J.p hg (fun w => by
    have hu := (hΓ t _ ht).1
    have h : ∀ d : Nat, (Op.equalIn (d + 1) t (.slice a m c) (.slice none 0 0)).run P w = .ok a.isNone w := fun d => by
      cases a <;> simp [Op.equalIn, run_underlying hu]
    have h2 : (binOp .eql t (.slice a m c) (.slice none 0 0)).run P w = .ok (.bool a.isNone) w := by
      simp only [binOp]
      simp [Op.equal, Op.maxDepth, h 9999]
    have h3 : (eqGuard .eql t x y (.slice a m c) (.slice none 0 0)).run P w = .ok () w := by simp [eqGuard]
    simp only [execOp, hx, hy, Sem.run_bind, h3, Result.andThen_ok, h2]
    rfl) k
end
theorem eClone : Entr Try.prog 63 := Entr.of Try.func63 rfl rfl
theorem lit_nil (b : Nat) (t : TypeId) : OwT encI 1 t (some ⟨b, 0, none⟩) 0 [] [(b, .cells ⟨[]⟩ t (0, 0))] := ⟨fun _ => rfl, .inr ⟨b, [], rfl, rfl, rfl, Nat.le_refl _, rfl⟩⟩
theorem clone_any (a : Option Addr) (c : Nat) (l : List Int) (h : Heap) (hs : SlT encI 1 a l h) (hl : l.length ≤ 1000000) (w : World) (hw : Holds h w) :
    Calls Try.prog 63 #[.slice a l.length c] w (Gives (fun v g => ∃ a' c', v = .slice a' l.length c' ∧ OwT encI 1 3 a' c' l g) w) := by
  have q0 : ∀ L, RdH h L h := fun L => RdH.old fun _ hh => hh
  cases a with
  | none =>
    have h0 : l = [] := by
      cases l with
      | nil => rfl
      | cons x l => obtain ⟨b, off, cs', e', fr, h1, _⟩ := hs.at_ 0 (by simp); cases h1
    subst h0
    refine calls_of_JC (R := h) Try.func63 Try.ntmps63 rfl rfl (hw) ?_
    repeat' first
      | (refine J.isJ ?_; first | ((refine J.o 11 ?_; refine J.sN hΓ ?_)) | (first | (refine J.o 0 ?_; refine J.ev' hΓ ?_) | refine J.nil ?_ | (refine J.o 3 ?_; first | refine J.ev' hΓ ?_) | (refine J.o 9 ?_; refine J.bl hΓ (fun _ => ?_)) | (refine J.o 10 ?_; first | refine J.ev' hΓ ?_) | (refine J.o 11 ?_; first | refine J.ev' hΓ ?_)))
      | (first | refine JC.seq ?_ | refine JC.region ?_ | refine JC.ret ?_ | refine JC.skip ?_ | refine thenK.nn ?_ | refine thenK.r ?_ | refine JC.condT rfl ?_ | refine JC.condF rfl ?_)
      | (fail)
      | fail
    all_goals first | (exfalso; omega) | skip
    exact ret1f rfl rfl rfl (fun w1 hw => Gives.of hw.nilF ⟨none, 0, rfl, OwT.nil (fun _ => rfl)⟩)
  | some ad =>
    refine calls_of_JC (R := h) Try.func63 Try.ntmps63 rfl rfl (hw) ?_
    repeat' first
      | (refine J.isJ ?_; first | (first | (refine J.o 11 ?_; refine J.sN hΓ ?_) | (refine J.o 9 ?_; refine J.apA hΓ (lit_nil _ _) hs (q0 _) (fun a2 c2 h2 o2 => ?_))) | (first | (refine J.o 0 ?_; refine J.ev' hΓ ?_) | refine J.nil ?_ | (refine J.o 3 ?_; first | refine J.ev' hΓ ?_) | (refine J.o 9 ?_; refine J.bl hΓ (fun _ => ?_)) | (refine J.o 10 ?_; first | refine J.ev' hΓ ?_) | (refine J.o 11 ?_; first | refine J.ev' hΓ ?_)))
      | (first | refine JC.seq ?_ | refine JC.region ?_ | refine JC.ret ?_ | refine JC.skip ?_ | refine thenK.nn ?_ | refine thenK.r ?_ | refine JC.condT rfl ?_ | refine JC.condF rfl ?_)
      | (fail)
      | fail
    all_goals first | (exfalso; omega) | skip
    rw [List.nil_append] at o2 ⊢
    exact ret1f rfl rfl rfl (fun w1 hw => Gives.of hw ⟨a2, c2, rfl, o2⟩)
theorem countP_or (p : Nat → Bool) (i : Nat) : ∀ n, i < n → (List.range n).countP (fun j => p j || decide (i = j)) = (List.range n).countP p + (if p i then 0 else 1)
  | 0, h => by omega
  | n + 1, h => by
    rw [List.range_succ, List.countP_append, List.countP_append, List.countP_singleton, List.countP_singleton]
    rcases Nat.lt_or_ge i n with hlt | hge
    · rw [countP_or p i n hlt]
      have : decide (i = n) = false := decide_eq_false (by omega)
      rw [this, Bool.or_false]; omega
    · obtain rfl : i = n := by omega
      have e : (List.range i).countP (fun j => p j || decide (i = j)) = (List.range i).countP p := by
        refine List.countP_congr fun j hj => ?_
        have := List.mem_range.1 hj
        rw [decide_eq_false (by omega), Bool.or_false]
      rw [e, decide_eq_true rfl, Bool.or_true]
      cases p i <;> simp
theorem pc_or (x i : Nat) (h : i < 64) : pc 64 (x ||| 2 ^ i) = pc 64 x + (if x.testBit i then 0 else 1) := by
  rw [pc_bits, pc_bits, ← countP_or x.testBit i 64 h]
  congr 1
  funext j
  rw [Nat.testBit_or, Nat.testBit_two_pow]
def cntS (s : Nat × Nat) : Nat := pc 64 s.1 + pc 64 s.2
theorem cnt_with (s : Nat × Nat) (v : Int) : cntS (withS s v) = cntS s + (if 1 ≤ v ∧ v ≤ 128 ∧ hasB s v = false then 1 else 0) := by
  by_cases h1 : 1 ≤ v ∧ v ≤ 64
  · have e1 : withS s v = (s.1 ||| 2 ^ (v - 1).toNat, s.2) := if_pos h1
    have e2 : hasB s v = s.1.testBit (v - 1).toNat := if_pos h1
    have e3 := pc_or s.1 (v - 1).toNat (by omega)
    rw [e1, e2]
    show pc 64 (s.1 ||| 2 ^ (v - 1).toNat) + pc 64 s.2 = pc 64 s.1 + pc 64 s.2 + _
    rw [e3]
    generalize pc 64 s.1 = A
    generalize pc 64 s.2 = B
    cases s.1.testBit (v - 1).toNat with
    | false =>
      have : (1 ≤ v ∧ v ≤ 128 ∧ false = false) := ⟨h1.1, by omega, rfl⟩
      rw [if_pos this]
      show A + 1 + B = A + B + 1; omega
    | true =>
      have : ¬ (1 ≤ v ∧ v ≤ 128 ∧ true = false) := fun h => by cases h.2.2
      rw [if_neg this]
      show A + 0 + B = A + B + 0; omega
  by_cases h2 : 65 ≤ v ∧ v ≤ 128
  · have e1 : withS s v = (s.1, s.2 ||| 2 ^ (v - 65).toNat) := by unfold withS; rw [if_neg h1, if_pos h2]
    have e2 : hasB s v = s.2.testBit (v - 65).toNat := by unfold hasB; rw [if_neg h1, if_pos h2]
    have e3 := pc_or s.2 (v - 65).toNat (by omega)
    rw [e1, e2]
    show pc 64 s.1 + pc 64 (s.2 ||| 2 ^ (v - 65).toNat) = pc 64 s.1 + pc 64 s.2 + _
    rw [e3]
    generalize pc 64 s.1 = A
    generalize pc 64 s.2 = B
    cases s.2.testBit (v - 65).toNat with
    | false =>
      have : (1 ≤ v ∧ v ≤ 128 ∧ false = false) := ⟨by omega, h2.2, rfl⟩
      rw [if_pos this]
      show A + (B + 1) = A + B + 1; omega
    | true =>
      have : ¬ (1 ≤ v ∧ v ≤ 128 ∧ true = false) := fun h => by cases h.2.2
      rw [if_neg this]
      show A + (B + 0) = A + B + 0; omega
  · have e1 : withS s v = s := by unfold withS; rw [if_neg h1, if_neg h2]
    have : ¬ (1 ≤ v ∧ v ≤ 128 ∧ hasB s v = false) := fun h => by omega
    rw [e1, if_neg this]; rfl
theorem cnt_fold : ∀ (l : List Int) (s : Nat × Nat), cntS (l.foldl withS s) ≤ cntS s + l.length ∧ (cntS (l.foldl withS s) = cntS s + l.length ↔ (∀ v ∈ l, 1 ≤ v ∧ v ≤ 128 ∧ hasB s v = false) ∧ l.Nodup)
  | [], s => ⟨by simp, by simp⟩
  | x :: l, s => by
    obtain ⟨h1, h2⟩ := cnt_fold l (withS s x)
    have h3 := cnt_with s x
    rw [List.foldl_cons, List.length_cons]
    by_cases hx : 1 ≤ x ∧ x ≤ 128 ∧ hasB s x = false
    · rw [if_pos hx] at h3
      refine ⟨by omega, ?_⟩
      rw [show (cntS (l.foldl withS (withS s x)) = cntS s + (l.length + 1)) ↔ (cntS (l.foldl withS (withS s x)) = cntS (withS s x) + l.length) from by omega, h2]
      have hh : ∀ v, hasB (withS s x) v = false ↔ (hasB s v = false ∧ v ≠ x) := fun v => by
        have := has_with s x v ⟨hx.1, hx.2.1⟩
        cases ha : hasB (withS s x) v <;> cases hb : hasB s v <;> simp_all
      constructor
      · rintro ⟨g1, g2⟩
        refine ⟨fun v hv => ?_, List.nodup_cons.2 ⟨fun hm => ((hh x).1 (g1 x hm).2.2).2 rfl, g2⟩⟩
        rcases List.mem_cons.1 hv with rfl | hv
        · exact hx
        · exact ⟨(g1 v hv).1, (g1 v hv).2.1, ((hh v).1 (g1 v hv).2.2).1⟩
      · rintro ⟨g1, g2⟩
        obtain ⟨g3, g4⟩ := List.nodup_cons.1 g2
        exact ⟨fun v hv => ⟨(g1 v (by simp [hv])).1, (g1 v (by simp [hv])).2.1, (hh v).2 ⟨(g1 v (by simp [hv])).2.2, fun e => g3 (e ▸ hv)⟩⟩, g4⟩
    · rw [if_neg hx] at h3
      refine ⟨by omega, ⟨fun h => by omega, fun h => (hx (h.1 x (by simp))).elim⟩⟩
def okOrd (l : List Int) : Prop := (∀ v ∈ l, 1 ≤ v ∧ v ≤ 128) ∧ l.Nodup
theorem pc_zero : ∀ n, pc n 0 = 0
  | 0 => by rw [pc]
  | n + 1 => by rw [pc]; simp [pc_zero n]
theorem ord_iff (l : List Int) : cntS (ofS l) = l.length ↔ okOrd l := by
  have := (cnt_fold l (0, 0)).2
  unfold ofS okOrd
  have e : cntS (0, 0) = 0 := by unfold cntS; rw [pc_zero]
  rw [e, Nat.zero_add] at this
  rw [this]
  constructor
  · rintro ⟨h1, h2⟩; exact ⟨fun v hv => ⟨(h1 v hv).1, (h1 v hv).2.1⟩, h2⟩
  · rintro ⟨h1, h2⟩; exact ⟨fun v hv => ⟨(h1 v hv).1, (h1 v hv).2, has_zero v⟩, h2⟩
theorem ord_le (l : List Int) (h : okOrd l) : l.length ≤ 128 := by
  have h1 := (ord_iff l).2 h
  have : ∀ n x, pc n x ≤ n := fun n => by
    induction n with
    | zero => intro x; rw [pc]; exact Nat.le_refl _
    | succ n ih => intro x; rw [pc]; have := ih (x / 2); omega
  have a := this 64 (ofS l).1
  have b := this 64 (ofS l).2
  unfold cntS at h1
  omega
theorem eLen : Entr Try.prog 68 := Entr.of Try.func68 rfl rfl
theorem len_any (s : Nat × Nat) (hs : okS s) (w : World) : Calls Try.prog 68 #[sv s] w fun e w' => e = .returned (.int .i64 (cntS s : Int)) ∧ Below w.heap.size w w' := by
  obtain ⟨h1, h2⟩ := hs
  have : ∀ n x, pc n x ≤ n := fun n => by
    induction n with
    | zero => intro x; rw [pc]; exact Nat.le_refl _
    | succ n ih => intro x; rw [pc]; have := ih (x / 2); omega
  have a := this 64 s.1
  have b := this 64 s.2
  refine calls_of_JC (R := []) Try.func68 Try.ntmps68 rfl rfl (Holds.nil _) ?_
  repeat' first
    | (refine J.isJ ?_; first | (first | (refine J.fc 122 ?_; refine J.call0 eOnes rfl rfl (fun w hw => ones_any s.1 h1 w) ?_) | (refine J.fc 122 ?_; refine J.call0 eOnes rfl rfl (fun w hw => ones_any s.2 h2 w) ?_)) | (first | (refine J.o 0 ?_; refine J.ev' hΓ ?_) | refine J.nil ?_ | (refine J.o 4 ?_; first | refine J.e0 hΓ ?_) | (refine J.o 3 ?_; first | refine J.iA hΓ ?_ | refine J.ev' hΓ ?_) | (refine J.o 1 ?_; first | refine J.ad ?_) | (refine J.o 6 ?_; refine J.bx (fun _ => ?_)) | (refine J.o 10 ?_; first | refine J.ev' hΓ ?_) | (refine J.o 11 ?_; first | refine J.ev' hΓ ?_)))
    | (first | refine JC.seq ?_ | refine JC.region ?_ | refine JC.ret ?_ | refine thenK.nn ?_ | (refine JC.drawA [] (by kernel_rfl) (by kernel_rfl) ?_) | refine drawK.nn ?_)
    | ((refine JC.drawN [] [] (by kernel_rfl) (by kernel_rfl) ?_))
    | fail
  all_goals (refine ret1f rfl rfl rfl (fun w1 hw => ⟨?_, hw.below⟩))
  all_goals rfl
end Go.Proofs.Ytbhgahjeocnfcaa
namespace Go.Proofs.Ytbhgahjeocnfcaa
open Go Go.Cx Go.RowKit
set_option linter.unusedVariables false
set_option linter.unusedSimpArgs false
set_option maxHeartbeats 4000000
attribute [local irreducible] J JC thenK blockK loopK roundK drawK retK QW Qt pel List.set Calls
theorem own : ownKnob Try.prog.godebug = none := by kernel_rfl
theorem laidOut : laidOutB Try.prog = true := by kernel_rfl
end Go.Proofs.Ytbhgahjeocnfcaa
namespace Go.Cx
open Go Go.RowKit
set_option linter.unusedVariables false
set_option linter.unusedSimpArgs false
def FR (r : Option Nat) : Fence := { Fence.wide with round := r }
theorem oper_in {P : Program} {r : Option Nat} {m : Nat} {o : Oper} {a : Act} {w : World} {next : Act → World → Prop} {Q : Exit → Act → World → Prop} (hd : ∀ c, o.op ≠ .defer c) (h : o.wp P a w next Q) : o.wpIn (FR r) m P a w next Q := by
  refine ⟨fun _ _ => trivial, ?_⟩
  rw [Oper.semAt_eq _ _ _ hd]
  unfold Oper.wp at h
  cases hr : (execOp a.eval o).run P w with
  | ok x w' =>
    rw [hr] at h
    cases x with
    | value v => exact h
    | skip => exact h
    | defer d => exact h
    | enter f args =>
      refine ⟨fun h => (by cases h), ?_⟩
      have h1 : CallsIn Fence.wide (m - 1) P f args w' _ := callsIn_wide.2 h
      have h2 : CallsIn (FR r) (m - 1) P f args w' _ := h1
      refine h2.mono fun e w'' hh => ?_
      cases e <;> exact hh
    | row row args =>
      refine ⟨fun h => (by cases h), ?_⟩
      intro c cs _
      obtain ⟨v, w'', r1, s1⟩ := h c cs
      exact ⟨v, w'', r1, stepsIn_wide.2 s1⟩
    | _ => exact h.elim
  | halt x w' =>
    rw [hr] at h
    cases x <;> exact h
theorem LX.plainIn {P : Program} {r : Option Nat} {m : Nat} {ops : Array Oper} {Q : Exit → Act → World → Prop} : ∀ {l : List Oper} {a : Act} {C : World → Prop}, (∀ o ∈ l, ∀ c, o.op ≠ .defer c) → LX P ops Q (zipK [] l) a C → ∀ w, C w → wpListIn (FR r) m P ops Q l a w
  | [], a, C, _, h, w, hw => h w hw
  | o :: l, a, C, hd, h, w, hw => by
    have h1 : lop P ops Q o (fun a' w' => ∃ C' : World → Prop, ((0 : Nat) ≠ 0 → ∀ w, C' w → C w) ∧ C' w' ∧ LX P ops Q (zipK [] l) a' C') a w := h w hw
    have hd2 : ∀ x ∈ l, ∀ c, x.op ≠ .defer c := fun x hx => hd x (List.mem_cons_of_mem _ hx)
    unfold lop at h1
    unfold wpListIn
    split
    · rename_i hg
      rw [if_pos hg] at h1
      exact oper_in (hd o List.mem_cons_self) (Oper.wp_mono (fun a' w' ⟨C', _, hC, hl⟩ => LX.plainIn hd2 hl w' hC) h1)
    · rename_i hg
      rw [if_neg hg] at h1
      obtain ⟨C', _, hC, hl⟩ := h1
      exact ⟨fun _ _ => trivial, LX.plainIn hd2 hl w hC⟩
def noDefer (l : List Oper) : Bool := l.all fun o => match o.op with | .defer _ => false | _ => true
theorem noDefer_ok {l : List Oper} (h : noDefer l = true) : ∀ o ∈ l, ∀ c, o.op ≠ .defer c := fun o ho c e => by
  have := List.all_eq_true.1 h o ho
  rw [e] at this
  cases this
def JR (rd : Option Nat) (m : Nat) (P : Program) (n : Nat) (w0 : World) (R : Heap) (c : Code) (K : Exit → Fr → List Heap → Prop) (f : Fr) (L : List Heap) : Prop :=
  ∀ a w, Rep n f a → H w0 R L w → c.wpIn (FR rd) m P (QW n w0 R K) a w
section
variable {rd : Option Nat} {m : Nat} {P : Program} {n : Nat} {w0 : World} {R : Heap} {l0 : List Oper} {K : Exit → Fr → List Heap → Prop} {f : Fr} {L : List Heap} {o : Oper} {rest : List (Nat × Oper)} {κ : Nat}
def thenR (rd : Option Nat) (m : Nat) (P : Program) (n : Nat) (w0 : World) (R : Heap) (y : Code) (K : Exit → Fr → List Heap → Prop) : Exit → Fr → List Heap → Prop
  | .normal, f, L => JR rd m P n w0 R y K f L
  | e, f, L => K e f L
theorem JR.seq {x y : Code} (h : JR rd m P n w0 R x (thenR rd m P n w0 R y K) f L) : JR rd m P n w0 R (.seq x y) K f L := fun a w ha hw => by
  refine wpIn_seq (wpIn_mono (h a w ha hw) ?_)
  intro e a' w' q
  cases e <;> first | exact q | (obtain ⟨f', L', ha', hw', hk⟩ := q; first | exact hk a' w' ha' hw' | exact ⟨f', L', ha', hw', hk⟩)
theorem JR.skip (h : K .normal f L) : JR rd m P n w0 R .skip K f L := fun _ _ ha hw => wpIn_skip ⟨f, L, ha, hw, h⟩
theorem JR.exit {id : Nat} (h : K (.exit id) f L) : JR rd m P n w0 R (.exit id) K f L := fun _ _ ha hw => wpIn_exit ⟨f, L, ha, hw, h⟩
theorem JR.region {id : Nat} {l : List Oper} (hd : noDefer l = true) (h : J P n w0 R l K (zipK [] l) f L) : JR rd m P n w0 R (.region id l.toArray false) K f L := fun a w ha hw => wpIn_region_lit (LX.plainIn (noDefer_ok hd) (h a ha) w hw)
theorem JR.condT {c : Operand} {x y : Code} (hc : ev n f c = .bool true) (ht : JR rd m P n w0 R x K f L) : JR rd m P n w0 R (.cond c x y) K f L := fun a w ha hw =>
  wpIn_cond_true (by rw [ha.eval]; exact hc) (ht a w ha hw)
theorem JR.condF {c : Operand} {x y : Code} (hc : ev n f c = .bool false) (ht : JR rd m P n w0 R y K f L) : JR rd m P n w0 R (.cond c x y) K f L := fun a w ha hw =>
  wpIn_cond_false (by rw [ha.eval]; exact hc) (ht a w ha hw)
theorem JR.cond {c : Operand} {x y : Code} {b : Bool} (hc : ev n f c = .bool b) (ht : b = true → JR rd m P n w0 R x K f L) (hf : b = false → JR rd m P n w0 R y K f L) : JR rd m P n w0 R (.cond c x y) K f L := fun a w ha hw =>
  wpIn_cond_split (by rw [ha.eval]; exact hc) (fun hb => ht hb a w ha hw) (fun hb => hf hb a w ha hw)
theorem JR.block {id : Nat} {c : Code} (h : JR rd m P n w0 R c (blockK id K) f L) : JR rd m P n w0 R (.block id c) K f L := fun a w ha hw => by
  refine wpIn_block (wpIn_mono (h a w ha hw) ?_)
  intro e a' w' q
  cases e with
  | exit i =>
    obtain ⟨f', L', ha', hw', hk⟩ := q
    simp only [Exit.inBlock]
    by_cases hi : i = id
    · subst hi
      rw [if_pos rfl]
      have : Nat.beq i i = true := by simp
      simp only [blockK, this, cond_true] at hk
      exact ⟨f', L', ha', hw', hk⟩
    · rw [if_neg hi]
      have : Nat.beq i id = false := by
        cases hb : Nat.beq i id
        · rfl
        · exact absurd (Nat.eq_of_beq_eq_true hb) hi
      simp only [blockK, this, cond_false] at hk
      exact ⟨f', L', ha', hw', hk⟩
  | _ => exact q
theorem thenR.nn {y : Code} (h : JR rd m P n w0 R y K f L) : thenR rd m P n w0 R y K .normal f L := h
theorem thenR.x {y : Code} {id : Nat} (h : K (.exit id) f L) : thenR rd m P n w0 R y K (.exit id) f L := h
theorem JR.pin {c : Code} (i : Nat) {v : Value} (e : f i = v) (k : JR rd m P n w0 R c K (upd f i v) L) : JR rd m P n w0 R c K f L := by
  have : upd f i v = f := funext fun j => by
    by_cases h : j = i
    · subst h; rw [upd_same, e]
    · exact upd_ne f v h
  rw [this] at k
  exact k
end
end Go.Cx
namespace Go.Cx
open Go Go.RowKit
set_option linter.unusedVariables false
set_option linter.unusedSimpArgs false
def dfr (ds : List Deferred) (a : Act) : Act := { a with defers := a.defers ++ ds }
theorem dfr_nil (a : Act) : dfr [] a = a := by unfold dfr; rw [List.append_nil]
theorem dfr_put (ds : List Deferred) (a : Act) (d : Option Tmp) (v : Value) : (dfr ds a).put d v = dfr ds (a.put d v) := by cases d <;> rfl
theorem oper_dfr {P : Program} {ds : List Deferred} {o : Oper} {a : Act} {w : World} {next next' : Act → World → Prop} {Q Q' : Exit → Act → World → Prop} (hn : ∀ a w, next a w → next' (dfr ds a) w) (hp : ∀ c a w, ¬ Q (.panic c) a w) (hl : ∀ a w, ¬ Q .outgrown a w) (h : o.wp P a w next Q) : o.wp P (dfr ds a) w next' Q' := by
  unfold Oper.wp at *
  have he : (dfr ds a).eval = a.eval := rfl
  rw [he]
  generalize (execOp a.eval o).run P w = r at *
  cases r with
  | ok x w' =>
    cases x <;> simp only [Oper.upon] at h ⊢ <;>
      first
        | (rw [dfr_put]; exact hn _ _ h)
        | exact (by have := hn _ _ h; rw [← dfr_put] at this; exact this)
        | exact Calls.mono h (fun e w'' he => by cases e <;> first | (have := hn _ _ he; rw [← dfr_put] at this; exact this) | exact absurd he (hp _ _ _) | (obtain ⟨a, w, h⟩ := he; exact absurd h (hl _ _)))
        | exact Rows.mono h (fun _ _ he => by have := hn _ _ he; rw [← dfr_put] at this; exact this)
        | exact h.elim
  | halt x w' => cases x <;> simp only [Oper.upon] at h ⊢ <;> first | exact absurd h (hp _ _ _) | exact h.elim
section
variable {ds : List Deferred} {m : Nat} {P : Program} {n : Nat} {w0 : World} {R : Heap} {l0 : List Oper} {K : Exit → Fr → List Heap → Prop} {f : Fr} {L : List Heap} {o : Oper} {fuel : Nat} {listed : Array Bool} {Q : Exit → Act → World → Prop}
def JA (ds : List Deferred) (m : Nat) (P : Program) (n : Nat) (w0 : World) (R : Heap) (l0 : List Oper) (Q : Exit → Act → World → Prop) (fuel : Nat) (listed : Array Bool) (f : Fr) (L : List Heap) : Prop :=
  ∀ a w, Rep n f a → H w0 R L w → wpAnyIn (FR none) m P .any l0.toArray Q fuel listed (dfr ds a) w
theorem JA.start {id : Nat} (hm : P.follows .mixedOrders = true) (h : JA ds m P n w0 R l0 Q l0.length (Array.replicate l0.length false) f L) {a : Act} {w : World} (ha : Rep n f a) (hw : H w0 R L w) : (Code.region id l0.toArray true).wpIn (FR none) m P Q (dfr ds a) w := by
  refine wpIn_region_any hm ?_
  have := h a _ ha (hw.drew (w.drawn + 1))
  simpa using this
theorem JA.done (hr : Region.ready .any l0.toArray listed = []) (h : ∀ a w, Rep n f a → H w0 R L w → Q .normal (dfr ds a) w) : JA ds m P n w0 R l0 Q fuel listed f L := fun a w ha hw => wpAnyIn_done hr (h a w ha hw) fuel
def JO (ds : List Deferred) (m : Nat) (P : Program) (n : Nat) (w0 : World) (R : Heap) (l0 : List Oper) (Q : Exit → Act → World → Prop) (fuel : Nat) (listed : Array Bool) (f : Fr) (L : List Heap) (i : Nat) : Prop :=
  ∀ a w, Rep n f a → H w0 R L w → wpOpIn (FR none) m P l0.toArray Q i (wpAnyIn (FR none) m P .any l0.toArray Q fuel (listed.setIfInBounds i true)) (dfr ds a) w
theorem JA.all {rs : List Nat} (hr : Region.ready .any l0.toArray listed = rs) (hne : rs ≠ []) (h : ∀ i ∈ rs, JO ds m P n w0 R l0 Q fuel listed f L i) : JA ds m P n w0 R l0 Q (fuel + 1) listed f L := fun a w ha hw => wpAnyIn_all hr hne fun i hi => h i hi a w ha hw
theorem JA.one {i : Nat} (hr : Region.ready .any l0.toArray listed = [i]) (h : JO ds m P n w0 R l0 Q fuel listed f L i) : JA ds m P n w0 R l0 Q (fuel + 1) listed f L := JA.all hr (by simp) fun j hj => by rw [List.mem_singleton.1 hj]; exact h
theorem JA.two {i j : Nat} (hr : Region.ready .any l0.toArray listed = [i, j]) (h : JO ds m P n w0 R l0 Q fuel listed f L i) (k : JO ds m P n w0 R l0 Q fuel listed f L j) : JA ds m P n w0 R l0 Q (fuel + 1) listed f L := JA.all hr (by simp) fun x hx => by
  rcases List.mem_cons.1 hx with rfl | hx
  · exact h
  · rw [List.mem_singleton.1 hx]; exact k
def nextK (ds : List Deferred) (m : Nat) (P : Program) (n : Nat) (w0 : World) (R : Heap) (l0 : List Oper) (Q : Exit → Act → World → Prop) (fuel : Nat) (listed : Array Bool) : Exit → Fr → List Heap → Prop
  | .normal, f, L => JA ds m P n w0 R l0 Q fuel listed f L
  | _, _, _ => False
theorem nextK.nn (h : JA ds m P n w0 R l0 Q fuel listed f L) : nextK ds m P n w0 R l0 Q fuel listed .normal f L := h
theorem JO.of {i : Nat} (hi : l0.toArray[i]? = some o) (hd : ∀ c, o.op ≠ .defer c) (h : J P n w0 R l0 (nextK ds m P n w0 R l0 Q fuel (listed.setIfInBounds i true)) [(2, o)] f L) : JO ds m P n w0 R l0 Q fuel listed f L i := fun a w ha hw => by
  have h1 := h a ha w hw
  have hnext : ∀ a' w', (∃ C' : World → Prop, ((0 : Nat) ≠ 0 → ∀ w, C' w → H w0 R L w) ∧ C' w' ∧ LX P l0.toArray (QW n w0 R (nextK ds m P n w0 R l0 Q fuel (listed.setIfInBounds i true))) [] a' C') → wpAnyIn (FR none) m P .any l0.toArray Q fuel (listed.setIfInBounds i true) (dfr ds a') w' := fun a' w' ⟨C', _, hC, hl⟩ => by
    obtain ⟨f', L', ha', hw', hk⟩ := hl w' hC
    exact hk a' w' ha' hw'
  unfold wpOpIn
  rw [hi]
  unfold lop at h1
  dsimp only
  have hwa : Region.wanted o (yielded l0.toArray (dfr ds a).tmps) = Region.wanted o (yielded l0.toArray a.tmps) := rfl
  rw [hwa]
  split
  · rename_i hg
    rw [if_pos hg] at h1
    exact oper_in hd (oper_dfr hnext (fun c a w q => by obtain ⟨_, _, _, _, q⟩ := q; exact q.elim) (fun a w q => q) h1)
  · rename_i hg
    rw [if_neg hg] at h1
    refine ⟨fun _ _ => trivial, ?_⟩
    rw [dfr_put]
    exact hnext _ _ h1
theorem JA.quiet {i : Nat} (hi : l0.toArray[i]? = some o) (hs : Region.noSelect l0.toArray = true) (hf : Region.free .any l0.toArray listed i = true) (hr : (Region.ready .any l0.toArray listed).contains i = true) (hab : ∀ (w : World) (a : Act), o.about P w a.eval = none) (hQ : ∀ c a w, ¬ Q (.panic c) a w) (h : J P n w0 R l0 (nextK ds m P n w0 R l0 Q fuel (listed.setIfInBounds i true)) [(0, o)] f L) : JA ds m P n w0 R l0 Q (fuel + 1) listed f L := fun a w ha hw => by
  obtain ⟨v, hy, hl⟩ := h a ha
  obtain ⟨f', L', ha', hw', hk⟩ := hl w hw
  refine wpAnyIn_take rfl hi hs hf hr (fun c a w q => absurd q (hQ _ _ _)) (v := v) ⟨hy, fun w => hab w (dfr ds a)⟩ ?_
  rw [dfr_put]
  exact hk _ _ ha' hw'
theorem yield_run {l : Nat} {x : Operand} {xs : List Operand} {ats : Array TypeId} {vs : List Value} {dst : Option Tmp} {ty : TypeId} {pos : String} {aft : Array Edge} {g : Option (Nat × Bool)} (hx : Cx.ev n f x = .func (.yield l) ⟨[]⟩ ⟨[]⟩) (ha : argsEv (Cx.ev n f) xs = some vs) (w : World) :
    (execOp (Cx.ev n f) ⟨dst, .call ⟨.value x, ⟨xs⟩, ats⟩, ty, pos, aft, g⟩).run P w = (Instr.yield l ⟨vs⟩).run P w := by
  have h1 : (⟨xs⟩ : Array Operand).map (Cx.ev n f) = ⟨vs⟩ := by rw [← argsEv_eq ha]; simp
  simp only [execOp, resolve, h1, hx, Deferred.ofValue, Sem.run_bind, Sem.run_pure, Result.andThen_ok, invoke]
  simp
theorem JO.yield {i l d : Nat} {x : Operand} {xs : List Operand} {ats : Array TypeId} {vs : List Value} {ty : TypeId} {pos : String} {aft : Array Edge} {g : Option (Nat × Bool)} {Φ : Value → List Heap → Prop} (hi : l0.toArray[i]? = some ⟨some d, .call ⟨.value x, ⟨xs⟩, ats⟩, ty, pos, aft, g⟩) (hg : wantB n f l0 ⟨some d, .call ⟨.value x, ⟨xs⟩, ats⟩, ty, pos, aft, g⟩ = true) (hx : Cx.ev n f x = .func (.yield l) ⟨[]⟩ ⟨[]⟩) (ha : argsEv (Cx.ev n f) xs = some vs)
    (hy : ∀ w, H w0 R L w → ∃ fn tmps assign body, (Instr.yield l ⟨vs⟩).run P w = .ok (.round l fn tmps assign body) w ∧ RoundIn (FR none) (m - 1) P l fn tmps assign body w fun e w' => ∃ v L', e = .returned v ∧ H w0 R L' w' ∧ Φ v L')
    (k : ∀ v L', Φ v L' → JA ds m P n w0 R l0 Q fuel (listed.setIfInBounds i true) (upd f d v) L') : JO ds m P n w0 R l0 Q fuel listed f L i := fun a w hra hw => by
  unfold wpOpIn
  rw [hi]
  dsimp only
  have hwa : (dfr ds a).tmps = a.tmps := rfl
  rw [hwa, if_pos ((hra.wanted l0 ⟨some d, .call ⟨.value x, ⟨xs⟩, ats⟩, ty, pos, aft, g⟩).trans hg)]
  refine ⟨fun _ _ => trivial, ?_⟩
  have he : (dfr ds a).eval = a.eval := rfl
  rw [Oper.semAt_eq _ _ _ (fun c => by intro h; cases h), he, hra.eval, yield_run hx ha]
  obtain ⟨fn, tmps, assign, body, hr, hround⟩ := hy w hw
  rw [hr]
  refine ⟨fun h => (by cases h), hround.mono ?_⟩
  rintro e w' ⟨v, L', rfl, hw', hP⟩
  show wpAnyIn _ _ _ _ _ _ _ _ _ _
  rw [dfr_put]
  exact k v L' hP _ _ (hra.put (some d) v) hw'
theorem JA.meet {fuel' : Nat} {listed' : Array Bool} (M : Fr → Fr → List Heap → Prop) (fin : ∀ g Lx, M f g Lx → JA ds m P n w0 R l0 Q fuel' listed' g Lx) (h : (∀ g Lx, M f g Lx → JA ds m P n w0 R l0 Q fuel' listed' g Lx) → JA ds m P n w0 R l0 Q fuel listed f L) : JA ds m P n w0 R l0 Q fuel listed f L := h fin
theorem JA.perm {L' : List Heap} (hp : L.Perm L') (k : JA ds m P n w0 R l0 Q fuel listed f L') : JA ds m P n w0 R l0 Q fuel listed f L := fun a w ha hw => k a w ha (hw.perm hp)
theorem JA.pin (i : Nat) {v : Value} (e : f i = v) (k : JA ds m P n w0 R l0 Q fuel listed (upd f i v) L) : JA ds m P n w0 R l0 Q fuel listed f L := by
  have : upd f i v = f := funext fun j => by
    by_cases h : j = i
    · subst h; rw [upd_same, e]
    · exact upd_ne f v h
  rw [this] at k
  exact k
theorem JA.at {listed' : Array Bool} (hl : listed = listed') (k : JA ds m P n w0 R l0 Q fuel listed' f L) : JA ds m P n w0 R l0 Q fuel listed f L := hl ▸ k
theorem JA.fin (hr : Region.ready .any l0.toArray listed = []) (hk : K .normal f L) : JA [] m P n w0 R l0 (QW n w0 R K) fuel listed f L := JA.done hr fun a w ha hw => by
  rw [dfr_nil]
  exact ⟨f, L, ha, hw, hk⟩
end
end Go.Cx
namespace Go.Cx
open Go Go.RowKit
set_option linter.unusedVariables false
set_option linter.unusedSimpArgs false
theorem H.turn {w0 w : World} {R : Heap} {L : List Heap} {b : Nat} {o : Obj} (o' : Obj) (h : H w0 R ([(b, o)] :: L) w) : H w0 R ([(b, o')] :: L) (w.putObj b o') := by
  have hb := h.rd (Rd.hd (R := R) (L := L) (g := b) (o := o))
  exact h.grew (grownBy_putObj' w b o') (World.putObj_heap_same (Array.getElem?_eq_some_iff.1 hb).1)
section
variable {m : Nat} {P : Program} {n : Nat} {w0 : World} {R : Heap} {f : Fr} {L : List Heap} {l : Nat} {r : Loop}
def rndK (w0 : World) (R : Heap) (l : Nat) (r : Loop) (Φ : Value → List Heap → Prop) : Exit → Fr → List Heap → Prop
  | .normal, _, L => ∃ L2, (∀ w, H w0 R L w → H w0 R ([(l, .loop { r with state := .busy })] :: L2) w) ∧ Φ (.bool true) ([(l, .loop { r with state := .ready, pending := none })] :: L2)
  | .ret, _, L => ∃ L2, (∀ w, H w0 R L w → H w0 R ([(l, .loop { r with state := .busy })] :: L2) w) ∧ Φ (.bool false) ([(l, .loop { r with state := .done, pending := some .ret })] :: L2)
  | .exit id, _, L => ∃ L2, (∀ w, H w0 R L w → H w0 R ([(l, .loop { r with state := .busy })] :: L2) w) ∧ Φ (.bool false) ([(l, .loop { r with state := .done, pending := some (.exit id) })] :: L2)
  | _, _, _ => False
def asgK (m : Nat) (P : Program) (n : Nat) (w0 : World) (R : Heap) (l : Nat) (r : Loop) (Φ : Value → List Heap → Prop) : Exit → Fr → List Heap → Prop
  | .normal, f, L => ∃ L2, (∀ w, H w0 R L w → H w0 R ([(l, .loop r)] :: L2) w) ∧ JR (some l) m P n w0 R r.body (rndK w0 R l r Φ) f ([(l, .loop { r with state := .busy })] :: L2)
  | _, _, _ => False
theorem round_any {vs : List Value} {Φ : Value → List Heap → Prop} (hst : r.state = .ready) (hsz : vs.length = r.params.size) (ha0 : Rep n f { tmps := (r.params.zip ⟨vs⟩).foldl (fun tmps (t, a) => tmps.setIfInBounds t a) r.tmps, defers := [] })
    (hasg : JR (some l) m P n w0 R r.assign (asgK m P n w0 R l r Φ) f ([(l, .loop r)] :: L)) {w : World} (hw : H w0 R ([(l, .loop r)] :: L) w) :
    ∃ fn tmps assign body, (Instr.yield l ⟨vs⟩).run P w = .ok (.round l fn tmps assign body) w ∧ RoundIn (FR none) m P l fn tmps assign body w fun e w' => ∃ v L', e = .returned v ∧ H w0 R L' w' ∧ Φ v L' := by
  have hl := hw.rd (Rd.hd (R := R) (L := L) (g := l) (o := .loop r))
  refine ⟨_, _, _, _, run_yield (P := P) (args := ⟨vs⟩) hl hsz, roundIn_of_wpIn (F := FR none) trivial ?_⟩
  refine wpIn_mono (hasg _ w ha0 hw) ?_
  intro e a1 w1 q
  cases e with
  | normal =>
    obtain ⟨f1, L1, ha1, hw1, L2, hto, hbody⟩ := q
    have hw2 := hto w1 hw1
    have hl2 := hw2.rd (Rd.hd (R := R) (L := L2) (g := l) (o := .loop r))
    refine ⟨_, run_beginRound hl2 hst, ?_⟩
    have hw3 := H.turn (.loop { r with state := .busy }) hw2
    refine wpIn_mono (hbody a1 _ ha1 hw3) ?_
    intro e a3 w3 q
    have fin : ∀ (jump : Option Code) (L4 : List Heap), H w0 R ([(l, .loop { r with state := .busy })] :: L4) w3 →
        (Instr.endRound l jump).run P w3 = .ok (.bool jump.isNone) (w3.putObj l (.loop { r with state := if jump.isNone then .ready else .done, pending := jump })) ∧ H w0 R ([(l, .loop { r with state := if jump.isNone then .ready else .done, pending := jump })] :: L4) (w3.putObj l (.loop { r with state := if jump.isNone then .ready else .done, pending := jump })) := fun jump L4 h4 =>
      ⟨run_endRound (r := { r with state := .busy }) jump (h4.rd (Rd.hd (R := R) (L := L4) (g := l) (o := .loop { r with state := .busy }))), H.turn _ h4⟩
    cases e with
    | normal =>
      obtain ⟨f3, L3, ha3, hw3, L4, hto, hP⟩ := q
      obtain ⟨h1, h2⟩ := fin none L4 (hto _ hw3)
      exact ⟨_, _, h1, _, _, rfl, h2, hP⟩
    | ret =>
      obtain ⟨f3, L3, ha3, hw3, L4, hto, hP⟩ := q
      obtain ⟨h1, h2⟩ := fin (some .ret) L4 (hto _ hw3)
      exact ⟨_, _, h1, _, _, rfl, h2, hP⟩
    | exit id =>
      obtain ⟨f3, L3, ha3, hw3, L4, hto, hP⟩ := q
      obtain ⟨h1, h2⟩ := fin (some (.exit id)) L4 (hto _ hw3)
      exact ⟨_, _, h1, _, _, rfl, h2, hP⟩
    | goto t => obtain ⟨_, _, _, _, q⟩ := q; exact q.elim
    | panic c => obtain ⟨_, _, _, _, q⟩ := q; exact q.elim
    | outgrown => exact q.elim
  | ret => obtain ⟨_, _, _, _, q⟩ := q; exact q.elim
  | exit id => obtain ⟨_, _, _, _, q⟩ := q; exact q.elim
  | goto t => obtain ⟨_, _, _, _, q⟩ := q; exact q.elim
  | panic c => obtain ⟨_, _, _, _, q⟩ := q; exact q.elim
  | outgrown => exact q.elim
def recL (fn : FuncId) (tmps : Array Value) (ps : Array Tmp) (assign body : Code) (D : Nat) : Loop := { state := .ready, pending := none, fn, tmps, params := ps, assign, body, defers := D }
theorem rangeF_any {g : Operand} {ps : Array Tmp} {assign body : Code} {gf : FuncId} {lb : List Value} {Q : Exit → Act → World → Prop} {Ψ : List Heap → Prop} (hg : Cx.ev n f g = .func (.func gf) ⟨[]⟩ ⟨lb⟩) (he : Entr P gf)
    (hit : ∀ (fn D : Nat) (tmps : Array Value) (w1 : World), Rep n f { tmps := tmps, defers := [] } → H w0 R ([(D + 1, .loop (recL fn tmps ps assign body D))] :: [(D, .deferred (some []))] :: L) w1 →
      CallsIn (FR none) (m - 1) P gf ⟨.func (.yield (D + 1)) ⟨[]⟩ ⟨[]⟩ :: lb⟩ w1 fun e w' => ∃ v L', e = .returned v ∧ H w0 R ([(D + 1, .loop (recL fn tmps ps assign body D))] :: [(D, .deferred (some []))] :: L') w' ∧ Ψ L')
    (hk : ∀ (D : Nat) L', Ψ L' → ∀ a w, Rep n f a → H w0 R ([(D, .deferred (some []))] :: L') w → Q .normal (dfr [{ target := .collected D, args := #[] }] a) w)
    {a : Act} {w : World} (ha : Rep n f a) (hw : H w0 R L w) : (Code.rangeFunc g ps assign body).wpIn (FR none) m P Q a w := by
  refine wpIn_rangeFunc fun fn _ => ?_
  have h1 := hw.alloc (.deferred (some []))
  have h2 := h1.alloc (.loop (recL fn a.tmps ps assign body w.heap.size))
  rw [World.size_alloc] at h2
  have ha2 : Rep n f { tmps := a.tmps, defers := [] } := ⟨ha.1, rfl, ha.2.2⟩
  have hda : a.defers = [] := ha.2.1
  have hga : a.eval g = .func (.func gf) ⟨[]⟩ ⟨lb⟩ := by rw [ha.eval]; exact hg
  obtain ⟨W1, hW1⟩ : ∃ W1, (w.alloc (.deferred (some []))).alloc (.loop (recL fn a.tmps ps assign body w.heap.size)) = W1 := ⟨_, rfl⟩
  rw [hW1] at h2
  refine ⟨w.heap.size + 1, [{ target := .collected w.heap.size, args := #[] }], W1, { target := .fn (.func gf) ⟨lb⟩, args := #[.func (.yield (w.heap.size + 1)) #[] #[]] }, W1, gf, ⟨.func (.yield (w.heap.size + 1)) ⟨[]⟩ ⟨[]⟩ :: lb⟩, W1, ?_, ?_, fun _ _ => trivial, ?_, fun h => (by cases h), ?_⟩
  · rw [← hW1]; exact run_enterLoop_outer fn a.tmps ps assign body
  · simp only [resolve, hga]
    simp [go_sem]
  · have := he ⟨.func (.yield (w.heap.size + 1)) ⟨[]⟩ ⟨[]⟩ :: lb⟩ W1
    simpa [invoke, go_sem] using this
  · refine (hit fn w.heap.size a.tmps W1 ha2 h2).mono ?_
    rintro e w' ⟨v, L', rfl, hw', hP⟩
    have hl := hw'.rd (Rd.hd (R := R) (L := [(w.heap.size, .deferred (some []))] :: L') (g := w.heap.size + 1) (o := .loop (recL fn a.tmps ps assign body w.heap.size)))
    refine ⟨none, _, run_endLoop (r := recL fn a.tmps ps assign body w.heap.size) hl (by intro h; cases h), ?_⟩
    have h3 := (H.turn (.loop { recL fn a.tmps ps assign body w.heap.size with state := .exhausted }) hw').drop
    have hd : ({ a with defers := [{ target := .collected w.heap.size, args := #[] }] ++ a.defers } : Act) = dfr [{ target := .collected w.heap.size, args := #[] }] a := by unfold dfr; rw [hda]; rfl
    show Q .normal _ _
    rw [hd]
    exact hk _ _ hP a _ ha h3
theorem leaves_D {fn : Func} {Post : Ending → World → Prop} {D : Nat} {a : Act} {w : World} (ha : Rep n f a) (hw : H w0 R ([(D, .deferred (some []))] :: L) w) (hr : retK P fn n w0 R Post .ret f ([(D, .deferred none)] :: L)) : bodyPostM (FR none) m P fn Post .ret (dfr [{ target := .collected D, args := #[] }] a) w := by
  have hk := hw.rd (Rd.hd (R := R) (L := L) (g := D) (o := .deferred (some [])))
  have hda : (dfr [{ target := .collected D, args := #[] }] a).defers = [{ target := .collected D, args := #[] }] := by
    show a.defers ++ _ = _
    rw [ha.2.1]; rfl
  show LeavesInM (FR none) m P fn _ Post _ .returning w
  rw [hda]
  obtain ⟨v, h1, h2⟩ := hr a _ ha (H.turn (.deferred none) hw)
  exact ⟨(by intro h; cases h), .inl ⟨D, _, rfl, run_takeDeferred hk, ⟨v, h1, h2⟩⟩⟩
theorem calls_of_D {fid : FuncId} {fn : Func} {c : Code} {args : List Value} {Post : Ending → World → Prop} {w : World} (hf : P.funcs[fid]? = some fn) (hn : fn.ntmps = n) (hb : fn.body = some c) (hsz : Nat.ble args.length n = true) (hw : H w0 R L w)
    (h : ∀ a, Rep n (fr0 args) a → c.wpIn (FR none) m P (bodyPostM (FR none) m P fn Post) a w) : Calls P fid args.toArray w Post := by
  have h1 : CallsIn Fence.wide m P fid args.toArray w Post := callsIn_of_wp_marks (F := Fence.wide) hf hb trivial (by
    rw [hn]
    exact h _ (fr0_rep (Nat.le_of_ble_eq_true hsz)))
  exact callsIn_wide.1 h1
def JW (ds : List Deferred) (m : Nat) (P : Program) (n : Nat) (w0 : World) (R : Heap) (c : Code) (Q : Exit → Act → World → Prop) (f : Fr) (L : List Heap) : Prop :=
  ∀ a w, Rep n f a → H w0 R L w → c.wpIn (FR none) m P Q (dfr ds a) w
def toW (m : Nat) (P : Program) (n : Nat) (w0 : World) (R : Heap) (y : Code) (Q : Exit → Act → World → Prop) : Exit → Fr → List Heap → Prop
  | .normal, f, L => JW [] m P n w0 R y Q f L
  | _, _, _ => False
theorem toW.nn {y : Code} {Q : Exit → Act → World → Prop} (h : JW [] m P n w0 R y Q f L) : toW m P n w0 R y Q .normal f L := h
theorem JW.seqC {x y : Code} {Q : Exit → Act → World → Prop} (h : JC P n w0 R x (toW m P n w0 R y Q) f L) : JW [] m P n w0 R (.seq x y) Q f L := fun a w ha hw => by
  rw [dfr_nil]
  refine wpIn_seq (wpIn_mono (wpIn_wide.2 (h a w ha hw) : x.wpIn (FR none) m P _ a w) ?_)
  intro e a' w' q
  cases e with
  | normal =>
    obtain ⟨f', L', ha', hw', hk⟩ := q
    have := hk a' w' ha' hw'
    rw [dfr_nil] at this
    exact this
  | ret => obtain ⟨_, _, _, _, q⟩ := q; exact q.elim
  | exit id => obtain ⟨_, _, _, _, q⟩ := q; exact q.elim
  | goto t => obtain ⟨_, _, _, _, q⟩ := q; exact q.elim
  | panic c => obtain ⟨_, _, _, _, q⟩ := q; exact q.elim
  | outgrown => exact q.elim
end
end Go.Cx
namespace Go.Cx
open Go Go.RowKit
set_option linter.unusedVariables false
set_option linter.unusedSimpArgs false
section
variable {rd : Option Nat} {m : Nat} {P : Program} {n : Nat} {w0 : World} {R : Heap} {K : Exit → Fr → List Heap → Prop} {f : Fr} {L : List Heap}
theorem JR.draw {id : Nat} {l0 : List Oper} (hm : P.follows .mixedOrders = true) (h : JA [] m P n w0 R l0 (QW n w0 R K) l0.length (Array.replicate l0.length false) f L) : JR none m P n w0 R (.region id l0.toArray true) K f L := fun a w ha hw => by
  have := JA.start (id := id) hm h ha hw
  rwa [dfr_nil] at this
theorem roundsR {c : Code} (ws : Nat → Bool) (I : Nat → Fr → List Heap → Prop) (f0 : Fr) (round : ∀ k g L', I k g L' → JR rd m P n w0 R c (loopK ws f0 I k K) (havoc ws f0 g) L') : ∀ k j, j ≤ k → ∀ g L', Ag ws f0 g → I j g L' → ∀ a w, Rep n g a → H w0 R L' w → Code.roundsIn (FR rd) m P c (QW n w0 R K) (k + 1) a w
  | k, j, hj, g, L', hag, hI, a, w, ha, hw => by
    have hr := round j g L' hI
    rw [hag.eq] at hr
    show c.wpIn _ _ _ _ _ _
    refine wpIn_mono (hr a w ha hw) ?_
    intro e a' w' q
    cases e with
    | normal =>
      obtain ⟨f', L'', ha', hw', h1, m', h2, J, L3, hp, h3⟩ := q
      cases k with
      | zero => omega
      | succ k => exact roundsR ws I f0 round k m' (by omega) f' L3 h1 h3 a' w' ha' (hw'.perm hp).drops
    | ret => exact q
    | exit id => exact q
    | goto t => exact q
    | panic c => exact q
    | outgrown => exact q
theorem JR.loop {c : Code} (ws : Nat → Bool) (I : Nat → Fr → List Heap → Prop) (m0 : Nat) (h0 : I m0 f L)
    (round : ∀ k g L', I k g L' → JR rd m P n w0 R c (loopK ws f I k K) (havoc ws f g) L') : JR rd m P n w0 R (.loop c) K f L := fun a w ha hw =>
  wpIn_loop_rounds (m0 + 1) (roundsR ws I f round m0 m0 (Nat.le_refl _) f L Ag.rfl' h0 a w ha hw)
theorem calls_inR {fid : FuncId} {fn : Func} {c : Code} {args : List Value} {Post : Ending → World → Prop} {w : World}
    (hf : P.funcs[fid]? = some fn) (hn : fn.ntmps = n) (hb : fn.body = some c) (hsz : Nat.ble args.length n = true) (hH : H w0 R L w) (h : JR none m P n w0 R c (retK P fn n w0 R Post) (fr0 args) L) : CallsIn (FR none) m P fid args.toArray w Post := by
  refine callsIn_of_wp hf hb trivial ?_
  rw [hn]
  refine wpIn_mono (h _ w (fr0_rep (Nat.le_of_ble_eq_true hsz)) hH) ?_
  intro e a' w' q
  cases e with
  | normal =>
    obtain ⟨f', L', ha', hw', hk⟩ := q
    obtain ⟨v, h1, h2⟩ := hk a' w' ha' hw'
    exact ⟨ha'.2.1, v, h1, h2⟩
  | ret =>
    obtain ⟨f', L', ha', hw', hk⟩ := q
    obtain ⟨v, h1, h2⟩ := hk a' w' ha' hw'
    exact ⟨ha'.2.1, v, h1, h2⟩
  | exit i => obtain ⟨_, _, _, _, hk⟩ := q; exact hk.elim
  | goto i => obtain ⟨_, _, _, _, hk⟩ := q; exact hk.elim
  | panic i => obtain ⟨_, _, _, _, hk⟩ := q; exact hk.elim
  | outgrown => exact q.elim
def noP (K : Exit → Fr → List Heap → Prop) : Prop := ∀ c f L, ¬ K (.panic c) f L
theorem noP.thenR {y : Code} (h : noP K) : noP (thenR rd m P n w0 R y K) := h
theorem noP.blockK {id : Nat} (h : noP K) : noP (Cx.blockK id K) := h
theorem noP.loopK {ws : Nat → Bool} {f0 : Fr} {I : Nat → Fr → List Heap → Prop} {k : Nat} (h : noP K) : noP (Cx.loopK ws f0 I k K) := h
theorem noP.retK {fn : Func} {Post : Ending → World → Prop} : noP (Cx.retK P fn n w0 R Post) := fun _ _ _ h => h
theorem noP.qw (h : noP K) : ∀ c a w, ¬ QW n w0 R K (.panic c) a w := fun c a w ⟨f, L, _, _, q⟩ => h c f L q
end
end Go.Cx
namespace Go.Cx
open Go Go.RowKit Go.Lib
set_option linter.unusedVariables false
set_option linter.unusedSimpArgs false
section
variable {P : Program} {n : Nat} {w0 : World} {R : Heap} {l0 : List Oper} {K : Exit → Fr → List Heap → Prop} {f : Fr} {L : List Heap} {rest : List (Nat × Oper)} {κ : Nat}
variable {Γ : List (Nat × TI)} {d : Nat} {op : Op} {ty : TypeId} {pos : String} {aft : Array Edge} {g : Option (Nat × Bool)} {t u e : TypeId} {x y z : Operand} {a : Option Addr} {len cap : Nat} {h : Heap}
theorem _root_.Go.Cx.OwT.take {α : Type} {enc : α → List Value} {size : Nat} {ts : List α} (ho : OwT enc size e a cap ts h) (k : Nat) : OwT enc size e a cap (ts.take k) h := by
  refine ⟨ho.len, ?_⟩
  rcases ho.row with ⟨h1, h2, h3, h4⟩ | ⟨gb, cs, h1, h2, h3, h4, h5⟩
  · exact .inl ⟨h1, h2, by rw [h3]; simp, h4⟩
  · refine .inr ⟨gb, cs, h1, h2, h3, by rw [List.length_take]; omega, ?_⟩
    have hf : (ts.take k).flatMap enc = (ts.flatMap enc).take ((ts.take k).length * size) := by
      have e2 : ts.flatMap enc = (ts.take k).flatMap enc ++ (ts.drop k).flatMap enc := by rw [← List.flatMap_append, List.take_append_drop]
      rw [e2, List.take_append_of_le_length (by rw [flat_len ho.len]; exact Nat.le_refl _)]
      exact (List.take_of_length_le (by rw [flat_len ho.len]; exact Nat.le_refl _)).symm
    rw [hf, ← h5, List.take_take]
    congr 1
    have : (ts.take k).length * size ≤ ts.length * size := Nat.mul_le_mul_right _ (by rw [List.length_take]; omega)
    omega
theorem J.slF {ki : IntKind} {j : Int} {m s1 b1 : Nat} {z1 : Option Value} {te : TI} (hΓ : Fits P Γ)
    (k : J P n w0 R l0 K rest (upd f d (.slice a m cap)) L)
    (hg : wantB n f l0 ⟨some d, .slice t x none (some y) none, ty, pos, aft, g⟩ = true := by exact rfl) (hx : Cx.ev n f x = .slice a len cap := by exact rfl) (hy : Cx.ev n f y = .int ki j := by exact rfl) (ht : look Γ t = some ⟨.slice e, s1, z1, b1⟩ := by exact rfl) (hte : look Γ e = some te := by exact rfl) (hm : j = (m : Int) := by omega) (h1 : m ≤ cap := by omega) :
    J P n w0 R l0 K ((κ, ⟨some d, .slice t x none (some y) none, ty, pos, aft, g⟩) :: rest) f L :=
  J.p hg (fun w => by
    subst hm
    have hu : P.underlying t = some (.slice e) := (hΓ t _ ht).1
    have he : P.elem t = e := by unfold Program.elem; rw [hu]
    have hu' : P.underlying t = some (.slice (P.elem t)) := by rw [he]; exact hu
    have : (Instr.sliceAt t (.slice a len cap) none (some (.int ki (m : Int))) none).run P w = .ok (.slice a m cap) w := by
      rw [run_sliceAt_slice w t _ _ _ _ hu', run_slice_h w t a len cap hu' ki (m : Int) (by omega) (by omega), he, sizeOf_run hΓ hte w]
      cases a <;> simp [sliced, Result.andThen, Addr.add]
    simp only [execOp, hx, hy, Sem.run_bind, Option.map_some, Option.map_none]
    rw [this]
    rfl) k
end
end Go.Cx
namespace Go.Proofs.Ytbhgahjeocnfcaa
open Go Go.Cx Go.RowKit
set_option linter.unusedVariables false
set_option linter.unusedSimpArgs false
set_option maxHeartbeats 4000000
attribute [local irreducible] J JC thenK blockK loopK roundK drawK retK QW Qt pel List.set Calls
open Go.Maps
set_option maxRecDepth 8000
attribute [local irreducible] JE Br eK0 eK3 brK
def JQ (P : Program) (n : Nat) (w0 : World) (R : Heap) (c : Code) (Q : Exit → Act → World → Prop) (f : Fr) (L : List Heap) : Prop := ∀ a w, Rep n f a → H w0 R L w → c.wp P Q a w
def qK (P : Program) (n : Nat) (w0 : World) (R : Heap) (y : Code) (Q : Exit → Act → World → Prop) : Exit → Fr → List Heap → Prop
  | .normal, f, L => JQ P n w0 R y Q f L
  | _, _, _ => False
section
variable {P : Program} {n : Nat} {w0 : World} {R : Heap} {f : Fr} {L : List Heap} {x y : Code} {Q : Exit → Act → World → Prop} {Γ : List (Nat × TI)}
theorem qK.nn (h : JQ P n w0 R y Q f L) : qK P n w0 R y Q .normal f L := h
theorem JQ.seq (h : JC P n w0 R x (qK P n w0 R y Q) f L) : JQ P n w0 R (.seq x y) Q f L := fun a w ha hw => by
  unfold JC at h
  refine wp_seq (wp_mono (h a w ha hw) ?_)
  intro e a' w' q
  unfold QW at q
  cases e <;> first | (obtain ⟨f', L', ha', hw', hk⟩ := q; first | exact hk a' w' ha' hw' | exact hk.elim) | exact q.elim
theorem calls_JQ {fid : FuncId} {fn : Func} {c : Code} {n : Nat} {args : List Value} {w w0 : World} {R : Heap} {L : List Heap} {Post : Ending → World → Prop}
    (hf : P.funcs[fid]? = some fn) (hn : fn.ntmps = n) (hb : fn.body = some c) (hsz : Nat.ble args.length n = true) (hH : H w0 R L w) (h : JQ P n w0 R c (bodyPostD P fn Post) (fr0 args) L) : Calls P fid args.toArray w Post := by
  refine calls_of_wp_defers hf hb ?_
  rw [hn]
  exact h _ w (fr0_rep (Nat.le_of_ble_eq_true hsz)) hH
def RepD (D : List Deferred) (n : Nat) (f : Fr) (a : Act) : Prop := Rep n f { a with defers := [] } ∧ a.defers = D
theorem RepD.of {a : Act} (h : Rep n f a) : RepD [] n f a := ⟨⟨h.1, rfl, h.2.2⟩, h.2.1⟩
theorem RepD.eval {D : List Deferred} {a : Act} (h : RepD D n f a) : a.eval = Cx.ev n f := by
  rw [← h.1.eval]
  funext o; cases o <;> rfl
theorem RepD.put {D : List Deferred} {a : Act} (h : RepD D n f a) (d : Option Tmp) (v : Value) : RepD D n (updO f d v) (a.put d v) := by
  have h1 := h.1.put d v
  cases d with
  | none => exact ⟨h1, h.2⟩
  | some d => exact ⟨h1, h.2⟩
theorem RepD.wanted {D : List Deferred} {a : Act} (h : RepD D n f a) (l : List Oper) (o : Oper) : Region.wanted o (yielded l.toArray a.tmps) = wantB n f l o := h.1.wanted l o
theorem dl_step {D : List Deferred} {ops : List Oper} {l : List Oper} {o : Oper} {a : Act} {w w' : World} {v : Value} (ha : RepD D n f a) (hg : wantB n f ops o = true) (hr : (execOp (Cx.ev n f) o).run P w = .ok (.value v) w')
    (k : ∀ a', RepD D n (updO f o.dst v) a' → wpList P ops.toArray Q l a' w') : wpList P ops.toArray Q (o :: l) a w := by
  unfold wpList
  rw [if_pos (by rw [ha.wanted, hg])]
  refine .inl ?_
  unfold Oper.wp
  rw [ha.eval, hr]
  exact k _ (ha.put _ _)
theorem dl_call {D : List Deferred} {ops : List Oper} {l : List Oper} {o : Oper} {a : Act} {w : World} {fid : FuncId} {args : Array Value} {Φ : Value → List Heap → Prop} (ha : RepD D n f a) (hg : wantB n f ops o = true) (hr : (execOp (Cx.ev n f) o).run P w = .ok (.enter fid args) w)
    (hc : Calls P fid args w fun e w' => ∃ v L', e = .returned v ∧ H w0 R L' w' ∧ Φ v L') (k : ∀ v L' a' w', Φ v L' → H w0 R L' w' → RepD D n (updO f o.dst v) a' → wpList P ops.toArray Q l a' w') : wpList P ops.toArray Q (o :: l) a w := by
  unfold wpList
  rw [if_pos (by rw [ha.wanted, hg])]
  refine .inl ?_
  unfold Oper.wp
  rw [ha.eval, hr]
  refine hc.mono ?_
  rintro e w' ⟨v, L', rfl, hw', hP⟩
  exact k v L' _ w' hP hw' (ha.put _ _)
theorem dl_defer {D : List Deferred} {ops : List Oper} {l : List Oper} {o : Oper} {a : Act} {w : World} {d : Deferred} (ha : RepD D n f a) (hg : wantB n f ops o = true) (hr : (execOp (Cx.ev n f) o).run P w = .ok (.defer d) w)
    (k : ∀ a', RepD (d :: D) n (updO f o.dst undef) a' → wpList P ops.toArray Q l a' w) : wpList P ops.toArray Q (o :: l) a w := by
  unfold wpList
  rw [if_pos (by rw [ha.wanted, hg])]
  refine .inl ?_
  unfold Oper.wp
  rw [ha.eval, hr]
  refine k _ (RepD.put ⟨h_def ha, by rw [ha.2]⟩ _ _)
where h_def {D : List Deferred} {a : Act} {d : Deferred} (ha : RepD D n f a) : Rep n f { ({ a with defers := d :: a.defers } : Act) with defers := [] } := ha.1
theorem dl_st {D : List Deferred} {ops : List Oper} {l : List Oper} {a : Act} {w : World} {t : TypeId} {ti : TI} {x y : Operand} {b off : Nat} {cs cl cs' : List Value} {e : TypeId} {ty : TypeId} {pos : String} {aft : Array Edge} {g : Option (Nat × Bool)} (hΓ : Fits P Γ) (ha : RepD D n f a) (hg : wantB n f ops ⟨none, .store t x y, ty, pos, aft, g⟩ = true)
    (hp : Cx.ev n f x = .pointer (some ⟨b, off, none⟩)) (ht : Cx.look Γ t = some ti) (hv : vcells (Cx.ev n f y) = some cl) (hn : Nat.beq cl.length ti.size = true) (h1 : ones cl = true) (hcs : putE cs off cl = some cs') (hw : H w0 R ([(b, .cells ⟨cs⟩ e (0, 0))] :: L) w)
    (k : ∀ a' w', RepD D n f a' → H w0 R ([(b, .cells ⟨cs'⟩ e (0, 0))] :: L) w' → wpList P ops.toArray Q l a' w') : wpList P ops.toArray Q (⟨none, .store t x y, ty, pos, aft, g⟩ :: l) a w := by
  unfold putE at hcs
  cases hle : Nat.ble (off + cl.length) cs.length with
  | false => rw [hle] at hcs; cases hcs
  | true =>
    rw [hle] at hcs
    simp only [cond_true, forceL_eq, Option.some.injEq] at hcs
    obtain ⟨w', hr, hw'⟩ := store_ok hΓ ht hv hn h1 (Nat.le_of_ble_eq_true hle) hcs hw
    have hx : (execOp (Cx.ev n f) ⟨none, .store t x y, ty, pos, aft, g⟩).run P w = .ok .skip w' := by simp only [execOp, hp, Sem.run_bind]; rw [hr]; rfl
    unfold wpList
    rw [if_pos (by rw [ha.wanted, hg])]
    refine .inl ?_
    unfold Oper.wp
    rw [ha.eval, hx]
    exact k _ _ (ha.put none undef) hw'
theorem resCC {fn : Func} {t u ty uy b c : Nat} {cs ds : List Value} {e e2 : TypeId} {fr fr2 : Nat × Nat} {v x : Value} {D : List Deferred} {a : Act} {w : World} (hΓ : Fits P Γ) (hr : fn.results = #[.cell t ty, .cell u uy]) (ha : RepD D n f a) (hw : H w0 R L w) (ht : Nat.blt t n = true) (hu : Nat.blt u n = true) (hv : f t = .pointer (some ⟨b, 0, none⟩)) (hx : f u = .pointer (some ⟨c, 0, none⟩))
    (hb : Rd R L b (.cells ⟨cs⟩ e fr)) (hc : Rd R L c (.cells ⟨ds⟩ e2 fr2)) (hl : ldEv Γ ty cs 0 = some v) (hm : ldEv Γ uy ds 0 = some x) : (results fn a.tmps).run P w = .ok (.tuple #[v, x]) w := by
  have h1 := ldEv_ok (P := P) hΓ (hw.rd hb) hl
  have g1 := ldEv_ok (P := P) hΓ (hw.rd hc) hm
  unfold Instr.loadAt Instr.sureAddr at h1 g1
  simp only [Sem.run_bind, Sem.run_pure, Result.andThen_ok] at h1 g1
  have h2 := ha.1.getD ht
  rw [hv] at h2
  have h3 : a.tmps[t]?.getD undef = .pointer (some ⟨b, 0, none⟩) := by rw [← h2]; simp [Array.getD_eq_getD_getElem?]
  have h4 := ha.1.getD hu
  rw [hx] at h4
  have h5 : a.tmps[u]?.getD undef = .pointer (some ⟨c, 0, none⟩) := by rw [← h4]; simp [Array.getD_eq_getD_getElem?]
  simp only [results, hr]
  simp [h3, h5, asAddr, Sem.run_bind]
  rw [h1]
  simp only [Result.andThen_ok]
  rw [g1]
  rfl
theorem defer_run {x : Operand} {fv : Fn} {cp : List Value} {ty : TypeId} {pos : String} {aft : Array Edge} {g : Option (Nat × Bool)} (hx : Cx.ev n f x = .func fv ⟨[]⟩ ⟨cp⟩) (w : World) :
    (execOp (Cx.ev n f) ⟨none, .defer ⟨.value x, ⟨[]⟩, ⟨[]⟩⟩, ty, pos, aft, g⟩).run P w = .ok (.defer ⟨.fn fv ⟨cp⟩, ⟨[]⟩⟩) w := by
  have h1 : (⟨[]⟩ : Array Operand).map (Cx.ev n f) = ⟨[]⟩ := by simp
  simp only [execOp, resolve, h1, hx, Deferred.ofValue, Sem.run_bind, Sem.run_pure, Result.andThen_ok]
  rfl
theorem mf_run {fn : Fn} {cs : List Operand} {vs : List Value} {d : Nat} {ty : TypeId} {pos : String} {aft : Array Edge} {g : Option (Nat × Bool)} (hΓ : Fits P Γ) (hv : cs.map (Cx.ev n f) = vs) (w : World) :
    (execOp (Cx.ev n f) ⟨some d, .makeFunc fn ⟨[]⟩ ⟨cs⟩, ty, pos, aft, g⟩).run P w = .ok (.value (.func fn ⟨[]⟩ ⟨vs⟩)) w := pure_ok hΓ (by subst hv; simp [pureEv]) w
end
theorem eTry : Entr Try.prog 56 := Entr.of Try.func56 rfl rfl
theorem tryC_idle (p1 p2 p3 p4 : Addr) (w : World) : CallsD Try.prog 115 #[.pointer (some p1), .pointer (some p2), .pointer (some p3), .pointer (some p4)] .returning w fun e u' w' => e = .returned (.tuple #[]) ∧ u' = .returning ∧ w' = w := by
  refine callsD_of_wpS Try.func115 rfl fun c₀ cs hu => ?_
  apply wpS_seq
  apply wpS_region
  simp [wpOpsS, go_sem, recoverD, hu, Try.ntmps115, Exit.thenS]
  apply wpS_seq
  apply wpS_region
  simp [wpOpsS, go_sem, Exit.thenS]
  refine wpS_cond (t := false) (by simp [Act.eval, Array.replicate]) ?_
  simp only [Bool.false_eq_true, if_false]
  refine wpS_of_wp (wp_skip ?_)
  cases c₀
  simp_all [bodyPostS, results, Try.results115]
theorem try_any {n : Nat} {K : KS} {s : SS} (so : SOk n K s) {Q : SS → Nat → Prop} {fid : FuncId} {caps : List Value} (he : Entr Try.prog fid) {w0 w : World} {R : Heap} {L : List Heap} {b : Nat} (l : List Int) (a : Option Addr) (c : Nat) (h : Heap) (hs : SlT encI 1 a l h) (hl : l.length ≤ 1000) (hrl : RdH R L h) (hin : chkP s.ns.length l = true)
    (hf : ∀ (Lx : List Heap) (w : World), H w0 R (sF K b s ++ (Lx ++ L)) w → Calls Try.prog fid ⟨caps⟩ w fun e w' => ∃ v L', e = .returned v ∧ H w0 R L' w' ∧ ∃ s' y, v = .int .i64 ((y : Nat) : Int) ∧ L' = sF K b s' ++ (Lx ++ L) ∧ Q s' y)
    (hw : H w0 R (sF K b s ++ L) w) :
    Calls Try.prog 56 #[.pointer (some ⟨b, 0, none⟩), .func (.func fid) ⟨[]⟩ ⟨caps⟩, .slice a l.length c] w fun e w' => ∃ v L', e = .returned v ∧ H w0 R L' w' ∧ ∃ s' y, v = .tuple #[.int .i64 ((y : Nat) : Int), .int .i64 0] ∧ L' = sF K b s' ++ L ∧ Q s' y := by
  have two := so.wf.two
  have cChk : ∀ L1 w, H w0 R (sF K b s ++ L1) w → RdH R L1 h → Calls Try.prog 64 #[.pointer (some ⟨b, 0, none⟩), .slice a l.length c] w fun e w' => e = .returned (.int .i64 0) ∧ Below w.heap.size w w' := fun L1 w hw hr => by
    have := check_any K b s.an s.cn s.ns.length two ((b, stO K s.an s.ns.length s.cn) :: h) List.mem_cons_self l a c (hs.sub fun y hy => List.mem_cons_of_mem _ hy) hl w (holds2 (hw.rd Rd.hd) (hw.rdH hr.tl.tl.tl.tl))
    rw [hin, if_pos rfl] at this
    exact this
  unfold sF at hw
  simp only [List.cons_append, List.nil_append] at hw
  refine calls_JQ Try.func56 Try.ntmps56 rfl rfl hw ?_
  refine JQ.seq ?_
  repeat' first
    | (refine J.isJ ?_; first | (first | (refine J.o 6 ?_; refine J.bx (fun b3 => ?_)) | (refine J.o 7 ?_; refine J.al hΓ (fun b6 => ?_))) | (first | (refine J.o 0 ?_; refine J.ev' hΓ ?_) | refine J.nil ?_ | (refine J.o 4 ?_; first | refine J.lR hΓ ?_) | (refine J.o 3 ?_; first | refine J.ev' hΓ ?_) | (refine J.o 5 ?_; first | refine J.t0 hΓ ?_) | (refine J.o 6 ?_; refine J.bx (fun _ => ?_)) | (refine J.o 7 ?_; refine J.al hΓ (fun _ => ?_)) | (refine J.o 10 ?_; refine J.ev' hΓ ?_) | (refine J.o 11 ?_; refine J.ev' hΓ ?_)))
    | (first | refine JC.seq ?_ | refine JC.region ?_ | refine JC.skip ?_ | refine thenK.nn ?_ | refine JC.condF rfl ?_)
    | (fail)
    | fail
  rename_i b5
  refine qK.nn ?_
  refine JQ.seq ?_
  repeat' first
    | (refine J.isJ ?_; first | (first | (refine J.fc 64 ?_; refine J.call0 eCheck rfl rfl (fun w hw => cChk _ w (H.sel (l := [_, _, _, _, _, _, _]) (M := L) hw [3, 4, 5, 6, 0, 1, 2]) hrl.tl.tl.tl) ?_)) | (first | (refine J.o 0 ?_; refine J.ev' hΓ ?_) | refine J.nil ?_ | (refine J.o 4 ?_; first | refine J.lR hΓ ?_) | (refine J.o 3 ?_; first | refine J.ev' hΓ ?_) | (refine J.o 5 ?_; first | refine J.t0 hΓ ?_) | (refine J.o 6 ?_; refine J.bx (fun _ => ?_)) | (refine J.o 7 ?_; refine J.al hΓ (fun _ => ?_)) | (refine J.o 10 ?_; refine J.ev' hΓ ?_) | (refine J.o 11 ?_; refine J.ev' hΓ ?_)))
    | (first | refine JC.seq ?_ | refine JC.region ?_ | refine JC.skip ?_ | refine thenK.nn ?_ | refine JC.condF rfl ?_)
    | (fail)
    | fail
  all_goals first | (exfalso; omega) | skip
  refine qK.nn ?_
  unfold stO
  refine JQ.seq ?_
  repeat' first
    | (refine J.isJ ?_; first | (first | (refine J.o 7 ?_; refine J.al hΓ (fun b9 => ?_)) | (refine J.o 4 ?_; first | refine J.e3 hΓ ?_)) | (first | (refine J.o 0 ?_; refine J.ev' hΓ ?_) | refine J.nil ?_ | (refine J.o 4 ?_; first | refine J.lR hΓ ?_) | (refine J.o 3 ?_; first | refine J.ev' hΓ ?_) | (refine J.o 5 ?_; first | refine J.t0 hΓ ?_) | (refine J.o 6 ?_; refine J.bx (fun _ => ?_)) | (refine J.o 7 ?_; refine J.al hΓ (fun _ => ?_)) | (refine J.o 10 ?_; refine J.ev' hΓ ?_) | (refine J.o 11 ?_; refine J.ev' hΓ ?_)))
    | (first | refine JC.seq ?_ | refine JC.region ?_ | refine JC.skip ?_ | refine thenK.nn ?_ | refine JC.condF rfl ?_)
    | (fail)
    | fail
  refine qK.nn ?_
  intro a1 w1 ha1 hw1
  refine wp_seq (wp_region_lit ?_)
  refine dl_step (RepD.of ha1) rfl (v := .func (.func 115) ⟨[]⟩ ⟨[.pointer (some ⟨b3, 0, none⟩), .pointer (some ⟨b9, 0, none⟩), .pointer (some ⟨b5, 0, none⟩), (.pointer (some ⟨b6, 0, none⟩))]⟩) (mf_run hΓ rfl w1) fun a2 hd2 => ?_
  refine dl_defer hd2 rfl (defer_run rfl w1) fun a3 hd3 => ?_
  unfold wpList
  refine wp_seq (wp_region_lit ?_)
  refine dl_step hd3 rfl (v := .func (.func fid) ⟨[]⟩ ⟨caps⟩) (pure_ok hΓ rfl w1) fun a4 hd4 => ?_
  refine dl_call (args := ⟨caps⟩) (Φ := fun v L' => ∃ s' y, v = .int .i64 ((y : Nat) : Int) ∧ L' = sF K b s' ++ ([(b9, Obj.cells ⟨[.int .i64 (s.ns.length : Int)]⟩ 3 (0, 0))] :: [(b6, Obj.cells ⟨[.int .i64 0]⟩ 31 (0, 0))] :: [(b5, Obj.cells ⟨[.int .i64 0]⟩ 3 (0, 0))] :: [(b3, ptrS b)] :: L) ∧ Q s' y) hd4 rfl (callv_run (vs := []) (cp := caps) he rfl rfl w1) (hf ([(b9, _)] :: [(b6, _)] :: [(b5, _)] :: [(b3, _)] :: []) w1 (H.sel (l := [_, _, _, _, _, _, _, _]) (M := L) hw1 [4, 5, 6, 7, 0, 1, 2, 3])) ?_
  rintro _ _ a5 w2 ⟨s', y, rfl, rfl, hq⟩ hw2 hd5
  unfold sF ptrS at hw2
  simp only [List.cons_append, List.nil_append] at hw2
  refine dl_st hΓ hd5 rfl rfl rfl rfl rfl rfl rfl (H.sel (l := [_, _, _, _, _, _, _, _]) (M := L) hw2 [6, 0, 1, 2, 3, 4, 5, 7]) fun a6 w3 hd6 hw3 => ?_
  refine dl_st hΓ hd6 rfl rfl rfl rfl rfl rfl rfl (H.sel (l := [_, _, _, _, _, _, _, _]) (M := L) hw3 [6, 0, 1, 2, 3, 4, 5, 7]) fun a7 w4 hd7 hw4 => ?_
  unfold wpList
  refine wp_ret ?_
  show Leaves _ _ _ _ a7.defers _ _
  rw [hd7.2]
  refine leaves_cons (f := 115) (args := #[.pointer (some ⟨b3, 0, none⟩), .pointer (some ⟨b9, 0, none⟩), .pointer (some ⟨b5, 0, none⟩), .pointer (some ⟨b6, 0, none⟩)]) (by simp) (by simp [go_sem]) ?_
  refine (tryC_idle _ _ _ _ _).mono ?_
  rintro e u' w5 ⟨rfl, rfl, rfl⟩
  refine ⟨_, resCC hΓ rfl hd7 hw4 rfl rfl rfl rfl Rd.hd.tl Rd.hd rfl rfl, ?_⟩
  exact ⟨_, _, rfl, H.sel (l := [_, _, _, _, _, _, _, _]) (M := L) hw4 [2, 3, 4, 5], s', y, rfl, rfl, hq⟩
end Go.Proofs.Ytbhgahjeocnfcaa
namespace Go.Proofs.Ytbhgahjeocnfcaa
open Go Go.Cx Go.RowKit
set_option linter.unusedVariables false
set_option linter.unusedSimpArgs false
set_option maxHeartbeats 4000000
attribute [local irreducible] J JC thenK blockK loopK roundK drawK retK QW Qt pel List.set Calls
open Go.Maps
set_option maxRecDepth 8000
attribute [local irreducible] JE Br eK0 eK3 brK
def Res (n : Nat) (K : KS) (s s' : SS) (m y : Nat) (g : (Nat → Bool) → Bool) : Prop := Adds n K s s' m y ∧ ∀ α, fn n s'.ns y α = g α
def intO (a : Nat) : Obj := .cells ⟨[.int .i64 (a : Int)]⟩ 3 (0, 0)
theorem Rd.app {R : Heap} {L : List Heap} {g : Nat} {o : Obj} (M : List Heap) (h : Rd R L g o) : Rd R (M ++ L) g o := by
  induction M with
  | nil => exact h
  | cons x M ih => exact ih.tl
theorem slArg (b : Nat) (l : List Int) (t : TypeId) : SlT encI 1 (some ⟨b, 0, none⟩) l [(b, .cells ⟨l.flatMap encI⟩ t (0, 0))] :=
  have e : (l.flatMap encI).length = l.length := by
    induction l with
    | nil => rfl
    | cons x l ih => rw [List.flatMap_cons, List.length_append, ih, List.length_cons]; show 1 + _ = _; omega
  OwT.sl (e := t) (cap := l.length) ⟨fun _ => rfl, .inr ⟨b, _, rfl, rfl, by rw [e, Nat.mul_one], Nat.le_refl _, by rw [Nat.mul_one, List.take_of_length_le (by rw [e]; exact Nat.le_refl _)]⟩⟩
theorem chk_ok {m : Nat} {l : List Nat} (h : ∀ x ∈ l, x < m) : chkP m (l.map (fun x : Nat => (x : Int))) = true := by
  unfold chkP
  rw [List.all_map, List.all_eq_true]
  intro x hx
  have := h x hx
  show decide (0 ≤ ((x : Nat) : Int) ∧ ((x : Nat) : Int) < (m : Int)) = true
  exact decide_eq_true ⟨by omega, by omega⟩
theorem eNotC : Entr Try.prog 136 := Entr.of Try.func136 rfl rfl
theorem NotC_any {n : Nat} {K : KS} {s : SS} (so : SOk n K s) (a : Nat) (ha : a < s.ns.length) (hfull : s.ns.length + (2 ^ n - 1) ≤ 1048576) {w0 w : World} {R : Heap} {L : List Heap} {b0 c1 da : Nat} (r1 : Rd R L c1 (ptrS b0)) (ra : Rd R L da (intO a)) (hw : H w0 R (sF K b0 s ++ L) w) :
    Calls Try.prog 136 #[.pointer (some ⟨c1, 0, none⟩), .pointer (some ⟨da, 0, none⟩)] w fun e w' => ∃ v L', e = .returned v ∧ H w0 R L' w' ∧ ∃ s' y, v = .int .i64 ((y : Nat) : Int) ∧ L' = sF K b0 s' ++ L ∧ Res n K s s' (2 ^ n - 1) y (fun α => !(fn n s.ns a α)) := by
  have two := so.wf.two
  unfold ptrS at r1
  unfold sF at hw
  have ra2 := ra
  unfold intO at ra2
  simp only [List.cons_append, List.nil_append] at hw
  refine calls_in Try.func136 Try.ntmps136 rfl rfl (hw) ?_
  repeat' first
    | (refine J.isJ ?_; first | (first | (refine J.o 4 ?_; first | refine J.lR hΓ ?_ (hr := r1.tl.tl.tl.tl) | refine J.lR hΓ ?_ (hr := ra2.tl.tl.tl.tl)) | (refine J.fc 60 ?_; refine J.callx eCh rfl rfl (fun w hw => choose_any so ⟨a, 0, 1⟩ ⟨ha, (show 0 < s.ns.length by omega), (show 1 < s.ns.length by omega)⟩ hfull hw) ?_; rintro _ _ ⟨s1, y1, rfl, rfl, ad1, it1⟩)) | (first | (refine J.o 0 ?_; refine J.ev' hΓ ?_) | refine J.nil ?_ | (refine J.o 4 ?_; first | refine J.lR hΓ ?_) | (refine J.o 3 ?_; first | refine J.ev' hΓ ?_) | (refine J.o 10 ?_; refine J.ev' hΓ ?_) | (refine J.o 11 ?_; refine J.ev' hΓ ?_)))
    | (first | refine JC.seq ?_ | refine JC.region ?_ | refine JC.ret ?_ | refine thenK.nn ?_)
    | (fail)
    | fail
  refine ret1f rfl rfl rfl (fun w1 hw => ⟨_, _, rfl, hw, s1, y1, rfl, rfl, ad1, fun α => ?_⟩)
  have he := it1.eq α
  have ga := fn_ext so.wf ad1.ext ha α
  have z0 := fn_0 ad1.ok.wf α
  have z1 := fn_1 ad1.ok.wf α
  dsimp only at he
  rw [he]
  simp only [ga, z0, z1]
  cases fn n s.ns a α <;> rfl
theorem Not_any {n : Nat} {K : KS} {s : SS} (so : SOk n K s) (a : Nat) (ha : a < s.ns.length) (hfull : s.ns.length + (2 ^ n - 1) ≤ 1048576) {w0 w : World} {R : Heap} {L : List Heap} {b0 : Nat} (hw : H w0 R (sF K b0 s ++ L) w) :
    Calls Try.prog 93 #[.pointer (some ⟨b0, 0, none⟩), .int .i64 (a : Int)] w fun e w' => ∃ v L', e = .returned v ∧ H w0 R L' w' ∧ ∃ s' y, v = .tuple #[.int .i64 ((y : Nat) : Int), .int .i64 0] ∧ L' = sF K b0 s' ++ L ∧ Res n K s s' (2 ^ n - 1) y (fun α => !(fn n s.ns a α)) := by
  unfold sF at hw
  simp only [List.cons_append, List.nil_append] at hw
  refine calls_in Try.func93 Try.ntmps93 rfl rfl (hw) ?_
  refine JC.seq ?_
  refine JC.region ?_
  refine J.isJ ?_
  refine J.o 6 ?_
  refine J.bx (fun c1 => ?_)
  refine J.isJ ?_
  refine J.o 6 ?_
  refine J.bx (fun da => ?_)
  repeat' first
    | (refine J.isJ ?_; first | (first | (refine J.o 14 ?_; refine J.mfV [.pointer (some ⟨c1, 0, none⟩), .pointer (some ⟨da, 0, none⟩)] hΓ ?_) | (refine J.o 4 ?_; first | refine J.lR hΓ ?_ (hr := Rd.hd) | refine J.lR hΓ ?_ (hr := Rd.hd.tl)) | (refine J.o 9 ?_; refine J.bl hΓ (fun ba => ?_)) | (refine J.fc 56 ?_; refine J.callx eTry rfl rfl (fun w hw => try_any so (Q := fun s' y => Res n K s s' (2 ^ n - 1) y (fun α => !(fn n s.ns a α))) eNotC [(a : Int)] (some ⟨ba, 0, none⟩) 1 _ (slArg ba [(a : Int)] 3) (by show 1 ≤ 1000; omega) (L := [(ba, Obj.cells ⟨[.int .i64 (a : Int)]⟩ 3 (0, 0))] :: [(da, intO a)] :: [(c1, ptrS b0)] :: L) (RdH.hd) (chk_ok (l := [a]) (by simp only [List.mem_cons, List.not_mem_nil, or_false, forall_eq_or_imp, forall_eq]; exact ha)) (fun Lx w hw => NotC_any so a ha hfull (Rd.app Lx Rd.hd.tl.tl) (Rd.app Lx Rd.hd.tl) hw) (H.sel (l := [_, _, _, _, _, _, _]) (M := L) hw [3, 4, 5, 6, 0, 1, 2])) ?_; rintro _ _ ⟨s1, y1, rfl, rfl, hq⟩)) | (first | (refine J.o 0 ?_; refine J.ev' hΓ ?_) | refine J.nil ?_ | (refine J.o 4 ?_; first | refine J.lR hΓ ?_) | (refine J.o 3 ?_; first | refine J.ev' hΓ ?_) | (refine J.o 6 ?_; refine J.bx (fun _ => ?_)) | (refine J.o 9 ?_; refine J.bl hΓ (fun _ => ?_)) | (refine J.o 10 ?_; refine J.ev' hΓ ?_) | (refine J.o 11 ?_; refine J.ev' hΓ ?_)))
    | (first | refine JC.seq ?_ | refine JC.region ?_ | refine JC.ret ?_ | refine thenK.nn ?_)
    | (fail)
    | fail
  refine ret2f rfl rfl rfl rfl rfl (fun w1 hw => ⟨_, _, rfl, H.sel (l := [_, _, _, _, _, _, _]) (M := L) hw [0, 1, 2, 3], s1, y1, rfl, rfl, hq⟩)
theorem eIfC : Entr Try.prog 144 := Entr.of Try.func144 rfl rfl
theorem eIf : Entr Try.prog 118 := Entr.of Try.func118 rfl rfl
theorem IfC_any {n : Nat} {K : KS} {s : SS} (so : SOk n K s) (a : Nat) (ha : a < s.ns.length) (b : Nat) (hb : b < s.ns.length) (c : Nat) (hc : c < s.ns.length) (hfull : s.ns.length + (2 ^ n - 1) ≤ 1048576) {w0 w : World} {R : Heap} {L : List Heap} {b0 c1 da db dc : Nat} (r1 : Rd R L c1 (ptrS b0)) (ra : Rd R L da (intO a)) (rb : Rd R L db (intO b)) (rc : Rd R L dc (intO c)) (hw : H w0 R (sF K b0 s ++ L) w) :
    Calls Try.prog 144 #[.pointer (some ⟨c1, 0, none⟩), .pointer (some ⟨da, 0, none⟩), .pointer (some ⟨db, 0, none⟩), .pointer (some ⟨dc, 0, none⟩)] w fun e w' => ∃ v L', e = .returned v ∧ H w0 R L' w' ∧ ∃ s' y, v = .int .i64 ((y : Nat) : Int) ∧ L' = sF K b0 s' ++ L ∧ Res n K s s' (2 ^ n - 1) y (fun α => (if fn n s.ns a α then fn n s.ns b α else fn n s.ns c α)) := by
  have two := so.wf.two
  unfold ptrS at r1
  unfold sF at hw
  have ra2 := ra
  unfold intO at ra2
  have rb2 := rb
  unfold intO at rb2
  have rc2 := rc
  unfold intO at rc2
  simp only [List.cons_append, List.nil_append] at hw
  refine calls_in Try.func144 Try.ntmps144 rfl rfl (hw) ?_
  repeat' first
    | (refine J.isJ ?_; first | (first | (refine J.o 4 ?_; first | refine J.lR hΓ ?_ (hr := r1.tl.tl.tl.tl) | refine J.lR hΓ ?_ (hr := ra2.tl.tl.tl.tl) | refine J.lR hΓ ?_ (hr := rb2.tl.tl.tl.tl) | refine J.lR hΓ ?_ (hr := rc2.tl.tl.tl.tl)) | (refine J.fc 60 ?_; refine J.callx eCh rfl rfl (fun w hw => choose_any so ⟨a, b, c⟩ ⟨ha, hb, hc⟩ hfull hw) ?_; rintro _ _ ⟨s1, y1, rfl, rfl, ad1, it1⟩)) | (first | (refine J.o 0 ?_; refine J.ev' hΓ ?_) | refine J.nil ?_ | (refine J.o 4 ?_; first | refine J.lR hΓ ?_) | (refine J.o 3 ?_; first | refine J.ev' hΓ ?_) | (refine J.o 10 ?_; refine J.ev' hΓ ?_) | (refine J.o 11 ?_; refine J.ev' hΓ ?_)))
    | (first | refine JC.seq ?_ | refine JC.region ?_ | refine JC.ret ?_ | refine thenK.nn ?_)
    | (fail)
    | fail
  refine ret1f rfl rfl rfl (fun w1 hw => ⟨_, _, rfl, hw, s1, y1, rfl, rfl, ad1, fun α => ?_⟩)
  have he := it1.eq α
  have ga := fn_ext so.wf ad1.ext ha α
  have gb := fn_ext so.wf ad1.ext hb α
  have gc := fn_ext so.wf ad1.ext hc α
  have z0 := fn_0 ad1.ok.wf α
  have z1 := fn_1 ad1.ok.wf α
  dsimp only at he
  rw [he]
  simp only [ga, gb, gc, z0, z1]
theorem If_any {n : Nat} {K : KS} {s : SS} (so : SOk n K s) (a : Nat) (ha : a < s.ns.length) (b : Nat) (hb : b < s.ns.length) (c : Nat) (hc : c < s.ns.length) (hfull : s.ns.length + (2 ^ n - 1) ≤ 1048576) {w0 w : World} {R : Heap} {L : List Heap} {b0 : Nat} (hw : H w0 R (sF K b0 s ++ L) w) :
    Calls Try.prog 118 #[.pointer (some ⟨b0, 0, none⟩), .int .i64 (a : Int), .int .i64 (b : Int), .int .i64 (c : Int)] w fun e w' => ∃ v L', e = .returned v ∧ H w0 R L' w' ∧ ∃ s' y, v = .tuple #[.int .i64 ((y : Nat) : Int), .int .i64 0] ∧ L' = sF K b0 s' ++ L ∧ Res n K s s' (2 ^ n - 1) y (fun α => (if fn n s.ns a α then fn n s.ns b α else fn n s.ns c α)) := by
  unfold sF at hw
  simp only [List.cons_append, List.nil_append] at hw
  refine calls_in Try.func118 Try.ntmps118 rfl rfl (hw) ?_
  refine JC.seq ?_
  refine JC.region ?_
  refine J.isJ ?_
  refine J.o 6 ?_
  refine J.bx (fun c1 => ?_)
  refine J.isJ ?_
  refine J.o 6 ?_
  refine J.bx (fun da => ?_)
  refine J.isJ ?_
  refine J.o 6 ?_
  refine J.bx (fun db => ?_)
  refine J.isJ ?_
  refine J.o 6 ?_
  refine J.bx (fun dc => ?_)
  repeat' first
    | (refine J.isJ ?_; first | (first | (refine J.o 14 ?_; refine J.mfV [.pointer (some ⟨c1, 0, none⟩), .pointer (some ⟨da, 0, none⟩), .pointer (some ⟨db, 0, none⟩), .pointer (some ⟨dc, 0, none⟩)] hΓ ?_) | (refine J.o 4 ?_; first | refine J.lR hΓ ?_ (hr := Rd.hd) | refine J.lR hΓ ?_ (hr := Rd.hd.tl) | refine J.lR hΓ ?_ (hr := Rd.hd.tl.tl) | refine J.lR hΓ ?_ (hr := Rd.hd.tl.tl.tl)) | (refine J.o 9 ?_; refine J.bl hΓ (fun ba => ?_)) | (refine J.fc 56 ?_; refine J.callx eTry rfl rfl (fun w hw => try_any so (Q := fun s' y => Res n K s s' (2 ^ n - 1) y (fun α => (if fn n s.ns a α then fn n s.ns b α else fn n s.ns c α))) eIfC [(a : Int), (b : Int), (c : Int)] (some ⟨ba, 0, none⟩) 3 _ (slArg ba [(a : Int), (b : Int), (c : Int)] 3) (by show 3 ≤ 1000; omega) (L := [(ba, Obj.cells ⟨[.int .i64 (a : Int), .int .i64 (b : Int), .int .i64 (c : Int)]⟩ 3 (0, 0))] :: [(dc, intO c)] :: [(db, intO b)] :: [(da, intO a)] :: [(c1, ptrS b0)] :: L) (RdH.hd) (chk_ok (l := [a, b, c]) (by simp only [List.mem_cons, List.not_mem_nil, or_false, forall_eq_or_imp, forall_eq]; exact ⟨ha, hb, hc⟩)) (fun Lx w hw => IfC_any so a ha b hb c hc hfull (Rd.app Lx Rd.hd.tl.tl.tl.tl) (Rd.app Lx Rd.hd.tl.tl.tl) (Rd.app Lx Rd.hd.tl.tl) (Rd.app Lx Rd.hd.tl) hw) (H.sel (l := [_, _, _, _, _, _, _, _, _]) (M := L) hw [5, 6, 7, 8, 0, 1, 2, 3, 4])) ?_; rintro _ _ ⟨s1, y1, rfl, rfl, hq⟩)) | (first | (refine J.o 0 ?_; refine J.ev' hΓ ?_) | refine J.nil ?_ | (refine J.o 4 ?_; first | refine J.lR hΓ ?_) | (refine J.o 3 ?_; first | refine J.ev' hΓ ?_) | (refine J.o 6 ?_; refine J.bx (fun _ => ?_)) | (refine J.o 9 ?_; refine J.bl hΓ (fun _ => ?_)) | (refine J.o 10 ?_; refine J.ev' hΓ ?_) | (refine J.o 11 ?_; refine J.ev' hΓ ?_)))
    | (first | refine JC.seq ?_ | refine JC.region ?_ | refine JC.ret ?_ | refine thenK.nn ?_)
    | (fail)
    | fail
  refine ret2f rfl rfl rfl rfl rfl (fun w1 hw => ⟨_, _, rfl, H.sel (l := [_, _, _, _, _, _, _, _, _]) (M := L) hw [0, 1, 2, 3], s1, y1, rfl, rfl, hq⟩)
end Go.Proofs.Ytbhgahjeocnfcaa
namespace Go.Proofs.Ytbhgahjeocnfcaa
open Go Go.Cx Go.RowKit
set_option linter.unusedVariables false
set_option linter.unusedSimpArgs false
set_option maxHeartbeats 4000000
attribute [local irreducible] J JC thenK blockK loopK roundK drawK retK QW Qt pel List.set Calls
open Go.Maps
set_option maxRecDepth 8000
attribute [local irreducible] JE Br eK0 eK3 brK pc
theorem keyedI : Keyed Try.prog 3 := int_keyed Try.underlying3
def ekI (x : Int) : Value := .int .i64 x
theorem ekI_inj (a b : Int) (h : ekI a = ekI b) : a = b := by unfold ekI at h; injection h
theorem keyI (x : Int) (h : -9223372036854775808 ≤ x ∧ x ≤ 9223372036854775807) : ∃ l, keyOf Try.prog 3 (ekI x) = some l := ⟨_, Go.Maps.keyOf_int_mk (q := .i64) (a := x) Try.underlying3 (by
  show (decide ((-9223372036854775808 : Int) ≤ x) && decide (x ≤ (9223372036854775807 : Int))) = true
  simp [h])⟩
def rk : List Int → Int → Nat → Option Nat
  | [], _, _ => none
  | x :: l, v, s => if x = v then some s else rk l v (s + 1)
theorem mget_zip : ∀ (l : List Int) (v : Int) (s : Nat), mget (l.zipIdx s) v = rk l v s
  | [], _, _ => rfl
  | x :: l, v, s => by
    have ih := mget_zip l v (s + 1)
    unfold mget at ih ⊢
    rw [List.zipIdx_cons, List.find?_cons]
    by_cases h : x = v
    · rw [rk, if_pos h]; simp [h]
    · rw [rk, if_neg h, ← ih]; simp [h]
theorem rk_some : ∀ {l : List Int} {v : Int} {s k : Nat}, rk l v s = some k → s ≤ k ∧ k < s + l.length ∧ l.getD (k - s) default = v
  | [], _, _, _, h => by cases h
  | x :: l, v, s, k, h => by
    rw [rk] at h
    split at h
    · rename_i hx
      injection h with h; subst h
      exact ⟨Nat.le_refl _, by simp, by rw [Nat.sub_self]; exact hx⟩
    · obtain ⟨h1, h2, h3⟩ := rk_some h
      refine ⟨by omega, by simp only [List.length_cons]; omega, ?_⟩
      rw [show k - s = (k - (s + 1)) + 1 by omega]; exact h3
theorem rk_none : ∀ {l : List Int} {v : Int} {s : Nat}, rk l v s = none ↔ v ∉ l
  | [], _, _ => by simp [rk]
  | x :: l, v, s => by
    rw [rk]
    split
    · rename_i hx; simp [hx]
    · rename_i hx
      rw [rk_none (l := l)]
      simp [show ¬ v = x from fun e => hx e.symm]
theorem rk_at {l : List Int} (hn : l.Nodup) {k : Nat} (hk : k < l.length) : rk l (l.getD k default) 0 = some k := by
  cases h : rk l (l.getD k default) 0 with
  | none =>
    rw [rk_none] at h
    exact absurd (mem_g l k hk) h
  | some j =>
    obtain ⟨_, h2, h3⟩ := rk_some h
    rw [Nat.sub_zero] at h3
    rw [Nat.zero_add] at h2
    congr 1
    rw [List.getD_eq_getElem?_getD, List.getD_eq_getElem?_getD, List.getElem?_eq_getElem h2, List.getElem?_eq_getElem hk] at h3
    have h3 : some l[j] = some l[k] := congrArg some h3
    injection h3 with h3
    have hp := List.pairwise_iff_getElem.1 hn
    rcases Nat.lt_trichotomy j k with g | g | g
    · exact absurd h3 (hp j k h2 hk g)
    · exact g
    · exact absurd h3.symm (hp k j hk h2 g)
structure POk (K : KS) (order : List Int) (hO hP : Heap) : Prop where
  ow : OwT encI 1 3 K.ao K.co order hO
  len : K.no = order.length
  ok : okOrd order
  pm : MapT Try.prog 3 ekI evI (order.zipIdx 0) K.bp hP
def ends (n : Nat) : List N3 := [⟨n, 0, 0⟩, ⟨n, 0, 0⟩]
theorem ends_wf (n : Nat) : WF n (ends n) := by
  have hl : (ends n).length = 2 := rfl
  refine ⟨Nat.le_refl _, rfl, rfl, ?_, ?_, ?_, ?_, ?_, ?_, ?_⟩ <;> intro i h2 hi <;> omega
theorem eNew : Entr Try.prog 25 := Entr.of Try.func25 rfl rfl
theorem eReb : Entr Try.prog 69 := Entr.of Try.func69 rfl rfl
theorem eOrder : Entr Try.prog 19 := Entr.of Try.func19 rfl rfl
theorem reb_any (x0 x1 : Value) (an : Option Addr) (cn b : Nat) (h0 : frc x0 = some x0) (h1 : frc x1 = some x1) {w0 w : World} {R : Heap} {L : List Heap} (hw : H w0 R ([(b, Obj.cells ⟨[x0, x1, .slice an 2 cn, .map none, .map none]⟩ 104 (0, 0))] :: L) w) :
    Calls Try.prog 69 #[.pointer (some ⟨b, 0, none⟩)] w fun e w' => ∃ v L', e = .returned v ∧ H w0 R L' w' ∧ ∃ bu bi, v = .tuple #[] ∧ L' = [(b, Obj.cells ⟨[x0, x1, .slice an 2 cn, .map (some bu), .map (some bi)]⟩ 104 (0, 0))] :: [(bu, .map ⟨[]⟩ 0)] :: [(bi, .map ⟨[]⟩ 0)] :: L := by
  refine calls_in Try.func69 Try.ntmps69 rfl rfl (hw) ?_
  repeat' first
    | (refine J.isJ ?_; first | (first | (refine J.o 9 ?_; refine J.mkm (fun bi => ?_))) | (first | (refine J.o 0 ?_; refine J.ev' hΓ ?_) | refine J.nil ?_ | (refine J.o 4 ?_; first | refine J.lR hΓ ?_) | (refine J.o 3 ?_; first | refine J.ev' hΓ ?_) | (refine J.o 5 ?_; first | refine J.t2 hΓ ?_) | (refine J.o 10 ?_; refine J.ev' hΓ ?_) | (refine J.o 11 ?_; refine J.ev' hΓ ?_)))
    | (first | refine JC.seq ?_ | refine JC.region ?_ | refine JC.block ?_ | refine JC.exit ?_ | refine thenK.nn ?_ | refine thenK.x ?_ | refine blockK.hit rfl ?_ | refine JC.condF rfl ?_ | refine loopK.x ?_)
    | (fail)
    | fail
  rename_i bu
  refine JC.loop (fun i => i == 2 || Nat.ble 11 i) (fun m g L' => g 2 = .int .i64 2 ∧ L' = [(bi, .map ⟨[]⟩ 0)] :: [(bu, .map ⟨[]⟩ 0)] :: [(b, Obj.cells ⟨[x0, x1, .slice an 2 cn, .map (some bu), .map (some bi)]⟩ 104 (0, 0))] :: L) 1 ⟨rfl, rfl⟩ ?_
  rintro m g L' ⟨e2, rfl⟩
  refine JC.pin 2 e2 ?_
  repeat' first
    | (refine J.isJ ?_; first | (fail) | (first | (refine J.o 0 ?_; refine J.ev' hΓ ?_) | refine J.nil ?_ | (refine J.o 4 ?_; first | refine J.lR hΓ ?_) | (refine J.o 3 ?_; first | refine J.ev' hΓ ?_) | (refine J.o 5 ?_; first | refine J.t2 hΓ ?_) | (refine J.o 10 ?_; refine J.ev' hΓ ?_) | (refine J.o 11 ?_; refine J.ev' hΓ ?_)))
    | (first | refine JC.seq ?_ | refine JC.region ?_ | refine JC.block ?_ | refine JC.exit ?_ | refine thenK.nn ?_ | refine thenK.x ?_ | refine blockK.hit rfl ?_ | refine JC.condF rfl ?_ | refine loopK.x ?_)
    | (fail)
    | fail
  all_goals first | (exfalso; omega) | skip
  all_goals first | refine ret0 rfl (fun w1 hw => ⟨_, _, rfl, H.sel (l := [_, _, _]) (M := L) hw [2, 1, 0], bu, bi, rfl, rfl⟩) | refine ret0n rfl (fun w1 hw => ⟨_, _, rfl, H.sel (l := [_, _, _]) (M := L) hw [2, 1, 0], bu, bi, rfl, rfl⟩)
theorem new_bad (l : List Int) (a : Option Addr) (c : Nat) (h : Heap) (hs : SlT encI 1 a l h) (hl : l.length ≤ 1000000) (ho : ¬ okOrd l) (w : World) (hw : Holds h w) :
    Calls Try.prog 25 #[.slice a l.length c] w fun e w' => e = .returned (.tuple #[.pointer none, .int .i64 1]) ∧ Below w.heap.size w w' := by
  have hle := (cnt_fold l (0, 0)).1
  have hne : cntS (l.foldl withS (0, 0)) ≠ l.length := fun e => ho ((ord_iff l).1 e)
  refine calls_of_JC (R := h) Try.func25 Try.ntmps25 rfl rfl (hw) ?_
  repeat' first
    | (refine J.isJ ?_; first | (first | (refine J.fc 54 ?_; refine J.call0 eOf rfl rfl (fun w hw => of_any a c l h hs hl w (hw.rdH (RdH.old fun _ hh => hh))) ?_) | (refine J.fc 68 ?_; refine J.call0 eLen rfl rfl (fun w hw => len_any _ (okS_of _ _ okS_zero) w) ?_)) | (first | (refine J.o 0 ?_; refine J.ev' hΓ ?_) | refine J.nil ?_ | (refine J.o 3 ?_; first | refine J.ev' hΓ ?_) | (refine J.o 10 ?_; refine J.ev' hΓ ?_) | (refine J.o 11 ?_; refine J.ev' hΓ ?_)))
    | (first | refine JC.seq ?_ | refine JC.region ?_ | refine JC.ret ?_ | refine thenK.nn ?_ | refine thenK.r ?_ | (refine JC.cond rfl (fun hc => ?_) (fun hc => ?_) <;> ((try simp only [decide_eq_true_eq, decide_eq_false_iff_not, beq_iff_eq, beq_eq_false_iff_ne, bne_iff_ne, bne_eq_false_iff_eq, Bool.not_eq_true', Bool.not_eq_false', Bool.not_eq_true, Bool.not_eq_false] at hc) <;> first | (first | (exact absurd rfl hc) | (exfalso; omega) | (exact absurd (hc.symm.trans (by assumption : _ = false)) (by decide)) | (exact absurd (hc.symm.trans (by assumption : _ = true)) (by decide))) | skip)))
    | (fail)
    | fail
  all_goals first | (exfalso; omega) | skip
  all_goals (refine ret2f rfl rfl rfl rfl rfl (fun w1 hw => ⟨rfl, hw.below⟩))
theorem new_any (l : List Int) (a : Option Addr) (c : Nat) (h : Heap) (hs : SlT encI 1 a l h) (ho : okOrd l) {w0 w : World} {R : Heap} {L : List Heap} (hr : RdH R L h) (hw : H w0 R L w) :
    Calls Try.prog 25 #[.slice a l.length c] w fun e w' => ∃ v L', e = .returned v ∧ H w0 R L' w' ∧ ∃ b K s hO hP, v = .tuple #[.pointer (some ⟨b, 0, none⟩), .int .i64 0] ∧ L' = sF K b s ++ (hO :: hP :: L) ∧ SOk l.length K s ∧ s.ns = ends l.length ∧ POk K l hO hP := by
  have hl := ord_le l ho
  have heq : cntS (l.foldl withS (0, 0)) = l.length := (ord_iff l).2 ho
  refine calls_in Try.func25 Try.ntmps25 rfl rfl (hw) ?_
  repeat' first
    | (refine J.isJ ?_; first | (first | (refine J.fc 54 ?_; refine J.call0 eOf rfl rfl (fun w hw => of_any a c l h hs (by omega) w (hw.rdH hr)) ?_) | (refine J.fc 68 ?_; refine J.call0 eLen rfl rfl (fun w hw => len_any _ (okS_of _ _ okS_zero) w) ?_) | (refine J.o 7 ?_; refine J.al hΓ (fun b4 => ?_))) | (first | (refine J.o 0 ?_; refine J.ev' hΓ ?_) | refine J.nil ?_ | (refine J.o 4 ?_; first | refine J.lT default hΓ ?_ | refine J.lR hΓ ?_) | (refine J.o 3 ?_; first | refine J.iJ hΓ ?_ | refine J.ev' hΓ ?_) | (refine J.o 1 ?_; first | refine J.ad ?_) | (refine J.o 5 ?_; first | refine J.t0 hΓ ?_) | (refine J.o 6 ?_; refine J.bx (fun _ => ?_)) | (refine J.o 7 ?_; refine J.al hΓ (fun _ => ?_)) | (refine J.o 8 ?_; refine J.bd hΓ ?_) | (refine J.o 9 ?_; refine J.bl hΓ (fun _ => ?_)) | (refine J.o 10 ?_; refine J.ev' hΓ ?_) | (refine J.o 11 ?_; refine J.ev' hΓ ?_)))
    | (first | refine JC.seq ?_ | refine JC.region ?_ | refine JC.block ?_ | refine JC.ret ?_ | refine JC.exit ?_ | refine JC.skip ?_ | refine thenK.nn ?_ | refine thenK.x ?_ | refine blockK.nn ?_ | refine blockK.hit rfl ?_ | (refine JC.cond rfl (fun hc => ?_) (fun hc => ?_) <;> ((try simp only [decide_eq_true_eq, decide_eq_false_iff_not, beq_iff_eq, beq_eq_false_iff_ne, bne_iff_ne, bne_eq_false_iff_eq, Bool.not_eq_true', Bool.not_eq_false', Bool.not_eq_true, Bool.not_eq_false] at hc) <;> first | (first | (exact absurd rfl hc) | (exfalso; omega) | (exact absurd (hc.symm.trans (by assumption : _ = false)) (by decide)) | (exact absurd (hc.symm.trans (by assumption : _ = true)) (by decide))) | skip)) | refine loopK.x ?_)
    | (fail)
    | fail
  all_goals first | (exfalso; omega) | skip
  refine JC.mid (fun i => i == 5 || Nat.ble 17 i) (fun g L' => ∃ b bp bn a1 c1 hO, g 5 = .pointer (some ⟨b, 0, none⟩) ∧ OwT encI 1 3 a1 c1 l hO ∧ L'.Perm ([(b, Obj.cells ⟨[.slice a1 l.length c1, .map (some bp), .slice (some ⟨bn, 0, none⟩) 2 2, .map none, .map none]⟩ 104 (0, 0))] :: [(bn, Obj.cells ⟨[.int .i64 (l.length : Int), .int .i64 0, .int .i64 0, .int .i64 (l.length : Int), .int .i64 0, .int .i64 0]⟩ 107 (0, 0))] :: [(bp, .map ⟨[]⟩ 0)] :: hO :: [(b4, Obj.cells ⟨[.int .i64 (l.length : Int), .int .i64 0, .int .i64 0]⟩ 107 (0, 0))] :: L)) ?_ ?_
  ·
    refine JC.drawE [[(b4, Obj.cells ⟨[.int .i64 (l.length : Int), .int .i64 0, .int .i64 0]⟩ 107 (0, 0))]] [1, 2, 5, 7] [1, 2, 5, 7] [(0,0),(4,3),(4,4)] 6 _ (by kernel_rfl) (by kernel_rfl) rfl ?_
    repeat' first
      | (refine J.isJ ?_; first | (fail) | (first | (refine J.o 0 ?_; refine J.ev' hΓ ?_) | refine J.nil ?_ | (refine J.o 4 ?_; first | refine J.lT default hΓ ?_ | refine J.lR hΓ ?_) | (refine J.o 3 ?_; first | refine J.iJ hΓ ?_ | refine J.ev' hΓ ?_) | (refine J.o 1 ?_; first | refine J.ad ?_) | (refine J.o 5 ?_; first | refine J.t0 hΓ ?_) | (refine J.o 6 ?_; refine J.bx (fun _ => ?_)) | (refine J.o 7 ?_; refine J.al hΓ (fun _ => ?_)) | (refine J.o 8 ?_; refine J.bd hΓ ?_) | (refine J.o 9 ?_; refine J.bl hΓ (fun _ => ?_)) | (refine J.o 10 ?_; refine J.ev' hΓ ?_) | (refine J.o 11 ?_; refine J.ev' hΓ ?_)))
      | (first | (refine JE.is ?_; first | refine JE.s0 ?_ | refine JE.s3 ?_ | refine JE.nil ?_ | refine JE.s4 rfl (fun w hw => hw.subl (by repeat (first | exact List.nil_sublist _ | exact List.Sublist.refl _ | refine List.Sublist.cons_cons _ ?_ | refine List.Sublist.cons _ ?_))) ?_) | refine eK0.nn ?_ | (refine eK3.is ?_; refine eK3.nn (fun w hw => hw.subl (by repeat (first | exact List.nil_sublist _ | exact List.Sublist.refl _ | refine List.Sublist.cons_cons _ ?_ | refine List.Sublist.cons _ ?_))) ?_) | refine brK.nn ?_)
      | (first | refine JC.seq ?_ | refine JC.region ?_ | refine JC.block ?_ | refine JC.ret ?_ | refine JC.exit ?_ | refine JC.skip ?_ | refine thenK.nn ?_ | refine thenK.x ?_ | refine blockK.nn ?_ | refine blockK.hit rfl ?_ | (refine JC.cond rfl (fun hc => ?_) (fun hc => ?_) <;> ((try simp only [decide_eq_true_eq, decide_eq_false_iff_not, beq_iff_eq, beq_eq_false_iff_ne, bne_iff_ne, bne_eq_false_iff_eq, Bool.not_eq_true', Bool.not_eq_false', Bool.not_eq_true, Bool.not_eq_false] at hc) <;> first | (first | (exact absurd rfl hc) | (exfalso; omega) | (exact absurd (hc.symm.trans (by assumption : _ = false)) (by decide)) | (exact absurd (hc.symm.trans (by assumption : _ = true)) (by decide))) | skip)) | refine loopK.x ?_)
      | (fail)
      | fail
    refine Br.three (c1 := 1) (c2 := 1) (c3 := 1) (m1 := 5) (m2 := 5) (m3 := 5) 1 2 5 [] [] [] (by decide +kernel) rfl rfl rfl (by decide +kernel) rfl (by decide +kernel) rfl (by decide +kernel) rfl ?_ ?_ ?_
    ·
      repeat' first
        | (refine J.isJ ?_; first | (first | (refine J.fc 63 ?_; refine J.call1 eClone rfl rfl (fun w hw => clone_any a c l h hs (by omega) w (hw.rdH (by first | exact hr.tl | exact hr.tl.tl | exact hr.tl.tl.tl))) ?_; rintro _ hg ⟨a1, c1, rfl, o1⟩) | (refine J.o 9 ?_; first | refine J.mkm (fun bp => ?_) | refine J.bl hΓ (fun bn => ?_)) | (refine J.o 6 ?_; refine J.bx (fun b => ?_))) | (first | (refine J.o 0 ?_; refine J.ev' hΓ ?_) | refine J.nil ?_ | (refine J.o 4 ?_; first | refine J.lT default hΓ ?_ | refine J.lR hΓ ?_) | (refine J.o 3 ?_; first | refine J.iJ hΓ ?_ | refine J.ev' hΓ ?_) | (refine J.o 1 ?_; first | refine J.ad ?_) | (refine J.o 5 ?_; first | refine J.t0 hΓ ?_) | (refine J.o 6 ?_; refine J.bx (fun _ => ?_)) | (refine J.o 7 ?_; refine J.al hΓ (fun _ => ?_)) | (refine J.o 8 ?_; refine J.bd hΓ ?_) | (refine J.o 9 ?_; refine J.bl hΓ (fun _ => ?_)) | (refine J.o 10 ?_; refine J.ev' hΓ ?_) | (refine J.o 11 ?_; refine J.ev' hΓ ?_)))
        | (first | (refine JE.is ?_; first | refine JE.s0 ?_ | refine JE.s3 ?_ | refine JE.nil ?_ | refine JE.s4 rfl (fun w hw => hw.subl (by repeat (first | exact List.nil_sublist _ | exact List.Sublist.refl _ | refine List.Sublist.cons_cons _ ?_ | refine List.Sublist.cons _ ?_))) ?_) | refine eK0.nn ?_ | (refine eK3.is ?_; refine eK3.nn (fun w hw => hw.subl (by repeat (first | exact List.nil_sublist _ | exact List.Sublist.refl _ | refine List.Sublist.cons_cons _ ?_ | refine List.Sublist.cons _ ?_))) ?_) | refine brK.nn ?_)
        | (first | refine JC.seq ?_ | refine JC.region ?_ | refine JC.block ?_ | refine JC.ret ?_ | refine JC.exit ?_ | refine JC.skip ?_ | refine thenK.nn ?_ | refine thenK.x ?_ | refine blockK.nn ?_ | refine blockK.hit rfl ?_ | (refine JC.cond rfl (fun hc => ?_) (fun hc => ?_) <;> ((try simp only [decide_eq_true_eq, decide_eq_false_iff_not, beq_iff_eq, beq_eq_false_iff_ne, bne_iff_ne, bne_eq_false_iff_eq, Bool.not_eq_true', Bool.not_eq_false', Bool.not_eq_true, Bool.not_eq_false] at hc) <;> first | (first | (exact absurd rfl hc) | (exfalso; omega) | (exact absurd (hc.symm.trans (by assumption : _ = false)) (by decide)) | (exact absurd (hc.symm.trans (by assumption : _ = true)) (by decide))) | skip)) | refine loopK.x ?_)
        | (fail)
        | fail
      refine Br.two (c1 := 1) (c2 := 1) (m1 := 0) (m2 := 0) 2 5 [(3, 5), (0, 6), (3, 7), (0, 8)] [(3, 2), (0, 6), (3, 7), (0, 8)] (by decide +kernel) rfl rfl (by decide +kernel) rfl (by decide +kernel) rfl ?_ ?_
      ·
        repeat' first
          | (refine J.isJ ?_; first | (first | (refine J.fc 63 ?_; refine J.call1 eClone rfl rfl (fun w hw => clone_any a c l h hs (by omega) w (hw.rdH (by first | exact hr.tl | exact hr.tl.tl | exact hr.tl.tl.tl))) ?_; rintro _ hg ⟨a1, c1, rfl, o1⟩) | (refine J.o 9 ?_; first | refine J.mkm (fun bp => ?_) | refine J.bl hΓ (fun bn => ?_)) | (refine J.o 6 ?_; refine J.bx (fun b => ?_))) | (first | (refine J.o 0 ?_; refine J.ev' hΓ ?_) | refine J.nil ?_ | (refine J.o 4 ?_; first | refine J.lT default hΓ ?_ | refine J.lR hΓ ?_) | (refine J.o 3 ?_; first | refine J.iJ hΓ ?_ | refine J.ev' hΓ ?_) | (refine J.o 1 ?_; first | refine J.ad ?_) | (refine J.o 5 ?_; first | refine J.t0 hΓ ?_) | (refine J.o 6 ?_; refine J.bx (fun _ => ?_)) | (refine J.o 7 ?_; refine J.al hΓ (fun _ => ?_)) | (refine J.o 8 ?_; refine J.bd hΓ ?_) | (refine J.o 9 ?_; refine J.bl hΓ (fun _ => ?_)) | (refine J.o 10 ?_; refine J.ev' hΓ ?_) | (refine J.o 11 ?_; refine J.ev' hΓ ?_)))
          | (first | (refine JE.is ?_; first | refine JE.s0 ?_ | refine JE.s3 ?_ | refine JE.nil ?_ | refine JE.s4 rfl (fun w hw => hw.subl (by repeat (first | exact List.nil_sublist _ | exact List.Sublist.refl _ | refine List.Sublist.cons_cons _ ?_ | refine List.Sublist.cons _ ?_))) ?_) | refine eK0.nn ?_ | (refine eK3.is ?_; refine eK3.nn (fun w hw => hw.subl (by repeat (first | exact List.nil_sublist _ | exact List.Sublist.refl _ | refine List.Sublist.cons_cons _ ?_ | refine List.Sublist.cons _ ?_))) ?_) | refine brK.nn ?_)
          | (first | refine JC.seq ?_ | refine JC.region ?_ | refine JC.block ?_ | refine JC.ret ?_ | refine JC.exit ?_ | refine JC.skip ?_ | refine thenK.nn ?_ | refine thenK.x ?_ | refine blockK.nn ?_ | refine blockK.hit rfl ?_ | (refine JC.cond rfl (fun hc => ?_) (fun hc => ?_) <;> ((try simp only [decide_eq_true_eq, decide_eq_false_iff_not, beq_iff_eq, beq_eq_false_iff_ne, bne_iff_ne, bne_eq_false_iff_eq, Bool.not_eq_true', Bool.not_eq_false', Bool.not_eq_true, Bool.not_eq_false] at hc) <;> first | (first | (exact absurd rfl hc) | (exfalso; omega) | (exact absurd (hc.symm.trans (by assumption : _ = false)) (by decide)) | (exact absurd (hc.symm.trans (by assumption : _ = true)) (by decide))) | skip)) | refine loopK.x ?_)
          | (fail)
          | fail
        refine Br.done (by kernel_rfl) ?_
        refine midK.nn (by repeat (first | refine Ag.upd rfl ?_ | exact Ag.rfl')) ⟨_, _, _, _, _, _, rfl, o1, (List.Perm.cons _ ?_)⟩
        first | exact .refl _ | exact br1 | exact br1.cons _ | exact br2 | exact br2.symm | exact br2.trans (br1.cons _)
      ·
        repeat' first
          | (refine J.isJ ?_; first | (first | (refine J.fc 63 ?_; refine J.call1 eClone rfl rfl (fun w hw => clone_any a c l h hs (by omega) w (hw.rdH (by first | exact hr.tl | exact hr.tl.tl | exact hr.tl.tl.tl))) ?_; rintro _ hg ⟨a1, c1, rfl, o1⟩) | (refine J.o 9 ?_; first | refine J.mkm (fun bp => ?_) | refine J.bl hΓ (fun bn => ?_)) | (refine J.o 6 ?_; refine J.bx (fun b => ?_))) | (first | (refine J.o 0 ?_; refine J.ev' hΓ ?_) | refine J.nil ?_ | (refine J.o 4 ?_; first | refine J.lT default hΓ ?_ | refine J.lR hΓ ?_) | (refine J.o 3 ?_; first | refine J.iJ hΓ ?_ | refine J.ev' hΓ ?_) | (refine J.o 1 ?_; first | refine J.ad ?_) | (refine J.o 5 ?_; first | refine J.t0 hΓ ?_) | (refine J.o 6 ?_; refine J.bx (fun _ => ?_)) | (refine J.o 7 ?_; refine J.al hΓ (fun _ => ?_)) | (refine J.o 8 ?_; refine J.bd hΓ ?_) | (refine J.o 9 ?_; refine J.bl hΓ (fun _ => ?_)) | (refine J.o 10 ?_; refine J.ev' hΓ ?_) | (refine J.o 11 ?_; refine J.ev' hΓ ?_)))
          | (first | (refine JE.is ?_; first | refine JE.s0 ?_ | refine JE.s3 ?_ | refine JE.nil ?_ | refine JE.s4 rfl (fun w hw => hw.subl (by repeat (first | exact List.nil_sublist _ | exact List.Sublist.refl _ | refine List.Sublist.cons_cons _ ?_ | refine List.Sublist.cons _ ?_))) ?_) | refine eK0.nn ?_ | (refine eK3.is ?_; refine eK3.nn (fun w hw => hw.subl (by repeat (first | exact List.nil_sublist _ | exact List.Sublist.refl _ | refine List.Sublist.cons_cons _ ?_ | refine List.Sublist.cons _ ?_))) ?_) | refine brK.nn ?_)
          | (first | refine JC.seq ?_ | refine JC.region ?_ | refine JC.block ?_ | refine JC.ret ?_ | refine JC.exit ?_ | refine JC.skip ?_ | refine thenK.nn ?_ | refine thenK.x ?_ | refine blockK.nn ?_ | refine blockK.hit rfl ?_ | (refine JC.cond rfl (fun hc => ?_) (fun hc => ?_) <;> ((try simp only [decide_eq_true_eq, decide_eq_false_iff_not, beq_iff_eq, beq_eq_false_iff_ne, bne_iff_ne, bne_eq_false_iff_eq, Bool.not_eq_true', Bool.not_eq_false', Bool.not_eq_true, Bool.not_eq_false] at hc) <;> first | (first | (exact absurd rfl hc) | (exfalso; omega) | (exact absurd (hc.symm.trans (by assumption : _ = false)) (by decide)) | (exact absurd (hc.symm.trans (by assumption : _ = true)) (by decide))) | skip)) | refine loopK.x ?_)
          | (fail)
          | fail
        refine Br.done (by kernel_rfl) ?_
        refine midK.nn (by repeat (first | refine Ag.upd rfl ?_ | exact Ag.rfl')) ⟨_, _, _, _, _, _, rfl, o1, (List.Perm.cons _ ?_)⟩
        first | exact .refl _ | exact br1 | exact br1.cons _ | exact br2 | exact br2.symm | exact br2.trans (br1.cons _)
    ·
      repeat' first
        | (refine J.isJ ?_; first | (first | (refine J.fc 63 ?_; refine J.call1 eClone rfl rfl (fun w hw => clone_any a c l h hs (by omega) w (hw.rdH (by first | exact hr.tl | exact hr.tl.tl | exact hr.tl.tl.tl))) ?_; rintro _ hg ⟨a1, c1, rfl, o1⟩) | (refine J.o 9 ?_; first | refine J.mkm (fun bp => ?_) | refine J.bl hΓ (fun bn => ?_)) | (refine J.o 6 ?_; refine J.bx (fun b => ?_))) | (first | (refine J.o 0 ?_; refine J.ev' hΓ ?_) | refine J.nil ?_ | (refine J.o 4 ?_; first | refine J.lT default hΓ ?_ | refine J.lR hΓ ?_) | (refine J.o 3 ?_; first | refine J.iJ hΓ ?_ | refine J.ev' hΓ ?_) | (refine J.o 1 ?_; first | refine J.ad ?_) | (refine J.o 5 ?_; first | refine J.t0 hΓ ?_) | (refine J.o 6 ?_; refine J.bx (fun _ => ?_)) | (refine J.o 7 ?_; refine J.al hΓ (fun _ => ?_)) | (refine J.o 8 ?_; refine J.bd hΓ ?_) | (refine J.o 9 ?_; refine J.bl hΓ (fun _ => ?_)) | (refine J.o 10 ?_; refine J.ev' hΓ ?_) | (refine J.o 11 ?_; refine J.ev' hΓ ?_)))
        | (first | (refine JE.is ?_; first | refine JE.s0 ?_ | refine JE.s3 ?_ | refine JE.nil ?_ | refine JE.s4 rfl (fun w hw => hw.subl (by repeat (first | exact List.nil_sublist _ | exact List.Sublist.refl _ | refine List.Sublist.cons_cons _ ?_ | refine List.Sublist.cons _ ?_))) ?_) | refine eK0.nn ?_ | (refine eK3.is ?_; refine eK3.nn (fun w hw => hw.subl (by repeat (first | exact List.nil_sublist _ | exact List.Sublist.refl _ | refine List.Sublist.cons_cons _ ?_ | refine List.Sublist.cons _ ?_))) ?_) | refine brK.nn ?_)
        | (first | refine JC.seq ?_ | refine JC.region ?_ | refine JC.block ?_ | refine JC.ret ?_ | refine JC.exit ?_ | refine JC.skip ?_ | refine thenK.nn ?_ | refine thenK.x ?_ | refine blockK.nn ?_ | refine blockK.hit rfl ?_ | (refine JC.cond rfl (fun hc => ?_) (fun hc => ?_) <;> ((try simp only [decide_eq_true_eq, decide_eq_false_iff_not, beq_iff_eq, beq_eq_false_iff_ne, bne_iff_ne, bne_eq_false_iff_eq, Bool.not_eq_true', Bool.not_eq_false', Bool.not_eq_true, Bool.not_eq_false] at hc) <;> first | (first | (exact absurd rfl hc) | (exfalso; omega) | (exact absurd (hc.symm.trans (by assumption : _ = false)) (by decide)) | (exact absurd (hc.symm.trans (by assumption : _ = true)) (by decide))) | skip)) | refine loopK.x ?_)
        | (fail)
        | fail
      refine Br.two (c1 := 1) (c2 := 1) (m1 := 0) (m2 := 0) 1 5 [(3, 5), (0, 6), (3, 7), (0, 8)] [(3, 1), (0, 6), (3, 7), (0, 8)] (by decide +kernel) rfl rfl (by decide +kernel) rfl (by decide +kernel) rfl ?_ ?_
      ·
        repeat' first
          | (refine J.isJ ?_; first | (first | (refine J.fc 63 ?_; refine J.call1 eClone rfl rfl (fun w hw => clone_any a c l h hs (by omega) w (hw.rdH (by first | exact hr.tl | exact hr.tl.tl | exact hr.tl.tl.tl))) ?_; rintro _ hg ⟨a1, c1, rfl, o1⟩) | (refine J.o 9 ?_; first | refine J.mkm (fun bp => ?_) | refine J.bl hΓ (fun bn => ?_)) | (refine J.o 6 ?_; refine J.bx (fun b => ?_))) | (first | (refine J.o 0 ?_; refine J.ev' hΓ ?_) | refine J.nil ?_ | (refine J.o 4 ?_; first | refine J.lT default hΓ ?_ | refine J.lR hΓ ?_) | (refine J.o 3 ?_; first | refine J.iJ hΓ ?_ | refine J.ev' hΓ ?_) | (refine J.o 1 ?_; first | refine J.ad ?_) | (refine J.o 5 ?_; first | refine J.t0 hΓ ?_) | (refine J.o 6 ?_; refine J.bx (fun _ => ?_)) | (refine J.o 7 ?_; refine J.al hΓ (fun _ => ?_)) | (refine J.o 8 ?_; refine J.bd hΓ ?_) | (refine J.o 9 ?_; refine J.bl hΓ (fun _ => ?_)) | (refine J.o 10 ?_; refine J.ev' hΓ ?_) | (refine J.o 11 ?_; refine J.ev' hΓ ?_)))
          | (first | (refine JE.is ?_; first | refine JE.s0 ?_ | refine JE.s3 ?_ | refine JE.nil ?_ | refine JE.s4 rfl (fun w hw => hw.subl (by repeat (first | exact List.nil_sublist _ | exact List.Sublist.refl _ | refine List.Sublist.cons_cons _ ?_ | refine List.Sublist.cons _ ?_))) ?_) | refine eK0.nn ?_ | (refine eK3.is ?_; refine eK3.nn (fun w hw => hw.subl (by repeat (first | exact List.nil_sublist _ | exact List.Sublist.refl _ | refine List.Sublist.cons_cons _ ?_ | refine List.Sublist.cons _ ?_))) ?_) | refine brK.nn ?_)
          | (first | refine JC.seq ?_ | refine JC.region ?_ | refine JC.block ?_ | refine JC.ret ?_ | refine JC.exit ?_ | refine JC.skip ?_ | refine thenK.nn ?_ | refine thenK.x ?_ | refine blockK.nn ?_ | refine blockK.hit rfl ?_ | (refine JC.cond rfl (fun hc => ?_) (fun hc => ?_) <;> ((try simp only [decide_eq_true_eq, decide_eq_false_iff_not, beq_iff_eq, beq_eq_false_iff_ne, bne_iff_ne, bne_eq_false_iff_eq, Bool.not_eq_true', Bool.not_eq_false', Bool.not_eq_true, Bool.not_eq_false] at hc) <;> first | (first | (exact absurd rfl hc) | (exfalso; omega) | (exact absurd (hc.symm.trans (by assumption : _ = false)) (by decide)) | (exact absurd (hc.symm.trans (by assumption : _ = true)) (by decide))) | skip)) | refine loopK.x ?_)
          | (fail)
          | fail
        refine Br.done (by kernel_rfl) ?_
        refine midK.nn (by repeat (first | refine Ag.upd rfl ?_ | exact Ag.rfl')) ⟨_, _, _, _, _, _, rfl, o1, (List.Perm.cons _ ?_)⟩
        first | exact .refl _ | exact br1 | exact br1.cons _ | exact br2 | exact br2.symm | exact br2.trans (br1.cons _)
      ·
        repeat' first
          | (refine J.isJ ?_; first | (first | (refine J.fc 63 ?_; refine J.call1 eClone rfl rfl (fun w hw => clone_any a c l h hs (by omega) w (hw.rdH (by first | exact hr.tl | exact hr.tl.tl | exact hr.tl.tl.tl))) ?_; rintro _ hg ⟨a1, c1, rfl, o1⟩) | (refine J.o 9 ?_; first | refine J.mkm (fun bp => ?_) | refine J.bl hΓ (fun bn => ?_)) | (refine J.o 6 ?_; refine J.bx (fun b => ?_))) | (first | (refine J.o 0 ?_; refine J.ev' hΓ ?_) | refine J.nil ?_ | (refine J.o 4 ?_; first | refine J.lT default hΓ ?_ | refine J.lR hΓ ?_) | (refine J.o 3 ?_; first | refine J.iJ hΓ ?_ | refine J.ev' hΓ ?_) | (refine J.o 1 ?_; first | refine J.ad ?_) | (refine J.o 5 ?_; first | refine J.t0 hΓ ?_) | (refine J.o 6 ?_; refine J.bx (fun _ => ?_)) | (refine J.o 7 ?_; refine J.al hΓ (fun _ => ?_)) | (refine J.o 8 ?_; refine J.bd hΓ ?_) | (refine J.o 9 ?_; refine J.bl hΓ (fun _ => ?_)) | (refine J.o 10 ?_; refine J.ev' hΓ ?_) | (refine J.o 11 ?_; refine J.ev' hΓ ?_)))
          | (first | (refine JE.is ?_; first | refine JE.s0 ?_ | refine JE.s3 ?_ | refine JE.nil ?_ | refine JE.s4 rfl (fun w hw => hw.subl (by repeat (first | exact List.nil_sublist _ | exact List.Sublist.refl _ | refine List.Sublist.cons_cons _ ?_ | refine List.Sublist.cons _ ?_))) ?_) | refine eK0.nn ?_ | (refine eK3.is ?_; refine eK3.nn (fun w hw => hw.subl (by repeat (first | exact List.nil_sublist _ | exact List.Sublist.refl _ | refine List.Sublist.cons_cons _ ?_ | refine List.Sublist.cons _ ?_))) ?_) | refine brK.nn ?_)
          | (first | refine JC.seq ?_ | refine JC.region ?_ | refine JC.block ?_ | refine JC.ret ?_ | refine JC.exit ?_ | refine JC.skip ?_ | refine thenK.nn ?_ | refine thenK.x ?_ | refine blockK.nn ?_ | refine blockK.hit rfl ?_ | (refine JC.cond rfl (fun hc => ?_) (fun hc => ?_) <;> ((try simp only [decide_eq_true_eq, decide_eq_false_iff_not, beq_iff_eq, beq_eq_false_iff_ne, bne_iff_ne, bne_eq_false_iff_eq, Bool.not_eq_true', Bool.not_eq_false', Bool.not_eq_true, Bool.not_eq_false] at hc) <;> first | (first | (exact absurd rfl hc) | (exfalso; omega) | (exact absurd (hc.symm.trans (by assumption : _ = false)) (by decide)) | (exact absurd (hc.symm.trans (by assumption : _ = true)) (by decide))) | skip)) | refine loopK.x ?_)
          | (fail)
          | fail
        refine Br.done (by kernel_rfl) ?_
        refine midK.nn (by repeat (first | refine Ag.upd rfl ?_ | exact Ag.rfl')) ⟨_, _, _, _, _, _, rfl, o1, (List.Perm.cons _ ?_)⟩
        first | exact .refl _ | exact br1 | exact br1.cons _ | exact br2 | exact br2.symm | exact br2.trans (br1.cons _)
    ·
      repeat' first
        | (refine J.isJ ?_; first | (first | (refine J.fc 63 ?_; refine J.call1 eClone rfl rfl (fun w hw => clone_any a c l h hs (by omega) w (hw.rdH (by first | exact hr.tl | exact hr.tl.tl | exact hr.tl.tl.tl))) ?_; rintro _ hg ⟨a1, c1, rfl, o1⟩) | (refine J.o 9 ?_; first | refine J.mkm (fun bp => ?_) | refine J.bl hΓ (fun bn => ?_)) | (refine J.o 6 ?_; refine J.bx (fun b => ?_))) | (first | (refine J.o 0 ?_; refine J.ev' hΓ ?_) | refine J.nil ?_ | (refine J.o 4 ?_; first | refine J.lT default hΓ ?_ | refine J.lR hΓ ?_) | (refine J.o 3 ?_; first | refine J.iJ hΓ ?_ | refine J.ev' hΓ ?_) | (refine J.o 1 ?_; first | refine J.ad ?_) | (refine J.o 5 ?_; first | refine J.t0 hΓ ?_) | (refine J.o 6 ?_; refine J.bx (fun _ => ?_)) | (refine J.o 7 ?_; refine J.al hΓ (fun _ => ?_)) | (refine J.o 8 ?_; refine J.bd hΓ ?_) | (refine J.o 9 ?_; refine J.bl hΓ (fun _ => ?_)) | (refine J.o 10 ?_; refine J.ev' hΓ ?_) | (refine J.o 11 ?_; refine J.ev' hΓ ?_)))
        | (first | (refine JE.is ?_; first | refine JE.s0 ?_ | refine JE.s3 ?_ | refine JE.nil ?_ | refine JE.s4 rfl (fun w hw => hw.subl (by repeat (first | exact List.nil_sublist _ | exact List.Sublist.refl _ | refine List.Sublist.cons_cons _ ?_ | refine List.Sublist.cons _ ?_))) ?_) | refine eK0.nn ?_ | (refine eK3.is ?_; refine eK3.nn (fun w hw => hw.subl (by repeat (first | exact List.nil_sublist _ | exact List.Sublist.refl _ | refine List.Sublist.cons_cons _ ?_ | refine List.Sublist.cons _ ?_))) ?_) | refine brK.nn ?_)
        | (first | refine JC.seq ?_ | refine JC.region ?_ | refine JC.block ?_ | refine JC.ret ?_ | refine JC.exit ?_ | refine JC.skip ?_ | refine thenK.nn ?_ | refine thenK.x ?_ | refine blockK.nn ?_ | refine blockK.hit rfl ?_ | (refine JC.cond rfl (fun hc => ?_) (fun hc => ?_) <;> ((try simp only [decide_eq_true_eq, decide_eq_false_iff_not, beq_iff_eq, beq_eq_false_iff_ne, bne_iff_ne, bne_eq_false_iff_eq, Bool.not_eq_true', Bool.not_eq_false', Bool.not_eq_true, Bool.not_eq_false] at hc) <;> first | (first | (exact absurd rfl hc) | (exfalso; omega) | (exact absurd (hc.symm.trans (by assumption : _ = false)) (by decide)) | (exact absurd (hc.symm.trans (by assumption : _ = true)) (by decide))) | skip)) | refine loopK.x ?_)
        | (fail)
        | fail
      refine Br.two (c1 := 1) (c2 := 1) (m1 := 0) (m2 := 0) 1 2 [(3, 2), (0, 6), (3, 7), (0, 8)] [(3, 1), (0, 6), (3, 7), (0, 8)] (by decide +kernel) rfl rfl (by decide +kernel) rfl (by decide +kernel) rfl ?_ ?_
      ·
        repeat' first
          | (refine J.isJ ?_; first | (first | (refine J.fc 63 ?_; refine J.call1 eClone rfl rfl (fun w hw => clone_any a c l h hs (by omega) w (hw.rdH (by first | exact hr.tl | exact hr.tl.tl | exact hr.tl.tl.tl))) ?_; rintro _ hg ⟨a1, c1, rfl, o1⟩) | (refine J.o 9 ?_; first | refine J.mkm (fun bp => ?_) | refine J.bl hΓ (fun bn => ?_)) | (refine J.o 6 ?_; refine J.bx (fun b => ?_))) | (first | (refine J.o 0 ?_; refine J.ev' hΓ ?_) | refine J.nil ?_ | (refine J.o 4 ?_; first | refine J.lT default hΓ ?_ | refine J.lR hΓ ?_) | (refine J.o 3 ?_; first | refine J.iJ hΓ ?_ | refine J.ev' hΓ ?_) | (refine J.o 1 ?_; first | refine J.ad ?_) | (refine J.o 5 ?_; first | refine J.t0 hΓ ?_) | (refine J.o 6 ?_; refine J.bx (fun _ => ?_)) | (refine J.o 7 ?_; refine J.al hΓ (fun _ => ?_)) | (refine J.o 8 ?_; refine J.bd hΓ ?_) | (refine J.o 9 ?_; refine J.bl hΓ (fun _ => ?_)) | (refine J.o 10 ?_; refine J.ev' hΓ ?_) | (refine J.o 11 ?_; refine J.ev' hΓ ?_)))
          | (first | (refine JE.is ?_; first | refine JE.s0 ?_ | refine JE.s3 ?_ | refine JE.nil ?_ | refine JE.s4 rfl (fun w hw => hw.subl (by repeat (first | exact List.nil_sublist _ | exact List.Sublist.refl _ | refine List.Sublist.cons_cons _ ?_ | refine List.Sublist.cons _ ?_))) ?_) | refine eK0.nn ?_ | (refine eK3.is ?_; refine eK3.nn (fun w hw => hw.subl (by repeat (first | exact List.nil_sublist _ | exact List.Sublist.refl _ | refine List.Sublist.cons_cons _ ?_ | refine List.Sublist.cons _ ?_))) ?_) | refine brK.nn ?_)
          | (first | refine JC.seq ?_ | refine JC.region ?_ | refine JC.block ?_ | refine JC.ret ?_ | refine JC.exit ?_ | refine JC.skip ?_ | refine thenK.nn ?_ | refine thenK.x ?_ | refine blockK.nn ?_ | refine blockK.hit rfl ?_ | (refine JC.cond rfl (fun hc => ?_) (fun hc => ?_) <;> ((try simp only [decide_eq_true_eq, decide_eq_false_iff_not, beq_iff_eq, beq_eq_false_iff_ne, bne_iff_ne, bne_eq_false_iff_eq, Bool.not_eq_true', Bool.not_eq_false', Bool.not_eq_true, Bool.not_eq_false] at hc) <;> first | (first | (exact absurd rfl hc) | (exfalso; omega) | (exact absurd (hc.symm.trans (by assumption : _ = false)) (by decide)) | (exact absurd (hc.symm.trans (by assumption : _ = true)) (by decide))) | skip)) | refine loopK.x ?_)
          | (fail)
          | fail
        refine Br.done (by kernel_rfl) ?_
        refine midK.nn (by repeat (first | refine Ag.upd rfl ?_ | exact Ag.rfl')) ⟨_, _, _, _, _, _, rfl, o1, (List.Perm.cons _ ?_)⟩
        first | exact .refl _ | exact br1 | exact br1.cons _ | exact br2 | exact br2.symm | exact br2.trans (br1.cons _)
      ·
        repeat' first
          | (refine J.isJ ?_; first | (first | (refine J.fc 63 ?_; refine J.call1 eClone rfl rfl (fun w hw => clone_any a c l h hs (by omega) w (hw.rdH (by first | exact hr.tl | exact hr.tl.tl | exact hr.tl.tl.tl))) ?_; rintro _ hg ⟨a1, c1, rfl, o1⟩) | (refine J.o 9 ?_; first | refine J.mkm (fun bp => ?_) | refine J.bl hΓ (fun bn => ?_)) | (refine J.o 6 ?_; refine J.bx (fun b => ?_))) | (first | (refine J.o 0 ?_; refine J.ev' hΓ ?_) | refine J.nil ?_ | (refine J.o 4 ?_; first | refine J.lT default hΓ ?_ | refine J.lR hΓ ?_) | (refine J.o 3 ?_; first | refine J.iJ hΓ ?_ | refine J.ev' hΓ ?_) | (refine J.o 1 ?_; first | refine J.ad ?_) | (refine J.o 5 ?_; first | refine J.t0 hΓ ?_) | (refine J.o 6 ?_; refine J.bx (fun _ => ?_)) | (refine J.o 7 ?_; refine J.al hΓ (fun _ => ?_)) | (refine J.o 8 ?_; refine J.bd hΓ ?_) | (refine J.o 9 ?_; refine J.bl hΓ (fun _ => ?_)) | (refine J.o 10 ?_; refine J.ev' hΓ ?_) | (refine J.o 11 ?_; refine J.ev' hΓ ?_)))
          | (first | (refine JE.is ?_; first | refine JE.s0 ?_ | refine JE.s3 ?_ | refine JE.nil ?_ | refine JE.s4 rfl (fun w hw => hw.subl (by repeat (first | exact List.nil_sublist _ | exact List.Sublist.refl _ | refine List.Sublist.cons_cons _ ?_ | refine List.Sublist.cons _ ?_))) ?_) | refine eK0.nn ?_ | (refine eK3.is ?_; refine eK3.nn (fun w hw => hw.subl (by repeat (first | exact List.nil_sublist _ | exact List.Sublist.refl _ | refine List.Sublist.cons_cons _ ?_ | refine List.Sublist.cons _ ?_))) ?_) | refine brK.nn ?_)
          | (first | refine JC.seq ?_ | refine JC.region ?_ | refine JC.block ?_ | refine JC.ret ?_ | refine JC.exit ?_ | refine JC.skip ?_ | refine thenK.nn ?_ | refine thenK.x ?_ | refine blockK.nn ?_ | refine blockK.hit rfl ?_ | (refine JC.cond rfl (fun hc => ?_) (fun hc => ?_) <;> ((try simp only [decide_eq_true_eq, decide_eq_false_iff_not, beq_iff_eq, beq_eq_false_iff_ne, bne_iff_ne, bne_eq_false_iff_eq, Bool.not_eq_true', Bool.not_eq_false', Bool.not_eq_true, Bool.not_eq_false] at hc) <;> first | (first | (exact absurd rfl hc) | (exfalso; omega) | (exact absurd (hc.symm.trans (by assumption : _ = false)) (by decide)) | (exact absurd (hc.symm.trans (by assumption : _ = true)) (by decide))) | skip)) | refine loopK.x ?_)
          | (fail)
          | fail
        refine Br.done (by kernel_rfl) ?_
        refine midK.nn (by repeat (first | refine Ag.upd rfl ?_ | exact Ag.rfl')) ⟨_, _, _, _, _, _, rfl, o1, (List.Perm.cons _ ?_)⟩
        first | exact .refl _ | exact br1 | exact br1.cons _ | exact br2 | exact br2.symm | exact br2.trans (br1.cons _)
  rintro g L' ⟨b, bp, bn, a1, c1, hO, e5, o1, hp⟩
  refine thenK.nn ?_
  refine JC.perm hp ?_
  refine JC.pin 5 e5 ?_
  have hno := ho.2
  repeat' first
    | (refine J.isJ ?_; first | (fail) | (first | (refine J.o 0 ?_; refine J.ev' hΓ ?_) | refine J.nil ?_ | (refine J.o 4 ?_; first | refine J.lT default hΓ ?_ | refine J.lR hΓ ?_) | (refine J.o 3 ?_; first | refine J.iJ hΓ ?_ | refine J.ev' hΓ ?_) | (refine J.o 1 ?_; first | refine J.ad ?_) | (refine J.o 5 ?_; first | refine J.t0 hΓ ?_) | (refine J.o 6 ?_; refine J.bx (fun _ => ?_)) | (refine J.o 7 ?_; refine J.al hΓ (fun _ => ?_)) | (refine J.o 8 ?_; refine J.bd hΓ ?_) | (refine J.o 9 ?_; refine J.bl hΓ (fun _ => ?_)) | (refine J.o 10 ?_; refine J.ev' hΓ ?_) | (refine J.o 11 ?_; refine J.ev' hΓ ?_)))
    | (first | refine JC.seq ?_ | refine JC.region ?_ | refine JC.block ?_ | refine JC.ret ?_ | refine JC.exit ?_ | refine JC.skip ?_ | refine thenK.nn ?_ | refine thenK.x ?_ | refine blockK.nn ?_ | refine blockK.hit rfl ?_ | (refine JC.cond rfl (fun hc => ?_) (fun hc => ?_) <;> ((try simp only [decide_eq_true_eq, decide_eq_false_iff_not, beq_iff_eq, beq_eq_false_iff_ne, bne_iff_ne, bne_eq_false_iff_eq, Bool.not_eq_true', Bool.not_eq_false', Bool.not_eq_true, Bool.not_eq_false] at hc) <;> first | (first | (exact absurd rfl hc) | (exfalso; omega) | (exact absurd (hc.symm.trans (by assumption : _ = false)) (by decide)) | (exact absurd (hc.symm.trans (by assumption : _ = true)) (by decide))) | skip)) | refine loopK.x ?_)
    | (fail)
    | fail
  refine JC.loop (fun i => i == 6 || i == 7 || Nat.ble 27 i) (fun m g L' => ∃ q hP, g 27 = .int .i64 ((q : Nat) : Int) ∧ q + m = l.length ∧ MapT Try.prog 3 ekI evI ((l.take q).zipIdx 0) bp hP ∧ L' = [(b, Obj.cells ⟨[.slice a1 l.length c1, .map (some bp), .slice (some ⟨bn, 0, none⟩) 2 2, .map none, .map none]⟩ 104 (0, 0))] :: [(bn, Obj.cells ⟨[.int .i64 (l.length : Int), .int .i64 0, .int .i64 0, .int .i64 (l.length : Int), .int .i64 0, .int .i64 0]⟩ 107 (0, 0))] :: hP :: hO :: [(b4, Obj.cells ⟨[.int .i64 (l.length : Int), .int .i64 0, .int .i64 0]⟩ 107 (0, 0))] :: L) l.length ⟨0, _, rfl, by omega, MapT.nil _, rfl⟩ ?_
  rintro m g2 L' ⟨q, hP, e27, hq, mp, rfl⟩
  refine JC.pin 27 e27 ?_
  rcases Nat.lt_or_ge q l.length with hlt | hge
  · have hel := mem_g l q hlt
    have hrg := ho.1 _ hel
    have hkey := keyI (l.getD q default) (by omega)
    have hnew : ∀ y, (l.getD q default, y) ∉ (l.take q).zipIdx 0 := by
      refine mget_out ?_
      rw [mget_zip, rk_none]
      intro hm
      have hs2 := List.Nodup.sublist (List.take_sublist (q + 1) l) hno
      rw [take_g l q hlt] at hs2
      exact (List.nodup_append.1 hs2).2.2 _ hm _ (List.mem_singleton_self _) rfl
    repeat' first
      | (refine J.isJ ?_; first | (first | (refine J.o 4 ?_; first | refine J.lT default hΓ ?_ (hs := hs) (hr := hr.tl.tl.tl.tl.tl)) | (refine J.o 9 ?_; refine J.perm br2 ?_; refine J.mup (a := l.getD q default) (ev := evI) q keyedI ekI_inj mp hkey hΓ (fun h3 mp3 => ?_))) | (first | (refine J.o 0 ?_; refine J.ev' hΓ ?_) | refine J.nil ?_ | (refine J.o 4 ?_; first | refine J.lT default hΓ ?_ | refine J.lR hΓ ?_) | (refine J.o 3 ?_; first | refine J.iJ hΓ ?_ | refine J.ev' hΓ ?_) | (refine J.o 1 ?_; first | refine J.ad ?_) | (refine J.o 5 ?_; first | refine J.t0 hΓ ?_) | (refine J.o 6 ?_; refine J.bx (fun _ => ?_)) | (refine J.o 7 ?_; refine J.al hΓ (fun _ => ?_)) | (refine J.o 8 ?_; refine J.bd hΓ ?_) | (refine J.o 9 ?_; refine J.bl hΓ (fun _ => ?_)) | (refine J.o 10 ?_; refine J.ev' hΓ ?_) | (refine J.o 11 ?_; refine J.ev' hΓ ?_)))
      | (first | refine JC.seq ?_ | refine JC.region ?_ | refine JC.block ?_ | refine JC.ret ?_ | refine JC.exit ?_ | refine JC.skip ?_ | refine thenK.nn ?_ | refine thenK.x ?_ | refine blockK.nn ?_ | refine blockK.hit rfl ?_ | (refine JC.cond rfl (fun hc => ?_) (fun hc => ?_) <;> ((try simp only [decide_eq_true_eq, decide_eq_false_iff_not, beq_iff_eq, beq_eq_false_iff_ne, bne_iff_ne, bne_eq_false_iff_eq, Bool.not_eq_true', Bool.not_eq_false', Bool.not_eq_true, Bool.not_eq_false] at hc) <;> first | (first | (exact absurd rfl hc) | (exfalso; omega) | (exact absurd (hc.symm.trans (by assumption : _ = false)) (by decide)) | (exact absurd (hc.symm.trans (by assumption : _ = true)) (by decide))) | skip)) | refine loopK.x ?_)
      | (fail)
      | fail
    all_goals first | (exfalso; omega) | skip
    rw [mput_new q hnew] at mp3
    refine loopK.np (m - 1) [] _ (by omega) (by repeat (first | refine Ag.upd rfl ?_ | exact Ag.hv)) br2.symm ⟨q + 1, h3, ?_, by omega, ?_, rfl⟩
    · show Value.int .i64 _ = _; congr 1
    · rw [take_g l q hlt, List.zipIdx_append]
      rw [List.length_take, Nat.min_eq_left (Nat.le_of_lt hlt), Nat.zero_add]
      exact mp3
  · rw [List.take_of_length_le hge] at mp
    repeat' first
      | (refine J.isJ ?_; first | ((refine J.fc 69 ?_; refine J.callx eReb rfl rfl (fun w hw => reb_any _ _ _ _ _ rfl rfl hw) ?_; rintro _ _ ⟨bu, bi, rfl, rfl⟩)) | (first | (refine J.o 0 ?_; refine J.ev' hΓ ?_) | refine J.nil ?_ | (refine J.o 4 ?_; first | refine J.lT default hΓ ?_ | refine J.lR hΓ ?_) | (refine J.o 3 ?_; first | refine J.iJ hΓ ?_ | refine J.ev' hΓ ?_) | (refine J.o 1 ?_; first | refine J.ad ?_) | (refine J.o 5 ?_; first | refine J.t0 hΓ ?_) | (refine J.o 6 ?_; refine J.bx (fun _ => ?_)) | (refine J.o 7 ?_; refine J.al hΓ (fun _ => ?_)) | (refine J.o 8 ?_; refine J.bd hΓ ?_) | (refine J.o 9 ?_; refine J.bl hΓ (fun _ => ?_)) | (refine J.o 10 ?_; refine J.ev' hΓ ?_) | (refine J.o 11 ?_; refine J.ev' hΓ ?_)))
      | (first | refine JC.seq ?_ | refine JC.region ?_ | refine JC.block ?_ | refine JC.ret ?_ | refine JC.exit ?_ | refine JC.skip ?_ | refine thenK.nn ?_ | refine thenK.x ?_ | refine blockK.nn ?_ | refine blockK.hit rfl ?_ | (refine JC.cond rfl (fun hc => ?_) (fun hc => ?_) <;> ((try simp only [decide_eq_true_eq, decide_eq_false_iff_not, beq_iff_eq, beq_eq_false_iff_ne, bne_iff_ne, bne_eq_false_iff_eq, Bool.not_eq_true', Bool.not_eq_false', Bool.not_eq_true, Bool.not_eq_false] at hc) <;> first | (first | (exact absurd rfl hc) | (exfalso; omega) | (exact absurd (hc.symm.trans (by assumption : _ = false)) (by decide)) | (exact absurd (hc.symm.trans (by assumption : _ = true)) (by decide))) | skip)) | refine loopK.x ?_)
      | (fail)
      | fail
    all_goals first | (exfalso; omega) | skip
    refine ret2f rfl rfl rfl rfl rfl (fun w1 hw => ⟨_, _, rfl, H.sel (l := [_, _, _, _, _, _, _]) (M := L) hw [0, 3, 1, 2, 5, 4], b, ⟨a1, l.length, c1, bp, bu, bi⟩, ⟨some ⟨bn, 0, none⟩, 2, ends l.length, [(bn, _)], [], [(bu, .map ⟨[]⟩ 0)], [], [(bi, .map ⟨[]⟩ 0)]⟩, hO, hP, rfl, rfl, ?_, rfl, ⟨o1, rfl, ho, mp⟩⟩)
    refine ⟨hl, rfl, ends_wf _, by show 2 ≤ _; omega, ?_, MapT.nil _, ⟨fun i h2 hi => absurd (show i < 2 from hi) (by omega), fun x i hx => by cases hx⟩, MapT.nil _, fun x y hx => by cases hx⟩
    exact ⟨fun _ => rfl, .inr ⟨bn, _, rfl, rfl, rfl, Nat.le_refl _, rfl⟩⟩
end Go.Proofs.Ytbhgahjeocnfcaa
namespace Go.Proofs.Ytbhgahjeocnfcaa
open Go Go.Cx Go.RowKit
set_option linter.unusedVariables false
set_option linter.unusedSimpArgs false
set_option maxHeartbeats 4000000
attribute [local irreducible] J JC thenK blockK loopK roundK drawK retK QW Qt pel List.set Calls
open Go.Maps
set_option maxRecDepth 8000
attribute [local irreducible] JE Br eK0 eK3 brK pc
theorem eVarC : Entr Try.prog 70 := Entr.of Try.func70 rfl rfl
theorem eVarS : Entr Try.prog 26 := Entr.of Try.func26 rfl rfl
theorem slNil (h : Heap) : SlT encI 1 none ([] : List Int) h := ⟨fun _ => rfl, fun i hi => absurd hi (Nat.not_lt_zero i)⟩
theorem VarC_any {n : Nat} {K : KS} {s : SS} (so : SOk n K s) (k : Nat) (hk : k < n) (hfull : s.ns.length + 1 ≤ 1048576) {w0 w : World} {R : Heap} {L : List Heap} {b0 c1 d1 : Nat} (r1 : Rd R L c1 (ptrS b0)) (r2 : Rd R L d1 (intO k)) (hw : H w0 R (sF K b0 s ++ L) w) :
    Calls Try.prog 70 #[.pointer (some ⟨c1, 0, none⟩), .pointer (some ⟨d1, 0, none⟩)] w fun e w' => ∃ v L', e = .returned v ∧ H w0 R L' w' ∧ ∃ s' y, v = .int .i64 ((y : Nat) : Int) ∧ L' = sF K b0 s' ++ L ∧ Res n K s s' 1 y (fun α => α k) := by
  have two := so.wf.two
  have n8 := so.n8
  unfold ptrS at r1
  unfold intO at r2
  unfold sF at hw
  simp only [List.cons_append, List.nil_append] at hw
  refine calls_in Try.func70 Try.ntmps70 rfl rfl (hw) ?_
  repeat' first
    | (refine J.isJ ?_; first | (first | (refine J.o 4 ?_; first | refine J.lR hΓ ?_ (hr := r1.tl.tl.tl.tl) | refine J.lR hΓ ?_ (hr := r2.tl.tl.tl.tl)) | (refine J.fc 58 ?_; refine J.callx eAdd rfl rfl (fun w hw => add_any so ⟨k, 0, 1⟩ hk (show 0 < s.ns.length by omega) (show 1 < s.ns.length by omega) (show k < (nd s.ns 0).p by rw [so.wf.c0]; exact hk) (show k < (nd s.ns 1).p by rw [so.wf.c1]; exact hk) (by omega) hw) ?_; rintro _ _ ⟨s1, y1, rfl, rfl, ad1, it1⟩)) | (first | (refine J.o 0 ?_; refine J.ev' hΓ ?_) | refine J.nil ?_ | (refine J.o 4 ?_; first | refine J.lR hΓ ?_) | (refine J.o 3 ?_; first | refine J.ev' hΓ ?_) | (refine J.o 8 ?_; refine J.bd hΓ ?_) | (refine J.o 10 ?_; refine J.ev' hΓ ?_) | (refine J.o 11 ?_; refine J.ev' hΓ ?_)))
    | (first | refine JC.seq ?_ | refine JC.region ?_ | refine JC.ret ?_ | refine thenK.nn ?_)
    | (fail)
    | fail
  refine ret1f rfl rfl rfl (fun w1 hw => ⟨_, _, rfl, hw, s1, y1, rfl, rfl, ad1, fun α => ?_⟩)
  rw [it1 α]
  show (if α k then fn n s1.ns 1 α else fn n s1.ns 0 α) = α k
  rw [fn_0 ad1.ok.wf, fn_1 ad1.ok.wf]
  cases α k <;> rfl
theorem Var_any {n : Nat} {K : KS} {s : SS} (so : SOk n K s) {order : List Int} {hO hP : Heap} (po : POk K order hO hP) (v : Int) (hv : -9223372036854775808 ≤ v ∧ v ≤ 9223372036854775807) (k : Nat) (hk : rk order v 0 = some k) (hfull : s.ns.length + 1 ≤ 1048576) {w0 w : World} {R : Heap} {L : List Heap} {b0 : Nat} (hw : H w0 R (sF K b0 s ++ (hO :: hP :: L)) w) :
    Calls Try.prog 26 #[.pointer (some ⟨b0, 0, none⟩), .int .i64 v] w fun e w' => ∃ v L', e = .returned v ∧ H w0 R L' w' ∧ ∃ s' y, v = .tuple #[.int .i64 ((y : Nat) : Int), .int .i64 0] ∧ L' = sF K b0 s' ++ (hO :: hP :: L) ∧ Res n K s s' 1 y (fun α => α k) := by
  have hkn : k < n := by
    obtain ⟨_, h2, _⟩ := rk_some hk
    have := po.len; have := so.no; omega
  have two := so.wf.two
  have pm := po.pm
  have hkey := keyI v hv
  have cChk : ∀ L1 w, H w0 R L1 w → Rd R L1 b0 (stO K s.an s.ns.length s.cn) → Calls Try.prog 64 #[.pointer (some ⟨b0, 0, none⟩), .slice none 0 0] w fun e w' => e = .returned (.int .i64 0) ∧ Below w.heap.size w w' := fun L1 w hw hr =>
    check_any K b0 s.an s.cn s.ns.length two [(b0, stO K s.an s.ns.length s.cn)] (List.mem_singleton_self _) [] none 0 (slNil _) (by show 0 ≤ 1000; omega) w (holds2 (hw.rd hr) (Holds.nil w))
  unfold sF at hw
  simp only [List.cons_append, List.nil_append] at hw
  have hget : mget (order.zipIdx 0) v = some k := by rw [mget_zip, hk]
  refine calls_in Try.func26 Try.ntmps26 rfl rfl (hw) ?_
  refine JC.seq ?_
  refine JC.region ?_
  refine J.isJ ?_
  refine J.o 6 ?_
  refine J.bx (fun c1 => ?_)
  repeat' first
    | (refine J.isJ ?_; first | (first | (refine J.fc 64 ?_; refine J.call0 eCheck rfl rfl (fun w hw => cChk _ w hw Rd.hd.tl) ?_)) | (first | (refine J.o 0 ?_; refine J.ev' hΓ ?_) | refine J.nil ?_ | (refine J.o 4 ?_; first | refine J.lR hΓ ?_) | (refine J.o 3 ?_; first | refine J.ev' hΓ ?_) | (refine J.o 5 ?_; first | refine J.t0 hΓ ?_) | (refine J.o 6 ?_; refine J.bx (fun _ => ?_)) | (refine J.o 7 ?_; refine J.al hΓ (fun _ => ?_)) | (refine J.o 10 ?_; refine J.ev' hΓ ?_) | (refine J.o 11 ?_; refine J.ev' hΓ ?_)))
    | (first | refine JC.seq ?_ | refine JC.region ?_ | refine JC.ret ?_ | refine JC.skip ?_ | refine thenK.nn ?_ | refine JC.condF rfl ?_)
    | (fail)
    | fail
  all_goals first | (exfalso; omega) | skip
  unfold stO
  repeat' first
    | (refine J.isJ ?_; first | (first | (refine J.o 9 ?_; refine J.lk (a := v) keyedI ekI_inj pm (by first | exact RdH.hd.tl.tl.tl.tl.tl.tl | exact RdH.hd.tl.tl.tl.tl.tl.tl.tl) hkey hΓ ?_; rw [hget]) | (refine J.o 7 ?_; refine J.al hΓ (fun d1 => ?_)) | (refine J.o 14 ?_; refine J.mfV [.pointer (some ⟨c1, 0, none⟩), .pointer (some ⟨d1, 0, none⟩)] hΓ ?_) | (refine J.fc 56 ?_; refine J.callx eTry rfl rfl (fun w hw => try_any so (Q := fun s' y => Res n K s s' 1 y (fun α => α k)) eVarC [] none 0 [] (slNil _) (by show 0 ≤ 1000; omega) (L := [(d1, intO k)] :: [(c1, ptrS b0)] :: hO :: hP :: L) (fun x hx => by cases hx) rfl (fun Lx w hw => VarC_any so k hkn hfull (Rd.app Lx Rd.hd.tl) (Rd.app Lx Rd.hd) hw) (H.sel (l := [_, _, _, _, _, _, _, _]) (M := L) hw [2, 3, 4, 5, 0, 1, 6, 7])) ?_; rintro _ _ ⟨s1, y1, rfl, rfl, hq⟩)) | (first | (refine J.o 0 ?_; refine J.ev' hΓ ?_) | refine J.nil ?_ | (refine J.o 4 ?_; first | refine J.lR hΓ ?_) | (refine J.o 3 ?_; first | refine J.ev' hΓ ?_) | (refine J.o 5 ?_; first | refine J.t0 hΓ ?_) | (refine J.o 6 ?_; refine J.bx (fun _ => ?_)) | (refine J.o 7 ?_; refine J.al hΓ (fun _ => ?_)) | (refine J.o 10 ?_; refine J.ev' hΓ ?_) | (refine J.o 11 ?_; refine J.ev' hΓ ?_)))
    | (first | refine JC.seq ?_ | refine JC.region ?_ | refine JC.ret ?_ | refine JC.skip ?_ | refine thenK.nn ?_ | refine JC.condF rfl ?_)
    | (fail)
    | fail
  all_goals first | (exfalso; omega) | skip
  refine ret2f rfl rfl rfl rfl rfl (fun w1 hw => ⟨_, _, rfl, H.sel (l := [_, _, _, _, _, _, _, _]) (M := L) hw [0, 1, 2, 3, 6, 7], s1, y1, rfl, rfl, hq⟩)
theorem ret4f {P : Program} {fn : Func} {n : Nat} {w0 : World} {R : Heap} {Post : Ending → World → Prop} {f : Fr} {L : List Heap} {t u s q : Nat} {v x y z : Value} (hr : fn.results = #[.tmp t, .tmp u, .tmp s, .tmp q]) (ht : Nat.blt t n = true) (hu : Nat.blt u n = true) (hs : Nat.blt s n = true) (hq : Nat.blt q n = true) (hv : frc (f t) = some v) (hx : frc (f u) = some x) (hy : frc (f s) = some y) (hz : frc (f q) = some z)
    (h : ∀ w, H w0 R L w → Post (.returned (.tuple #[v, x, y, z])) w) : retK P fn n w0 R Post .ret f L := by
  unfold retK
  exact fun a w ha hw => ⟨.tuple #[a.tmps.getD t undef, a.tmps.getD u undef, a.tmps.getD s undef, a.tmps.getD q undef], by simp [results, hr], by rw [ha.getD ht, frc_eq hv, ha.getD hu, frc_eq hx, ha.getD hs, frc_eq hy, ha.getD hq, frc_eq hz]; exact h w hw⟩
theorem eParts : Entr Try.prog 66 := Entr.of Try.func66 rfl rfl
def stR (K : KS) (b : Nat) (s : SS) (hO : Heap) : Heap := (b, stO K s.an s.ns.length s.cn) :: (s.hN ++ hO)
theorem Parts_node {n : Nat} {K : KS} {s : SS} (so : SOk n K s) {order : List Int} {hO hP : Heap} (po : POk K order hO hP) (b a : Nat) (h2 : 2 ≤ a) (ha : a < s.ns.length) (w : World) (hw : Holds (stR K b s hO) w) :
    Calls Try.prog 66 #[.pointer (some ⟨b, 0, none⟩), .int .i64 (a : Int)] w fun e w' => e = .returned (.tuple #[.int .i64 (order.getD (nd s.ns a).p default), .int .i64 ((nd s.ns a).l : Int), .int .i64 ((nd s.ns a).h : Int), .int .i64 0]) ∧ Below w.heap.size w w' := by
  have hp := so.wf.pl a h2 ha
  have hno := so.no
  have hpl := po.len
  have hsm := so.sm
  have hsl : SlT enc3 3 s.an s.ns (stR K b s hO) := so.ow.sl.sub fun y hy => List.mem_cons_of_mem _ (List.mem_append_left _ hy)
  have hso : SlT encI 1 K.ao order (stR K b s hO) := po.ow.sl.sub fun y hy => List.mem_cons_of_mem _ (List.mem_append_right _ hy)
  have rb : ∀ L, Rd (stR K b s hO) L b (stO K s.an s.ns.length s.cn) := fun L => Rd.old List.mem_cons_self
  have q0 : ∀ L, RdH (stR K b s hO) L (stR K b s hO) := fun L => RdH.old fun _ hh => hh
  have cChk : ∀ L1 w1 b1, H w (stR K b s hO) L1 w1 → Rd (stR K b s hO) L1 b1 (intO a) → Calls Try.prog 64 #[.pointer (some ⟨b, 0, none⟩), .slice (some ⟨b1, 0, none⟩) 1 1] w1 fun e w' => e = .returned (.int .i64 0) ∧ Below w1.heap.size w1 w' := fun L1 w1 b1 hw hr => by
    have hc := chk_ok (m := s.ns.length) (l := [a]) (by simp only [List.mem_cons, List.not_mem_nil, or_false, forall_eq]; exact ha)
    have := check_any K b s.an s.cn s.ns.length so.wf.two [(b, stO K s.an s.ns.length s.cn), (b1, intO a)] List.mem_cons_self [(a : Int)] (some ⟨b1, 0, none⟩) 1 ((slArg b1 [(a : Int)] 3).sub fun y hy => List.mem_cons_of_mem _ hy) (by show 1 ≤ 1000; omega) w1 (holds2 (hw.rd (rb _)) (holds2 (hw.rd hr) (Holds.nil _)))
    rw [show chkP s.ns.length [(a : Int)] = true from hc, if_pos rfl] at this
    exact this
  unfold stO at rb
  have hnd : s.ns.getD a default = nd s.ns a := rfl
  have hp1 : (s.ns.getD a default).p < K.no := by rw [hno]; exact hp
  have hp2 : (s.ns.getD a default).p < order.length := by rw [← hpl]; exact hp1
  refine calls_of_JC (R := (stR K b s hO)) Try.func66 Try.ntmps66 rfl rfl (hw) ?_
  repeat' first
    | (refine J.isJ ?_; first | (first | (refine J.o 9 ?_; refine J.bl hΓ (fun b1 => ?_)) | (refine J.fc 64 ?_; refine J.call0 eCheck rfl rfl (fun w hw => cChk _ w _ hw Rd.hd) ?_) | (refine J.o 4 ?_; first | refine J.lR hΓ ?_ (hr := rb _) | (refine J.lT default hΓ ?_ (hs := hsl) (hr := q0 _)) | (refine J.lT default hΓ ?_ (hs := hso) (hr := q0 _)))) | (first | (refine J.o 0 ?_; refine J.ev' hΓ ?_) | refine J.nil ?_ | (refine J.o 4 ?_; first | refine J.lT default hΓ ?_ | refine J.lR hΓ ?_) | (refine J.o 3 ?_; first | refine J.iJ hΓ ?_ | refine J.ev' hΓ ?_) | (refine J.o 5 ?_; first | refine J.t0 hΓ ?_) | (refine J.o 7 ?_; refine J.al hΓ (fun _ => ?_)) | (refine J.o 9 ?_; refine J.bl hΓ (fun _ => ?_)) | (refine J.o 10 ?_; refine J.ev' hΓ ?_) | (refine J.o 11 ?_; refine J.ev' hΓ ?_)))
    | (first | refine JC.seq ?_ | refine JC.region ?_ | refine JC.ret ?_ | refine JC.skip ?_ | refine thenK.nn ?_ | refine JC.condF rfl ?_ | (refine JC.cond rfl (fun hc => ?_) (fun hc => ?_) <;> ((try simp only [decide_eq_true_eq, decide_eq_false_iff_not, beq_iff_eq, beq_eq_false_iff_ne, bne_iff_ne, bne_eq_false_iff_eq, Bool.not_eq_true', Bool.not_eq_false', Bool.not_eq_true, Bool.not_eq_false] at hc) <;> first | (first | (exact absurd rfl hc) | (exfalso; omega) | (exact absurd (hc.symm.trans (by assumption : _ = false)) (by decide)) | (exact absurd (hc.symm.trans (by assumption : _ = true)) (by decide))) | skip)) | refine drawK.nn ?_)
    | ((refine JC.drawO [(0,0),(0,1),(0,2),(1,3),(0,4),(1,5),(0,6),(1,7),(0,8),(1,9),(0,10),(1,11),(0,12),(0,13),(0,14),(0,15)] (by decide +kernel) (by decide +kernel) ?_))
    | fail
  all_goals first | (exfalso; omega) | skip
  refine ret4f rfl rfl rfl rfl rfl rfl rfl rfl rfl (fun w1 hw => ⟨rfl, hw.below⟩)
end Go.Proofs.Ytbhgahjeocnfcaa
