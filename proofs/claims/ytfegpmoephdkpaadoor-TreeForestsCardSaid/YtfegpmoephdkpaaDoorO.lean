/- The plain law of TreeChecks: the walk of tree.Check. -/
import Derived.Test.YtfegpmoephdkpaaDoorN
namespace Go.Proofs.YtfegpmoephdkpaaDoor
open Go Go.Cx
set_option linter.unusedVariables false
set_option linter.unusedSimpArgs false

theorem has_with (s : Nat × Nat) (v u : Int) (hv : 1 ≤ v ∧ v ≤ 128) : hasB (withS s v) u = true ↔ (hasB s u = true ∨ u = v) := by
  unfold hasB withS
  by_cases h1 : 1 ≤ v ∧ v ≤ 64
  · rw [if_pos h1]
    by_cases h2 : 1 ≤ u ∧ u ≤ 64
    · rw [if_pos h2, if_pos h2]
      simp only [Nat.testBit_or, Nat.testBit_two_pow, Bool.or_eq_true, decide_eq_true_iff]
      constructor
      · rintro (h | h)
        · exact .inl h
        · exact .inr (by omega)
      · rintro (h | h)
        · exact .inl h
        · exact .inr (by omega)
    · rw [if_neg h2, if_neg h2]
      exact ⟨.inl, fun h => h.elim id (fun h => by omega)⟩
  · rw [if_neg h1, if_pos (show 65 ≤ v ∧ v ≤ 128 by omega)]
    by_cases h2 : 1 ≤ u ∧ u ≤ 64
    · rw [if_pos h2, if_pos h2]
      exact ⟨.inl, fun h => h.elim id (fun h => by omega)⟩
    · rw [if_neg h2, if_neg h2]
      by_cases h3 : 65 ≤ u ∧ u ≤ 128
      · rw [if_pos h3, if_pos h3]
        simp only [Nat.testBit_or, Nat.testBit_two_pow, Bool.or_eq_true, decide_eq_true_iff]
        constructor
        · rintro (h | h)
          · exact .inl h
          · exact .inr (by omega)
        · rintro (h | h)
          · exact .inl h
          · exact .inr (by omega)
      · rw [if_neg h3, if_neg h3]
        exact ⟨.inl, fun h => h.elim id (fun h => by omega)⟩

theorem cn_ge : ∀ (xs : List Nd) (i j : Nat), i < xs.length → cn1 (xs.getD i default) j ≤ cn xs j
  | x :: xs, 0, j, _ => by
    have := cn_nonneg xs j
    simp only [cn, List.getD_cons_zero]; omega
  | x :: xs, i + 1, j, h => by
    have := cn_ge xs i j (by simpa using h)
    have := cn1_nonneg x j
    simp only [cn, List.getD_cons_succ]; omega
theorem cn_at (ts : List Nd) (k j : Nat) (hk : k < ts.length) : cn ts j = cn (ts.take k) j + cn1 (ts.getD k default) j + cn (ts.drop (k + 1)) j := by
  have h1 : ts = ts.take k ++ (ts.getD k default :: ts.drop (k + 1)) := by rw [← drop_one ts k hk, List.take_append_drop]
  have h2 := congrArg (fun l => cn l j) h1
  simp only [cn_app, cn] at h2
  omega
theorem cn_take (ts : List Nd) (k j : Nat) (hk : k < ts.length) : cn (ts.take (k + 1)) j = cn (ts.take k) j + cn1 (ts.getD k default) j := by
  rw [← take_one ts k hk, cn_app]; simp [cn]
theorem cn1_ed {ts : List Nd} {p c : Nat} (e : Ed ts p c) : 1 ≤ cn1 (ts.getD p default) c := by
  obtain ⟨_, h2, h3⟩ := e
  unfold cn1
  rw [if_neg h2]
  rcases h3 with h3 | h3
  · rw [if_pos h3]; split <;> omega
  · rw [if_pos h3]; split <;> omega
/-- one parent: the edge to c comes from one node alone -/
theorem ed_one {ts : List Nd} {p q c : Nat} (hc : cn ts c = 1) (e1 : Ed ts p c) (e2 : Ed ts q c) (hlt : p < q) : False := by
  have h1 := cn_at ts q c e2.1
  have h2 := cn1_ed e2
  have h3 := cn_ge (ts.take q) p c (by rw [List.length_take]; have := e2.1; omega)
  have h4 : (ts.take q).getD p default = ts.getD p default := by
    rw [List.getD_eq_getElem?_getD, List.getElem?_take, if_pos hlt, ← List.getD_eq_getElem?_getD]
  rw [h4] at h3
  have h5 := cn1_ed e1
  have h6 := cn_nonneg (ts.drop (q + 1)) c
  omega
end Go.Proofs.YtfegpmoephdkpaaDoor
