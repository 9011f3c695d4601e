/- Undecided partial sums: plain facts for the walks. -/
import Derived.Test.YtinpcimogojefaaEg
namespace Go.Proofs.Ytinpcimogojefaa
open Go Go.Cx Go.RowKit
set_option linter.unusedVariables false
set_option linter.unusedSimpArgs false
set_option maxHeartbeats 4000000
attribute [local irreducible] J JC thenK blockK loopK roundK drawK retK QW Qt pel List.set Calls
theorem sumI_nn (cs : List Int) (h : ∀ c, c ∈ cs → 0 ≤ c) : 0 ≤ sumI cs := by
  induction cs with
  | nil => simp [sumI]
  | cons c cs ih =>
    have := ih fun x hx => h x (List.mem_cons_of_mem _ hx)
    have := h c List.mem_cons_self
    simp only [sumI, List.foldr_cons] at *
    omega
theorem sumI_le (cs : List Int) (h : ∀ c, c ∈ cs → 0 ≤ c ∧ c ≤ 1000000000) : sumI cs ≤ 1000000000 * cs.length := by
  induction cs with
  | nil => simp [sumI]
  | cons c cs ih =>
    have := ih fun x hx => h x (List.mem_cons_of_mem _ hx)
    have := h c List.mem_cons_self
    simp only [sumI, List.foldr_cons, List.length_cons] at *
    omega
theorem sumI_app (a b : List Int) : sumI (a ++ b) = sumI a + sumI b := by
  induction a with
  | nil => simp [sumI]
  | cons c cs ih => simp only [sumI, List.cons_append, List.foldr_cons] at *; omega
theorem sumI_one (c : Int) : sumI [c] = c := by simp [sumI]
theorem sumI_cons (c : Int) (cs : List Int) : sumI (c :: cs) = c + sumI cs := rfl
theorem putI_len (l : List Int) (x : Int) : (putI l x).length ≤ l.length + 1 := by
  induction l with
  | nil => simp [putI]
  | cons z l ih =>
    unfold putI
    split
    · simp
    · split
      · simp
      · simp only [List.length_cons]; omega
theorem nextF_len' (row : List Int) (c : Int) : ∀ l : List Int, (row.foldl (fun l p => putI (putI l p) (p + c)) l).length ≤ l.length + 2 * row.length := by
  induction row with
  | nil => intro l; simp
  | cons q row ih =>
    intro l
    have h1 := ih (putI (putI l q) (q + c))
    have h2 := putI_len (putI l q) (q + c)
    have h3 := putI_len l q
    simp only [List.foldl_cons, List.length_cons]
    omega
theorem nextF_len (row : List Int) (c : Int) : (nextF row c).length ≤ 2 * row.length := by
  have := nextF_len' row c []
  simpa [nextF] using this
theorem undec_mem (least rest : Int) (now : List Int) (x : Int) : x ∈ undec least rest now ↔ x ∈ now ∧ x < least ∧ least ≤ x + rest := by
  simp [undec]
theorem undec_len (least rest : Int) (now : List Int) : (undec least rest now).length ≤ now.length := List.length_filter_le _ _
/-- how many there are -/
def totF (l : List (List Int)) : Nat := (l.map List.length).sum
theorem totF_app (a b : List (List Int)) : totF (a ++ b) = totF a + totF b := by simp [totF]
theorem totF_one (a : List Int) : totF [a] = a.length := by simp [totF]
theorem totF_cons (a : List Int) (l : List (List Int)) : totF (a :: l) = a.length + totF l := by simp [totF]
theorem rowsF_len (least : Int) (cs now : List Int) : (rowsF least cs now).length = cs.length := by
  induction cs generalizing now with
  | nil => rfl
  | cons c cs ih => simp only [rowsF, List.length_cons, ih]
/-- where a walk stands ahead of term k -/
structure At (least : Int) (cs : List Int) (k : Nat) (done : List (List Int)) (now : List Int) : Prop where
  eq : done ++ rowsF least (cs.drop k) now = rowsF least cs [0]
  len : done.length = k
  up : asc now
  rng : ∀ p, p ∈ now → 0 ≤ p ∧ p ≤ sumI (cs.take k)
theorem At.zero (least : Int) (cs : List Int) : At least cs 0 [] [0] :=
  ⟨rfl, rfl, by simp [asc], fun p hp => by rw [List.mem_singleton.1 hp]; simp [sumI]⟩
/-- its next row -/
def rowA (least : Int) (cs : List Int) (k : Nat) (now : List Int) : List Int := undec least (sumI (cs.drop k)) now
theorem At.step {least : Int} {cs : List Int} {k : Nat} {done : List (List Int)} {now : List Int} (h : At least cs k done now) (hk : k < cs.length) (hc : ∀ c, c ∈ cs → 0 ≤ c) :
    At least cs (k + 1) (done ++ [rowA least cs k now]) (nextF (rowA least cs k now) (cs.getD k default)) := by
  have he := h.eq
  rw [drop_one cs k hk, rowsF] at he
  have hcc := hc _ (getD_mem cs k hk)
  refine ⟨?_, by simp [h.len], nextF_asc _ _, fun p hp => ?_⟩
  · rw [← he, List.append_assoc]
    simp only [rowA, drop_one cs k hk, List.singleton_append]
  · obtain ⟨q, hq, hpq⟩ := (nextF_mem _ _ _).1 hp
    have hq' := h.rng q ((undec_mem _ _ _ _).1 hq).1
    have ht : sumI (cs.take (k + 1)) = sumI (cs.take k) + cs.getD k default := by
      rw [← take_one cs k hk, sumI_app, sumI_one]
    rw [ht]
    rcases hpq with rfl | rfl
    · omega
    · omega
theorem At.tot {least : Int} {cs : List Int} {k : Nat} {done : List (List Int)} {now : List Int} (h : At least cs k done now) (hk : k < cs.length) : totF done + (rowA least cs k now).length ≤ totF (rowsF least cs [0]) := by
  have he := h.eq
  rw [drop_one cs k hk, rowsF] at he
  rw [← he, totF_app, totF_cons]
  simp only [rowA, drop_one cs k hk]
  omega
theorem At.done {least : Int} {cs : List Int} {k : Nat} {done : List (List Int)} {now : List Int} (h : At least cs k done now) (hk : cs.length ≤ k) : done = rowsF least cs [0] := by
  have he := h.eq
  rw [List.drop_eq_nil_of_le hk, rowsF, List.append_nil] at he
  exact he
theorem sumI_split (cs : List Int) (k : Nat) : sumI (cs.take k) + sumI (cs.drop k) = sumI cs := by
  rw [← sumI_app, List.take_append_drop]
theorem undec_snoc (least rest : Int) (now : List Int) (p : Int) : undec least rest (now ++ [p]) = undec least rest now ++ if p < least ∧ least ≤ p + rest then [p] else [] := by
  unfold undec
  rw [List.filter_append]
  congr 1
  rw [List.filter_cons, List.filter_nil]
  by_cases h1 : p < least <;> by_cases h2 : least ≤ p + rest <;> simp only [h1, h2, decide_true, decide_false, Bool.and_self, Bool.and_false, Bool.false_and, and_self, and_false, false_and, if_true, if_false] <;> rfl
theorem nextF_snoc (row : List Int) (p c : Int) : nextF (row ++ [p]) c = putI (putI (nextF row c) p) (p + c) := by
  unfold nextF; rw [List.foldl_append]; rfl
end Go.Proofs.Ytinpcimogojefaa
