/- Undecided partial sums: plain, on ascending lists. -/
import Derived.Test.YtinpcimogojefaaEa
namespace Go.Proofs.Ytinpcimogojefaa
open Go Go.Cx Go.RowKit
set_option linter.unusedVariables false
set_option linter.unusedSimpArgs false
set_option maxHeartbeats 4000000
attribute [local irreducible] J JC thenK blockK loopK roundK drawK retK QW Qt pel List.set Calls
def sumI (l : List Int) : Int := l.foldr (· + ·) 0
/-- a number put in its place, unless it is there -/
def putI : List Int → Int → List Int
  | [], x => [x]
  | y :: l, x => if x < y then x :: y :: l else if x = y then y :: l else y :: putI l x
def undec (least rest : Int) (now : List Int) : List Int := now.filter fun p => decide (p < least) && decide (least ≤ p + rest)
def nextF (row : List Int) (c : Int) : List Int := row.foldl (fun l p => putI (putI l p) (p + c)) []
def rowsF (least : Int) : List Int → List Int → List (List Int)
  | [], _ => []
  | c :: cs, now => undec least (sumI (c :: cs)) now :: rowsF least cs (nextF (undec least (sumI (c :: cs)) now) c)
def asc (l : List Int) : Prop := l.Pairwise (· < ·)
theorem putI_mem (l : List Int) (x y : Int) : y ∈ putI l x ↔ y = x ∨ y ∈ l := by
  induction l with
  | nil => simp [putI]
  | cons z l ih =>
    unfold putI
    split
    · simp
    · split
      · rename_i h; subst h; simp
      · simp only [List.mem_cons, ih]
        constructor
        · rintro (h | h | h) <;> simp [h]
        · rintro (h | h | h) <;> simp [h]
theorem putI_asc (l : List Int) (x : Int) (h : asc l) : asc (putI l x) := by
  induction l with
  | nil => simp [putI, asc]
  | cons z l ih =>
    unfold asc at h ih ⊢
    rw [List.pairwise_cons] at h
    unfold putI
    split
    · rename_i hx
      rw [List.pairwise_cons, List.pairwise_cons]
      refine ⟨fun y hy => ?_, h⟩
      rcases List.mem_cons.1 hy with rfl | hy
      · exact hx
      · have := h.1 y hy; omega
    · split
      · rw [List.pairwise_cons]; exact h
      · rename_i h1 h2
        rw [List.pairwise_cons]
        refine ⟨fun y hy => ?_, ih h.2⟩
        rcases (putI_mem l x y).1 hy with rfl | hy
        · omega
        · exact h.1 y hy
/-- ascending lists with the same members are one -/
theorem asc_eq : ∀ (a b : List Int), asc a → asc b → (∀ x, x ∈ a ↔ x ∈ b) → a = b
  | [], [], _, _, _ => rfl
  | [], y :: b, _, _, h => absurd ((h y).2 List.mem_cons_self) (by simp)
  | x :: a, [], _, _, h => absurd ((h x).1 List.mem_cons_self) (by simp)
  | x :: a, y :: b, ha, hb, h => by
    unfold asc at ha hb
    rw [List.pairwise_cons] at ha hb
    have e : x = y := by
      rcases List.mem_cons.1 ((h x).1 List.mem_cons_self) with e | h1
      · exact e
      · rcases List.mem_cons.1 ((h y).2 List.mem_cons_self) with e | h2
        · exact e.symm
        · have := ha.1 y h2; have := hb.1 x h1; omega
    subst e
    rw [asc_eq a b ha.2 hb.2 fun z => ?_]
    constructor
    · intro hz
      rcases List.mem_cons.1 ((h z).1 (List.mem_cons_of_mem _ hz)) with e | h1
      · have := ha.1 z hz; omega
      · exact h1
    · intro hz
      rcases List.mem_cons.1 ((h z).2 (List.mem_cons_of_mem _ hz)) with e | h1
      · have := hb.1 z hz; omega
      · exact h1
theorem foldl_put (row : List Int) (c : Int) : ∀ (l : List Int), asc l → asc (row.foldl (fun l p => putI (putI l p) (p + c)) l) ∧ ∀ x, x ∈ row.foldl (fun l p => putI (putI l p) (p + c)) l ↔ x ∈ l ∨ ∃ p, p ∈ row ∧ (x = p ∨ x = p + c) := by
  induction row with
  | nil => intro l hl; exact ⟨hl, fun x => by simp⟩
  | cons q row ih =>
    intro l hl
    have := ih (putI (putI l q) (q + c)) (putI_asc _ _ (putI_asc _ _ hl))
    refine ⟨this.1, fun x => ?_⟩
    rw [List.foldl_cons, this.2 x, putI_mem, putI_mem]
    constructor
    · rintro ((h | h | h) | ⟨p, hp, h⟩)
      · exact .inr ⟨q, List.mem_cons_self, .inr h⟩
      · exact .inr ⟨q, List.mem_cons_self, .inl h⟩
      · exact .inl h
      · exact .inr ⟨p, List.mem_cons_of_mem _ hp, h⟩
    · rintro (h | ⟨p, hp, h⟩)
      · exact .inl (.inr (.inr h))
      · rcases List.mem_cons.1 hp with rfl | hp
        · rcases h with h | h
          · exact .inl (.inr (.inl h))
          · exact .inl (.inl h)
        · exact .inr ⟨p, hp, h⟩
theorem nextF_asc (row : List Int) (c : Int) : asc (nextF row c) := (foldl_put row c [] List.Pairwise.nil).1
theorem nextF_mem (row : List Int) (c x : Int) : x ∈ nextF row c ↔ ∃ p, p ∈ row ∧ (x = p ∨ x = p + c) := by
  have := (foldl_put row c [] List.Pairwise.nil).2 x
  unfold nextF
  simpa using this
theorem undec_asc (least rest : Int) (now : List Int) (h : asc now) : asc (undec least rest now) := h.filter _
/-- sorting a list without repetitions whose members are those of an ascending one gives that one -/
theorem sort_asc (l a : List Int) (hn : l.Nodup) (ha : asc a) (h : ∀ x, x ∈ l ↔ x ∈ a) : l.mergeSort (fun x y => decide (x ≤ y)) = a := by
  have tr : ∀ a b c : Int, decide (a ≤ b) = true → decide (b ≤ c) = true → decide (a ≤ c) = true := fun a b c h1 h2 => by simp only [decide_eq_true_eq] at *; omega
  have to : ∀ a b : Int, (decide (a ≤ b) || decide (b ≤ a)) = true := fun a b => by simp only [Bool.or_eq_true, decide_eq_true_eq]; omega
  have h1 := List.pairwise_mergeSort tr to l
  have hp := List.mergeSort_perm l (fun x y => decide (x ≤ y))
  refine asc_eq _ _ ?_ ha fun x => (hp.mem_iff).trans (h x)
  have hn' : (l.mergeSort (fun x y => decide (x ≤ y))).Nodup := (hp.nodup_iff).2 hn
  exact List.Pairwise.imp₂ (fun x y h1 h2 => by simp only [decide_eq_true_eq] at h1; omega) h1 hn'
end Go.Proofs.Ytinpcimogojefaa
