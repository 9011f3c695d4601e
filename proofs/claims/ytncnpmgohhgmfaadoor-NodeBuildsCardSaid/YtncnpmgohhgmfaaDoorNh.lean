/- Sort at a slice of the call's own; inputs. -/
import Derived.Test.YtncnpmgohhgmfaaDoorNg
import Derived.Shelf.SortM.Plain
namespace Go.Proofs.YtncnpmgohhgmfaaDoor
open Go Go.Cx Go.RowKit
set_option linter.unusedVariables false
set_option linter.unusedSimpArgs false
set_option maxHeartbeats 4000000
attribute [local irreducible] J JC thenK blockK loopK roundK drawK retK QW Qt pel List.set Calls
attribute [local irreducible] JE Br eK0 eK2 eK3 brK
open Go.Lib
theorem insS_perm : ∀ (l : List Int) (x : Int), (insS l x).Perm (x :: l)
  | [], x => .refl _
  | y :: l, x => by
    unfold insS
    split
    · exact .refl _
    · exact ((insS_perm l x).cons y).trans (.swap _ _ _)
theorem insS_sorted : ∀ (l : List Int) (x : Int), l.Pairwise (· ≤ ·) → (insS l x).Pairwise (· ≤ ·)
  | [], x, _ => by simp [insS]
  | y :: l, x, h => by
    unfold insS
    rw [List.pairwise_cons] at h
    split
    · rename_i hxy
      refine List.pairwise_cons.2 ⟨fun z hz => ?_, List.pairwise_cons.2 h⟩
      rcases List.mem_cons.1 hz with rfl | hz
      · omega
      · have := h.1 z hz; omega
    · rename_i hxy
      refine List.pairwise_cons.2 ⟨fun z hz => ?_, insS_sorted l x h.2⟩
      have := (insS_perm l x).mem_iff.1 hz
      rcases List.mem_cons.1 this with rfl | hz
      · omega
      · exact h.1 z hz
theorem sortS_go : ∀ (l acc : List Int), acc.Pairwise (· ≤ ·) → (l.foldl insS acc).Perm (acc ++ l) ∧ (l.foldl insS acc).Pairwise (· ≤ ·)
  | [], acc, h => ⟨by simp, h⟩
  | x :: l, acc, h => by
    have ih := sortS_go l (insS acc x) (insS_sorted acc x h)
    refine ⟨ih.1.trans ?_, ih.2⟩
    refine ((insS_perm acc x).append_right l).trans ?_
    exact (List.perm_middle).symm
theorem sortS_perm (l : List Int) : (sortS l).Perm l := by simpa [sortS] using (sortS_go l [] List.Pairwise.nil).1
theorem sortS_sorted (l : List Int) : (sortS l).Pairwise (· ≤ ·) := (sortS_go l [] List.Pairwise.nil).2
theorem sort_eq : ∀ (a b : List Int), a.Perm b → a.Pairwise (· ≤ ·) → b.Pairwise (· ≤ ·) → a = b
  | [], b, h, _, _ => (List.Perm.nil_eq h)
  | x :: a, [], h, _, _ => absurd h.length_eq (by simp)
  | x :: a, y :: b, h, h1, h2 => by
    rw [List.pairwise_cons] at h1 h2
    have e : x = y := by
      have hx := h.mem_iff.1 (List.mem_cons_self (a := x) (l := a))
      have hy := h.mem_iff.2 (List.mem_cons_self (a := y) (l := b))
      rcases List.mem_cons.1 hx with hx | hx
      · exact hx
      · rcases List.mem_cons.1 hy with hy | hy
        · exact hy.symm
        · have := h1.1 y hy; have := h2.1 x hx; omega
    subst e
    rw [sort_eq a b (List.Perm.cons_inv h) h1.2 h2.2]
theorem sort_ms (l : List Int) : l.mergeSort (fun x y => decide (x ≤ y)) = sortS l := by
  refine sort_eq _ _ ((List.mergeSort_perm l _).trans (sortS_perm l).symm) ?_ (sortS_sorted l)
  have := List.pairwise_mergeSort (le := fun x y : Int => decide (x ≤ y)) (fun a b c h1 h2 => by simp only [decide_eq_true_eq] at *; omega) (fun a b => by simp only [Bool.or_eq_true, decide_eq_true_eq]; omega) l
  exact this.imp (fun h => by simpa using h)
theorem sortS_len (l : List Int) : (sortS l).length = l.length := (sortS_perm l).length_eq
theorem eSort : Entr Tryd.prog 64 := Entr.of Tryd.func64 rfl rfl
theorem intsFlat (l : List Int) : l.flatMap encI = l.map (Value.int .i64) := by
  induction l with
  | nil => rfl
  | cons x l ih => rw [List.flatMap_cons, ih]; rfl
theorem sort_own {ao : Option Addr} {co : Nat} {l : List Int} {hO : Heap} (oo : OwT encI 1 3 ao co l hO) (hl : l.length ≤ 10000000000000) {w0 w : World} {R : Heap} {L : List Heap} (hw : H w0 R (hO :: L) w) :
    Calls Tryd.prog 64 #[.slice ao l.length co] w fun e w' => ∃ v' L', e = .returned v' ∧ H w0 R L' w' ∧ ∃ hO', v' = .tuple #[] ∧ L' = hO' :: L ∧ OwT encI 1 3 ao co (sortS l) hO' := by
  by_cases h0 : l.length = 0
  · have hn : l = [] := List.eq_nil_of_length_eq_zero h0
    subst hn
    refine (Tryd.slices_Sort_int_none ao co w).mono ?_
    rintro e w' ⟨rfl, rfl⟩
    exact ⟨_, _, rfl, hw, hO, rfl, rfl, oo⟩
  rcases oo.row with ⟨rfl, rfl, rfl, rfl⟩ | ⟨g, cs, rfl, rfl, h1, h2, h3⟩
  · exact absurd rfl h0
  have hb : w.heap[g]? = some (.cells ⟨cs⟩ 3 (0, 0)) := hw.rd Rd.hd
  have hgl : g < w.heap.size := (Array.getElem?_eq_some_iff.1 hb).1
  rw [intsFlat, Nat.mul_one] at h3
  have hcell : ∀ j (hj : j < l.length), cs[j]? = some (.int .i64 l[j]) := fun j hj => by
    have : (cs.take l.length)[j]? = (l.map (Value.int .i64))[j]? := by rw [h3]
    rw [List.getElem?_take_of_lt hj, List.getElem?_map, List.getElem?_eq_getElem hj] at this
    exact this
  have hH : Sort.Holds (Value.int .i64) w g 0 l.toArray := fun j hj => by
    have hj' : j < l.length := by simpa using hj
    constructor
    · simp [World.cell?, hb, hcell j hj', hj']
    · simp [World.frozen?, hb]
  refine (Tryd.slices_Sort_int g 0 co l w hH hgl (by omega)).mono ?_
  rintro e w' ⟨rfl, n, os, rfl⟩
  rw [sort_ms]
  have hsl := sortS_len l
  have hnew : Sort.putCells (Value.int .i64) 0 (sortS l).toArray ⟨cs⟩ = ⟨(sortS l).map (Value.int .i64) ++ cs.drop l.length⟩ := by
    unfold Sort.putCells
    apply Array.ext
    · simp; omega
    · intro i hi1 hi2
      simp only [Array.getElem_mapIdx, Nat.zero_le, true_and, Nat.zero_add, List.size_toArray, Nat.sub_zero]
      by_cases hi : i < (sortS l).length
      · rw [if_pos hi]
        simp [hi]
      · rw [if_neg hi]
        simp only [List.getElem_toArray]
        rw [List.getElem_append_right (by simpa using hi)]
        simp only [List.length_map, List.getElem_drop]
        congr 1
        omega
  refine ⟨_, [(g, .cells ⟨(sortS l).map (Value.int .i64) ++ cs.drop l.length⟩ 3 (0, 0))] :: L, rfl, ?_, _, rfl, rfl, ⟨oo.len, .inr ⟨g, _, rfl, rfl, ?_, by omega, ?_⟩⟩⟩
  · have h5 : H w0 R ([(g, .cells ⟨(sortS l).map (Value.int .i64) ++ cs.drop l.length⟩ 3 (0, 0))] :: L) (Sort.putRow (Value.int .i64) (Sort.ahead w n) g 0 (sortS l).toArray) := by
      refine hw.write (o' := .cells ⟨(sortS l).map (Value.int .i64) ++ cs.drop l.length⟩ 3 (0, 0)) rfl rfl rfl ?_ ?_ ?_
      · simp [Sort.putRow, Sort.mapBlock, Sort.ahead]
      · show (w.heap.modify g _)[g]? = _
        rw [Array.getElem?_modify, if_pos rfl, hb]
        show some (Obj.cells (Sort.putCells _ _ _ _) _ _) = _
        rw [hnew]
      · intro k hk
        show (w.heap.modify g _)[k]? = _
        rw [Array.getElem?_modify, if_neg (Ne.symm hk)]
    exact h5.grow (Lib.below_grow _ _ (Nat.le_refl _) 0 os)
  · simp; omega
  · rw [intsFlat, Nat.mul_one, List.take_left' (by simp)]
end Go.Proofs.YtncnpmgohhgmfaaDoor
