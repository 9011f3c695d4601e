/- The document's sets (chapter 3): none, set, Of, List, With, All, Sub, Subsets: what they compute. -/
import Derived.Test.YtdiciemlbhkilaaDoorE
import Derived.Test.YtdiciemlbhkilaaDoorM
import Derived.Test.YtdiciemlbhkilaaDoorCxS
import Derived.Test.YtdiciemlbhkilaaDoorCxV
namespace Go.Proofs.YtdiciemlbhkilaaDoor
open Go Go.Cx Go.RowKit
set_option linter.unusedVariables false
set_option linter.unusedSimpArgs false
set_option maxHeartbeats 4000000
attribute [local irreducible] J JC thenK blockK loopK roundK drawK retK QW Qt pel List.set Calls

def encBo (b : Bool) : List Value := [.bool b]
theorem hasB_rng {s : Nat × Nat} {u : Int} (h : hasB s u = true) : 1 ≤ u ∧ u ≤ 128 := by
  unfold hasB at h
  split at h
  · omega
  · split at h
    · omega
    · cases h
theorem set_ext {a b : Nat × Nat} (ha : okS a) (hb : okS b) (h : ∀ u : Int, 1 ≤ u → u ≤ 128 → hasB a u = hasB b u) : a = b := by
  obtain ⟨a1, a2⟩ := a
  obtain ⟨b1, b2⟩ := b
  have big : ∀ (x : Nat) (i : Nat), x < 2 ^ 64 → 64 ≤ i → x.testBit i = false := fun x i hx hi => Nat.testBit_lt_two_pow (Nat.lt_of_lt_of_le hx (Nat.pow_le_pow_right (by omega) hi))
  congr 1
  · apply Nat.eq_of_testBit_eq
    intro i
    by_cases hi : i < 64
    · have := h ((i : Int) + 1) (by omega) (by omega)
      unfold hasB at this
      rw [if_pos (by omega), if_pos (by omega)] at this
      have e : ((i : Int) + 1 - 1).toNat = i := by omega
      rw [e] at this
      exact this
    · rw [big a1 i ha.1 (by omega), big b1 i hb.1 (by omega)]
  · apply Nat.eq_of_testBit_eq
    intro i
    by_cases hi : i < 64
    · have := h ((i : Int) + 65) (by omega) (by omega)
      unfold hasB at this
      rw [if_neg (by omega), if_pos (by omega), if_neg (by omega), if_pos (by omega)] at this
      have e : ((i : Int) + 65 - 65).toNat = i := by omega
      rw [e] at this
      exact this
    · rw [big a2 i ha.2 (by omega), big b2 i hb.2 (by omega)]

def setL : List Bool → Int → Nat × Nat → Nat × Nat
  | [], _, s => s
  | b :: bs, v, s => setL bs (v + 1) (if b then withS s v else s)
def setP (l : List Bool) : Nat × Nat := setL (l.drop 1) 1 (0, 0)
theorem setL_ok : ∀ (l : List Bool) (v : Int) (s : Nat × Nat), okS s → okS (setL l v s)
  | [], _, s, h => h
  | b :: bs, v, s, h => by
    rw [setL]
    refine setL_ok bs (v + 1) _ ?_
    split
    · exact ok_with h v
    · exact h
theorem setP_ok (l : List Bool) : okS (setP l) := setL_ok _ _ _ ⟨by decide, by decide⟩
theorem setL_has : ∀ (l : List Bool) (v : Int) (s : Nat × Nat) (u : Int), 1 ≤ v → v + l.length ≤ 129 → (hasB (setL l v s) u = true ↔ hasB s u = true ∨ (v ≤ u ∧ u < v + l.length ∧ l.getD (u - v).toNat false = true))
  | [], v, s, u, h0, h1 => by
    rw [setL]
    constructor
    · exact fun h => .inl h
    · rintro (h | ⟨_, h, _⟩)
      · exact h
      · simp at h; omega
  | b :: bs, v, s, u, h0, h1 => by
    rw [List.length_cons] at h1
    rw [setL, setL_has bs (v + 1) _ u (by omega) (by omega)]
    have hg : ∀ w : Int, v + 1 ≤ w → (b :: bs).getD (w - v).toNat false = bs.getD (w - (v + 1)).toNat false := fun w hw => by
      have : (w - v).toNat = (w - (v + 1)).toNat + 1 := by omega
      rw [this]; rfl
    have hw := has_with s v u ⟨h0, by omega⟩
    rw [List.length_cons]
    constructor
    · rintro (h | ⟨h2, h3, h4⟩)
      · cases b with
        | true =>
          rcases hw.1 h with h | rfl
          · exact .inl h
          · exact .inr ⟨Int.le_refl _, by omega, by rw [Int.sub_self]; rfl⟩
        | false => exact .inl h
      · exact .inr ⟨by omega, by omega, by rw [hg u (by omega)]; exact h4⟩
    · rintro (h | ⟨h2, h3, h4⟩)
      · left
        cases b with
        | true => exact hw.2 (.inl h)
        | false => exact h
      · by_cases hu : u = v
        · subst hu
          rw [Int.sub_self] at h4
          have hb : b = true := h4
          subst hb
          exact .inl (hw.2 (.inr rfl))
        · rw [hg u (by omega)] at h4
          exact .inr ⟨by omega, by omega, h4⟩
theorem setP_has (l : List Bool) (hl : l.length = 129) (u : Int) : hasB (setP l) u = true ↔ 1 ≤ u ∧ u ≤ 128 ∧ l.getD u.toNat false = true := by
  unfold setP
  have hdl : (l.drop 1).length = 128 := by rw [List.length_drop, hl]
  rw [setL_has _ _ _ _ (by omega) (by rw [hdl]; omega), hdl]
  have h0 : hasB (0, 0) u = false := by unfold hasB; simp
  rw [h0]
  constructor
  · rintro (h | ⟨h1, h2, h3⟩)
    · cases h
    · refine ⟨h1, by omega, ?_⟩
      rw [List.getD_eq_getElem?_getD, List.getElem?_drop] at h3
      rw [List.getD_eq_getElem?_getD]
      have : 1 + (u - 1).toNat = u.toNat := by omega
      rw [this] at h3
      exact h3
  · rintro ⟨h1, h2, h3⟩
    refine .inr ⟨h1, by omega, ?_⟩
    rw [List.getD_eq_getElem?_getD, List.getElem?_drop]
    rw [List.getD_eq_getElem?_getD] at h3
    have : 1 + (u - 1).toNat = u.toNat := by omega
    rw [this]
    exact h3

end Go.Proofs.YtdiciemlbhkilaaDoor

/- The document's sets (chapter 3), further: List, Of, With, All, Sub, Subsets. -/
namespace Go.Proofs.YtdiciemlbhkilaaDoor
open Go Go.Cx Go.RowKit
set_option linter.unusedVariables false
set_option linter.unusedSimpArgs false
set_option maxHeartbeats 4000000
attribute [local irreducible] J JC thenK blockK loopK roundK drawK retK QW Qt pel List.set Calls

/-- the variables of a set up to a number -/
def upTo (s : Nat × Nat) : Nat → List Int
  | 0 => []
  | k + 1 => upTo s k ++ (if hasB s ((k : Int) + 1) then [(k : Int) + 1] else [])
theorem upTo_len (s : Nat × Nat) : ∀ k, (upTo s k).length ≤ k
  | 0 => Nat.le_refl _
  | k + 1 => by
    have := upTo_len s k
    rw [upTo, List.length_append]
    split <;> simp <;> omega
theorem upTo_mem (s : Nat × Nat) : ∀ (k : Nat) (u : Int), u ∈ upTo s k ↔ (1 ≤ u ∧ u ≤ k ∧ hasB s u = true)
  | 0, u => by simp [upTo]; omega
  | k + 1, u => by
    rw [upTo, List.mem_append, upTo_mem s k u]
    by_cases h : hasB s ((k : Int) + 1) = true
    · rw [if_pos h, List.mem_singleton]
      constructor
      · rintro (⟨a, b, c⟩ | rfl)
        · exact ⟨a, by omega, c⟩
        · exact ⟨by omega, by omega, h⟩
      · rintro ⟨a, b, c⟩
        by_cases hu : u = k + 1
        · exact .inr hu
        · exact .inl ⟨a, by omega, c⟩
    · rw [if_neg h]
      constructor
      · rintro (⟨a, b, c⟩ | h')
        · exact ⟨a, by omega, c⟩
        · cases h'
      · rintro ⟨a, b, c⟩
        refine .inl ⟨a, ?_, c⟩
        by_cases hu : u = k + 1
        · subst hu; exact absurd c h
        · omega
theorem upTo_succ (s : Nat × Nat) (k : Nat) : upTo s (k + 1) = upTo s k ++ (if hasB s ((k : Int) + 1) then [(k : Int) + 1] else []) := rfl
theorem upTo_zero (s : Nat × Nat) : upTo s 0 = [] := rfl
attribute [local irreducible] upTo
/-- the numbers of a list, noted in a row of truths -/
def mark : List Int → List Bool → List Bool
  | [], x => x
  | v :: l, x => mark l (if 1 ≤ v ∧ v ≤ 128 then x.set v.toNat true else x)
theorem mark_len : ∀ (l : List Int) (x : List Bool), (mark l x).length = x.length
  | [], _ => rfl
  | v :: l, x => by rw [mark, mark_len l]; split <;> simp
theorem mark_get : ∀ (l : List Int) (x : List Bool) (u : Int), x.length = 129 → 1 ≤ u → u ≤ 128 → ((mark l x).getD u.toNat false = true ↔ x.getD u.toNat false = true ∨ u ∈ l)
  | [], x, u, _, _, _ => by simp [mark]
  | v :: l, x, u, hx, h1, h2 => by
    rw [mark]
    by_cases hv : 1 ≤ v ∧ v ≤ 128
    · rw [if_pos hv, mark_get l _ u (by rw [List.length_set]; exact hx) h1 h2]
      have hg : (x.set v.toNat true).getD u.toNat false = if v.toNat = u.toNat then true else x.getD u.toNat false := by
        rw [List.getD_eq_getElem?_getD, List.getElem?_set, List.getD_eq_getElem?_getD]
        by_cases he : v.toNat = u.toNat
        · rw [if_pos he, if_pos (by omega), if_pos he]; rfl
        · rw [if_neg he, if_neg he]
      rw [hg]
      by_cases he : v = u
      · subst he; rw [if_pos rfl]; simp
      · rw [if_neg (by omega), List.mem_cons]
        constructor
        · rintro (h | h)
          · exact .inl h
          · exact .inr (.inr h)
        · rintro (h | h | h)
          · exact .inl h
          · exact absurd h.symm he
          · exact .inr h
    · rw [if_neg hv, mark_get l x u hx h1 h2, List.mem_cons]
      constructor
      · rintro (h | h)
        · exact .inl h
        · exact .inr (.inr h)
      · rintro (h | h | h)
        · exact .inl h
        · omega
        · exact .inr h
def ofP (l : List Int) : Nat × Nat := setP (mark l (List.replicate 129 false))
theorem ofP_ok (l : List Int) : okS (ofP l) := setP_ok _
theorem ofP_has (l : List Int) (u : Int) : hasB (ofP l) u = true ↔ 1 ≤ u ∧ u ≤ 128 ∧ u ∈ l := by
  unfold ofP
  rw [setP_has _ (by rw [mark_len]; simp)]
  constructor
  · rintro ⟨h1, h2, h3⟩
    rcases (mark_get l _ u (by simp) h1 h2).1 h3 with h | h
    · rw [List.getD_eq_getElem?_getD, List.getElem?_replicate] at h
      split at h <;> cases h
    · exact ⟨h1, h2, h⟩
  · rintro ⟨h1, h2, h3⟩
    exact ⟨h1, h2, (mark_get l _ u (by simp) h1 h2).2 (.inr h3)⟩
theorem with_ofP (s : Nat × Nat) (hok : okS s) (v : Int) (hv : 1 ≤ v ∧ v ≤ 128) : ofP (upTo s 128 ++ [v]) = withS s v := by
  refine set_ext (ofP_ok _) (ok_with hok v) (fun u h1 h2 => ?_)
  have a := ofP_has (upTo s 128 ++ [v]) u
  have b := has_with s v u hv
  rw [List.mem_append, upTo_mem, List.mem_singleton] at a
  cases h3 : hasB (ofP (upTo s 128 ++ [v])) u <;> cases h4 : hasB (withS s v) u <;> first | rfl | (exfalso; simp_all)
end Go.Proofs.YtdiciemlbhkilaaDoor

/- The document's sets (chapter 3), further: All, Sub, Subsets. -/
namespace Go.Proofs.YtdiciemlbhkilaaDoor
open Go Go.Cx Go.RowKit
set_option linter.unusedVariables false
set_option linter.unusedSimpArgs false
set_option maxHeartbeats 4000000
attribute [local irreducible] J JC thenK blockK loopK roundK drawK retK QW Qt pel List.set Calls

def ints : Nat → List Int
  | 0 => []
  | k + 1 => ints k ++ [(k : Int) + 1]
theorem ints_mem : ∀ (k : Nat) (u : Int), u ∈ ints k ↔ 1 ≤ u ∧ u ≤ k
  | 0, u => by simp [ints]; omega
  | k + 1, u => by
    rw [ints, List.mem_append, ints_mem k u, List.mem_singleton]
    constructor
    · rintro (h | h) <;> omega
    · intro h; by_cases hu : u = k + 1
      · exact .inr hu
      · exact .inl ⟨h.1, by omega⟩
theorem mark_snoc : ∀ (l : List Int) (v : Int) (x : List Bool), mark (l ++ [v]) x = if 1 ≤ v ∧ v ≤ 128 then (mark l x).set v.toNat true else mark l x
  | [], v, x => by rw [List.nil_append, mark, mark, mark]
  | u :: l, v, x => by rw [List.cons_append, mark, mark_snoc l, mark]
def allP (n : Int) : Nat × Nat := ofP (ints (if n < 128 then n.toNat else 128))
theorem allP_has (n u : Int) : hasB (allP n) u = true ↔ 1 ≤ u ∧ u ≤ 128 ∧ u ≤ n := by
  unfold allP
  rw [ofP_has, ints_mem]
  split <;> omega
theorem ints_succ (k : Nat) : ints (k + 1) = ints k ++ [(k : Int) + 1] := rfl
attribute [local irreducible] ints mark
def subL (a b : Nat × Nat) : Nat → Int → Bool
  | 0, _ => true
  | m + 1, v => (!(hasB a v) || hasB b v) && subL a b m (v + 1)
theorem subL_iff (a b : Nat × Nat) : ∀ (m : Nat) (v : Int), subL a b m v = true ↔ ∀ u, v ≤ u → u < v + m → hasB a u = true → hasB b u = true
  | 0, v => by simp [subL]; intro u h1 h2; omega
  | m + 1, v => by
    rw [subL, Bool.and_eq_true, subL_iff a b m (v + 1)]
    constructor
    · rintro ⟨h1, h2⟩ u h3 h4 h5
      by_cases hu : u = v
      · subst hu; simpa [h5] using h1
      · exact h2 u (by omega) (by omega) h5
    · intro h
      refine ⟨?_, fun u h1 h2 => h u (by omega) (by omega)⟩
      cases ha : hasB a v with
      | false => rfl
      | true => rw [h v (Int.le_refl _) (by omega) ha]; rfl
def subB (a b : Nat × Nat) : Bool := subL a b 128 1
theorem subB_iff (a b : Nat × Nat) : subB a b = true ↔ ∀ u, hasB a u = true → hasB b u = true := by
  unfold subB
  rw [subL_iff]
  constructor
  · intro h u hu
    have := hasB_rng hu
    exact h u (by omega) (by omega) hu
  · exact fun h u _ _ => h u
attribute [local irreducible] subL
/-- the subsets of the first v variables, added to those of a list -/
def subs : Nat → List (Nat × Nat) → List (Nat × Nat)
  | 0, l => l
  | v + 1, l => subs v (l ++ l.map fun s => withS s ((v : Int) + 1))
def subsP (n : Nat) : List (Nat × Nat) := subs n [(0, 0)]
theorem subs_len : ∀ (v : Nat) (l : List (Nat × Nat)), (subs v l).length = l.length * 2 ^ v
  | 0, l => by simp [subs]
  | v + 1, l => by rw [subs, subs_len v, List.length_append, List.length_map, Nat.pow_succ]; rw [← Nat.two_mul, Nat.mul_comm 2, Nat.mul_assoc, Nat.mul_comm 2]
theorem subs_all (q : Nat × Nat → Prop) : ∀ (v : Nat) (l : List (Nat × Nat)), (∀ s, s ∈ l → q s) → (∀ s (u : Nat), q s → u < v → q (withS s ((u : Int) + 1))) → ∀ s, s ∈ subs v l → q s
  | 0, l, h, _ => h
  | v + 1, l, h, hw => by
    refine subs_all q v _ (fun s hs => ?_) (fun s u h1 h2 => hw s u h1 (by omega))
    rcases List.mem_append.1 hs with hs | hs
    · exact h s hs
    · obtain ⟨t, ht, rfl⟩ := List.mem_map.1 hs
      exact hw t v (h t ht) (by omega)
theorem subsP_ok (n : Nat) (hn : n ≤ 128) : ∀ s, s ∈ subsP n → okS s ∧ ∀ u, hasB s u = true → u ≤ n := by
  refine subs_all (fun s => okS s ∧ ∀ u, hasB s u = true → u ≤ n) n _ (fun s hs => ?_) (fun s u h1 h2 => ⟨ok_with h1.1 _, fun x hx => ?_⟩)
  · obtain rfl := List.mem_singleton.1 hs
    exact ⟨⟨by decide, by decide⟩, fun u hu => by unfold hasB at hu; simp at hu⟩
  · rcases (has_with s _ x (by omega)).1 hx with h | h
    · exact h1.2 x h
    · omega
end Go.Proofs.YtdiciemlbhkilaaDoor

/- The document's Subsets (chapter 3). -/
namespace Go.Proofs.YtdiciemlbhkilaaDoor
open Go Go.Cx Go.RowKit
set_option linter.unusedVariables false
set_option linter.unusedSimpArgs false
set_option maxHeartbeats 4000000
attribute [local irreducible] J JC thenK blockK loopK roundK drawK retK QW Qt pel List.set Calls

theorem subs_step (v : Nat) (l : List (Nat × Nat)) : subs (v + 1) l = subs v (l ++ l.map fun s => withS s ((v : Int) + 1)) := rfl
attribute [local irreducible] subs
end Go.Proofs.YtdiciemlbhkilaaDoor
