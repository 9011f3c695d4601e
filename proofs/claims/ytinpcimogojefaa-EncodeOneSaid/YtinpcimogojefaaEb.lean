/- The normal form of a sum: plain. -/
import Derived.Test.YtinpcimogojefaaEa
namespace Go.Proofs.Ytinpcimogojefaa
open Go Go.Cx Go.RowKit
set_option linter.unusedVariables false
set_option linter.unusedSimpArgs false
set_option maxHeartbeats 4000000
attribute [local irreducible] J JC thenK blockK loopK roundK drawK retK QW Qt pel List.set Calls
/-- the sum of the coefficients of a literal -/
def ofS : List Int → List Int → Int → Int
  | c :: cs, l :: ls, x => (if l = x then c else 0) + ofS cs ls x
  | _, _, _ => 0
def pairF (cs ls : List Int) (v : Int) : Int × Int := (ofS cs ls v, ofS cs ls (-v))
structure NS where
  least : Int
  total : Int
  cs : List Int
  ls : List Int
def stepN (P : Int → Int × Int) (s : NS) (v : Int) : NS :=
  ⟨s.least - min (P v).1 (P v).2, s.total + ((P v).1 + (P v).2 - 2 * min (P v).1 (P v).2), s.cs ++ (if (P v).2 < (P v).1 then [(P v).1 - (P v).2] else if (P v).1 < (P v).2 then [(P v).2 - (P v).1] else []), s.ls ++ (if (P v).2 < (P v).1 then [v] else if (P v).1 < (P v).2 then [-v] else [])⟩
def foldN (P : Int → Int × Int) (least : Int) : Nat → NS
  | 0 => ⟨least, 0, [], []⟩
  | k + 1 => stepN P (foldN P least k) (k : Int)
/-- the normal form: coefficients, literals, least -/
def normS (cs ls : List Int) (least : Int) : List Int × List Int × Int :=
  let s := foldN (pairF cs ls) least 129
  if s.least ≤ 0 then ([], [], 0) else if s.total < s.least then ([], [], 1) else (s.cs.map (fun c => min c s.least), s.ls, s.least)

theorem ofS_app (cs ls : List Int) (c l x : Int) (h : cs.length = ls.length) : ofS (cs ++ [c]) (ls ++ [l]) x = ofS cs ls x + if l = x then c else 0 := by
  induction cs generalizing ls with
  | nil =>
    cases ls with
    | nil => simp [ofS]
    | cons y ls => simp at h
  | cons d cs ih =>
    cases ls with
    | nil => simp at h
    | cons y ls =>
      simp only [List.cons_append, ofS]
      rw [ih ls (by simpa using h)]
      omega
theorem ofS_bound (cs ls : List Int) (x : Int) : -(absS cs) ≤ ofS cs ls x ∧ ofS cs ls x ≤ absS cs := by
  induction cs generalizing ls with
  | nil => simp [ofS, absS]
  | cons c cs ih =>
    cases ls with
    | nil => simp only [ofS, absS]; have := absS_nn cs; omega
    | cons l ls =>
      simp only [ofS, absS]
      have := ih ls
      split <;> omega
theorem ofS_zero (cs ls : List Int) (x : Int) (h : ∀ l, l ∈ ls → l ≠ x) : ofS cs ls x = 0 := by
  induction cs generalizing ls with
  | nil => simp [ofS]
  | cons c cs ih =>
    cases ls with
    | nil => simp [ofS]
    | cons l ls =>
      simp only [ofS]
      rw [if_neg (h l List.mem_cons_self), ih ls (fun l hl => h l (List.mem_cons_of_mem _ hl))]
      rfl
theorem ofS_take (cs ls : List Int) (k : Nat) (x : Int) (h : cs.length = ls.length) (hk : k < ls.length) : ofS (cs.take (k + 1)) (ls.take (k + 1)) x = ofS (cs.take k) (ls.take k) x + if ls.getD k default = x then cs.getD k default else 0 := by
  rw [← take_one cs k (by omega), ← take_one ls k hk, ofS_app _ _ _ _ _ (by simp only [List.length_take]; omega)]
theorem stepN_zero (P : Int → Int × Int) (s : NS) (v : Int) (h : P v = (0, 0)) : stepN P s v = s := by
  unfold stepN
  rw [h]
  simp
theorem foldN_more (P : Int → Int × Int) (least : Int) (n : Nat) (h : ∀ v : Nat, n ≤ v → P v = (0, 0)) : ∀ k, foldN P least (n + k) = foldN P least n
  | 0 => rfl
  | k + 1 => by
    show stepN P (foldN P least (n + k)) ((n + k : Nat) : Int) = _
    rw [stepN_zero P _ _ (h _ (by omega)), foldN_more P least n h k]
theorem foldN_bound (P : Int → Int × Int) (least B : Int) (hB : ∀ v, -B ≤ (P v).1 ∧ (P v).1 ≤ B ∧ -B ≤ (P v).2 ∧ (P v).2 ≤ B) : ∀ k : Nat, least - B * k ≤ (foldN P least k).least ∧ (foldN P least k).least ≤ least + B * k ∧ 0 ≤ (foldN P least k).total ∧ (foldN P least k).total ≤ 2 * B * k
  | 0 => by simp [foldN]
  | k + 1 => by
    have ih := foldN_bound P least B hB k
    have hv := hB k
    simp only [foldN, stepN]
    have e1 : B * ((k + 1 : Nat) : Int) = B * k + B := by rw [Int.natCast_add, Int.mul_add]; simp
    have e2 : 2 * B * ((k + 1 : Nat) : Int) = 2 * B * k + 2 * B := by rw [Int.natCast_add, Int.mul_add]; simp
    rw [e1, e2]
    refine ⟨?_, ?_, ?_, ?_⟩ <;> omega
theorem foldN_len (P : Int → Int × Int) (least : Int) : ∀ k : Nat, (foldN P least k).cs.length = (foldN P least k).ls.length ∧ (foldN P least k).cs.length ≤ k
  | 0 => by simp [foldN]
  | k + 1 => by
    have ih := foldN_len P least k
    simp only [foldN, stepN, List.length_append]
    split
    · simp only [List.length_cons, List.length_nil]; omega
    · split
      · simp only [List.length_cons, List.length_nil]; omega
      · simp only [List.length_nil]; omega
/-- the pairs of the first 129 variables -/
def pairL (cs ls : List Int) : List (Int × Int) := (List.range 129).map fun (v : Nat) => pairF cs ls v
theorem pairL_len (cs ls : List Int) : (pairL cs ls).length = 129 := by simp [pairL]
theorem pairL_at (cs ls : List Int) (v : Nat) (h : v < 129) : (pairL cs ls).getD v default = pairF cs ls v := by
  simp [pairL, List.getD_eq_getElem?_getD, h]
theorem pairL_nil : pairL [] [] = List.replicate 129 (0, 0) := by
  apply List.ext_getElem?
  intro i
  simp only [pairL, List.getElem?_map, List.getElem?_replicate, pairF, ofS, List.getElem?_range']
  rcases Nat.lt_or_ge i 129 with h | h
  · rw [List.getElem?_eq_getElem (by simpa using h), if_pos h]; simp
  · rw [List.getElem?_eq_none (by simpa using h), if_neg (by omega)]; rfl
/-- a further term -/
theorem pairL_pos (cs ls : List Int) (k : Nat) (h : cs.length = ls.length) (hk : k < ls.length) (hl : 0 < ls.getD k default ∧ ls.getD k default ≤ 128) :
    (pairL (cs.take k) (ls.take k)).set (ls.getD k default).toNat ((pairF (cs.take k) (ls.take k) (ls.getD k default)).1 + cs.getD k default, (pairF (cs.take k) (ls.take k) (ls.getD k default)).2) = pairL (cs.take (k + 1)) (ls.take (k + 1)) := by
  apply List.ext_getElem?
  intro i
  rw [List.getElem?_set]
  simp only [pairL, List.getElem?_map, List.length_map, List.length_range]
  by_cases hi : (ls.getD k default).toNat = i
  · rw [if_pos hi, if_pos (by omega), List.getElem?_eq_getElem (by simp; omega)]
    have e : ((i : Nat) : Int) = ls.getD k default := by omega
    simp only [List.getElem_range, Option.map_some, pairF, e]
    rw [ofS_take _ _ _ _ h hk, ofS_take _ _ _ _ h hk, if_pos rfl, if_neg (by omega), Int.add_zero]
  · rw [if_neg hi]
    rcases Nat.lt_or_ge i 129 with h9 | h9
    · rw [List.getElem?_eq_getElem (by simpa using h9)]
      simp only [List.getElem_range, Option.map_some, pairF]
      rw [ofS_take _ _ _ _ h hk, ofS_take _ _ _ _ h hk, if_neg (by omega), if_neg (by omega), Int.add_zero, Int.add_zero]
    · rw [List.getElem?_eq_none (by simpa using h9)]; rfl
theorem pairL_neg (cs ls : List Int) (k : Nat) (h : cs.length = ls.length) (hk : k < ls.length) (hl : -128 ≤ ls.getD k default ∧ ls.getD k default < 0) :
    (pairL (cs.take k) (ls.take k)).set (-ls.getD k default).toNat ((pairF (cs.take k) (ls.take k) (-ls.getD k default)).1, (pairF (cs.take k) (ls.take k) (-ls.getD k default)).2 + cs.getD k default) = pairL (cs.take (k + 1)) (ls.take (k + 1)) := by
  apply List.ext_getElem?
  intro i
  rw [List.getElem?_set]
  simp only [pairL, List.getElem?_map, List.length_map, List.length_range]
  by_cases hi : (-ls.getD k default).toNat = i
  · rw [if_pos hi, if_pos (by omega), List.getElem?_eq_getElem (by simp; omega)]
    have e : ((i : Nat) : Int) = -ls.getD k default := by omega
    simp only [List.getElem_range, Option.map_some, pairF, e]
    rw [ofS_take _ _ _ _ h hk, ofS_take _ _ _ _ h hk, if_neg (by omega), if_pos (by omega), Int.add_zero]
  · rw [if_neg hi]
    rcases Nat.lt_or_ge i 129 with h9 | h9
    · rw [List.getElem?_eq_getElem (by simpa using h9)]
      simp only [List.getElem_range, Option.map_some, pairF]
      rw [ofS_take _ _ _ _ h hk, ofS_take _ _ _ _ h hk, if_neg (by omega), if_neg (by omega), Int.add_zero, Int.add_zero]
    · rw [List.getElem?_eq_none (by simpa using h9)]; rfl
/-- what a sum that is valid says of its literals -/
theorem check_ok {cs ls : List Int} {least n : Int} (h : checkS cs ls least n = 0) : (0 ≤ n ∧ n ≤ 128) ∧ cs.length = ls.length ∧ cs.length ≤ 64 ∧ (∀ l, l ∈ ls → l ≠ 0 ∧ -n ≤ l ∧ l ≤ n) ∧ absS cs ≤ 1000000000 ∧ -1000000000 ≤ least ∧ least ≤ 1000000000 := by
  unfold checkS at h
  split at h
  · simp at h
  split at h
  · simp at h
  split at h
  · simp at h
  split at h
  · simp at h
  split at h
  · simp at h
  rename_i h1 h2 h3 h4 h5
  refine ⟨by omega, by simpa using h2, by omega, fun l hl => ?_, by omega, by omega, by omega⟩
  have h6 : ls.any (fun l => !validB l n) = false := by simpa using h4
  rw [List.any_eq_false] at h6
  have := h6 l hl
  simp only [validB, Bool.not_eq_true, Bool.not_eq_false', decide_eq_true_eq] at this
  exact this
theorem norm_ref {cs ls : List Int} {least n : Int} (h : checkS cs ls least n = 0) : foldN (pairF cs ls) least 129 = foldN (pairF cs ls) least (n.toNat + 1) := by
  obtain ⟨hn, _, _, hl, _⟩ := check_ok h
  have := foldN_more (pairF cs ls) least (n.toNat + 1) (fun v hv => by
    unfold pairF
    rw [ofS_zero cs ls v (fun l hm e => by have := hl l hm; omega), ofS_zero cs ls (-v) (fun l hm e => by have := hl l hm; omega)]) (128 - n.toNat)
  rw [← this]
  congr 1
  omega
end Go.Proofs.Ytinpcimogojefaa
