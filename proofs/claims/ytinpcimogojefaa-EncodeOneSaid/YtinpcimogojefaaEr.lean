/- Encode, plain. -/
import Derived.Test.YtinpcimogojefaaEn
import Derived.Test.YtinpcimogojefaaEb
namespace Go.Proofs.Ytinpcimogojefaa
open Go Go.Cx Go.RowKit
set_option linter.unusedVariables false
set_option linter.unusedSimpArgs false
set_option maxHeartbeats 4000000
attribute [local irreducible] J JC thenK blockK loopK roundK drawK retK QW Qt pel List.set Calls
theorem ofS_pair (cs ls : List Int) (x : Int) (hx : x ≠ 0) : max (ofS cs ls x) (-(ofS cs ls x)) + max (ofS cs ls (-x)) (-(ofS cs ls (-x))) ≤ absS cs := by
  induction cs generalizing ls with
  | nil => simp [ofS, absS]
  | cons c cs ih =>
    cases ls with
    | nil => simp only [ofS, absS]; have := absS_nn cs; omega
    | cons l ls =>
      have := ih ls
      simp only [ofS, absS]
      by_cases h1 : l = x
      · rw [if_pos h1, if_neg (by omega)]; omega
      · rw [if_neg h1]; split <;> omega
theorem foldN_ok (cs ls : List Int) (least : Int) (h0 : pairF cs ls 0 = (0, 0)) (hb : absS cs ≤ 1000000000) : ∀ k : Nat, (∀ c, c ∈ (foldN (pairF cs ls) least k).cs → 0 < c ∧ c ≤ 1000000000) ∧ (∀ l, l ∈ (foldN (pairF cs ls) least k).ls → -((k : Int) - 1) ≤ l ∧ l ≤ (k : Int) - 1 ∧ l ≠ 0)
  | 0 => ⟨by simp [foldN], by simp [foldN]⟩
  | k + 1 => by
    obtain ⟨h1, h2⟩ := foldN_ok cs ls least h0 hb k
    show (∀ c, c ∈ (stepN (pairF cs ls) (foldN (pairF cs ls) least k) k).cs → 0 < c ∧ c ≤ 1000000000) ∧ (∀ l, l ∈ (stepN (pairF cs ls) (foldN (pairF cs ls) least k) k).ls → -(((k + 1 : Nat) : Int) - 1) ≤ l ∧ l ≤ ((k + 1 : Nat) : Int) - 1 ∧ l ≠ 0)
    rcases Nat.eq_zero_or_pos k with rfl | hk
    · rw [show ((0 : Nat) : Int) = 0 from rfl, stepN_zero _ _ _ h0]
      exact ⟨fun c hc => h1 c hc, fun l hl => by have := h2 l hl; omega⟩
    have hp := ofS_pair cs ls (k : Int) (by omega)
    unfold stepN
    have e : pairF cs ls (k : Int) = (ofS cs ls k, ofS cs ls (-k)) := rfl
    rw [e]
    dsimp only
    constructor
    · intro c hc
      rcases List.mem_append.1 hc with hc | hc
      · exact h1 c hc
      · split at hc
        · rw [List.mem_singleton.1 hc]; omega
        · split at hc
          · rw [List.mem_singleton.1 hc]; omega
          · cases hc
    · intro l hl
      rcases List.mem_append.1 hl with hl | hl
      · have := h2 l hl; omega
      · split at hl
        · rw [List.mem_singleton.1 hl]; omega
        · split at hl
          · rw [List.mem_singleton.1 hl]; omega
          · cases hl
/-- what is known of a normal form -/
structure NOK (cs ls : List Int) (least : Int) : Prop where
  len : cs.length = ls.length
  l129 : cs.length ≤ 129
  c : ∀ c, c ∈ cs → 0 ≤ c ∧ c ≤ 1000000000
  l : ∀ l, l ∈ ls → -128 ≤ l ∧ l ≤ 128 ∧ l ≠ 0
  le : least ≤ 900000000000
theorem norm_ok {cs ls : List Int} {least n : Int} (h : checkS cs ls least n = 0) : NOK (normS cs ls least).1 (normS cs ls least).2.1 (normS cs ls least).2.2 := by
  obtain ⟨hn, hlen, h64, hlit, habs, hl1, hl2⟩ := check_ok h
  have hP0 : pairF cs ls 0 = (0, 0) := by
    unfold pairF
    rw [ofS_zero cs ls 0 (fun l hm e => by have := hlit l hm; omega)]
    rw [show (-0 : Int) = 0 from rfl, ofS_zero cs ls 0 (fun l hm e => by have := hlit l hm; omega)]
  have hPB : ∀ v, -1000000000 ≤ (pairF cs ls v).1 ∧ (pairF cs ls v).1 ≤ 1000000000 ∧ -1000000000 ≤ (pairF cs ls v).2 ∧ (pairF cs ls v).2 ≤ 1000000000 := fun v => by
    have h1 := ofS_bound cs ls v
    have h2 := ofS_bound cs ls (-v)
    simp only [pairF]
    omega
  have hf := foldN_ok cs ls least hP0 habs 129
  have hb := foldN_bound (pairF cs ls) least 1000000000 hPB 129
  have hl := foldN_len (pairF cs ls) least 129
  unfold normS
  generalize foldN (pairF cs ls) least 129 = S at *
  dsimp only
  by_cases h1 : S.least ≤ 0
  · rw [if_pos h1]; exact ⟨rfl, by simp, by simp, by simp, by simp⟩
  · rw [if_neg h1]
    by_cases h2 : S.total < S.least
    · rw [if_pos h2]; exact ⟨rfl, by simp, by simp, by simp, by simp⟩
    · rw [if_neg h2]
      refine ⟨by simpa using hl.1, by simpa using hl.2, fun c hc => ?_, fun l hl => by have := hf.2 l hl; omega, by dsimp only; omega⟩
      obtain ⟨d, hd, rfl⟩ := List.mem_map.1 hc
      have := hf.1 d hd
      omega
/-- a sum: coefficients, literals, least -/
abbrev PS := List Int × List Int × Int
def nfP (s : PS) : PS := normS s.1 s.2.1 s.2.2
def rowsP (s : PS) : List (List Int) := rowsF s.2.2 s.1 [0]
def oneP (T : List (List Int)) (s : PS) (d : Int) : List (List Int) := oneF T s.1 s.2.1 s.2.2 (rowsP s) d
def runE : List PS → Int → List (List Int) → Option (Int × List (List Int))
  | [], N, T => some (N, T)
  | s :: l, N, T => if 128 < N + totF (rowsP (nfP s)) then none else if 4096 < (oneP T (nfP s) (N + 1)).length then none else runE l (N + totF (rowsP (nfP s))) (oneP T (nfP s) (N + 1))
def badE (n : Int) : List PS → Int
  | [] => 0
  | s :: l => if checkS s.1 s.2.1 s.2.2 n = 0 then badE n l else checkS s.1 s.2.1 s.2.2 n
def finE : Option (Int × List (List Int)) → Int × Int × List (List Int)
  | none => (2, 0, [])
  | some r => (0, r.1, r.2)
/-- the error, the variables, the clauses -/
def encR (n : Int) (l : List PS) : Int × Int × List (List Int) :=
  if n < 0 ∨ 128 < n then (6, 0, []) else if 4096 < l.length then (2, 0, []) else if badE n l ≠ 0 then (badE n l, 0, []) else finE (runE l n [])
def psV (s : SV) : PS := (s.cs, s.ls, s.least)
theorem badE_mem {n : Int} : ∀ {l : List PS}, badE n l = 0 → ∀ s, s ∈ l → checkS s.1 s.2.1 s.2.2 n = 0
  | [], _, s, hs => by cases hs
  | x :: l, h, s, hs => by
    unfold badE at h
    by_cases hx : checkS x.1 x.2.1 x.2.2 n = 0
    · rw [if_pos hx] at h
      rcases List.mem_cons.1 hs with rfl | hs
      · exact hx
      · exact badE_mem h s hs
    · rw [if_neg hx] at h; exact absurd h hx
theorem rowF_le (least v c : Int) (nx : Int → Option Int) : ∀ (row : List Int) (d : Int) (T : List (List Int)), (rowF least v c nx row d T).length ≤ T.length + 4 * row.length
  | [], _, T => by simp [rowF]
  | p :: row, d, T => by
    have h1 := rowF_le least v c nx row (d + 1) (stepP T v d (becF least nx (p + c)) (becF least nx p))
    have h2 := stepP_le v d (becF least nx (p + c)) (becF least nx p) (Nat.le_refl T.length)
    simp only [rowF, List.length_cons]
    omega
theorem sumsF_le (least : Int) : ∀ (cs ls : List Int) (rows : List (List Int)) (d : Int) (T : List (List Int)), (sumsF least cs ls rows d T).length ≤ T.length + 4 * totF rows
  | [], _, _, _, T => by simp [sumsF]
  | _ :: _, [], _, _, T => by simp [sumsF]
  | _ :: _, _ :: _, [], _, T => by simp [sumsF]
  | c :: cs, l :: ls, r :: rows, d, T => by
    have h1 := sumsF_le least cs ls rows (d + r.length) (rowF least l c (nxF rows (d + r.length)) r d T)
    have h2 := rowF_le least l c (nxF rows (d + r.length)) r d T
    simp only [sumsF, totF_cons]
    omega
theorem oneF_le (T : List (List Int)) (cs ls : List Int) (least : Int) (rows : List (List Int)) (d : Int) : (oneF T cs ls least rows d).length ≤ T.length + 1 + 4 * totF rows := by
  unfold oneF
  split
  · split
    · simp only [List.length_append, List.length_cons, List.length_nil]; omega
    · omega
  · have := sumsF_le least cs ls rows d (T ++ [[d]])
    simp at this
    omega
end Go.Proofs.Ytinpcimogojefaa
