/- The normal form of a normal form: plain. -/
import Derived.Test.YtinpcimogojefaaKf
namespace Go.Proofs.Ytinpcimogojefaa
open Go Go.Cx Go.RowKit
set_option linter.unusedVariables false
set_option linter.unusedSimpArgs false
set_option maxHeartbeats 4000000
attribute [local irreducible] J JC thenK blockK loopK roundK drawK retK QW Qt pel List.set Calls
/-- what a pair leaves in the normal form: the coefficient (0: none) of v, and of -v -/
def posP (L : Int) (pq : Int × Int) : Int := if pq.2 < pq.1 then min (pq.1 - pq.2) L else 0
def negP (L : Int) (pq : Int × Int) : Int := if pq.1 < pq.2 then min (pq.2 - pq.1) L else 0
theorem ofS_append : ∀ (a b c d : List Int) (x : Int), a.length = b.length → ofS (a ++ c) (b ++ d) x = ofS a b x + ofS c d x
  | [], [], c, d, x, _ => by simp [ofS]
  | y :: a, z :: b, c, d, x, h => by
    simp only [List.cons_append, ofS]
    rw [ofS_append a b c d x (by simpa using h)]
    omega
  | [], _ :: _, _, _, _, h => by simp at h
  | _ :: _, [], _, _, _, h => by simp at h
/-- the sums of a normal form's literals, as far as it is made -/
theorem ofS_fold (P : Int → Int × Int) (least L : Int) (h0 : P 0 = (0, 0)) : ∀ (k : Nat) (v : Nat), ofS ((foldN P least k).cs.map fun c => min c L) (foldN P least k).ls (v : Int) = (if v < k then posP L (P v) else 0) ∧ ofS ((foldN P least k).cs.map fun c => min c L) (foldN P least k).ls (-(v : Int)) = (if v < k then negP L (P v) else 0)
  | 0, v => by simp [foldN, ofS]
  | k + 1, v => by
    have ih := ofS_fold P least L h0 k v
    have hl := foldN_len P least k
    rcases Nat.eq_zero_or_pos k with rfl | hk
    · have e : foldN P least (0 + 1) = foldN P least 0 := by
        show stepN P (foldN P least 0) ((0 : Nat) : Int) = _
        rw [show ((0 : Nat) : Int) = 0 from rfl, stepN_zero _ _ _ h0]
      rw [e]
      rcases Nat.eq_zero_or_pos v with rfl | hv
      · have z1 : posP L (P ((0 : Nat) : Int)) = 0 := by rw [show ((0 : Nat) : Int) = 0 from rfl, h0]; rfl
        have z2 : negP L (P ((0 : Nat) : Int)) = 0 := by rw [show ((0 : Nat) : Int) = 0 from rfl, h0]; rfl
        rw [z1, z2]
        simpa using ih
      · rw [if_neg (by omega), if_neg (by omega)]
        rw [if_neg (by omega), if_neg (by omega)] at ih
        exact ih
    have e : foldN P least (k + 1) = stepN P (foldN P least k) (k : Int) := rfl
    rw [e]
    unfold stepN
    dsimp only
    have hlm : ((foldN P least k).cs.map fun c => min c L).length = (foldN P least k).ls.length := by rw [List.length_map]; exact hl.1
    generalize foldN P least k = S at *
    rw [List.map_append, ofS_append _ _ _ _ _ hlm, ofS_append _ _ _ _ _ hlm, ih.1, ih.2]
    generalize hpq : P (k : Int) = pq
    by_cases h1 : pq.2 < pq.1
    · rw [if_pos h1, if_pos h1]
      by_cases hv : v = k
      · subst hv
        rw [hpq]
        simp only [List.map_cons, List.map_nil, ofS, posP, negP]
        have n1 : ¬ ((v : Int) = -(v : Int)) := by omega
        have n3 : ¬ pq.1 < pq.2 := by omega
        simp [n1, n3, h1]
      · have n1 : ¬ ((k : Int) = (v : Int)) := by omega
        have n2 : ¬ ((k : Int) = -(v : Int)) := by omega
        simp only [List.map_cons, List.map_nil, ofS]
        rw [if_neg n1, if_neg n2]
        by_cases hlt : v < k
        · rw [if_pos hlt, if_pos (by omega), if_pos hlt, if_pos (by omega)]; omega
        · rw [if_neg hlt, if_neg (by omega), if_neg hlt, if_neg (by omega)]; omega
    · rw [if_neg h1, if_neg h1]
      by_cases h2 : pq.1 < pq.2
      · rw [if_pos h2, if_pos h2]
        by_cases hv : v = k
        · subst hv
          rw [hpq]
          simp only [List.map_cons, List.map_nil, ofS, posP, negP]
          have n1 : ¬ (-(v : Int) = (v : Int)) := by omega
          simp [n1, h1, h2]
        · have n1 : ¬ (-(k : Int) = (v : Int)) := by omega
          have n2 : ¬ (-(k : Int) = -(v : Int)) := by omega
          simp only [List.map_cons, List.map_nil, ofS]
          rw [if_neg n1, if_neg n2]
          by_cases hlt : v < k
          · rw [if_pos hlt, if_pos (by omega), if_pos hlt, if_pos (by omega)]; omega
          · rw [if_neg hlt, if_neg (by omega), if_neg hlt, if_neg (by omega)]; omega
      · rw [if_neg h2, if_neg h2]
        simp only [List.map_nil, ofS]
        by_cases hv : v = k
        · subst hv
          rw [hpq]
          simp only [posP, negP]
          simp [h1, h2]
        · by_cases hlt : v < k
          · rw [if_pos hlt, if_pos (by omega), if_pos hlt, if_pos (by omega)]; omega
          · rw [if_neg hlt, if_neg (by omega), if_neg hlt, if_neg (by omega)]; omega
/-- the second normal form is made as the first was -/
theorem foldN_again (P Q : Int → Int × Int) (least L : Int) (hL : 0 < L) (h : ∀ v : Nat, v < 129 → Q v = (posP L (P v), negP L (P v))) : ∀ k : Nat, k ≤ 129 → foldN Q L k = ⟨L, sumI ((foldN P least k).cs.map fun c => min c L), (foldN P least k).cs.map fun c => min c L, (foldN P least k).ls⟩
  | 0, _ => rfl
  | k + 1, hk => by
    have ih := foldN_again P Q least L hL h k (by omega)
    have hq := h k (by omega)
    have e1 : foldN Q L (k + 1) = stepN Q (foldN Q L k) (k : Int) := rfl
    have e2 : foldN P least (k + 1) = stepN P (foldN P least k) (k : Int) := rfl
    rw [e1, e2, ih]
    unfold stepN
    dsimp only
    rw [hq]
    generalize foldN P least k = S at *
    generalize P (k : Int) = pq at *
    obtain ⟨p, q⟩ := pq
    dsimp only
    unfold posP negP
    dsimp only
    by_cases h1 : q < p
    · rw [if_pos h1, if_neg (by omega : ¬ p < q)]
      have m1 : min (min (p - q) L) 0 = 0 := by omega
      have m2 : (0 : Int) < min (p - q) L := by omega
      rw [m1, if_pos m2, if_pos m2, if_pos h1, List.map_append, sumI_app]
      simp only [List.map_cons, List.map_nil, sumI_one]
      congr 1 <;> first | omega | (congr 2; omega) | (simp; done) | (simp; intro h; omega)
    · by_cases h2 : p < q
      · rw [if_neg h1, if_pos h2]
        have m1 : min 0 (min (q - p) L) = 0 := by omega
        have m2 : (0 : Int) < min (q - p) L := by omega
        have m3 : ¬ min (q - p) L < 0 := by omega
        rw [m1, if_neg m3, if_pos m2, if_neg m3, if_pos m2, if_neg h1, if_pos h2, if_neg h1, if_pos h2, List.map_append, sumI_app]
        simp only [List.map_cons, List.map_nil, sumI_one]
        congr 1 <;> first | omega | (congr 2; omega) | (simp; done) | (simp; intro h; omega)
      · rw [if_neg h1, if_neg h2, if_neg h1, if_neg h2, if_neg h1, if_neg h2]
        simp
theorem abs_pair (P : Int → Int × Int) (least L : Int) (hL : 0 ≤ L) : ∀ k : Nat, absS ((foldN P least k).cs.map fun c => min c L) ≤ absS (foldN P least k).cs ∨ ∃ c, c ∈ (foldN P least k).cs ∧ c < 0 := fun k => by
  generalize (foldN P least k).cs = cs
  induction cs with
  | nil => exact .inl (Int.le_refl _)
  | cons c cs ih =>
    by_cases hc : c < 0
    · exact .inr ⟨c, List.mem_cons_self, hc⟩
    · rcases ih with h | ⟨d, hd, h⟩
      · refine .inl ?_
        simp only [List.map_cons, absS]
        omega
      · exact .inr ⟨d, List.mem_cons_of_mem _ hd, h⟩
/-- the variables of a list of literals below k, counted with their sums -/
def totV (cs ls : List Int) : Nat → Int
  | 0 => 0
  | k + 1 => totV cs ls k + (if k = 0 then 0 else max (ofS cs ls k) (-(ofS cs ls k)) + max (ofS cs ls (-(k : Int))) (-(ofS cs ls (-(k : Int)))))
theorem totV_nil (ls : List Int) : ∀ k, totV [] ls k = 0
  | 0 => rfl
  | k + 1 => by
    simp only [totV, totV_nil ls k, ofS]
    split <;> simp
theorem totV_nil2 (c : Int) (cs : List Int) : ∀ k, totV (c :: cs) [] k = 0
  | 0 => rfl
  | k + 1 => by
    simp only [totV, totV_nil2 c cs k, ofS]
    split <;> simp
theorem totV_cons (c l : Int) (cs ls : List Int) : ∀ k : Nat, totV (c :: cs) (l :: ls) k ≤ totV cs ls k + (if (1 ≤ l ∧ l < k) ∨ (1 ≤ -l ∧ -l < k) then max c (-c) else 0)
  | 0 => by
    simp only [totV]
    split <;> omega
  | k + 1 => by
    have ih := totV_cons c l cs ls k
    simp only [totV, ofS]
    by_cases h0 : k = 0
    · subst h0
      simp only [if_true]
      split at ih <;> split <;> omega
    · rw [if_neg h0, if_neg h0]
      by_cases h1 : l = (k : Int)
      · rw [if_pos h1, if_neg (by omega : ¬ l = -(k : Int))]
        rw [if_neg (by omega)] at ih
        rw [if_pos (by omega)]
        omega
      · by_cases h2 : l = -(k : Int)
        · rw [if_neg h1, if_pos h2]
          rw [if_neg (by omega)] at ih
          rw [if_pos (by omega)]
          omega
        · rw [if_neg h1, if_neg h2]
          split at ih
          · rw [if_pos (by omega)]; omega
          · rw [if_neg (by omega)]; omega
theorem totV_le : ∀ (cs ls : List Int) (k : Nat), totV cs ls k ≤ absS cs
  | [], ls, k => by rw [totV_nil]; simp [absS]
  | c :: cs, [], k => by rw [totV_nil2]; exact absS_nn _
  | c :: cs, l :: ls, k => by
    have h1 := totV_cons c l cs ls k
    have h2 := totV_le cs ls k
    simp only [absS]
    split at h1 <;> omega
theorem absS_app2 : ∀ a b : List Int, absS (a ++ b) = absS a + absS b
  | [], b => by simp [absS]
  | x :: a, b => by simp only [List.cons_append, absS, absS_app2 a b]; omega
theorem foldN_abs (cs ls : List Int) (least : Int) (h0 : pairF cs ls 0 = (0, 0)) : ∀ k : Nat, absS (foldN (pairF cs ls) least k).cs ≤ totV cs ls k
  | 0 => by simp [foldN, absS, totV]
  | k + 1 => by
    have ih := foldN_abs cs ls least h0 k
    have e2 : foldN (pairF cs ls) least (k + 1) = stepN (pairF cs ls) (foldN (pairF cs ls) least k) (k : Int) := rfl
    rw [e2]
    simp only [totV]
    rcases Nat.eq_zero_or_pos k with rfl | hk
    · rw [show ((0 : Nat) : Int) = 0 from rfl, stepN_zero _ _ _ h0]
      simpa using ih
    · rw [if_neg (by omega)]
      unfold stepN
      have e : pairF cs ls (k : Int) = (ofS cs ls k, ofS cs ls (-k)) := rfl
      rw [e]
      dsimp only
      rw [absS_app2]
      split
      · simp only [absS]; omega
      · split
        · simp only [absS]; omega
        · simp only [absS]; omega
def cntV (cs ls : List Int) : Nat → Nat
  | 0 => 0
  | k + 1 => cntV cs ls k + (if k = 0 ∨ (ofS cs ls k = 0 ∧ ofS cs ls (-(k : Int)) = 0) then 0 else 1)
theorem cntV_nil (ls : List Int) : ∀ k, cntV [] ls k = 0
  | 0 => rfl
  | k + 1 => by
    simp [cntV, cntV_nil ls k, ofS]
theorem cntV_nil2 (c : Int) (cs : List Int) : ∀ k, cntV (c :: cs) [] k = 0
  | 0 => rfl
  | k + 1 => by
    simp [cntV, cntV_nil2 c cs k, ofS]
theorem cntV_cons (c l : Int) (cs ls : List Int) : ∀ k : Nat, cntV (c :: cs) (l :: ls) k ≤ cntV cs ls k + (if (1 ≤ l ∧ l < k) ∨ (1 ≤ -l ∧ -l < k) then 1 else 0)
  | 0 => Nat.zero_le _
  | k + 1 => by
    have ih := cntV_cons c l cs ls k
    simp only [cntV]
    by_cases h0 : k = 0
    · subst h0
      rw [if_pos (.inl rfl), if_pos (.inl rfl)]
      exact Nat.zero_le _
    by_cases h1 : l = (k : Int) ∨ l = -(k : Int)
    · rw [if_neg (by omega)] at ih
      rw [if_pos (by omega : (1 ≤ l ∧ l < ((k + 1 : Nat) : Int)) ∨ (1 ≤ -l ∧ -l < ((k + 1 : Nat) : Int)))]
      split <;> split <;> omega
    · have e1 : ofS (c :: cs) (l :: ls) (k : Int) = ofS cs ls (k : Int) := by
        simp only [ofS]
        rw [if_neg (fun e => h1 (.inl e))]
        omega
      have e2 : ofS (c :: cs) (l :: ls) (-(k : Int)) = ofS cs ls (-(k : Int)) := by
        simp only [ofS]
        rw [if_neg (fun e => h1 (.inr e))]
        omega
      rw [e1, e2]
      by_cases hr : (1 ≤ l ∧ l < (k : Int)) ∨ (1 ≤ -l ∧ -l < (k : Int))
      · rw [if_pos hr] at ih
        rw [if_pos (by omega : (1 ≤ l ∧ l < ((k + 1 : Nat) : Int)) ∨ (1 ≤ -l ∧ -l < ((k + 1 : Nat) : Int)))]
        split <;> omega
      · rw [if_neg hr] at ih
        rw [if_neg (by omega : ¬ ((1 ≤ l ∧ l < ((k + 1 : Nat) : Int)) ∨ (1 ≤ -l ∧ -l < ((k + 1 : Nat) : Int))))]
        split <;> omega
theorem cntV_le : ∀ (cs ls : List Int) (k : Nat), cntV cs ls k ≤ cs.length
  | [], ls, k => by rw [cntV_nil]; simp
  | c :: cs, [], k => by rw [cntV_nil2]; simp
  | c :: cs, l :: ls, k => by
    have h1 := cntV_cons c l cs ls k
    have h2 := cntV_le cs ls k
    simp only [List.length_cons]
    split at h1 <;> omega
theorem foldN_cnt (cs ls : List Int) (least : Int) (h0 : pairF cs ls 0 = (0, 0)) : ∀ k : Nat, (foldN (pairF cs ls) least k).cs.length ≤ cntV cs ls k
  | 0 => by simp [foldN, cntV]
  | k + 1 => by
    have ih := foldN_cnt cs ls least h0 k
    have e2 : foldN (pairF cs ls) least (k + 1) = stepN (pairF cs ls) (foldN (pairF cs ls) least k) (k : Int) := rfl
    rw [e2]
    simp only [cntV]
    rcases Nat.eq_zero_or_pos k with rfl | hk
    · rw [show ((0 : Nat) : Int) = 0 from rfl, stepN_zero _ _ _ h0]
      omega
    · unfold stepN
      have e : pairF cs ls (k : Int) = (ofS cs ls k, ofS cs ls (-k)) := rfl
      rw [e]
      dsimp only
      rw [List.length_append]
      split
      · rw [if_neg (by omega)]; simp only [List.length_cons, List.length_nil]; omega
      · split
        · rw [if_neg (by omega)]; simp only [List.length_cons, List.length_nil]; omega
        · simp only [List.length_nil]; omega
theorem sumI_abs : ∀ cs : List Int, sumI cs ≤ absS cs
  | [] => by simp [sumI, absS]
  | c :: cs => by have := sumI_abs cs; rw [sumI_cons]; simp only [absS]; omega
theorem check0 {n least : Int} (hn : 0 ≤ n ∧ n ≤ 128) (hl : -1000000000 ≤ least ∧ least ≤ 1000000000) : checkS [] [] least n = 0 := by
  unfold checkS
  rw [if_neg (by omega), if_neg (by simp), if_neg (by simp), if_neg (by simp), if_neg (by simp only [absS]; omega)]
theorem normS_nil (least : Int) : normS [] [] least = if least ≤ 0 then ([], [], 0) else ([], [], 1) := by
  have hP : ∀ v : Nat, 0 ≤ v → pairF [] [] (v : Int) = (0, 0) := fun v _ => by simp [pairF, ofS]
  have h := foldN_more (pairF [] []) least 0 hP 129
  have e0 : foldN (pairF [] []) least 0 = ⟨least, 0, [], []⟩ := rfl
  unfold normS
  rw [show (129 : Nat) = 0 + 129 from rfl, h, e0]
  dsimp only
  by_cases h1 : least ≤ 0
  · rw [if_pos h1, if_pos h1]
  · rw [if_neg h1, if_neg h1, if_pos (by omega)]
/-- a normal form is one, and may be asked for again -/
theorem norm_again {s : PS} {n : Int} (h : checkS s.1 s.2.1 s.2.2 n = 0) : checkS (nfP s).1 (nfP s).2.1 (nfP s).2.2 n = 0 ∧ nfP (nfP s) = nfP s := by
  have hlits := norm_lits h
  obtain ⟨hn, hlen, h64, hlit, habs, hl1, hl2⟩ := check_ok h
  have hP0 : pairF s.1 s.2.1 0 = (0, 0) := by
    unfold pairF
    rw [ofS_zero s.1 s.2.1 0 (fun l hm e => by have := hlit l hm; omega)]
    rw [show (-0 : Int) = 0 from rfl, ofS_zero s.1 s.2.1 0 (fun l hm e => by have := hlit l hm; omega)]
  have hf := foldN_ok s.1 s.2.1 s.2.2 hP0 habs 129
  have ht := foldN_total (pairF s.1 s.2.1) s.2.2 129
  have hab := foldN_abs s.1 s.2.1 s.2.2 hP0 129
  have hcn := foldN_cnt s.1 s.2.1 s.2.2 hP0 129
  have h1 := totV_le s.1 s.2.1 129
  have h2 := cntV_le s.1 s.2.1 129
  have hln := foldN_len (pairF s.1 s.2.1) s.2.2 129
  have hof := fun L v => ofS_fold (pairF s.1 s.2.1) s.2.2 L hP0 129 v
  have hag := fun Q L => foldN_again (pairF s.1 s.2.1) Q s.2.2 L
  have habp := fun L hL => abs_pair (pairF s.1 s.2.1) s.2.2 L hL 129
  have hag2 : ∀ (Q : Int → Int × Int) (L : Int), 0 < L → (∀ v : Nat, v < 129 → Q v = (posP L (pairF s.1 s.2.1 v), negP L (pairF s.1 s.2.1 v))) → foldN Q L 129 = ⟨L, sumI ((foldN (pairF s.1 s.2.1) s.2.2 129).cs.map fun c => min c L), (foldN (pairF s.1 s.2.1) s.2.2 129).cs.map fun c => min c L, (foldN (pairF s.1 s.2.1) s.2.2 129).ls⟩ := fun Q L hL hQ => hag Q L hL hQ 129 (Nat.le_refl _)
  clear hag
  have hnf : nfP s = if (foldN (pairF s.1 s.2.1) s.2.2 129).least ≤ 0 then ([], [], 0) else if (foldN (pairF s.1 s.2.1) s.2.2 129).total < (foldN (pairF s.1 s.2.1) s.2.2 129).least then ([], [], 1) else ((foldN (pairF s.1 s.2.1) s.2.2 129).cs.map (fun c => min c (foldN (pairF s.1 s.2.1) s.2.2 129).least), (foldN (pairF s.1 s.2.1) s.2.2 129).ls, (foldN (pairF s.1 s.2.1) s.2.2 129).least) := rfl
  generalize foldN (pairF s.1 s.2.1) s.2.2 129 = S at *
  by_cases c1 : S.least ≤ 0
  · rw [if_pos c1] at hnf
    rw [hnf]
    refine ⟨check0 (least := 0) hn (by omega), ?_⟩
    show normS [] [] 0 = _
    rw [normS_nil, if_pos (by omega)]
  rw [if_neg c1] at hnf
  by_cases c2 : S.total < S.least
  · rw [if_pos c2] at hnf
    rw [hnf]
    refine ⟨check0 (least := 1) hn (by omega), ?_⟩
    show normS [] [] 1 = _
    rw [normS_nil, if_neg (by omega)]
  rw [if_neg c2] at hnf
  rw [hnf] at hlits ⊢
  dsimp only at hlits
  have hsa := sumI_abs S.cs
  have hpos : absS (S.cs.map fun c => min c S.least) ≤ absS S.cs := by
    rcases habp S.least (by omega) with h3 | ⟨c, hc, hneg⟩
    · exact h3
    · have := (hf.1 c hc).1; omega
  have hsm := sum_min S.least (by omega) S.cs fun c hc => by have := (hf.1 c hc).1; omega
  constructor
  · unfold checkS
    dsimp only
    rw [if_neg (by omega), if_neg (by rw [List.length_map]; omega), if_neg (by rw [List.length_map]; omega), if_neg ?_, if_neg (by omega)]
    intro hany
    obtain ⟨l, hl, hv⟩ := List.any_eq_true.1 hany
    have := hlits l hl
    have hvb : validB l n = true := by
      unfold absI at this
      exact validB_ok ⟨by omega, by omega, by omega⟩
    rw [hvb] at hv
    cases hv
  · have hQ : ∀ v : Nat, v < 129 → pairF (S.cs.map fun c => min c S.least) S.ls (v : Int) = (posP S.least (pairF s.1 s.2.1 v), negP S.least (pairF s.1 s.2.1 v)) := fun v hv => by
      have := hof S.least v
      rw [if_pos hv, if_pos hv] at this
      unfold pairF
      rw [this.1, this.2]
      rfl
    have e := hag2 _ S.least (by omega) hQ
    show normS (S.cs.map fun c => min c S.least) S.ls S.least = _
    unfold normS
    rw [e]
    dsimp only
    rw [if_neg c1, if_neg (by omega), List.map_map]
    refine congrArg (fun x => (x, S.ls, S.least)) ?_
    apply List.map_congr_left
    intro c _
    show min (min c S.least) S.least = min c S.least
    omega
theorem runE_cons (s : PS) (l : List PS) (N : Int) (T : List (List Int)) : runE (s :: l) N T = if 128 < N + totF (rowsP (nfP s)) then none else if 4096 < (oneP T (nfP s) (N + 1)).length then none else runE l (N + totF (rowsP (nfP s))) (oneP T (nfP s) (N + 1)) := rfl
theorem runE_map {n : Int} : ∀ (l : List PS) (N : Int) (T : List (List Int)), (∀ s, s ∈ l → checkS s.1 s.2.1 s.2.2 n = 0) → runE (l.map nfP) N T = runE l N T
  | [], _, _, _ => rfl
  | s :: l, N, T, h => by
    have hs := norm_again (h s List.mem_cons_self)
    have ih := fun N T => runE_map l N T fun x hx => h x (List.mem_cons_of_mem _ hx)
    refine (runE_cons _ _ _ _).trans (.trans ?_ (runE_cons _ _ _ _).symm)
    generalize nfP (nfP s) = a at *
    generalize nfP s = b at *
    rw [hs.2]
    split
    · rfl
    · split
      · rfl
      · exact ih _ _
theorem badE_zero {n : Int} : ∀ {l : List PS}, (∀ s, s ∈ l → checkS s.1 s.2.1 s.2.2 n = 0) → badE n l = 0
  | [], _ => rfl
  | s :: l, h => by
    unfold badE
    rw [if_pos (h s List.mem_cons_self)]
    exact badE_zero fun x hx => h x (List.mem_cons_of_mem _ hx)
theorem enc_zero {n : Int} {l : List PS} (h : (encR n l).1 = 0) : (0 ≤ n ∧ n ≤ 128) ∧ l.length ≤ 4096 ∧ (∀ s, s ∈ l → checkS s.1 s.2.1 s.2.2 n = 0) ∧ encR n l = finE (runE l n []) := by
  unfold encR at h ⊢
  by_cases h1 : n < 0 ∨ 128 < n
  · rw [if_pos h1] at h; cases h
  rw [if_neg h1] at h ⊢
  by_cases h2 : 4096 < l.length
  · rw [if_pos h2] at h; cases h
  rw [if_neg h2] at h ⊢
  by_cases h3 : badE n l ≠ 0
  · rw [if_pos h3] at h; exact absurd h h3
  rw [if_neg h3]
  exact ⟨by omega, by omega, badE_mem (Classical.byContradiction h3), rfl⟩
theorem encR_norm {n : Int} {l : List PS} (h : (encR n l).1 = 0) : encR n (l.map nfP) = encR n l := by
  obtain ⟨hn, hl, hc, e⟩ := enc_zero h
  rw [e]
  unfold encR
  rw [if_neg (by omega), if_neg (by rw [List.length_map]; omega), if_neg (fun hb => hb (badE_zero fun s hs => by
    obtain ⟨t, ht, rfl⟩ := List.mem_map.1 hs
    exact (norm_again (hc t ht)).1)), runE_map l n [] hc]
theorem encR_true {n : Int} {l : List PS} (h : (encR n l).1 = 0) (h39 : l.length ≤ 39) : encR n (([], [], -3) :: l) = encR n l := by
  obtain ⟨hn, hl, hc, e⟩ := enc_zero h
  have hnf : nfP (([], [], -3) : PS) = ([], [], 0) := by
    show normS [] [] (-3) = _
    rw [normS_nil, if_pos (by omega)]
  have hone : ∀ d, oneP [] (([], [], 0) : PS) d = [] := fun d => rfl
  rw [e]
  unfold encR
  rw [if_neg (by omega), if_neg (by rw [List.length_cons]; omega), if_neg (fun hb => hb (badE_zero fun s hs => by
    rcases List.mem_cons.1 hs with rfl | hs
    · exact check0 (least := -3) hn (by omega)
    · exact hc s hs)), runE, hnf, hone]
  have ht : ((totF (rowsP (([], [], 0) : PS)) : Nat) : Int) = 0 := rfl
  rw [ht, Int.add_zero, if_neg (by omega), if_neg (by simp)]
end Go.Proofs.Ytinpcimogojefaa
