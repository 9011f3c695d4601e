/- What the encoding of sums means: plain. -/
import Derived.Test.YtinpcimogojefaaKg
import Derived.Test.YtinpcimogojefaaKf
namespace Go.Proofs.Ytinpcimogojefaa
open Go Go.Cx Go.RowKit
set_option linter.unusedVariables false
set_option linter.unusedSimpArgs false
set_option maxHeartbeats 4000000
attribute [local irreducible] J JC thenK blockK loopK roundK drawK retK QW Qt pel List.set Calls
def litT (b : Int → Bool) (l : Int) : Bool := if 0 < l then b l else !b (-l)
def clT (b : Int → Bool) (c : List Int) : Prop := ∃ l, l ∈ c ∧ litT b l = true
def modT (b : Int → Bool) (T : List (List Int)) : Prop := ∀ c, c ∈ T → clT b c
/-- what the true terms add up to -/
def valS (b : Int → Bool) : List Int → List Int → Int
  | c :: cs, l :: ls => (if litT b l = true then c else 0) + valS b cs ls
  | _, _ => 0
def holdP (b : Int → Bool) (s : PS) : Prop := s.2.2 ≤ valS b s.1 s.2.1
/-- elements of clauses -/
def eltT (b : Int → Bool) (x : Int) : Bool := if x = 1048576 then true else if x = -1048576 then false else litT b x
theorem eltT_neg (b : Int → Bool) (x : Int) (h : x ≠ 0) : eltT b (-x) = !eltT b x := by
  unfold eltT litT
  by_cases h1 : x = 1048576
  · subst h1; simp
  by_cases h2 : x = -1048576
  · subst h2; simp
  rw [if_neg (by omega), if_neg (by omega), if_neg h1, if_neg h2]
  by_cases h3 : 0 < x
  · rw [if_neg (by omega), if_pos h3, Int.neg_neg]
  · rw [if_pos (by omega), if_neg h3, Bool.not_not]
theorem modT_nil (b : Int → Bool) : modT b [] := fun c h => by cases h
theorem modT_app (b : Int → Bool) (T : List (List Int)) (r : List Int) : modT b (T ++ [r]) ↔ modT b T ∧ clT b r := by
  unfold modT
  constructor
  · intro h
    exact ⟨fun c hc => h c (List.mem_append_left _ hc), h r (List.mem_append_right _ List.mem_cons_self)⟩
  · rintro ⟨h1, h2⟩ c hc
    rcases List.mem_append.1 hc with hc | hc
    · exact h1 c hc
    · rw [List.mem_singleton.1 hc]; exact h2
theorem modT_cl (b : Int → Bool) (T : List (List Int)) (l : List Int) : modT b (clF T l) ↔ modT b T ∧ ∃ x, x ∈ l ∧ eltT b x = true := by
  unfold clF
  split
  · rename_i h
    exact ⟨fun hm => ⟨hm, 1048576, h, rfl⟩, fun hm => hm.1⟩
  · rename_i h
    rw [modT_app]
    refine and_congr_right fun _ => ?_
    unfold clT keepF eltT
    constructor
    · rintro ⟨x, hx, ht⟩
      rw [List.mem_filter] at hx
      have h2 : x ≠ -1048576 := by simpa using hx.2
      refine ⟨x, hx.1, ?_⟩
      rw [if_neg (fun e => h (by rw [← e]; exact hx.1)), if_neg h2]
      exact ht
    · rintro ⟨x, hx, ht⟩
      rw [if_neg (fun e => h (by rw [← e]; exact hx))] at ht
      by_cases h2 : x = -1048576
      · rw [if_pos h2] at ht; cases ht
      · rw [if_neg h2] at ht
        exact ⟨x, List.mem_filter.2 ⟨hx, by simpa using h2⟩, ht⟩
theorem ex3 {P : Int → Prop} {x y z : Int} : (∃ a, a ∈ [x, y, z] ∧ P a) ↔ P x ∨ P y ∨ P z := by simp
theorem modT_step (b : Int → Bool) (T : List (List Int)) (v d h low : Int) (hv : v ≠ 0 ∧ -1000 ≤ v ∧ v ≤ 1000) (hd : 1 ≤ d ∧ d ≤ 1000) (hh : h ≠ 0) (hl : low ≠ 0) :
    modT b (stepP T v d h low) ↔ modT b T ∧ b d = if litT b v = true then eltT b h else eltT b low := by
  have e1 : eltT b v = litT b v := by unfold eltT; rw [if_neg (by omega), if_neg (by omega)]
  have e2 : eltT b d = b d := by unfold eltT litT; rw [if_neg (by omega), if_neg (by omega), if_pos (by omega)]
  unfold stepP
  rw [modT_cl, modT_cl, modT_cl, modT_cl, ex3, ex3, ex3, ex3, eltT_neg b v hv.1, eltT_neg b d (by omega), eltT_neg b h hh, eltT_neg b low hl, e1, e2, and_assoc, and_assoc, and_assoc]
  refine and_congr_right fun _ => ?_
  cases litT b v <;> cases b d <;> cases eltT b h <;> cases eltT b low <;> simp
theorem modT_row (b : Int → Bool) (least v c : Int) (nx : Int → Option Int) (hv : v ≠ 0 ∧ -1000 ≤ v ∧ v ≤ 1000) (hx : ∀ p e, nx p = some e → e ≠ 0) : ∀ (row : List Int) (d : Int) (T : List (List Int)), 1 ≤ d → d + row.length ≤ 1001 →
    (modT b (rowF least v c nx row d T) ↔ modT b T ∧ ∀ j : Nat, j < row.length → b (d + j) = eltT b (becF least nx (row.getD j default + if litT b v = true then c else 0)))
  | [], d, T, _, _ => by simp [rowF]
  | p :: row, d, T, h1, h2 => by
    simp only [List.length_cons] at h2
    have hb : ∀ q, becF least nx q ≠ 0 := fun q => by
      unfold becF
      cases hn : nx q with
      | some e => exact hx q e hn
      | none => dsimp only; split <;> omega
    rw [rowF, modT_row b least v c nx hv hx row (d + 1) _ (by omega) (by omega), modT_step b T v d _ _ hv (by omega) (hb _) (hb _), and_assoc]
    refine and_congr_right fun _ => ?_
    have e0 : (if litT b v = true then eltT b (becF least nx (p + c)) else eltT b (becF least nx p)) = eltT b (becF least nx (p + if litT b v = true then c else 0)) := by
      split
      · rfl
      · rw [Int.add_zero]
    rw [e0]
    constructor
    · rintro ⟨ha, hb⟩ j hj
      cases j with
      | zero => simpa using ha
      | succ j =>
        have := hb j (by simpa using hj)
        rw [show d + ((j + 1 : Nat) : Int) = d + 1 + j by omega, this]
        rfl
    · intro ha
      refine ⟨by simpa using ha 0 (by simp), fun j hj => ?_⟩
      have := ha (j + 1) (by simpa using hj)
      rw [show d + ((j + 1 : Nat) : Int) = d + 1 + j by omega] at this
      rw [this]
      rfl
/-- the values of the new variables of a sum, of rows -/
def valsV (b : Int → Bool) (least : Int) : List Int → List Int → List (List Int) → List Bool
  | c :: cs, l :: ls, row :: rows => row.map (fun p => decide (least ≤ p + valS b (c :: cs) (l :: ls))) ++ valsV b least cs ls rows
  | _, _, _ => []
def matchV (b : Int → Bool) (d : Int) (vs : List Bool) : Prop := ∀ j : Nat, j < vs.length → b (d + j) = vs.getD j false
theorem matchV_app (b : Int → Bool) (d : Int) (u v : List Bool) : matchV b d (u ++ v) ↔ matchV b d u ∧ matchV b (d + u.length) v := by
  unfold matchV
  constructor
  · intro h
    refine ⟨fun j hj => ?_, fun j hj => ?_⟩
    · rw [h j (by rw [List.length_append]; omega), List.getD_eq_getElem?_getD, List.getElem?_append_left hj, ← List.getD_eq_getElem?_getD]
    · have := h (u.length + j) (by rw [List.length_append]; omega)
      rw [List.getD_eq_getElem?_getD, List.getElem?_append_right (by omega), ← List.getD_eq_getElem?_getD, Nat.add_sub_cancel_left] at this
      rw [← this]
      congr 1
      omega
  · rintro ⟨h1, h2⟩ j hj
    rw [List.length_append] at hj
    rw [List.getD_eq_getElem?_getD]
    by_cases hu : j < u.length
    · rw [List.getElem?_append_left hu, ← List.getD_eq_getElem?_getD]
      exact h1 j hu
    · rw [List.getElem?_append_right (by omega), ← List.getD_eq_getElem?_getD, ← h2 (j - u.length) (by omega)]
      congr 1
      omega
theorem valsV_len (b : Int → Bool) (least : Int) : ∀ (cs ls : List Int) (rows : List (List Int)), cs.length = ls.length → cs.length = rows.length → (valsV b least cs ls rows).length = totF rows
  | [], _, [], _, _ => rfl
  | [], _, _ :: _, _, h => by simp at h
  | _ :: _, [], _, h, _ => by simp at h
  | _ :: _, _ :: _, [], _, h => by simp at h
  | c :: cs, l :: ls, r :: rows, h1, h2 => by
    rw [valsV, List.length_append, List.length_map, totF_cons, valsV_len b least cs ls rows (by simpa using h1) (by simpa using h2)]
theorem valS_bd (b : Int → Bool) : ∀ (cs ls : List Int), (∀ c, c ∈ cs → 0 ≤ c) → 0 ≤ valS b cs ls ∧ valS b cs ls ≤ sumI cs
  | [], _, _ => by simp [valS, sumI]
  | c :: cs, [], h => by
    have := sumI_nn (c :: cs) h
    simp only [valS]
    omega
  | c :: cs, l :: ls, h => by
    have ih := valS_bd b cs ls fun x hx => h x (List.mem_cons_of_mem _ hx)
    have hc := h c List.mem_cons_self
    rw [valS, sumI_cons]
    split <;> omega
theorem plc_some (x d' : Int) : ∀ (a : List Int) (d : Int), plc a d x = some d' → ∃ j : Nat, j < a.length ∧ d' = d + j ∧ a.getD j default = x
  | [], _, h => by simp [plc] at h
  | y :: a, d, h => by
    unfold plc at h
    split at h
    · rename_i e
      simp only [Option.some.injEq] at h
      exact ⟨0, by simp, by omega, by rw [e]; rfl⟩
    · obtain ⟨j, h1, h2, h3⟩ := plc_some x d' a (d + 1) h
      exact ⟨j + 1, by simpa using h1, by omega, by rw [← h3]; rfl⟩
theorem plc_mem (x : Int) : ∀ (a : List Int) (d : Int), plc a d x = none → x ∉ a
  | [], _, _ => by simp
  | y :: a, d, h => by
    unfold plc at h
    split at h
    · cases h
    · rename_i e
      have := plc_mem x a (d + 1) h
      simp only [List.mem_cons, not_or]
      exact ⟨e, this⟩
/-- what a partial sum becomes is true exactly where the sum will be -/
theorem bec_sem (b : Int → Bool) (least : Int) (cs ls now : List Int) (e q : Int) (hlen : cs.length = ls.length) (hc : ∀ c, c ∈ cs → 0 ≤ c) (he : 1 ≤ e ∧ e + totF (rowsF least cs now) ≤ 1001) (hq : q ∈ now) (hm : matchV b e (valsV b least cs ls (rowsF least cs now))) :
    eltT b (becF least (nxF (rowsF least cs now) e) q) = decide (least ≤ q + valS b cs ls) := by
  cases cs with
  | nil =>
    unfold becF
    have e0 : valS b [] ls = 0 := by simp [valS]
    simp only [rowsF, nxF]
    split
    · rename_i h; rw [decide_eq_true (by omega)]; rfl
    · rename_i h; rw [decide_eq_false (by omega)]; rfl
  | cons c cs =>
    cases ls with
    | nil => simp at hlen
    | cons l ls =>
      have hb := valS_bd b (c :: cs) (l :: ls) hc
      simp only [rowsF, nxF] at hm he ⊢
      rw [valsV, matchV_app] at hm
      rw [totF_cons] at he
      unfold becF
      cases hn : plc (undec least (sumI (c :: cs)) now) e q with
      | some v =>
        obtain ⟨j, h1, h2, h3⟩ := plc_some _ _ _ _ hn
        have hj := hm.1 j (by rw [List.length_map]; exact h1)
        rw [← h2] at hj
        dsimp only
        have e2 : eltT b v = b v := by unfold eltT litT; rw [if_neg (by omega), if_neg (by omega), if_pos (by omega)]
        rw [e2, hj, List.getD_eq_getElem?_getD, List.getElem?_map, List.getElem?_eq_getElem h1, Option.map_some, Option.getD_some]
        rw [List.getD_eq_getElem?_getD, List.getElem?_eq_getElem h1, Option.getD_some] at h3
        rw [h3]
      | none =>
        have hnm := plc_mem _ _ _ hn
        rw [undec_mem] at hnm
        dsimp only
        split
        · rename_i h; rw [decide_eq_true (by omega)]; rfl
        · rename_i h
          have : ¬ least ≤ q + sumI (c :: cs) := fun h2 => hnm ⟨hq, by omega, h2⟩
          rw [decide_eq_false (by omega)]; rfl
theorem modT_sums (b : Int → Bool) (least : Int) : ∀ (cs ls now : List Int) (d : Int) (T : List (List Int)), cs.length = ls.length → (∀ c, c ∈ cs → 0 ≤ c) → (∀ l, l ∈ ls → l ≠ 0 ∧ -1000 ≤ l ∧ l ≤ 1000) → 1 ≤ d → d + totF (rowsF least cs now) ≤ 1001 →
    (modT b (sumsF least cs ls (rowsF least cs now) d T) ↔ modT b T ∧ matchV b d (valsV b least cs ls (rowsF least cs now)))
  | [], ls, now, d, T, _, _, _, _, _ => by simp [sumsF, rowsF, valsV, matchV]
  | c :: cs, [], now, d, T, h, _, _, _, _ => by simp at h
  | c :: cs, l :: ls, now, d, T, hlen, hc, hl, hd, ht => by
    rw [rowsF, totF_cons] at ht
    rw [rowsF, sumsF, valsV, matchV_app]
    have hc' : ∀ x, x ∈ cs → 0 ≤ x := fun x hx => hc x (List.mem_cons_of_mem _ hx)
    have hlen' : cs.length = ls.length := by simpa using hlen
    rw [modT_sums b least cs ls _ _ _ hlen' hc' (fun x hx => hl x (List.mem_cons_of_mem _ hx)) (by omega) (by omega)]
    generalize hrow : undec least (sumI (c :: cs)) now = row at *
    rw [modT_row b least l c _ (hl l List.mem_cons_self) (fun p e he => by
      cases hr : rowsF least cs (nextF row c) with
      | nil => rw [hr] at he; simp [nxF] at he
      | cons r rs =>
        rw [hr] at he
        have := plc_bd _ _ _ _ he
        omega) row d T hd (by omega), and_assoc, List.length_map]
    refine and_congr_right fun _ => ?_
    rw [and_comm, and_comm (b := matchV b _ (valsV b least cs ls _))]
    refine and_congr_right fun hm => ?_
    have key : ∀ j : Nat, j < row.length → eltT b (becF least (nxF (rowsF least cs (nextF row c)) (d + row.length)) (row.getD j default + if litT b l = true then c else 0)) = (row.map fun p => decide (least ≤ p + valS b (c :: cs) (l :: ls))).getD j false := fun j hj => by
      rw [bec_sem b least cs ls _ _ _ hlen' hc' (by omega) ((nextF_mem _ _ _).2 ⟨row.getD j default, mem_g row j hj, by split; exact .inr rfl; exact .inl (Int.add_zero _)⟩) hm]
      rw [List.getD_eq_getElem?_getD (l := row.map _), List.getElem?_map, List.getElem?_eq_getElem hj, Option.map_some, Option.getD_some, List.getD_eq_getElem?_getD, List.getElem?_eq_getElem hj, Option.getD_some, valS, Int.add_assoc]
    unfold matchV
    rw [List.length_map]
    constructor
    · intro h j hj; rw [h j hj, key j hj]
    · intro h j hj; rw [h j hj, key j hj]
/-- sums over variables -/
def sB (b : Int → Bool) (P : Int → Int × Int) : Nat → Int
  | 0 => 0
  | k + 1 => sB b P k + if b k = true then (P k).1 else (P k).2
theorem sB_cons (b : Int → Bool) (cs ls : List Int) (c l : Int) (hl : l ≠ 0) : ∀ k : Nat, sB b (pairF (c :: cs) (l :: ls)) k = sB b (pairF cs ls) k + if (1 ≤ l ∧ l < k) ∨ (1 ≤ -l ∧ -l < k) then (if litT b l = true then c else 0) else 0
  | 0 => by simp only [sB]; split <;> omega
  | k + 1 => by
    have ih := sB_cons b cs ls c l hl k
    have e1 : pairF (c :: cs) (l :: ls) k = ((if l = k then c else 0) + (pairF cs ls k).1, (if l = -(k : Int) then c else 0) + (pairF cs ls k).2) := rfl
    have hlt : litT b l = if 0 < l then b l else !b (-l) := rfl
    simp only [sB, ih, e1]
    have hk1 : ((k + 1 : Nat) : Int) = (k : Int) + 1 := rfl
    by_cases h1 : l = k
    · have h2 : ¬ l = -(k : Int) := by omega
      have h3 : litT b l = b k := by rw [hlt, if_pos (by omega), h1]
      have h4 : ¬ ((1 ≤ l ∧ l < (k : Int)) ∨ (1 ≤ -l ∧ -l < (k : Int))) := by omega
      have h5 : (1 ≤ l ∧ l < ((k + 1 : Nat) : Int)) ∨ (1 ≤ -l ∧ -l < ((k + 1 : Nat) : Int)) := by omega
      rw [if_pos h1, if_neg h2, if_neg h4, if_pos h5, h3]
      cases b k <;> simp <;> omega
    · by_cases h2 : l = -(k : Int)
      · have h3 : litT b l = !b k := by rw [hlt, if_neg (by omega), h2, Int.neg_neg]
        have h4 : ¬ ((1 ≤ l ∧ l < (k : Int)) ∨ (1 ≤ -l ∧ -l < (k : Int))) := by omega
        have h5 : (1 ≤ l ∧ l < ((k + 1 : Nat) : Int)) ∨ (1 ≤ -l ∧ -l < ((k + 1 : Nat) : Int)) := by omega
        rw [if_neg h1, if_pos h2, if_neg h4, if_pos h5, h3]
        cases b k <;> simp <;> omega
      · rw [if_neg h1, if_neg h2]
        by_cases h4 : (1 ≤ l ∧ l < (k : Int)) ∨ (1 ≤ -l ∧ -l < (k : Int))
        · have h5 : (1 ≤ l ∧ l < ((k + 1 : Nat) : Int)) ∨ (1 ≤ -l ∧ -l < ((k + 1 : Nat) : Int)) := by omega
          rw [if_pos h4, if_pos h5]
          cases b k <;> simp <;> omega
        · have h5 : ¬ ((1 ≤ l ∧ l < ((k + 1 : Nat) : Int)) ∨ (1 ≤ -l ∧ -l < ((k + 1 : Nat) : Int))) := by omega
          rw [if_neg h4, if_neg h5]
          cases b k <;> simp
theorem sB_nil (b : Int → Bool) (ls : List Int) : ∀ k : Nat, sB b (pairF [] ls) k = 0
  | 0 => rfl
  | k + 1 => by
    rw [sB, sB_nil b ls k]
    simp [pairF, ofS]
theorem valS_sB (b : Int → Bool) : ∀ (cs ls : List Int), cs.length = ls.length → (∀ l, l ∈ ls → l ≠ 0 ∧ -128 ≤ l ∧ l ≤ 128) → valS b cs ls = sB b (pairF cs ls) 129
  | [], ls, _, _ => by rw [sB_nil]; simp [valS]
  | c :: cs, [], h, _ => by simp at h
  | c :: cs, l :: ls, h, hl => by
    have h1 := hl l List.mem_cons_self
    have h5 : (1 ≤ l ∧ l < ((129 : Nat) : Int)) ∨ (1 ≤ -l ∧ -l < ((129 : Nat) : Int)) := by omega
    rw [sB_cons b cs ls c l h1.1 129, if_pos h5, ← valS_sB b cs ls (by simpa using h) (fun x hx => hl x (List.mem_cons_of_mem _ hx)), valS]
    omega
theorem valS_app (b : Int → Bool) : ∀ (cs ls cs' ls' : List Int), cs.length = ls.length → valS b (cs ++ cs') (ls ++ ls') = valS b cs ls + valS b cs' ls'
  | [], [], _, _, _ => by simp [valS]
  | [], _ :: _, _, _, h => by simp at h
  | _ :: _, [], _, _, h => by simp at h
  | c :: cs, l :: ls, cs', ls', h => by
    simp only [List.cons_append, valS]
    rw [valS_app b cs ls cs' ls' (by simpa using h)]
    omega
theorem valS_fold (b : Int → Bool) (P : Int → Int × Int) (least : Int) (h0 : P 0 = (0, 0)) : ∀ k : Nat, valS b (foldN P least k).cs (foldN P least k).ls - (foldN P least k).least = sB b P k - least
  | 0 => by simp [foldN, sB, valS]
  | k + 1 => by
    have ih := valS_fold b P least h0 k
    have hlen := (foldN_len P least k).1
    simp only [foldN, stepN, sB]
    rw [valS_app b _ _ _ _ hlen]
    cases k with
    | zero =>
      have e : P ((0 : Nat) : Int) = (0, 0) := h0
      have e0 : valS b [] [] = 0 := by simp [valS]
      rw [e]
      simp [foldN, sB, e0]
    | succ k =>
      generalize hK : ((k + 1 : Nat) : Int) = K at *
      have hKp : 0 < K := by omega
      by_cases h1 : (P K).2 < (P K).1
      · rw [if_pos h1, if_pos h1]
        have : valS b [(P K).1 - (P K).2] [K] = if b K = true then (P K).1 - (P K).2 else 0 := by
          simp [valS, litT, hKp]
        rw [this]
        split <;> omega
      · by_cases h2 : (P K).1 < (P K).2
        · rw [if_neg h1, if_pos h2, if_neg h1, if_pos h2]
          have : valS b [(P K).2 - (P K).1] [-K] = if b K = true then 0 else (P K).2 - (P K).1 := by
            have h3 : ¬ 0 < -K := by omega
            simp only [valS, litT, if_neg h3, Int.neg_neg]
            cases b K <;> simp
          rw [this]
          split <;> omega
        · rw [if_neg h1, if_neg h2, if_neg h1, if_neg h2]
          have : valS b [] [] = 0 := rfl
          rw [this]
          split <;> omega
theorem valS_min (b : Int → Bool) (L : Int) (hL : 0 ≤ L) : ∀ (cs ls : List Int), (∀ c, c ∈ cs → 0 ≤ c) → 0 ≤ valS b (cs.map fun c => min c L) ls ∧ valS b (cs.map fun c => min c L) ls ≤ valS b cs ls ∧ (valS b cs ls ≤ valS b (cs.map fun c => min c L) ls ∨ L ≤ valS b (cs.map fun c => min c L) ls)
  | [], ls, _ => by simp [valS]
  | c :: cs, [], _ => by simp [valS]
  | c :: cs, l :: ls, h => by
    have ih := valS_min b L hL cs ls fun x hx => h x (List.mem_cons_of_mem _ hx)
    have hc := h c List.mem_cons_self
    rw [List.map_cons, valS, valS]
    split <;> omega
/-- a sum is true where its normal form is -/
theorem norm_sem (b : Int → Bool) {s : PS} {n : Int} (h : checkS s.1 s.2.1 s.2.2 n = 0) : holdP b (nfP s) ↔ holdP b s := by
  obtain ⟨hn, hlen, h64, hlit, habs, hl1, hl2⟩ := check_ok h
  have hP0 : pairF s.1 s.2.1 0 = (0, 0) := by
    unfold pairF
    rw [ofS_zero s.1 s.2.1 0 (fun l hm e => by have := hlit l hm; omega)]
    rw [show (-0 : Int) = 0 from rfl, ofS_zero s.1 s.2.1 0 (fun l hm e => by have := hlit l hm; omega)]
  have hf := foldN_ok s.1 s.2.1 s.2.2 hP0 habs 129
  have ht := foldN_total (pairF s.1 s.2.1) s.2.2 129
  have hv := valS_fold b (pairF s.1 s.2.1) s.2.2 hP0 129
  rw [← valS_sB b s.1 s.2.1 hlen (fun l hl => by have := hlit l hl; omega)] at hv
  unfold holdP
  unfold nfP normS
  generalize foldN (pairF s.1 s.2.1) s.2.2 129 = S at *
  have hc : ∀ c, c ∈ S.cs → 0 ≤ c := fun c hc => by have := (hf.1 c hc).1; omega
  have hb := valS_bd b S.cs S.ls hc
  dsimp only
  by_cases h1 : S.least ≤ 0
  · rw [if_pos h1]
    have e : valS b [] [] = 0 := rfl
    show 0 ≤ valS b [] [] ↔ _
    omega
  rw [if_neg h1]
  by_cases h2 : S.total < S.least
  · rw [if_pos h2]
    have e : valS b [] [] = 0 := rfl
    show 1 ≤ valS b [] [] ↔ _
    omega
  rw [if_neg h2]
  have := valS_min b S.least (by omega) S.cs S.ls hc
  show S.least ≤ valS b (S.cs.map fun c => min c S.least) S.ls ↔ _
  omega
def valsP (b : Int → Bool) (s : PS) : List Bool := valsV b s.2.2 s.1 s.2.1 (rowsP s)
set_option maxRecDepth 20000 in
theorem modT_one (b : Int → Bool) {s : PS} {n : Int} (h : checkS s.1 s.2.1 s.2.2 n = 0) (d : Int) (T : List (List Int)) (hd : 1 ≤ d) (ht : d + totF (rowsP (nfP s)) ≤ 1001) :
    modT b (oneP T (nfP s) d) ↔ modT b T ∧ holdP b (nfP s) ∧ matchV b d (valsP b (nfP s)) := by
  have hk := norm_ok h
  change NOK (nfP s).1 (nfP s).2.1 (nfP s).2.2 at hk
  have hagain := norm_again h
  by_cases hc : (nfP s).1 = []
  · unfold oneP oneF holdP valsP
    rw [hc]
    have e0 : valS b [] (nfP s).2.1 = 0 := by simp [valS]
    have e1 : valsV b (nfP s).2.2 [] (nfP s).2.1 (rowsP (nfP s)) = [] := by simp [valsV]
    rw [e0, e1, if_pos (show ([] : List Int).length = 0 from rfl)]
    have e2 : matchV b d [] := fun j hj => by simp at hj
    split
    · rename_i hl
      rw [modT_app]
      constructor
      · rintro ⟨_, x, hx, _⟩; cases hx
      · rintro ⟨_, h3, _⟩; omega
    · rename_i hl
      exact ⟨fun hm => ⟨hm, by omega, e2⟩, fun hm => hm.1⟩
  · obtain ⟨rest, hr⟩ := rows_first hagain.1 hagain.2 hc
    unfold oneP oneF
    rw [if_neg (fun e => hc (List.eq_nil_of_length_eq_zero e))]
    have hs := modT_sums b (nfP s).2.2 (nfP s).1 (nfP s).2.1 [0] d (T ++ [[d]]) hk.len (fun c hc => by have := (hk.c c hc).1; omega) (fun l hl => by have := hk.l l hl; omega) hd ht
    change modT b (sumsF (nfP s).2.2 (nfP s).1 (nfP s).2.1 (rowsP (nfP s)) d (T ++ [[d]])) ↔ _ ∧ matchV b d (valsP b (nfP s)) at hs
    rw [hs, modT_app, and_assoc]
    refine and_congr_right fun _ => ?_
    rw [and_comm, and_comm (b := matchV b d _)]
    refine and_congr_right fun hm => ?_
    have e2 : clT b [d] ↔ b d = true := by
      unfold clT litT
      simp [show 0 < d by omega]
    rw [e2]
    unfold valsP at hm
    rw [hr] at hm
    cases hcs : (nfP s).1 with
    | nil => exact absurd hcs hc
    | cons c cs =>
      cases hls : (nfP s).2.1 with
      | nil =>
        have := hk.len
        rw [hcs, hls] at this
        simp at this
      | cons l ls =>
        rw [hcs, hls, valsV] at hm
        have := hm 0 (by simp)
        unfold holdP
        rw [hcs, hls]
        rw [show d + ((0 : Nat) : Int) = d by omega] at this
        rw [this]
        simp
def valsR (b : Int → Bool) (l : List PS) : List Bool := l.flatMap fun s => valsP b (nfP s)
theorem rowsP_len (s : PS) : (rowsP s).length = s.1.length := rowsF_len _ _ _
set_option maxRecDepth 20000 in
theorem valsP_len (b : Int → Bool) {s : PS} {n : Int} (h : checkS s.1 s.2.1 s.2.2 n = 0) : (valsP b (nfP s)).length = totF (rowsP (nfP s)) := by
  have hk := norm_ok h
  change NOK (nfP s).1 (nfP s).2.1 (nfP s).2.2 at hk
  exact valsV_len b _ _ _ _ hk.len (rowsP_len _).symm
theorem modT_run (b : Int → Bool) {n : Int} : ∀ (l : List PS) (N : Int) (T : List (List Int)) (r : Int × List (List Int)), (∀ s, s ∈ l → checkS s.1 s.2.1 s.2.2 n = 0) → 0 ≤ N → runE l N T = some r →
    (modT b r.2 ↔ modT b T ∧ (∀ s, s ∈ l → holdP b s) ∧ matchV b (N + 1) (valsR b l)) ∧ r.1 = N + (valsR b l).length ∧ (l ≠ [] → r.1 ≤ 128)
  | [], N, T, r, _, _, h => by
    simp only [runE, Option.some.injEq] at h
    subst h
    refine ⟨⟨fun hm => ⟨hm, by simp, fun j hj => by simp [valsR] at hj⟩, fun hm => hm.1⟩, by simp [valsR], fun h => absurd rfl h⟩
  | s :: l, N, T, r, hc, hN, h => by
    have hs := hc s List.mem_cons_self
    rw [runE_cons] at h
    by_cases h1 : 128 < N + totF (rowsP (nfP s))
    · rw [if_pos h1] at h; cases h
    rw [if_neg h1] at h
    by_cases h2 : 4096 < (oneP T (nfP s) (N + 1)).length
    · rw [if_pos h2] at h; cases h
    rw [if_neg h2] at h
    have ih := modT_run b l _ _ r (fun x hx => hc x (List.mem_cons_of_mem _ hx)) (by omega) h
    have hl := valsP_len b hs
    refine ⟨?_, ?_, fun _ => ?_⟩
    · rw [ih.1, modT_one b hs (N + 1) T (by omega) (by omega), norm_sem b hs, show valsR b (s :: l) = valsP b (nfP s) ++ valsR b l from rfl, matchV_app, hl, show N + 1 + ((totF (rowsP (nfP s)) : Nat) : Int) = N + (totF (rowsP (nfP s)) : Nat) + 1 by omega]
      constructor
      · rintro ⟨⟨a1, a2, a3⟩, a4, a5⟩
        refine ⟨a1, fun x hx => ?_, a3, a5⟩
        rcases List.mem_cons.1 hx with rfl | hx
        · exact a2
        · exact a4 x hx
      · rintro ⟨a1, a2, a3, a5⟩
        exact ⟨⟨a1, a2 s List.mem_cons_self, a3⟩, fun x hx => a2 x (List.mem_cons_of_mem _ hx), a5⟩
    · rw [ih.2.1, show valsR b (s :: l) = valsP b (nfP s) ++ valsR b l from rfl, List.length_append, hl]
      omega
    · cases l with
      | nil =>
        simp only [runE, Option.some.injEq] at h
        subst h
        dsimp only
        omega
      | cons x l => exact ih.2.2 (by simp)
theorem litT_congr {b b' : Int → Bool} {n l : Int} (h : ∀ v, 1 ≤ v → v ≤ n → b v = b' v) (hl : l ≠ 0 ∧ -n ≤ l ∧ l ≤ n) : litT b l = litT b' l := by
  unfold litT
  split
  · exact h l (by omega) (by omega)
  · rw [h (-l) (by omega) (by omega)]
theorem valS_congr {b b' : Int → Bool} {n : Int} (h : ∀ v, 1 ≤ v → v ≤ n → b v = b' v) : ∀ (cs ls : List Int), (∀ l, l ∈ ls → l ≠ 0 ∧ -n ≤ l ∧ l ≤ n) → valS b cs ls = valS b' cs ls
  | [], _, _ => by simp [valS]
  | _ :: _, [], _ => by simp [valS]
  | c :: cs, l :: ls, hl => by
    rw [valS, valS, litT_congr h (hl l List.mem_cons_self), valS_congr h cs ls fun x hx => hl x (List.mem_cons_of_mem _ hx)]
theorem valsV_congr {b b' : Int → Bool} {n : Int} (h : ∀ v, 1 ≤ v → v ≤ n → b v = b' v) (least : Int) : ∀ (cs ls : List Int) (rows : List (List Int)), (∀ l, l ∈ ls → l ≠ 0 ∧ -n ≤ l ∧ l ≤ n) → valsV b least cs ls rows = valsV b' least cs ls rows
  | [], _, _, _ => by simp [valsV]
  | _ :: _, [], _, _ => by simp [valsV]
  | _ :: _, _ :: _, [], _ => by simp [valsV]
  | c :: cs, l :: ls, r :: rows, hl => by
    rw [valsV, valsV, valS_congr h _ _ hl, valsV_congr h least cs ls rows fun x hx => hl x (List.mem_cons_of_mem _ hx)]
theorem norm_litn {s : PS} {n : Int} (h : checkS s.1 s.2.1 s.2.2 n = 0) : ∀ l, l ∈ (nfP s).2.1 → l ≠ 0 ∧ -n ≤ l ∧ l ≤ n := by
  have hk := norm_again h
  generalize nfP s = q at *
  obtain ⟨h1, _⟩ := hk
  intro l hl
  exact (check_ok h1).2.2.2.1 l hl
theorem valsR_congr {b b' : Int → Bool} {n : Int} (h : ∀ v, 1 ≤ v → v ≤ n → b v = b' v) (l : List PS) (hc : ∀ s, s ∈ l → checkS s.1 s.2.1 s.2.2 n = 0) : valsR b l = valsR b' l := by
  have key : ∀ s, s ∈ l → valsP b (nfP s) = valsP b' (nfP s) := fun s hs => by
    have := norm_litn (hc s hs)
    unfold valsP
    exact valsV_congr h _ _ _ _ this
  unfold valsR
  clear hc
  induction l with
  | nil => rw [List.flatMap_nil, List.flatMap_nil]
  | cons s l ih =>
    rw [List.flatMap_cons, List.flatMap_cons, key s List.mem_cons_self, ih fun x hx => key x (List.mem_cons_of_mem _ hx)]
theorem holdP_congr {b b' : Int → Bool} {n : Int} (h : ∀ v, 1 ≤ v → v ≤ n → b v = b' v) {s : PS} (hs : checkS s.1 s.2.1 s.2.2 n = 0) : holdP b s ↔ holdP b' s := by
  unfold holdP
  rw [valS_congr h _ _ (check_ok hs).2.2.2.1]
/-- the one extension -/
def extB (b : Int → Bool) (n : Int) (l : List PS) (v : Int) : Bool := if v ≤ n then b v else (valsR b l).getD (v - n - 1).toNat false
/-- the theorem: where the encoding is true -/
theorem enc_mod {n : Int} {l : List PS} (h : (encR n l).1 = 0) (b : Int → Bool) : (modT b (encR n l).2.2 ↔ (∀ s, s ∈ l → holdP b s) ∧ ∀ v, n < v → v ≤ (encR n l).2.1 → b v = extB b n l v) ∧ (encR n l).2.1 = n + (valsR b l).length ∧ 0 ≤ n ∧ (encR n l).2.1 ≤ 128 := by
  obtain ⟨hn, hl, hc, he⟩ := enc_zero h
  rw [he] at h ⊢
  cases hr : runE l n [] with
  | none => rw [hr] at h; simp [finE] at h
  | some r =>
    have hm := modT_run b l n [] r hc hn.1 hr
    show (modT b r.2 ↔ _ ∧ ∀ v, n < v → v ≤ r.1 → _) ∧ r.1 = _ ∧ _ ∧ r.1 ≤ 128
    refine ⟨?_, hm.2.1, hn.1, ?_⟩
    · rw [hm.1]
      have e : matchV b (n + 1) (valsR b l) ↔ ∀ v, n < v → v ≤ r.1 → b v = extB b n l v := by
        rw [hm.2.1]
        unfold matchV extB
        constructor
        · intro h v h1 h2
          rw [if_neg (by omega), ← h (v - n - 1).toNat (by omega)]
          congr 1
          omega
        · intro h j hj
          rw [h (n + 1 + j) (by omega) (by omega), if_neg (by omega)]
          congr 1
          omega
      rw [e]
      exact ⟨fun h => h.2, fun h => ⟨modT_nil b, h⟩⟩
    · cases l with
      | nil =>
        simp only [runE, Option.some.injEq] at hr
        subst hr
        exact hn.2
      | cons s l => exact hm.2.2 (by simp)
/-- the extension is a model if all sums are true -/
theorem enc_ext {n : Int} {l : List PS} (h : (encR n l).1 = 0) (b : Int → Bool) (hh : ∀ s, s ∈ l → holdP b s) : modT (extB b n l) (encR n l).2.2 := by
  obtain ⟨hn, hl, hc, he⟩ := enc_zero h
  have hag : ∀ v, 1 ≤ v → v ≤ n → extB b n l v = b v := fun v _ h2 => if_pos h2
  rw [(enc_mod h (extB b n l)).1]
  refine ⟨fun s hs => (holdP_congr hag (hc s hs)).2 (hh s hs), fun v h1 h2 => ?_⟩
  show extB b n l v = extB (extB b n l) n l v
  unfold extB
  rw [if_neg (by omega), if_neg (by omega)]
  rw [show valsR (fun v => if v ≤ n then b v else (valsR b l).getD (v - n - 1).toNat false) l = valsR b l from valsR_congr hag l hc]
/-- a clause under what is known: open literals, the last of them, is one true -/
def scS (k : Int → Int) (s : Int × Int × Bool) (l : Int) : Int × Int × Bool :=
  if k (absI l) = 0 then (s.1 + 1, l, s.2.2) else if decide (0 < k (absI l)) = decide (0 < l) then (s.1, s.2.1, true) else s
def scan (k : Int → Int) (c : List Int) : Int × Int × Bool := c.foldl (scS k) (0, 0, false)
theorem scan_snoc (k : Int → Int) (c : List Int) (l : Int) : scan k (c ++ [l]) = scS k (scan k c) l := by unfold scan; rw [List.foldl_append]; rfl
/-- what a scan says -/
structure ScOk (k : Int → Int) (c : List Int) (s : Int × Int × Bool) : Prop where
  nn : 0 ≤ s.1 ∧ s.1 ≤ c.length
  yes : s.2.2 = true ↔ ∃ l, l ∈ c ∧ k (absI l) ≠ 0 ∧ decide (0 < k (absI l)) = decide (0 < l)
  zero : s.1 = 0 ↔ ∀ l, l ∈ c → k (absI l) ≠ 0
  last : 1 ≤ s.1 → s.2.1 ∈ c ∧ k (absI s.2.1) = 0
  one : s.1 = 1 → ∀ l, l ∈ c → k (absI l) = 0 → l = s.2.1
theorem ScOk.nil (k : Int → Int) : ScOk k [] (0, 0, false) := ⟨by simp, by simp, by simp, by simp, by simp⟩
theorem ScOk.snoc {k : Int → Int} {c : List Int} {s : Int × Int × Bool} (h : ScOk k c s) (l : Int) : ScOk k (c ++ [l]) (scS k s l) := by
  obtain ⟨h1, h2, h3, h4, h5⟩ := h
  have mem : ∀ x, x ∈ c ++ [l] ↔ x ∈ c ∨ x = l := fun x => by simp
  unfold scS
  by_cases hk : k (absI l) = 0
  · rw [if_pos hk]
    refine ⟨by simp only [List.length_append, List.length_singleton]; omega, ?_, ?_, ?_, ?_⟩
    · rw [h2]
      constructor
      · rintro ⟨x, hx, hy⟩; exact ⟨x, (mem x).2 (.inl hx), hy⟩
      · rintro ⟨x, hx, hy⟩
        rcases (mem x).1 hx with hx | rfl
        · exact ⟨x, hx, hy⟩
        · exact absurd hk hy.1
    · constructor
      · intro h; dsimp only at h; omega
      · intro h; exact absurd hk (h l ((mem l).2 (.inr rfl)))
    · intro _; exact ⟨(mem l).2 (.inr rfl), hk⟩
    · intro h x hx hz
      dsimp only at h
      rcases (mem x).1 hx with hx | rfl
      · exact absurd hz (h3.1 (by omega) x hx)
      · rfl
  · rw [if_neg hk]
    have zero' : s.1 = 0 ↔ ∀ x, x ∈ c ++ [l] → k (absI x) ≠ 0 := by
      rw [h3]
      constructor
      · intro h x hx
        rcases (mem x).1 hx with hx | rfl
        · exact h x hx
        · exact hk
      · intro h x hx; exact h x ((mem x).2 (.inl hx))
    have last' : 1 ≤ s.1 → s.2.1 ∈ c ++ [l] ∧ k (absI s.2.1) = 0 := fun h => ⟨(mem _).2 (.inl (h4 h).1), (h4 h).2⟩
    have one' : s.1 = 1 → ∀ x, x ∈ c ++ [l] → k (absI x) = 0 → x = s.2.1 := fun h x hx hz => by
      rcases (mem x).1 hx with hx | rfl
      · exact h5 h x hx hz
      · exact absurd hz hk
    have nn' : 0 ≤ s.1 ∧ s.1 ≤ ((c ++ [l]).length : Nat) := by simp only [List.length_append, List.length_singleton]; omega
    by_cases hm : decide (0 < k (absI l)) = decide (0 < l)
    · rw [if_pos hm]
      exact ⟨nn', ⟨fun _ => ⟨l, (mem l).2 (.inr rfl), hk, hm⟩, fun _ => rfl⟩, zero', last', one'⟩
    · rw [if_neg hm]
      refine ⟨nn', ?_, zero', last', one'⟩
      rw [h2]
      constructor
      · rintro ⟨x, hx, hy⟩; exact ⟨x, (mem x).2 (.inl hx), hy⟩
      · rintro ⟨x, hx, hy⟩
        rcases (mem x).1 hx with hx | rfl
        · exact ⟨x, hx, hy⟩
        · exact absurd hy.2 hm
theorem scan_ok (k : Int → Int) (c : List Int) : ScOk k c (scan k c) := by
  have key : ∀ (d e : List Int) (s : Int × Int × Bool), ScOk k d s → ScOk k (d ++ e) (e.foldl (scS k) s) := fun d e => by
    induction e generalizing d with
    | nil => intro s h; simpa using h
    | cons x e ih =>
      intro s h
      have := ih (d ++ [x]) _ (h.snoc x)
      rw [List.append_assoc] at this
      exact this
  exact key [] c _ (ScOk.nil k)
/-- nothing follows from it -/
def fixC (k : Int → Int) (c : List Int) : Prop := (scan k c).2.2 = true ∨ 1 < (scan k c).1
def fixT (k : Int → Int) (T : List (List Int)) : Prop := ∀ c, c ∈ T → fixC k c
def eK (k : Int → Int) (z : Int) : Prop := z = 1048576 ∨ z ≠ -1048576 ∧ k (absI z) ≠ 0 ∧ decide (0 < k (absI z)) = decide (0 < z)
theorem clF_sub {T : List (List Int)} {l c : List Int} (h : c ∈ T) : c ∈ clF T l := by
  unfold clF
  split
  · exact h
  · exact List.mem_append_left _ h
theorem stepP_sub {T : List (List Int)} {v d h low : Int} {c : List Int} (hc : c ∈ T) : c ∈ stepP T v d h low := clF_sub (clF_sub (clF_sub (clF_sub hc)))
theorem rowF_sub {least v c : Int} {nx : Int → Option Int} {x : List Int} : ∀ (row : List Int) (d : Int) (T : List (List Int)), x ∈ T → x ∈ rowF least v c nx row d T
  | [], _, _, h => h
  | p :: row, d, T, h => rowF_sub row (d + 1) _ (stepP_sub h)
theorem sumsF_sub {least : Int} {x : List Int} : ∀ (cs ls : List Int) (rows : List (List Int)) (d : Int) (T : List (List Int)), x ∈ T → x ∈ sumsF least cs ls rows d T
  | [], _, _, _, T, h => by simpa [sumsF] using h
  | _ :: _, [], _, _, T, h => by simpa [sumsF] using h
  | _ :: _, _ :: _, [], _, T, h => by simpa [sumsF] using h
  | c :: cs, l :: ls, r :: rows, d, T, h => by
    rw [sumsF]
    exact sumsF_sub cs ls rows _ _ (rowF_sub r d T h)
theorem oneF_sub {T : List (List Int)} {cs ls : List Int} {least : Int} {rows : List (List Int)} {d : Int} {x : List Int} (h : x ∈ T) : x ∈ oneF T cs ls least rows d := by
  unfold oneF
  split
  · split
    · exact List.mem_append_left _ h
    · exact h
  · exact sumsF_sub _ _ _ _ _ (List.mem_append_left _ h)
theorem runE_sub {x : List Int} : ∀ (l : List PS) (N : Int) (T : List (List Int)) (r : Int × List (List Int)), runE l N T = some r → x ∈ T → x ∈ r.2
  | [], N, T, r, h, hx => by
    simp only [runE, Option.some.injEq] at h
    subst h
    exact hx
  | s :: l, N, T, r, h, hx => by
    rw [runE_cons] at h
    by_cases h1 : 128 < N + totF (rowsP (nfP s))
    · rw [if_pos h1] at h; cases h
    rw [if_neg h1] at h
    by_cases h2 : 4096 < (oneP T (nfP s) (N + 1)).length
    · rw [if_pos h2] at h; cases h
    rw [if_neg h2] at h
    exact runE_sub l _ _ r h (oneF_sub hx)
/-- a clause of a false and an open literal and an element that is known: the element is true -/
theorem fix_one {k : Int → Int} {T : List (List Int)} {x y z : Int} (hx : x ≠ 1048576 ∧ x ≠ -1048576) (hy : y ≠ 1048576 ∧ y ≠ -1048576) (hkx : k (absI x) ≠ 0) (hfx : ¬ decide (0 < k (absI x)) = decide (0 < x)) (hky : k (absI y) = 0)
    (hz : z = 1048576 ∨ z = -1048576 ∨ k (absI z) ≠ 0) (h : fixT k (clF T [x, y, z])) : eK k z := by
  by_cases h1 : z = 1048576
  · exact .inl h1
  have hk : ¬ (1048576 : Int) ∈ [x, y, z] := by
    simp only [List.mem_cons, List.not_mem_nil, or_false]
    omega
  unfold clF at h
  rw [if_neg hk] at h
  have hf := h _ (List.mem_append_right _ List.mem_cons_self)
  have hs := scan_ok k (keepF [x, y, z])
  unfold fixC at hf
  by_cases h2 : z = -1048576
  · have e : keepF [x, y, z] = [x, y] := by
      unfold keepF
      have a1 : (!decide (x = -1048576)) = true := by simpa using hx.2
      have a2 : (!decide (y = -1048576)) = true := by simpa using hy.2
      have a3 : (!decide (z = -1048576)) = false := by simpa using h2
      rw [List.filter_cons, a1, List.filter_cons, a2, List.filter_cons, a3]
      rfl
    rw [e] at hf hs
    exfalso
    have e1 : scan k [x, y] = (1, y, false) := by
      show scS k (scS k (0, 0, false) x) y = _
      unfold scS
      rw [if_neg hkx, if_neg hfx, if_pos hky]
      rfl
    rw [e1] at hf
    rcases hf with hf | hf
    · cases hf
    · exact absurd hf (by show ¬ (1 : Int) < 1; omega)
  · have hkz : k (absI z) ≠ 0 := by
      rcases hz with hz | hz | hz
      · exact absurd hz h1
      · exact absurd hz h2
      · exact hz
    have e : keepF [x, y, z] = [x, y, z] := by
      unfold keepF
      have a1 : (!decide (x = -1048576)) = true := by simpa using hx.2
      have a2 : (!decide (y = -1048576)) = true := by simpa using hy.2
      have a3 : (!decide (z = -1048576)) = true := by simpa using h2
      rw [List.filter_cons, a1, List.filter_cons, a2, List.filter_cons, a3]
      rfl
    rw [e] at hf
    by_cases hm : decide (0 < k (absI z)) = decide (0 < z)
    · exact .inr ⟨h2, hkz, hm⟩
    exfalso
    have e1 : scan k [x, y, z] = (1, y, false) := by
      show scS k (scS k (scS k (0, 0, false) x) y) z = _
      unfold scS
      rw [if_neg hkx, if_neg hfx, if_pos hky, if_neg hkz, if_neg hm]
      rfl
    rw [e1] at hf
    rcases hf with hf | hf
    · cases hf
    · exact absurd hf (by show ¬ (1 : Int) < 1; omega)
theorem absI_neg (x : Int) : absI (-x) = absI x := by unfold absI; omega
theorem absI_pos {x : Int} (h : 0 ≤ x) : absI x = x := by unfold absI; omega
theorem dec_neg {a x : Int} (hx : x ≠ 0) : decide (0 < a) = decide (0 < x) ↔ ¬ decide (0 < a) = decide (0 < -x) := by
  by_cases h1 : 0 < a <;> by_cases h2 : 0 < x <;> by_cases h3 : 0 < -x <;> simp [h1, h2, h3] <;> omega
theorem eK_two {k : Int → Int} {z : Int} (hz : z ≠ 0) (h1 : eK k z) (h2 : eK k (-z)) : False := by
  unfold eK at h1 h2
  rw [absI_neg] at h2
  rcases h1 with h1 | ⟨a1, a2, a3⟩
  · rcases h2 with h2 | ⟨b1, b2, b3⟩
    · omega
    · omega
  · rcases h2 with h2 | ⟨b1, b2, b3⟩
    · omega
    · exact (dec_neg hz).1 a3 b3
theorem fix_cl {k : Int → Int} {T : List (List Int)} {l : List Int} (h : fixT k (clF T l)) : fixT k T := fun c hc => h c (clF_sub hc)
theorem step_known {k : Int → Int} {T : List (List Int)} {v d h low : Int} (hv : v ≠ 0 ∧ -1000 ≤ v ∧ v ≤ 1000) (hd : 1 ≤ d ∧ d ≤ 1000) (hkv : k (absI v) ≠ 0) (hh : h = 1048576 ∨ h = -1048576 ∨ 1 ≤ h ∧ k h ≠ 0) (hl : low = 1048576 ∨ low = -1048576 ∨ 1 ≤ low ∧ k low ≠ 0) (hf : fixT k (stepP T v d h low)) : k d ≠ 0 := by
  intro hkd
  have hd1 : k (absI d) = 0 := by rw [absI_pos (by omega)]; exact hkd
  have hd2 : k (absI (-d)) = 0 := by rw [absI_neg]; exact hd1
  have kn : ∀ z, (z = 1048576 ∨ z = -1048576 ∨ 1 ≤ z ∧ k z ≠ 0) → (z = 1048576 ∨ z = -1048576 ∨ k (absI z) ≠ 0) ∧ (-z = 1048576 ∨ -z = -1048576 ∨ k (absI (-z)) ≠ 0) ∧ z ≠ 0 := fun z hz => by
    rw [absI_neg]
    rcases hz with hz | hz | ⟨h1, h2⟩
    · omega
    · omega
    · rw [absI_pos (by omega)]
      exact ⟨.inr (.inr h2), .inr (.inr h2), by omega⟩
  unfold stepP at hf
  have hf3 := fix_cl hf
  have hf2 := fix_cl hf3
  have hf1 := fix_cl hf2
  by_cases hm : decide (0 < k (absI v)) = decide (0 < v)
  · have hm2 := (dec_neg hv.1).1 hm
    rw [← absI_neg v] at hm2
    have hkv2 : k (absI (-v)) ≠ 0 := by rw [absI_neg]; exact hkv
    have a1 := fix_one (by omega) (by omega) hkv2 hm2 hd2 (kn h hh).1 hf1
    have a2 := fix_one (by omega) (by omega) hkv2 hm2 hd1 (kn h hh).2.1 hf3
    exact eK_two (kn h hh).2.2 a1 a2
  · have a1 := fix_one (by omega) (by omega) hkv hm hd2 (kn low hl).1 hf2
    have a2 := fix_one (by omega) (by omega) hkv hm hd1 (kn low hl).2.1 hf
    exact eK_two (kn low hl).2.2 a1 a2
theorem row_known {k : Int → Int} {least v c : Int} {nx : Int → Option Int} (hv : v ≠ 0 ∧ -1000 ≤ v ∧ v ≤ 1000) (hkv : k (absI v) ≠ 0) (hx : ∀ p e, nx p = some e → 1 ≤ e ∧ k e ≠ 0) : ∀ (row : List Int) (d : Int) (T : List (List Int)), 1 ≤ d → d + row.length ≤ 1001 → fixT k (rowF least v c nx row d T) → ∀ e, d ≤ e → e < d + row.length → k e ≠ 0
  | [], d, T, _, _, _, e, h1, h2 => by simp only [List.length_nil] at h2; omega
  | p :: row, d, T, h1, h2, hf, e, h3, h4 => by
    simp only [List.length_cons] at h2 h4
    have hb : ∀ q, becF least nx q = 1048576 ∨ becF least nx q = -1048576 ∨ 1 ≤ becF least nx q ∧ k (becF least nx q) ≠ 0 := fun q => by
      unfold becF
      cases hn : nx q with
      | some e => exact .inr (.inr (hx q e hn))
      | none =>
        dsimp only
        split
        · exact .inl rfl
        · exact .inr (.inl rfl)
    rw [rowF] at hf
    by_cases he : e = d
    · subst he
      exact step_known hv (by omega) hkv (hb (p + c)) (hb p) (T := T) (fun x hx => hf x (rowF_sub row _ _ hx))
    · exact row_known hv hkv hx row (d + 1) _ (by omega) (by omega) hf e (by omega) (by omega)
theorem sums_known {k : Int → Int} {least : Int} : ∀ (cs ls : List Int) (rows : List (List Int)) (d : Int) (T : List (List Int)), cs.length = ls.length → cs.length = rows.length → (∀ l, l ∈ ls → l ≠ 0 ∧ -1000 ≤ l ∧ l ≤ 1000 ∧ k (absI l) ≠ 0) → 1 ≤ d → d + totF rows ≤ 1001 → fixT k (sumsF least cs ls rows d T) → ∀ e, d ≤ e → e < d + totF rows → k e ≠ 0
  | [], ls, [], d, T, _, _, _, _, _, _, e, h1, h2 => by simp only [totF, List.map_nil, List.sum_nil] at h2; omega
  | [], _, _ :: _, _, _, _, h, _, _, _, _, _, _, _ => by simp at h
  | _ :: _, [], _, _, _, h, _, _, _, _, _, _, _, _ => by simp at h
  | _ :: _, _ :: _, [], _, _, _, h, _, _, _, _, _, _, _ => by simp at h
  | c :: cs, l :: ls, r :: rows, d, T, h1, h2, hl, hd, ht, hf, e, h3, h4 => by
    rw [totF_cons] at ht h4
    rw [sumsF] at hf
    have ih := sums_known cs ls rows (d + r.length) _ (by simpa using h1) (by simpa using h2) (fun x hx => hl x (List.mem_cons_of_mem _ hx)) (by omega) (by omega) hf
    by_cases he : d + r.length ≤ e
    · exact ih e he (by omega)
    have hl0 := hl l List.mem_cons_self
    refine row_known ⟨hl0.1, hl0.2.1, hl0.2.2.1⟩ hl0.2.2.2 (fun p e he => ?_) r d T hd (by omega) (fun x hx => hf x (sumsF_sub _ _ _ _ _ hx)) e h3 (by omega)
    cases rows with
    | nil => simp [nxF] at he
    | cons r2 rows =>
      have hb := plc_bd _ _ _ _ he
      rw [totF_cons] at ht ih
      exact ⟨by omega, ih e (by omega) (by omega)⟩
set_option maxRecDepth 20000 in
theorem one_known {k : Int → Int} {s : PS} {n : Int} (h : checkS s.1 s.2.1 s.2.2 n = 0) (hk : ∀ v, 1 ≤ v → v ≤ n → k v ≠ 0) (d : Int) (T : List (List Int)) (hd : 1 ≤ d) (ht : d + totF (rowsP (nfP s)) ≤ 1001) (hf : fixT k (oneP T (nfP s) d)) : ∀ e, d ≤ e → e < d + totF (rowsP (nfP s)) → k e ≠ 0 := by
  have ho := norm_ok h
  change NOK (nfP s).1 (nfP s).2.1 (nfP s).2.2 at ho
  have hl := norm_litn h
  have hrl := rowsP_len (nfP s)
  have hn := (check_ok h).1
  unfold oneP oneF at hf
  generalize rowsP (nfP s) = rows at *
  by_cases hc : (nfP s).1.length = 0
  · have e : rows = [] := List.eq_nil_of_length_eq_zero (by omega)
    intro e h1 h2
    rw [‹rows = []›] at h2
    simp only [totF, List.map_nil, List.sum_nil] at h2
    omega
  · rw [if_neg hc] at hf
    exact sums_known _ _ rows d _ ho.len hrl.symm (fun l hm => by
      have h1 := hl l hm
      refine ⟨h1.1, by omega, by omega, hk _ ?_ ?_⟩ <;> (unfold absI; omega)) hd ht hf
theorem run_known {k : Int → Int} {n : Int} (hn : 0 ≤ n) (hk : ∀ v, 1 ≤ v → v ≤ n → k v ≠ 0) : ∀ (l : List PS) (N : Int) (T : List (List Int)) (r : Int × List (List Int)), (∀ s, s ∈ l → checkS s.1 s.2.1 s.2.2 n = 0) → 0 ≤ N → runE l N T = some r → fixT k r.2 → ∀ e, N < e → e ≤ r.1 → k e ≠ 0
  | [], N, T, r, _, _, h, _, e, h1, h2 => by
    simp only [runE, Option.some.injEq] at h
    subst h
    dsimp only at h2
    omega
  | s :: l, N, T, r, hc, hN, h, hf, e, h1, h2 => by
    rw [runE_cons] at h
    by_cases h3 : 128 < N + totF (rowsP (nfP s))
    · rw [if_pos h3] at h; cases h
    rw [if_neg h3] at h
    by_cases h4 : 4096 < (oneP T (nfP s) (N + 1)).length
    · rw [if_pos h4] at h; cases h
    rw [if_neg h4] at h
    by_cases he : e ≤ N + totF (rowsP (nfP s))
    · exact one_known (hc s List.mem_cons_self) hk (N + 1) T (by omega) (by omega) (fun x hx => hf x (runE_sub l _ _ r h hx)) e (by omega) (by omega)
    · exact run_known hn hk l _ _ r (fun x hx => hc x (List.mem_cons_of_mem _ hx)) (by omega) h hf e (by omega) h2
/-- what is known agrees with an assignment -/
def agreeK (k : Int → Int) (b : Int → Bool) (N : Int) : Prop := ∀ v, 1 ≤ v → v ≤ N → k v ≠ 0 → decide (0 < k v) = b v
theorem litT_k {b : Int → Bool} {l x : Int} (h : decide (0 < x) = b (absI l)) (hl : l ≠ 0) : litT b l = decide (decide (0 < x) = decide (0 < l)) := by
  unfold litT
  by_cases h1 : 0 < l
  · rw [if_pos h1]
    rw [absI_pos (by omega)] at h
    rw [← h, decide_eq_true h1]
    cases decide (0 < x) <;> rfl
  · rw [if_neg h1]
    rw [show absI l = -l by unfold absI; omega] at h
    rw [← h, decide_eq_false h1]
    cases decide (0 < x) <;> rfl
/-- a clause that is true in b: no conflict, and what follows is right -/
theorem scan_sound {k : Int → Int} {b : Int → Bool} {N : Int} {c : List Int} (ha : agreeK k b N) (hc : clT b c) (hv : ∀ l, l ∈ c → l ≠ 0 ∧ -N ≤ l ∧ l ≤ N) (hy : (scan k c).2.2 = false) : 1 ≤ (scan k c).1 ∧ ((scan k c).1 = 1 → litT b (scan k c).2.1 = true) := by
  have hs := scan_ok k c
  obtain ⟨l, hl, ht⟩ := hc
  have hl0 := hv l hl
  have hab : 1 ≤ absI l ∧ absI l ≤ N := by unfold absI; omega
  have hz : k (absI l) = 0 := Decidable.byContradiction fun hne => by
    have h1 := ha (absI l) hab.1 hab.2 hne
    have h2 := litT_k h1 hl0.1
    rw [ht] at h2
    have : (scan k c).2.2 = true := hs.yes.2 ⟨l, hl, hne, by simpa using h2.symm⟩
    rw [hy] at this
    cases this
  have h1 : 1 ≤ (scan k c).1 := by
    have := hs.nn
    have : (scan k c).1 ≠ 0 := fun h0 => hs.zero.1 h0 l hl hz
    omega
  exact ⟨h1, fun h => by rw [← hs.one h l hl hz]; exact ht⟩
/-- where nothing follows any more: all is known, the sums are true, and it is the extension -/
theorem prop_done {n : Int} {l : List PS} (h : (encR n l).1 = 0) {k : Int → Int} {b : Int → Bool} (hk : ∀ v, 1 ≤ v → v ≤ n → k v ≠ 0) (ha : agreeK k b n) (hf : fixT k (encR n l).2.2) (hv : OkT (encR n l).2.1 (encR n l).2.2) :
    (∀ s, s ∈ l → holdP b s) ∧ ∀ v, 1 ≤ v → v ≤ (encR n l).2.1 → k v ≠ 0 ∧ decide (0 < k v) = extB b n l v := by
  obtain ⟨hn, hl, hc, he⟩ := enc_zero h
  have hm := enc_mod h (fun v => decide (0 < k v))
  have hall : ∀ v, 1 ≤ v → v ≤ (encR n l).2.1 → k v ≠ 0 := fun v h1 h2 => by
    by_cases h3 : v ≤ n
    · exact hk v h1 h3
    rw [he] at hf h2 h
    cases hr : runE l n [] with
    | none => rw [hr] at h; simp [finE] at h
    | some r =>
      rw [hr] at hf h2
      exact run_known hn.1 hk l n [] r hc hn.1 hr hf v (by omega) h2
  have hmod : modT (fun v => decide (0 < k v)) (encR n l).2.2 := fun c hcm => by
    have hs := scan_ok k c
    have hfc := hf c hcm
    have hz : (scan k c).1 = 0 := hs.zero.2 fun x hx => by
      have hx0 := (hv c hcm).v x hx
      refine hall _ ?_ ?_ <;> (unfold absI; omega)
    rcases hfc with hy | hy
    · obtain ⟨x, hx, h1, h2⟩ := hs.yes.1 hy
      refine ⟨x, hx, ?_⟩
      rw [litT_k (x := k (absI x)) rfl ((hv c hcm).v x hx).1]
      exact decide_eq_true h2
    · omega
  have hag : ∀ v, 1 ≤ v → v ≤ n → decide (0 < k v) = b v := fun v h1 h2 => ha v h1 h2 (hk v h1 h2)
  have hm2 := hm.1.1 hmod
  refine ⟨fun s hs => (holdP_congr hag (hc s hs)).1 (hm2.1 s hs), fun v h1 h2 => ⟨hall v h1 h2, ?_⟩⟩
  by_cases h3 : v ≤ n
  · rw [hag v h1 h3]
    exact (if_pos h3).symm
  · rw [hm2.2 v (by omega) h2]
    unfold extB
    rw [if_neg h3, if_neg h3, valsR_congr hag l hc]
end Go.Proofs.Ytinpcimogojefaa
