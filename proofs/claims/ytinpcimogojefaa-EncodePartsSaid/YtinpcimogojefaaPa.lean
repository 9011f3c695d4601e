/- EncodeParts, plain: the encoding of parts, renumbered. -/
import Derived.Test.YtinpcimogojefaaKg
namespace Go.Proofs.Ytinpcimogojefaa
open Go Go.Cx Go.RowKit
set_option linter.unusedVariables false
set_option linter.unusedSimpArgs false
set_option maxHeartbeats 4000000
attribute [local irreducible] J JC thenK blockK loopK roundK drawK retK QW Qt pel List.set Calls
/-- a literal renumbered -/
def renI (n k x : Int) : Int := if n < x then x + k else if x < -n then x - k else x
def renT (n k : Int) (T : List (List Int)) : List (List Int) := T.map fun r => r.map (renI n k)
theorem renT_app (n k : Int) (a b : List (List Int)) : renT n k (a ++ b) = renT n k a ++ renT n k b := List.map_append
theorem renT_len (n k : Int) (a : List (List Int)) : (renT n k a).length = a.length := List.length_map _
/-- the same, but the two constants stay -/
def renC (n k x : Int) : Int := if x = 1048576 ∨ x = -1048576 then x else renI n k x
theorem renC_neg {n k x : Int} : renC n k (-x) = -(renC n k x) ∨ n < 0 := by
  unfold renC renI
  by_cases h0 : n < 0
  · exact .inr h0
  · left
    repeat' split
    all_goals omega
def okX (x : Int) : Prop := x = 1048576 ∨ x = -1048576 ∨ -1000 ≤ x ∧ x ≤ 1000
theorem clF_app (A T : List (List Int)) (l : List Int) : clF (A ++ T) l = A ++ clF T l := by
  unfold clF
  split
  · rfl
  · rw [List.append_assoc]
theorem renC_top {n k x : Int} (hk : 0 ≤ k ∧ k ≤ 1000) (h : okX x) : (1048576 = renC n k x ↔ 1048576 = x) ∧ (renC n k x = -1048576 ↔ x = -1048576) := by
  unfold okX at h
  unfold renC renI
  repeat' split
  all_goals omega
theorem keep_ren {n k : Int} (hk : 0 ≤ k ∧ k ≤ 1000) : ∀ l : List Int, (∀ x, x ∈ l → okX x) → (1048576 : Int) ∉ l → keepF (l.map (renC n k)) = (keepF l).map (renI n k)
  | [], _, _ => rfl
  | x :: l, h, h1 => by
    have ih := keep_ren (n := n) hk l (fun y hy => h y (List.mem_cons_of_mem _ hy)) (fun hm => h1 (List.mem_cons_of_mem _ hm))
    have hx := renC_top (n := n) hk (h x List.mem_cons_self)
    have hn : ¬ 1048576 = x := fun e => h1 (e ▸ List.mem_cons_self)
    unfold keepF at ih ⊢
    rw [List.map_cons]
    by_cases hb : x = -1048576
    · rw [List.filter_cons_of_neg (by simp [hx.2.2 hb]), List.filter_cons_of_neg (by simp [hb]), ih]
    · rw [List.filter_cons_of_pos (by simp only [Bool.not_eq_true', decide_eq_false_iff_not]; exact fun e => hb (hx.2.1 e)), List.filter_cons_of_pos (by simp [hb]), ih, List.map_cons]
      congr 1
      unfold renC
      rw [if_neg (by omega)]
theorem mem_ren {n k : Int} (hk : 0 ≤ k ∧ k ≤ 1000) : ∀ l : List Int, (∀ x, x ∈ l → okX x) → ((1048576 : Int) ∈ l.map (renC n k) ↔ (1048576 : Int) ∈ l)
  | [], _ => by simp
  | x :: l, h => by
    have ih := mem_ren (n := n) hk l (fun y hy => h y (List.mem_cons_of_mem _ hy))
    have hx := renC_top (n := n) hk (h x List.mem_cons_self)
    rw [List.map_cons, List.mem_cons, List.mem_cons, ih, hx.1]
theorem clF_ren {n k : Int} (hk : 0 ≤ k ∧ k ≤ 1000) (A T : List (List Int)) (l : List Int) (h : ∀ x, x ∈ l → okX x) : clF (A ++ renT n k T) (l.map (renC n k)) = A ++ renT n k (clF T l) := by
  rw [clF_app]
  congr 1
  unfold clF
  by_cases hm : (1048576 : Int) ∈ l
  · rw [if_pos hm, if_pos ((mem_ren hk l h).2 hm)]
  · rw [if_neg hm, if_neg (fun e => hm ((mem_ren hk l h).1 e)), renT_app, keep_ren hk l h hm]
    rfl
theorem okX_neg {x : Int} (h : okX x) : okX (-x) := by unfold okX at *; omega
theorem stepP_ren {n k : Int} (hn : 0 ≤ n) (hk : 0 ≤ k ∧ k ≤ 1000) (A T : List (List Int)) (v d hh low : Int) (hv : -n ≤ v ∧ v ≤ n ∧ n ≤ 128) (hd : n < d ∧ d ≤ 1000) (h1 : okX hh) (h2 : okX low) : stepP (A ++ renT n k T) v (d + k) (renC n k hh) (renC n k low) = A ++ renT n k (stepP T v d hh low) := by
  have e1 : renC n k v = v := by unfold renC renI; repeat' split
                                 all_goals omega
  have e2 : renC n k (-v) = -v := by unfold renC renI; repeat' split
                                     all_goals omega
  have e3 : renC n k d = d + k := by unfold renC renI; repeat' split
                                     all_goals omega
  have e4 : renC n k (-d) = -(d + k) := by unfold renC renI; repeat' split
                                           all_goals omega
  have e5 : renC n k (-hh) = -(renC n k hh) := renC_neg.resolve_right (by omega)
  have e6 : renC n k (-low) = -(renC n k low) := renC_neg.resolve_right (by omega)
  have ov : okX v ∧ okX (-v) ∧ okX d ∧ okX (-d) := by unfold okX; omega
  have o3 : ∀ a b c : Int, okX a → okX b → okX c → ∀ x, x ∈ [a, b, c] → okX x := fun a b c ha hb hc x hx => by
    simp only [List.mem_cons, List.not_mem_nil, or_false] at hx
    rcases hx with rfl | rfl | rfl <;> assumption
  unfold stepP
  have f1 : [-v, -(d + k), renC n k hh] = [-v, -d, hh].map (renC n k) := by simp only [List.map_cons, List.map_nil, e2, e4]
  have f2 : [v, -(d + k), renC n k low] = [v, -d, low].map (renC n k) := by simp only [List.map_cons, List.map_nil, e1, e4]
  have f3 : [-v, d + k, -(renC n k hh)] = [-v, d, -hh].map (renC n k) := by simp only [List.map_cons, List.map_nil, e2, e3, e5]
  have f4 : [v, d + k, -(renC n k low)] = [v, d, -low].map (renC n k) := by simp only [List.map_cons, List.map_nil, e1, e3, e6]
  rw [f1, clF_ren hk _ _ _ (o3 _ _ _ ov.2.1 ov.2.2.2 h1), f2, clF_ren hk _ _ _ (o3 _ _ _ ov.1 ov.2.2.2 h2), f3, clF_ren hk _ _ _ (o3 _ _ _ ov.2.1 ov.2.2.1 (okX_neg h1)), f4, clF_ren hk _ _ _ (o3 _ _ _ ov.1 ov.2.2.1 (okX_neg h2))]
theorem plc_ren (k x : Int) : ∀ (a : List Int) (d : Int), plc a (d + k) x = (plc a d x).map (· + k)
  | [], _ => rfl
  | y :: a, d => by
    have ih := plc_ren k x a (d + 1)
    unfold plc
    split
    · rfl
    · rw [show d + k + 1 = d + 1 + k by omega, ih]
theorem nxF_ren (k : Int) (rows : List (List Int)) (d : Int) : nxF rows (d + k) = fun x => (nxF rows d x).map (· + k) := by
  cases rows with
  | nil => rfl
  | cons r rows => exact funext fun x => plc_ren k x r d
theorem becF_ren {n k least : Int} {nx : Int → Option Int} (h : ∀ p e, nx p = some e → n < e ∧ e ≤ 1000) (p : Int) : becF least (fun x => (nx x).map (· + k)) p = renC n k (becF least nx p) ∧ okX (becF least nx p) ∨ n < 0 := by
  by_cases h0 : n < 0
  · exact .inr h0
  left
  cases hn : nx p with
  | some e =>
    have := h p e hn
    have b1 : becF least nx p = e := by unfold becF; rw [hn]
    have b2 : becF least (fun x => (nx x).map (· + k)) p = e + k := by unfold becF; simp only [hn, Option.map]
    rw [b1, b2]
    refine ⟨?_, .inr (.inr (by omega))⟩
    unfold renC renI
    rw [if_neg (by omega), if_pos (by omega)]
  | none =>
    have b1 : becF least nx p = if least ≤ p then 1048576 else -1048576 := by unfold becF; rw [hn]
    have b2 : becF least (fun x => (nx x).map (· + k)) p = if least ≤ p then 1048576 else -1048576 := by unfold becF; simp only [hn, Option.map]
    rw [b1, b2]
    by_cases hp : least ≤ p
    · rw [if_pos hp]; exact ⟨by unfold renC; rw [if_pos (.inl rfl)], .inl rfl⟩
    · rw [if_neg hp]; exact ⟨by unfold renC; rw [if_pos (.inr rfl)], .inr (.inl rfl)⟩
theorem rowF_ren {n k least v c : Int} {nx : Int → Option Int} (hn : 0 ≤ n ∧ n ≤ 128) (hk : 0 ≤ k ∧ k ≤ 1000) (hv : -n ≤ v ∧ v ≤ n) (hx : ∀ p e, nx p = some e → n < e ∧ e ≤ 1000) (A : List (List Int)) : ∀ (row : List Int) (d : Int) (T : List (List Int)), n < d → d + row.length ≤ 1000 → rowF least v c (fun x => (nx x).map (· + k)) row (d + k) (A ++ renT n k T) = A ++ renT n k (rowF least v c nx row d T)
  | [], _, _, _, _ => rfl
  | p :: row, d, T, hd, hl => by
    simp only [List.length_cons] at hl
    have b1 := (becF_ren (k := k) (least := least) hx (p + c)).resolve_right (by omega)
    have b2 := (becF_ren (k := k) (least := least) hx p).resolve_right (by omega)
    rw [rowF, rowF, b1.1, b2.1, stepP_ren hn.1 hk A T v d _ _ ⟨hv.1, hv.2, hn.2⟩ (by omega) b1.2 b2.2, show d + k + 1 = d + 1 + k by omega]
    exact rowF_ren hn hk hv hx A row (d + 1) _ (by omega) (by omega)
theorem sumsF_ren {n k least : Int} (hn : 0 ≤ n ∧ n ≤ 128) (hk : 0 ≤ k ∧ k ≤ 1000) (A : List (List Int)) : ∀ (cs ls : List Int) (rows : List (List Int)) (d : Int) (T : List (List Int)), (∀ l, l ∈ ls → -n ≤ l ∧ l ≤ n) → n < d → d + totF rows ≤ 1000 → sumsF least cs ls rows (d + k) (A ++ renT n k T) = A ++ renT n k (sumsF least cs ls rows d T)
  | [], _, _, _, _, _, _, _ => by simp [sumsF]
  | _ :: _, [], _, _, _, _, _, _ => by simp [sumsF]
  | _ :: _, _ :: _, [], _, _, _, _, _ => by simp [sumsF]
  | c :: cs, l :: ls, r :: rows, d, T, hl, hd, ht => by
    rw [totF_cons] at ht
    have hx : ∀ p e, nxF rows (d + r.length) p = some e → n < e ∧ e ≤ 1000 := fun p e he => by
      cases rows with
      | nil => cases he
      | cons r2 rows =>
        have h1 := plc_bd _ _ _ _ he
        rw [totF_cons] at ht
        omega
    rw [sumsF, sumsF, show d + k + (r.length : Int) = d + r.length + k by omega, nxF_ren, rowF_ren hn hk (hl l List.mem_cons_self) hx A r d T hd (by omega)]
    exact sumsF_ren hn hk A cs ls rows _ _ (fun x hx => hl x (List.mem_cons_of_mem _ hx)) (by omega) (by omega)
theorem oneF_ren {n k least : Int} (hn : 0 ≤ n ∧ n ≤ 128) (hk : 0 ≤ k ∧ k ≤ 1000) (A T : List (List Int)) (cs ls : List Int) (rows : List (List Int)) (d : Int) (hl : ∀ l, l ∈ ls → -n ≤ l ∧ l ≤ n) (hd : n < d) (ht : d + totF rows ≤ 1000) : oneF (A ++ renT n k T) cs ls least rows (d + k) = A ++ renT n k (oneF T cs ls least rows d) := by
  unfold oneF
  by_cases h1 : cs.length = 0
  · rw [if_pos h1, if_pos h1]
    by_cases h2 : 0 < least
    · rw [if_pos h2, if_pos h2, renT_app, List.append_assoc]; rfl
    · rw [if_neg h2, if_neg h2]
  · rw [if_neg h1, if_neg h1]
    have e : A ++ renT n k T ++ [[d + k]] = A ++ renT n k (T ++ [[d]]) := by
      rw [renT_app, List.append_assoc]
      have : renT n k [[d]] = [[d + k]] := by
        show [[renI n k d]] = _
        unfold renI
        rw [if_pos hd]
      rw [this]
    rw [e]
    exact sumsF_ren hn hk A cs ls rows d _ hl hd ht
theorem runE_ren {n k : Int} (hn : 0 ≤ n ∧ n ≤ 128) (hk : 0 ≤ k ∧ k ≤ 1000) (A : List (List Int)) : ∀ (l : List PS) (N : Int) (T : List (List Int)) (r : Int × List (List Int)), (∀ s, s ∈ l → checkS s.1 s.2.1 s.2.2 n = 0) → n ≤ N → runE l (N + k) (A ++ renT n k T) = some r → ∃ q, runE l N T = some q ∧ r.1 = q.1 + k ∧ r.2 = A ++ renT n k q.2
  | [], N, T, r, _, _, e => by
    have e2 : some (N + k, A ++ renT n k T) = some r := e
    simp only [Option.some.injEq] at e2
    subst e2
    exact ⟨(N, T), rfl, rfl, rfl⟩
  | s :: l, N, T, r, h, hN, e => by
    have hl := norm_lits (h s List.mem_cons_self)
    have e := (runE_cons _ _ _ _).symm.trans e
    have g := runE_cons s l N T
    by_cases h1 : 128 < N + k + totF (rowsP (nfP s))
    · rw [if_pos h1] at e; cases e
    rw [if_neg h1] at e
    have ho : oneP (A ++ renT n k T) (nfP s) (N + k + 1) = A ++ renT n k (oneP T (nfP s) (N + 1)) := by
      unfold oneP
      rw [show N + k + 1 = N + 1 + k by omega]
      exact oneF_ren hn hk A T _ _ _ _ (fun x hx => by have := hl x hx; unfold absI at this; omega) (by omega) (by omega)
    rw [ho] at e
    by_cases h2 : 4096 < (A ++ renT n k (oneP T (nfP s) (N + 1))).length
    · rw [if_pos h2] at e; cases e
    rw [if_neg h2] at e
    rw [List.length_append, renT_len] at h2
    rw [show N + k + (totF (rowsP (nfP s)) : Int) = N + totF (rowsP (nfP s)) + k by omega] at e
    obtain ⟨q, g1, g2, g3⟩ := runE_ren hn hk A l _ _ r (fun x hx => h x (List.mem_cons_of_mem _ hx)) (by omega) e
    refine ⟨q, ?_, g2, g3⟩
    rw [g, if_neg (by omega), if_neg (by omega)]
    exact g1
theorem runE_app : ∀ (l m : List PS) (N : Int) (T : List (List Int)) (r : Int × List (List Int)), runE (l ++ m) N T = some r → ∃ q, runE l N T = some q ∧ runE m q.1 q.2 = some r
  | [], m, N, T, r, e => ⟨(N, T), rfl, e⟩
  | s :: l, m, N, T, r, e => by
    have e := (runE_cons _ _ _ _).symm.trans e
    have g := runE_cons s l N T
    by_cases h1 : 128 < N + totF (rowsP (nfP s))
    · rw [if_pos h1] at e; cases e
    rw [if_neg h1] at e g
    by_cases h2 : 4096 < (oneP T (nfP s) (N + 1)).length
    · rw [if_pos h2] at e; cases e
    rw [if_neg h2] at e g
    obtain ⟨q, g1, g2⟩ := runE_app l m _ _ r e
    exact ⟨q, g.trans g1, g2⟩
theorem encR_of {n : Int} {l : List PS} (hn : 0 ≤ n ∧ n ≤ 128) (hl : l.length ≤ 4096) (hc : ∀ s, s ∈ l → checkS s.1 s.2.1 s.2.2 n = 0) {r : Int × List (List Int)} (h : runE l n [] = some r) : encR n l = (0, r.1, r.2) := by
  unfold encR
  rw [if_neg (by omega), if_neg (by omega), if_neg (fun hb => hb (badE_zero hc)), h]
  rfl
structure PartsOk (n : Int) (E E1 E2 : Int × Int × List (List Int)) : Prop where
  n0 : 0 ≤ n ∧ n ≤ 128
  f : E1.1 = 0
  g : E2.1 = 0
  N : E.2.1 = E1.2.1 + E2.2.1 - n
  T : E.2.2 = E1.2.2 ++ renT n (E1.2.1 - n) E2.2.2
  lo1 : n ≤ E1.2.1
  hi1 : E1.2.1 ≤ 128
  lo2 : n ≤ E2.2.1
  hi2 : E2.2.1 ≤ 128
  t1 : OkT E1.2.1 E1.2.2
  t2 : OkT E2.2.1 E2.2.2
  l1 : E1.2.2.length ≤ 4096
  l2 : E2.2.2.length ≤ 4096
theorem parts_ok {n : Int} {l m : List PS} (h : (encR n (l ++ m)).1 = 0) : PartsOk n (encR n (l ++ m)) (encR n l) (encR n m) := by
  obtain ⟨hn, hl, hc, e⟩ := enc_zero h
  rw [e] at h
  cases hr : runE (l ++ m) n [] with
  | none => rw [hr] at h; cases h
  | some r =>
    rw [hr] at e
    obtain ⟨q, g1, g2⟩ := runE_app l m n [] r hr
    rw [List.length_append] at hl
    have e1 := encR_of (l := l) hn (by omega) (fun s hs => hc s (List.mem_append_left _ hs)) g1
    have v1 := valid_ok (n := n) (l := l) (by rw [e1])
    rw [e1] at v1
    have hq : q.1 = n + (q.1 - n) ∧ q.2 = q.2 ++ renT n (q.1 - n) [] := ⟨by omega, (List.append_nil _).symm⟩
    have v1lo := v1.lo
    have v1hi := v1.hi
    dsimp only at v1lo v1hi
    have g3 : runE m (n + (q.1 - n)) (q.2 ++ renT n (q.1 - n) []) = some r := by
      rw [← hq.1, ← hq.2]; exact g2
    obtain ⟨p, g4, g5, g6⟩ := runE_ren hn (by omega) q.2 m n [] r (fun s hs => hc s (List.mem_append_right _ hs)) (Int.le_refl _) g3
    have e2 := encR_of (l := m) hn (by omega) (fun s hs => hc s (List.mem_append_right _ hs)) g4
    have v2 := valid_ok (n := n) (l := m) (by rw [e2])
    rw [e2] at v2
    rw [e, e1, e2]
    exact ⟨hn, rfl, rfl, by show r.1 = _; dsimp only; omega, g6, v1.lo, v1.hi, v2.lo, v2.hi, v1.t, v2.t, v1.len, v2.len⟩
end Go.Proofs.Ytinpcimogojefaa
