/- Plain: reducing keeps the truth; a reduced net is valid, not greater, simple, its own reduced form. -/
import Derived.Test.YtncnpmgohhgmfaaDoorNt
namespace Go.Proofs.YtncnpmgohhgmfaaDoor
open Go Go.Cx Go.RowKit
set_option linter.unusedVariables false
set_option linter.unusedSimpArgs false
set_option maxHeartbeats 4000000
attribute [local irreducible] J JC thenK blockK loopK roundK drawK retK QW Qt pel List.set Calls
theorem gd_b (T : List Bool) (k : Nat) : T.getD k default = T.getD k false := rfl
theorem truS_congr (s : Nat × Nat) {T V : List Bool} {x : PN} (h : ∀ k, k ∈ x.2.2 → T.getD k.toNat default = V.getD k.toNat default) : truS s T x = truS s V x := by
  unfold truS
  rw [any_congr (p := fun k => !(T.getD k.toNat default)) (q := fun k => !(V.getD k.toNat default)) fun k hk => by rw [h k hk], any_congr (p := fun k => T.getD k.toNat default) (q := fun k => V.getD k.toNat default) fun k hk => by rw [h k hk]]
theorem truS_map (s : Nat × Nat) {T V : List Bool} {f : Int → Int} (a b : Int) (l : List Int) (h : ∀ k, k ∈ l → T.getD (f k).toNat default = V.getD k.toNat default) : truS s T (a, b, l.map f) = truS s V (a, b, l) := by
  unfold truS
  simp only [List.any_map]
  rw [any_congr (p := (fun k : Int => !(T.getD k.toNat default)) ∘ f) (q := fun k => !(V.getD k.toNat default)) fun k hk => by show (!_) = _; rw [h k hk], any_congr (p := (fun k : Int => T.getD k.toNat default) ∘ f) (q := fun k => V.getD k.toNat default) fun k hk => h k hk]
def val (s : Nat × Nat) (B : List PN) (i : Int) : Bool := (truT s B).getD i.toNat default
theorem val_app (s : Nat × Nat) (B : List PN) (x : PN) (i : Int) (h : i.toNat < B.length) : val s (B ++ [x]) i = val s B i := by
  unfold val; rw [truT_snoc, getD_app _ _ _ (by rw [truT_len]; exact h)]
theorem val_last (s : Nat × Nat) (B : List PN) (x : PN) : val s (B ++ [x]) B.length = truS s (truT s B) x := by
  unfold val; rw [truT_snoc, Int.toNat_natCast, ← truT_len s B, getD_last]
theorem val_take (s : Nat × Nat) (B : List PN) (k j : Nat) (h : j < k) (hk : k ≤ B.length) : (truT s (B.take k)).getD j default = (truT s B).getD j default := by
  have : ∀ d, k + d ≤ B.length → (truT s (B.take (k + d))).getD j default = (truT s (B.take k)).getD j default := fun d => by
    induction d with
    | zero => intro _; rfl
    | succ d ih =>
      intro hd
      rw [show k + (d + 1) = (k + d) + 1 by omega, take_g B (k + d) (by omega), truT_snoc, getD_app _ _ _ (by rw [truT_len, List.length_take]; omega)]
      exact ih (by omega)
  have h2 := this (B.length - k) (by omega)
  rw [show k + (B.length - k) = B.length by omega, List.take_length] at h2
  exact h2.symm
/-- each node's truth -/
theorem val_at (s : Nat × Nat) {B : List PN} (hB : Ord B) (i : Nat) (hi : i < B.length) : val s B i = truS s (truT s B) (B.getD i default) := by
  have h1 : val s B i = truS s (truT s (B.take i)) (B.getD i default) := by
    unfold val
    rw [Int.toNat_natCast, ← val_take s B (i + 1) i (by omega) (by omega), take_g B i hi, truT_snoc]
    exact getD_last2 _ _ _ (by rw [truT_len, List.length_take]; omega)
  rw [h1]
  refine truS_congr s fun k hk => ?_
  have := hB i k (by rw [inP_nat]; exact hk)
  exact val_take s B i k.toNat (by omega) (by omega)
theorem Ord.rng {B : List PN} (h : Ord B) (i : Nat) : ∀ k, k ∈ inP B i → k.toNat < i := fun k hk => by have := h i k hk; omega
/-- putting a node in -/
theorem val_put (s : Nat × Nat) {B : List PN} (hB : Ord B) (z : PN) : val s (putP B z).2 (putP B z).1 = truS s (truT s B) z ∧ ∀ i : Int, i.toNat < B.length → val s (putP B z).2 i = val s B i := by
  unfold putP
  by_cases hz : z ∈ B
  · rw [if_pos hz]
    have hb := idx_nat B z hz
    have hat := idxP_at z B 0 hz
    rw [Int.sub_zero] at hat
    refine ⟨?_, fun i _ => rfl⟩
    have := val_at s hB (idxP B z 0).toNat (by omega)
    rw [hat, show (((idxP B z 0).toNat : Nat) : Int) = idxP B z 0 by omega] at this
    exact this
  · rw [if_neg hz]
    exact ⟨val_last s B z, fun i hi => val_app s B z i hi⟩
/-- how a gate asks -/
def ask (kind : Int) (v : Bool) : Bool := if kind = 4 then v else !v
theorem truS_gate (s : Nat × Nat) (T : List Bool) {kind : Int} (lt : Int) (l : List Int) (hk : kind = 3 ∨ kind = 4) : truS s T (kind, lt, l) = ask kind (l.any fun k => ask kind (T.getD k.toNat default)) := by
  unfold truS ask
  rcases hk with rfl | rfl
  · rfl
  · rfl
theorem ask_ask (kind : Int) (v : Bool) : ask kind (ask kind v) = v := by unfold ask; split <;> simp
theorem any_mem {p : Int → Bool} {a b : List Int} (h : ∀ x, x ∈ a ↔ x ∈ b) : a.any p = b.any p := by
  rw [Bool.eq_iff_iff, List.any_eq_true, List.any_eq_true]
  exact ⟨fun ⟨x, h1, h2⟩ => ⟨x, (h x).1 h1, h2⟩, fun ⟨x, h1, h2⟩ => ⟨x, (h x).2 h1, h2⟩⟩
theorem any_flat (s : Nat × Nat) {B : List PN} (hB : Ord B) {kind : Int} (hk : kind = 3 ∨ kind = 4) : ∀ (l : List Int), (∀ i, i ∈ l → 0 ≤ i ∧ i < B.length) → (flatP B kind l).any (fun k => ask kind (val s B k)) = l.any (fun k => ask kind (val s B k))
  | [], _ => rfl
  | x :: l, h => by
    have ih := any_flat s hB hk l fun i hi => h i (List.mem_cons_of_mem _ hi)
    have hx := h x List.mem_cons_self
    unfold flatP at ih ⊢
    rw [List.flatMap_cons, List.any_append, List.any_cons, ih]
    congr 1
    split
    · rename_i hkx
      have h1 := val_at s hB x.toNat (by omega)
      rw [show ((x.toNat : Nat) : Int) = x by omega] at h1
      have h2 : B.getD x.toNat default = (kind, litP B x, inP B x) := by rw [← hkx]; rfl
      rw [h2, truS_gate s _ _ _ hk] at h1
      rw [h1, ask_ask]; rfl
    · rw [List.any_cons, List.any_nil, Bool.or_false]
theorem val_lit (s : Nat × Nat) {B : List PN} (hB : Ord B) (i : Int) (h : 0 ≤ i ∧ i < B.length) (hk : kindP B i = 2) : val s B i = decide (hasB s (absI (litP B i)) = decide (0 < litP B i)) := by
  have h1 := val_at s hB i.toNat (by omega)
  rw [show ((i.toNat : Nat) : Int) = i by omega] at h1
  have h2 : B.getD i.toNat default = (2, litP B i, inP B i) := by rw [← hk]; rfl
  rw [h1, h2]; rfl
theorem val_const (s : Nat × Nat) {B : List PN} (hB : Ord B) (i : Int) (h : 0 ≤ i ∧ i < B.length) (hk : kindP B i = 0 ∨ kindP B i = 1) : val s B i = decide (kindP B i = 1) := by
  have h1 := val_at s hB i.toNat (by omega)
  rw [show ((i.toNat : Nat) : Int) = i by omega] at h1
  have h2 : B.getD i.toNat default = (kindP B i, litP B i, inP B i) := rfl
  rw [h1, h2]
  rcases hk with e | e <;> rw [e] <;> rfl
theorem val_add (s : Nat × Nat) {N : Int} {B : List PN} (hB : Ord B) (ho : OkP B) {x : PN} (hf : formedP x N B.length = true) : val s (addP B x).2 (addP B x).1 = truS s (truT s B) x ∧ ∀ i : Int, i.toNat < B.length → val s (addP B x).2 i = val s B i := by
  have hr := formed_rng hf
  have hL := fun hk => formed_low hf hk
  obtain ⟨kind, lt, l⟩ := x
  simp only at hr hL
  by_cases hk : kind = 3 ∨ kind = 4
  case neg =>
    have := hL hk
    subst this
    rw [add_const (x := (kind, lt, [])) ⟨fun e => hk (.inl e), fun e => hk (.inr e)⟩]
    exact val_put s hB _
  have gi := gin ho kind hr
  have hfl := any_flat s hB hk l hr
  have hT : truS s (truT s B) (kind, lt, l) = ask kind (l.any fun k => ask kind (val s B k)) := truS_gate s _ _ _ hk
  rw [hT, add_doc hk, ← hfl]
  generalize inputsR B kind (dropK kind) l = D at gi
  have hdrop : ∀ i, i ∈ flatP B kind l → kindP B i = dropK kind → ask kind (val s B i) = false := fun i hi e => by
    have hri := flat_rng ho kind hr i hi
    rw [val_const s hB i hri (by rcases dropK_c kind with h | h <;> omega), e]
    unfold dropK ask
    split <;> rfl
  have hAD : (flatP B kind l).any (fun k => ask kind (val s B k)) = D.any (fun k => ask kind (val s B k)) := by
    rw [Bool.eq_iff_iff, List.any_eq_true, List.any_eq_true]
    constructor
    · rintro ⟨x, h1, h2⟩
      refine ⟨x, (gi.mem x).2 ⟨h1, fun e => ?_⟩, h2⟩
      rw [hdrop x h1 e] at h2; cases h2
    · rintro ⟨x, h1, h2⟩
      exact ⟨x, ((gi.mem x).1 h1).1, h2⟩
  rw [hAD]
  by_cases hd : decR B D (endK kind) = true
  · rw [if_pos hd]
    have hA : D.any (fun k => ask kind (val s B k)) = true := by
      rw [List.any_eq_true]
      obtain ⟨i, hi, h | ⟨q, hq, h1, h2, h3⟩⟩ := (dec_iff B D (endK kind)).1 hd
      · refine ⟨i, hi, ?_⟩
        rw [val_const s hB i (gi.rg i hi) (by rcases endK_c kind with h4 | h4 <;> omega), h]
        unfold endK ask
        split <;> rfl
      · have v1 := val_lit s hB i (gi.rg i hi) h1
        have v2 := val_lit s hB q (gi.rg q hq) h2
        have hz := lit_ne ho q h2
        rw [h3, absI_neg] at v1
        have hn : val s B i = !(val s B q) := by
          rw [v1, v2]
          rcases Int.lt_or_gt_of_ne hz with h | h
          · rw [decide_eq_true (show 0 < -(litP B q) by omega), decide_eq_false (show ¬ 0 < litP B q by omega)]
            cases hasB s (absI (litP B q)) <;> rfl
          · rw [decide_eq_false (show ¬ 0 < -(litP B q) by omega), decide_eq_true h]
            cases hasB s (absI (litP B q)) <;> rfl
        by_cases hv : ask kind (val s B i) = true
        · exact ⟨i, hi, hv⟩
        · refine ⟨q, hq, ?_⟩
          rw [hn] at hv
          unfold ask at hv ⊢
          split
          · rename_i h; rw [if_pos h] at hv; simpa using hv
          · rename_i h; rw [if_neg h] at hv; simpa using hv
    rw [hA]
    have := val_put s hB (endK kind, 0, [])
    refine ⟨this.1.trans ?_, this.2⟩
    unfold truS endK ask
    rcases hk with rfl | rfl <;> rfl
  rw [if_neg hd]
  rcases hD : D with _ | ⟨y, _ | ⟨z, t⟩⟩
  · have := val_put s hB (dropK kind, 0, [])
    refine ⟨this.1.trans ?_, this.2⟩
    unfold truS dropK ask
    rcases hk with rfl | rfl <;> rfl
  · refine ⟨?_, fun i _ => rfl⟩
    show val s B y = _
    rw [List.any_cons, List.any_nil, Bool.or_false, ask_ask]
  · show val s (putP B (kind, 0, sortS (y :: z :: t))).2 (putP B (kind, 0, sortS (y :: z :: t))).1 = _ ∧ ∀ i : Int, i.toNat < B.length → val s (putP B (kind, 0, sortS (y :: z :: t))).2 i = val s B i
    rw [← hD]
    have := val_put s hB (kind, 0, sortS D)
    refine ⟨this.1.trans ?_, this.2⟩
    rw [truS_gate s _ _ _ hk, any_mem fun x => (sortS_perm D).mem_iff]; rfl
/-- reducing node by node keeps the truth -/
theorem val_red (s : Nat × Nat) {N : Int} (hN : 0 ≤ N ∧ N ≤ 128) {X : List PN} (hf : formAll N X 0 = true) : ∀ k, k ≤ X.length → ∀ j, j < k → val s (redT (X.take k)).1 ((redT (X.take k)).2.getD j default) = (truT s X).getD j default := fun k => by
  induction k with
  | zero => intro _ j hj; omega
  | succ k ih =>
    intro hk j hj
    have h1 := ih (by omega)
    have h2 := formAll_at N X 0 hf k (by omega)
    have h3 := redI_all hN hf k (by omega)
    rw [Int.zero_add] at h2
    have h4 := h3.form h2
    have ha := val_add s h3.od h3.ok h4
    have hr := formed_rng h2
    have hnext : redT (X.take (k + 1)) = redS (redT (X.take k)) (X.getD k default) := by
      unfold redT; rw [take_g X k (by omega), List.foldl_append]; rfl
    rw [hnext]
    have hln := h3.ln
    show val s (addP (redT (X.take k)).1 (redY (redT (X.take k)).2 (X.getD k default))).2 (((redT (X.take k)).2 ++ [(addP (redT (X.take k)).1 (redY (redT (X.take k)).2 (X.getD k default))).1]).getD j default) = _
    by_cases e : j < k
    · have := h3.rg j e
      rw [getD_app _ _ _ (by omega), ha.2 _ (by omega)]
      exact h1 j e
    · have e : j = k := by omega
      subst e
      rw [getD_last2 _ _ _ hln, ha.1]
      have hX : (truT s X).getD j default = truS s (truT s (X.take j)) (X.getD j default) := by
        rw [← val_take s X (j + 1) j (by omega) hk, take_g X j (by omega), truT_snoc]
        exact getD_last2 _ _ _ (by rw [truT_len, List.length_take]; omega)
      rw [hX]
      have hv : ∀ k, k ∈ (X.getD j default).2.2 → val s (redT (X.take j)).1 ((redT (X.take j)).2.getD k.toNat default) = (truT s (X.take j)).getD k.toNat default := fun k hk => by
        have := hr k hk
        rw [h1 k.toNat (by omega), val_take s X j k.toNat (by omega) (by omega)]
      exact truS_map s _ _ _ hv
theorem val_net (s : Nat × Nat) {B : List PN} (hB : Ord B) {r : Nat} (hr : r < B.length) {U : List Bool} (m : Marks B r U) : ∀ n, n ≤ r + 1 → ∀ i, i < n → U.getD i false = true → val s (netTo B U n) (rk U i) = val s B i := fun n => by
  induction n with
  | zero => intro _ i hi; omega
  | succ n ih =>
    intro hn i hi hu
    have ih := ih (by omega)
    have hl := netTo_len B U n
    rw [netTo_succ]
    by_cases e : i < n
    · have := rk_lt e hu
      have := rk_le U i
      have h2 : val s (netTo B U n ++ if U.getD n false = true then [nodeN B U n] else []) (rk U i) = val s (netTo B U n) (rk U i) := by
        split
        · exact val_app s _ _ _ (by omega)
        · rw [List.append_nil]
      rw [h2]
      exact ih i e hu
    · have e : i = n := by omega
      subst e
      rw [hu, if_pos rfl, ← hl, val_last, val_at s hB i (by omega)]
      have hx : B.getD i default = (kindP B i, litP B i, inP B i) := by rw [kindP_nat, litP_nat, inP_nat]
      rw [hx]
      have hv : ∀ k, k ∈ inP B i → (truT s (netTo B U i)).getD (rk U k.toNat).toNat default = (truT s B).getD k.toNat default := fun k hk => by
        have := hB i k hk
        have h3 := ih k.toNat (by omega) (m.cl i (by omega) hu k hk)
        unfold val at h3
        rw [Int.toNat_natCast] at h3
        exact h3
      exact truS_map s _ _ _ hv
theorem formAll_of (N : Int) : ∀ (B : List PN) (k : Int), (∀ j : Nat, j < B.length → formedP (B.getD j default) N (k + j) = true) → formAll N B k = true
  | [], k, _ => rfl
  | x :: B, k, h => by
    unfold formAll
    rw [Bool.and_eq_true]
    refine ⟨?_, formAll_of N B (k + 1) fun j hj => ?_⟩
    · have := h 0 (by rw [List.length_cons]; omega)
      rw [Int.natCast_zero, Int.add_zero] at this
      exact this
    · have := h (j + 1) (by rw [List.length_cons]; omega)
      rw [show k + ((j + 1 : Nat) : Int) = k + 1 + (j : Int) by omega] at this
      exact this
/-- what a reduced net is -/
structure Red (s : Nat × Nat) (N : Int) (X Y : List PN) : Prop where
  ck : checkP N Y = true
  le : Y.length ≤ X.length
  sm : Simp N Y
  fu : Full Y
  ev : evalP s N Y = evalP s N X
  id : redP Y = Y
theorem red_all (s : Nat × Nat) {N : Int} {X : List PN} (h : checkP N X = true) : Red s N X (redP X) := by
  obtain ⟨hN, hM, hF⟩ := check_facts h
  have hs := red_simp hN hF X.length (Nat.le_refl _)
  have hi := redI_all hN hF X.length (Nat.le_refl _)
  have hv := val_red s hN hF X.length (Nat.le_refl _) (X.length - 1) (by omega)
  rw [List.take_length] at hs hi hv
  have hrg := hi.rg (X.length - 1) (by omega)
  have hr : ((redT X).2.getD (X.length - 1) default).toNat < (redT X).1.length := by omega
  have m := marks hs.ord ((redT X).2.getD (X.length - 1) default).toNat
  have hsn := net_simp hs hr m
  have hfn := net_full hs hr m
  have hle := hi.le
  have hll := net_last m
  have hrl := rk_le (markN (redT X).1 ((redT X).2.getD (X.length - 1) default).toNat (((redT X).2.getD (X.length - 1) default).toNat + 1)) ((redT X).2.getD (X.length - 1) default).toNat
  have hvn := val_net s hs.ord hr m _ (Nat.le_refl _) _ (Nat.lt_succ_self _) m.rt
  have e : redP X = netTo (redT X).1 (markN (redT X).1 ((redT X).2.getD (X.length - 1) default).toNat (((redT X).2.getD (X.length - 1) default).toNat + 1)) (((redT X).2.getD (X.length - 1) default).toNat + 1) := rfl
  rw [← e] at hsn hfn hll hvn
  have hck : checkP N (redP X) = true := by
    unfold checkP
    simp only [Bool.and_eq_true, decide_eq_true_eq]
    refine ⟨hN, ⟨hfn.ne, by omega⟩, formAll_of N _ 0 fun j hj => ?_⟩
    rw [Int.zero_add]; exact hsn.fm j hj
  refine ⟨hck, by omega, hsn, hfn, ?_, red_id hsn hfn⟩
  unfold evalP
  rw [hck, h, Bool.true_and, Bool.true_and, ← hv]
  rw [show (((redT X).2.getD (X.length - 1) default).toNat : Int) = (redT X).2.getD (X.length - 1) default by omega] at hvn
  rw [← hvn]
  unfold val
  congr 1
  omega
end Go.Proofs.YtncnpmgohhgmfaaDoor
