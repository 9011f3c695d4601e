/- TreeNets: part 8. -/
import Derived.Test.YtdiciemlbhkilaaGreatDoorNtG
namespace Go.Proofs.YtdiciemlbhkilaaGreatDoor
open Go Go.Cx Go.RowKit
set_option linter.unusedVariables false
set_option linter.unusedSimpArgs false
set_option maxHeartbeats 4000000
attribute [local irreducible] J JC thenK blockK loopK roundK drawK retK QW Qt pel List.set Calls
theorem foldV_pre (C : List PN) : ∀ T : List (Nat × Nat), ∃ T', C.foldl (fun T x => T ++ [varS T x]) T = T ++ T' := by
  induction C with
  | nil => exact fun T => ⟨[], by simp⟩
  | cons x C ih =>
    intro T
    obtain ⟨T', h⟩ := ih (T ++ [varS T x])
    exact ⟨[varS T x] ++ T', by rw [List.foldl_cons, h, List.append_assoc]⟩
theorem varT_pre (B C : List PN) : ∃ T', varT (B ++ C) = varT B ++ T' := by
  unfold varT; rw [List.foldl_append]; exact foldV_pre C _
theorem vd_app (B C : List PN) (i : Nat) (h : i < B.length) : (varT (B ++ C)).getD i default = (varT B).getD i default := by
  obtain ⟨T, e⟩ := varT_pre B C
  rw [e, getD_app _ _ _ (by rw [varT_len]; exact h)]
theorem has_varS (T : List (Nat × Nat)) (x : PN) (u : Int) : hasB (varS T x) u = true ↔ hasB (withS (0, 0) (varI x.2.1)) u = true ∨ ∃ k, k ∈ x.2.2 ∧ hasB (T.getD k.toNat default) u = true := has_fold T u _ _
def Oc (B : List PN) (i : Int) (u : Int) : Prop := hasB ((varT B).getD i.toNat default) u = true
theorem oc_app {B C : List PN} {i u : Int} (h : i.toNat < B.length) : Oc (B ++ C) i u ↔ Oc B i u := by unfold Oc; rw [vd_app _ _ _ h]
theorem oc_at {B : List PN} (hB : Ord B) (i : Int) (h0 : 0 ≤ i) (hi : i < B.length) (u : Int) : Oc B i u ↔ hasB (withS (0, 0) (varI (litP B i))) u = true ∨ ∃ k, k ∈ inP B i ∧ Oc B k u := by
  obtain ⟨j, rfl⟩ := Int.eq_ofNat_of_zero_le h0
  have hj : j < B.length := by omega
  have e1 : (varT B).getD j default = varS (varT (B.take j)) (B.getD j default) := by
    have e : B.take (j + 1) ++ B.drop (j + 1) = B := List.take_append_drop ..
    have h1 := vd_app (B.take (j + 1)) (B.drop (j + 1)) j (by rw [List.length_take]; omega)
    rw [e] at h1
    rw [h1, take_g B j hj, varT_snoc]
    exact getD_last2 _ _ _ (by rw [varT_len, List.length_take]; omega)
  have e2 : ∀ k, k < j → (varT B).getD k default = (varT (B.take j)).getD k default := fun k hk => by
    have e : B.take j ++ B.drop j = B := List.take_append_drop ..
    have h1 := vd_app (B.take j) (B.drop j) k (by rw [List.length_take]; omega)
    rw [e] at h1
    exact h1
  unfold Oc
  rw [Int.toNat_natCast, e1, has_varS, litP_nat, inP_nat]
  have hr := hB j
  rw [inP_nat] at hr
  constructor
  · rintro (h | ⟨k, hk, h⟩)
    · exact .inl h
    · have := hr k hk
      exact .inr ⟨k, hk, by rw [e2 _ (by omega)]; exact h⟩
  · rintro (h | ⟨k, hk, h⟩)
    · exact .inl h
    · have := hr k hk
      exact .inr ⟨k, hk, by rw [← e2 _ (by omega)]; exact h⟩
theorem oc_put {B : List PN} (hB : Ord B) (z : PN) (hz : ∀ k, k ∈ z.2.2 → 0 ≤ k ∧ k < B.length) (u : Int) : Oc (putP B z).2 (putP B z).1 u ↔ hasB (withS (0, 0) (varI z.2.1)) u = true ∨ ∃ k, k ∈ z.2.2 ∧ Oc B k u := by
  unfold putP
  by_cases hm : z ∈ B
  · rw [if_pos hm]
    have hb := idx_nat B z hm
    have hat := idxP_at z B 0 hm
    rw [Int.sub_zero] at hat
    have := oc_at hB (idxP B z 0) hb.1 hb.2 u
    unfold litP inP at this
    rw [hat] at this
    exact this
  · rw [if_neg hm]
    show Oc (B ++ [z]) (B.length : Int) u ↔ _
    unfold Oc
    rw [varT_snoc, Int.toNat_natCast, getD_last2 _ _ _ (varT_len B), has_varS]
theorem with_zero : withS (0, 0) (varI 0) = (0, 0) := by decide
theorem oc_none {l : Int} (h : l = 0) (u : Int) : ¬ hasB (withS (0, 0) (varI l)) u = true := by
  subst h; rw [with_zero, has_zero]; exact Bool.false_ne_true
theorem varI_abs {l : Int} (h : l ≠ 0 ∧ -128 ≤ l ∧ l ≤ 128) : varI l = absI l := by unfold varI absI; grind
theorem oc_lit {l : Int} (h : l ≠ 0 ∧ -128 ≤ l ∧ l ≤ 128) (u : Int) : hasB (withS (0, 0) (varI l)) u = true ↔ u = absI l := by
  have : 1 ≤ absI l ∧ absI l ≤ 128 := by unfold absI; omega
  rw [varI_abs h, has_with _ _ _ this, has_zero]
  constructor
  · rintro (h | h)
    · cases h
    · exact h
  · exact .inr
def Hd (B : List PN) (j l : Int) : Prop := (kindP B j = 2 ∧ litP B j = l) ∨ (kindP B j = 3 ∧ ∃ q, q ∈ inP B j ∧ kindP B q = 2 ∧ litP B q = l)
theorem Hd.app {B : List PN} (hB : Ord B) {j l : Int} (h : Hd B j l) (h0 : 0 ≤ j) (hj : j < B.length) (C : List PN) : Hd (B ++ C) j l := by
  unfold Hd
  rw [kindP_app _ _ _ (by omega), litP_app _ _ _ (by omega), inP_app _ _ _ (by omega)]
  rcases h with h | ⟨h, q, hq, h2⟩
  · exact .inl h
  · refine .inr ⟨h, q, hq, ?_⟩
    have := hB j.toNat q (by rw [show ((j.toNat : Nat) : Int) = j by omega]; exact hq)
    rw [kindP_app _ _ _ (by omega), litP_app _ _ _ (by omega)]
    exact h2
structure Dd (B : List PN) : Prop where
  dec : ∀ i : Nat, i < B.length → kindP B i = 3 → ∀ a, a ∈ inP B i → ∀ b, b ∈ inP B i → a ≠ b → ∀ u, Oc B a u → ¬ Oc B b u
  dci : ∀ i : Nat, i < B.length → kindP B i = 4 → ∃ j k l, inP B i = [j, k] ∧ l ≠ 0 ∧ Hd B j l ∧ Hd B k (-l)
theorem Dd.nil : Dd [] := ⟨fun i hi => absurd hi (Nat.not_lt_zero _), fun i hi => absurd hi (Nat.not_lt_zero _)⟩
theorem Dd.put {B : List PN} (hB : Ord B) (d : Dd B) {z : PN} (hz : ∀ k, k ∈ z.2.2 → 0 ≤ k ∧ k < B.length) (h3 : z.1 = 3 → ∀ a, a ∈ z.2.2 → ∀ b, b ∈ z.2.2 → a ≠ b → ∀ u, Oc B a u → ¬ Oc B b u) (h4 : z.1 = 4 → ∃ j k l, z.2.2 = [j, k] ∧ l ≠ 0 ∧ Hd B j l ∧ Hd B k (-l)) : Dd (putP B z).2 := by
  unfold putP
  by_cases hm : z ∈ B
  · rw [if_pos hm]; exact d
  rw [if_neg hm]
  have hlen : (B ++ [z]).length = B.length + 1 := by rw [List.length_append]; rfl
  have key : ∀ i : Nat, i < (B ++ [z]).length → (i < B.length ∧ kindP (B ++ [z]) i = kindP B i ∧ inP (B ++ [z]) i = inP B i ∧ ∀ k, k ∈ inP B i → 0 ≤ k ∧ k < B.length) ∨ (kindP (B ++ [z]) i = z.1 ∧ inP (B ++ [z]) i = z.2.2) := fun i hi => by
    by_cases hb : i < B.length
    · refine .inl ⟨hb, kindP_app _ _ _ (by omega), inP_app _ _ _ (by omega), fun k hk => ?_⟩
      have := hB i k hk
      omega
    · have e : i = B.length := by omega
      subst e
      refine .inr ⟨?_, ?_⟩
      · rw [kindP_nat, getD_last]
      · rw [inP_nat, getD_last]
  refine ⟨fun i hi hk a ha b hb hab u hu => ?_, fun i hi hk => ?_⟩
  · rcases key i hi with ⟨k1, k2, k3, k4⟩ | ⟨k1, k2⟩
    · rw [k3] at ha hb
      rw [k2] at hk
      have ra := k4 a ha
      have rb := k4 b hb
      rw [oc_app (by omega)] at hu ⊢
      exact d.dec i k1 hk a ha b hb hab u hu
    · rw [k2] at ha hb
      rw [k1] at hk
      have ra := hz a ha
      have rb := hz b hb
      rw [oc_app (by omega)] at hu ⊢
      exact h3 hk a ha b hb hab u hu
  · rcases key i hi with ⟨k1, k2, k3, k4⟩ | ⟨k1, k2⟩
    · rw [k2] at hk
      obtain ⟨j, k, l, e, l0, h1, h2⟩ := d.dci i k1 hk
      have rj := k4 j (by rw [e]; simp)
      have rk := k4 k (by rw [e]; simp)
      exact ⟨j, k, l, by rw [k3, e], l0, h1.app hB rj.1 rj.2 _, h2.app hB rk.1 rk.2 _⟩
    · rw [k1] at hk
      obtain ⟨j, k, l, e, l0, h1, h2⟩ := h4 hk
      have rj := hz j (by rw [e]; simp)
      have rk := hz k (by rw [e]; simp)
      exact ⟨j, k, l, by rw [k2, e], l0, h1.app hB rj.1 rj.2 _, h2.app hB rk.1 rk.2 _⟩
theorem gate_out {B : List PN} {kind lt : Int} {l : List Int} (hk : kind = 3 ∨ kind = 4) :
    addP B (kind, lt, l) = putP B (endK kind, 0, []) ∨ (inputsR B kind (dropK kind) l = [] ∧ addP B (kind, lt, l) = putP B (dropK kind, 0, [])) ∨ (∃ y, inputsR B kind (dropK kind) l = [y] ∧ addP B (kind, lt, l) = (y, B)) ∨ (2 ≤ (inputsR B kind (dropK kind) l).length ∧ addP B (kind, lt, l) = putP B (kind, 0, sortS (inputsR B kind (dropK kind) l))) := by
  rw [add_doc hk]
  by_cases hd : decR B (inputsR B kind (dropK kind) l) (endK kind) = true
  · rw [if_pos hd]; exact .inl rfl
  rw [if_neg hd]
  generalize inputsR B kind (dropK kind) l = D
  rcases D with _ | ⟨y, _ | ⟨z, t⟩⟩
  · exact .inr (.inl ⟨rfl, rfl⟩)
  · exact .inr (.inr (.inl ⟨y, rfl, rfl⟩))
  · exact .inr (.inr (.inr ⟨by simp only [List.length_cons]; omega, rfl⟩))
structure Bt (N : Int) (B : List PN) : Prop where
  sm : Simp N B
  ok : OkP B
  dd : Dd B
structure Add1 (N : Int) (B : List PN) (p : Int × List PN) : Prop where
  bt : Bt N p.2
  ex : ∃ C, p.2 = B ++ C
  le : p.2.length ≤ B.length + 1
  lo : 0 ≤ p.1
  hi : p.1 < p.2.length
  old : ∀ (s : Nat × Nat) (i : Int), i.toNat < B.length → valN s p.2 i = valN s B i
theorem put_ext (B : List PN) (z : PN) : ∃ C, (putP B z).2 = B ++ C := by
  unfold putP
  split
  · exact ⟨[], by rw [List.append_nil]⟩
  · exact ⟨[z], rfl⟩
theorem add_ext {B : List PN} (h : OkP B) {N : Int} (hN : 0 ≤ N ∧ N ≤ 128) {x : PN} (hf : formedP x N B.length = true) : ∃ C, (addP B x).2 = B ++ C := by
  rcases add_cases h hN hf with ⟨y, e, _⟩ | ⟨z, e, hz⟩
  · rw [e]; exact ⟨[], by rw [List.append_nil]⟩
  · rw [e]; exact put_ext B z
theorem add1 {N : Int} (hN : 0 ≤ N ∧ N ≤ 128) {B : List PN} (b : Bt N B) {x : PN} (hf : formedP x N B.length = true) (hd : Dd (addP B x).2) : Add1 N B (addP B x) := by
  have h := b.ok.add hN hf
  exact ⟨⟨add_simp b.sm b.ok hf, h.1, hd⟩, add_ext b.ok hN hf, h.2.2.1, h.2.2.2.1, h.2.2.2.2, fun s => (val_add s b.sm.ord b.ok hf).2⟩
theorem put_at (B : List PN) (z : PN) : kindP (putP B z).2 (putP B z).1 = z.1 ∧ litP (putP B z).2 (putP B z).1 = z.2.1 ∧ inP (putP B z).2 (putP B z).1 = z.2.2 := by
  have key : (putP B z).2.getD (putP B z).1.toNat default = z := by
    unfold putP
    by_cases hm : z ∈ B
    · rw [if_pos hm]
      have hat := idxP_at z B 0 hm
      rwa [Int.sub_zero] at hat
    · rw [if_neg hm]
      show (B ++ [z]).getD ((B.length : Int)).toNat default = z
      rw [Int.toNat_natCast, getD_last]
  unfold kindP litP inP
  rw [key]
  exact ⟨rfl, rfl, rfl⟩
theorem leaf_ok {N : Int} (hN : 0 ≤ N ∧ N ≤ 128) {B : List PN} (b : Bt N B) {k l : Int} (hk : k ≠ 3 ∧ k ≠ 4) (hf : formedP (k, l, []) N B.length = true) : Add1 N B (addP B (k, l, [])) ∧ kindP (addP B (k, l, [])).2 (addP B (k, l, [])).1 = k ∧ litP (addP B (k, l, [])).2 (addP B (k, l, [])).1 = l ∧ (∀ s, valN s (addP B (k, l, [])).2 (addP B (k, l, [])).1 = truS s (truT s B) (k, l, [])) ∧ ∀ u, Oc (addP B (k, l, [])).2 (addP B (k, l, [])).1 u ↔ hasB (withS (0, 0) (varI l)) u = true := by
  have hz : ∀ i : Int, i ∈ ([] : List Int) → 0 ≤ i ∧ i < B.length := fun i hi => absurd hi List.not_mem_nil
  have e : addP B (k, l, []) = putP B (k, l, []) := add_const (x := (k, l, [])) hk
  refine ⟨add1 hN b hf ?_, ?_, ?_, fun s => (val_add s b.sm.ord b.ok hf).1, fun u => ?_⟩
  · rw [e]; exact b.dd.put b.sm.ord hz (fun h => absurd h hk.1) (fun h => absurd h hk.2)
  · rw [e]; exact (put_at B _).1
  · rw [e]; exact (put_at B _).2.1
  · rw [e, oc_put b.sm.ord _ hz]
    constructor
    · rintro (h | ⟨q, hq, _⟩)
      · exact h
      · exact absurd hq List.not_mem_nil
    · exact .inl
theorem formed_l {N : Int} {v l bf : Int} (hv : 1 ≤ v ∧ v ≤ N) (hl : l = v ∨ l = -v) : formedP (2, l, []) N bf = true := by
  unfold formedP
  simp only [List.any_nil, Bool.not_false, Bool.true_and]
  rw [if_neg (by decide), if_pos trivial]
  unfold validB
  simp only [Bool.and_eq_true, decide_eq_true_eq]
  exact ⟨by omega, rfl⟩
theorem and_ok {N : Int} (hN : 0 ≤ N ∧ N ≤ 128) {B : List PN} (b : Bt N B) {v l low r : Int} (hv : 1 ≤ v ∧ v ≤ N) (hl : l = v ∨ l = -v) (h0 : 0 ≤ low ∧ low < B.length) (hr : 0 ≤ r ∧ r < B.length) (k0 : kindP B low = 2) (l0 : litP B low = l) (hf : ¬ Oc B r v) :
    Add1 N B (addP B (3, 0, [low, r])) ∧ (∀ s, valN s (addP B (3, 0, [low, r])).2 (addP B (3, 0, [low, r])).1 = (valN s B low && valN s B r)) ∧ (∀ u, Oc (addP B (3, 0, [low, r])).2 (addP B (3, 0, [low, r])).1 u → u = v ∨ Oc B r u) ∧ (kindP (addP B (3, 0, [low, r])).2 (addP B (3, 0, [low, r])).1 = 0 ∨ Hd (addP B (3, 0, [low, r])).2 (addP B (3, 0, [low, r])).1 l) := by
  have hl128 : l ≠ 0 ∧ -128 ≤ l ∧ l ≤ 128 := by omega
  have habs : absI l = v := by unfold absI; omega
  have hrg : ∀ i, i ∈ [low, r] → 0 ≤ i ∧ i < (B.length : Int) := fun i hi => by
    rcases List.mem_cons.1 hi with rfl | hi
    · exact h0
    · rw [List.mem_singleton.1 hi]; exact hr
  have hfm : formedP (3, 0, [low, r]) N B.length = true := formed_gate (.inl rfl) hrg
  have hB := b.sm.ord
  have gi := gin b.ok 3 hrg
  have hlowin : inP B low = [] := by
    have := formed_low (b.sm.fm low.toNat (by omega)) (by
      have e : (B.getD low.toNat default).1 = 2 := k0
      unfold isG; omega)
    exact this
  have hoclow : ∀ u, Oc B low u ↔ u = v := fun u => by
    rw [oc_at hB low h0.1 h0.2, l0, oc_lit hl128, habs, hlowin]
    constructor
    · rintro (h | ⟨k, hk, _⟩)
      · exact h
      · exact absurd hk List.not_mem_nil
    · exact .inl
  have hX : ∀ x, x ∈ flatP B 3 [low, r] → x = low ∨ (kindP B r = 3 ∧ x ∈ inP B r) ∨ x = r := fun x hx => by
    unfold flatP at hx
    rw [List.mem_flatMap] at hx
    obtain ⟨i, hi, hx⟩ := hx
    rcases List.mem_cons.1 hi with rfl | hi
    · rw [if_neg (by omega)] at hx
      exact .inl (List.mem_singleton.1 hx)
    · have hi := List.mem_singleton.1 hi
      subst hi
      split at hx
      · rename_i h; exact .inr (.inl ⟨h, hx⟩)
      · exact .inr (.inr (List.mem_singleton.1 hx))
  have hXo : ∀ x, x ∈ flatP B 3 [low, r] → x ≠ low → ∀ u, Oc B x u → Oc B r u := fun x hx hne u hu => by
    rcases hX x hx with h | ⟨_, h⟩ | h
    · exact absurd h hne
    · exact (oc_at hB r hr.1 hr.2 u).2 (.inr ⟨x, h, hu⟩)
    · rw [← h]; exact hu
  have hmem : ∀ x, x ∈ sortS (inputsR B 3 (dropK 3) [low, r]) ↔ x ∈ inputsR B 3 (dropK 3) [low, r] := fun x => (sortS_perm _).mem_iff
  have hlowD : low ∈ inputsR B 3 (dropK 3) [low, r] := by
    rw [gi.mem]
    refine ⟨?_, by rw [k0]; decide⟩
    unfold flatP
    rw [List.mem_flatMap]
    exact ⟨low, List.mem_cons_self, by rw [if_neg (by omega)]; exact List.mem_singleton.2 rfl⟩
  have hdec : ∀ a, a ∈ sortS (inputsR B 3 (dropK 3) [low, r]) → ∀ c, c ∈ sortS (inputsR B 3 (dropK 3) [low, r]) → a ≠ c → ∀ u, Oc B a u → ¬ Oc B c u := fun a ha c hc hac u hu hu2 => by
    have ha := ((gi.mem a).1 ((hmem a).1 ha)).1
    have hc := ((gi.mem c).1 ((hmem c).1 hc)).1
    by_cases e1 : a = low
    · have h2 := hXo c hc (fun e => hac (e1.trans e.symm)) u hu2
      rw [e1, hoclow] at hu
      rw [hu] at h2
      exact hf h2
    by_cases e2 : c = low
    · have h2 := hXo a ha e1 u hu
      rw [e2, hoclow] at hu2
      rw [hu2] at h2
      exact hf h2
    rcases hX a ha with h | ⟨h3, h⟩ | h
    · exact e1 h
    · rcases hX c hc with g | ⟨_, g⟩ | g
      · exact e2 g
      · have := b.dd.dec r.toNat (by omega)
        rw [show ((r.toNat : Nat) : Int) = r by omega] at this
        exact this h3 a h c g hac u hu hu2
      · subst g
        have h5 : c ∈ flatP B 3 [low, c] := hc
        have := flat_kind b.sm (.inl rfl) hrg c h5
        exact this h3
    · rcases hX c hc with g | ⟨g3, g⟩ | g
      · exact e2 g
      · subst h
        have := flat_kind b.sm (.inl rfl) hrg a ha
        exact this g3
      · exact hac (h.trans g.symm)
  have hvl : ∀ s, valN s (addP B (3, 0, [low, r])).2 (addP B (3, 0, [low, r])).1 = (valN s B low && valN s B r) := fun s => by
    rw [(val_add s hB b.ok hfm).1, truS_gate s _ _ _ (.inl rfl)]
    unfold valN ask
    simp
  have hcz : ∀ c : Int, ∀ k : Int, k ∈ (c, (0 : Int), ([] : List Int)).2.2 → 0 ≤ k ∧ k < (B.length : Int) := fun c k hk => absurd hk List.not_mem_nil
  have he3 : endK 3 = 0 := rfl
  rcases gate_out (B := B) (kind := 3) (lt := 0) (l := [low, r]) (.inl rfl) with e | ⟨e0, e⟩ | ⟨y, e0, e⟩ | ⟨e0, e⟩
  · rw [he3] at e
    have hd : Dd (addP B (3, 0, [low, r])).2 := by rw [e]; exact b.dd.put hB (hcz 0) (fun h => absurd h (by decide)) (fun h => absurd h (by decide))
    refine ⟨add1 hN b hfm hd, hvl, fun u hu => ?_, .inl ?_⟩
    · rw [e, oc_put hB _ (hcz 0)] at hu
      rcases hu with h | ⟨k, hk, _⟩
      · exact absurd h (oc_none rfl u)
      · exact absurd hk List.not_mem_nil
    · rw [e]; exact (put_at B _).1
  · rw [e0] at hlowD; exact absurd hlowD List.not_mem_nil
  · rw [e0] at hlowD
    have hy := List.mem_singleton.1 hlowD
    subst hy
    have hd : Dd (addP B (3, 0, [low, r])).2 := by rw [e]; exact b.dd
    refine ⟨add1 hN b hfm hd, hvl, fun u hu => ?_, .inr ?_⟩
    · rw [e] at hu; exact .inl ((hoclow u).1 hu)
    · rw [e]; exact .inl ⟨k0, l0⟩
  · have hzr : ∀ k, k ∈ ((3 : Int), (0 : Int), sortS (inputsR B 3 (dropK 3) [low, r])).2.2 → 0 ≤ k ∧ k < (B.length : Int) := fun k hk => gi.rg k ((hmem k).1 hk)
    have hd : Dd (addP B (3, 0, [low, r])).2 := by rw [e]; exact b.dd.put hB hzr (fun _ => hdec) (fun h => absurd (show (3 : Int) = 4 from h) (by decide))
    have ha := add1 hN b hfm hd
    refine ⟨ha, hvl, fun u hu => ?_, .inr (.inr ⟨?_, low, ?_, ?_⟩)⟩
    · rw [e, oc_put hB _ hzr] at hu
      rcases hu with h | ⟨k, hk, hu⟩
      · exact absurd h (oc_none rfl u)
      · have hk := ((gi.mem k).1 ((hmem k).1 hk)).1
        by_cases e1 : k = low
        · rw [e1] at hu; exact .inl ((hoclow u).1 hu)
        · exact .inr (hXo k hk e1 u hu)
    · rw [e]; exact (put_at B _).1
    · rw [e, (put_at B _).2.2]; exact (hmem low).2 hlowD
    · obtain ⟨C, hC⟩ := ha.ex
      rw [hC, kindP_app _ _ _ (by omega), litP_app _ _ _ (by omega)]
      exact ⟨k0, l0⟩
theorem or_ok {N : Int} (hN : 0 ≤ N ∧ N ≤ 128) {B : List PN} (b : Bt N B) {l x y : Int} (hl : l ≠ 0) (hx : 0 ≤ x ∧ x < B.length) (hy : 0 ≤ y ∧ y < B.length) (h1 : kindP B x = 0 ∨ Hd B x l) (h2 : kindP B y = 0 ∨ Hd B y (-l)) :
    Add1 N B (addP B (4, 0, [x, y])) ∧ (∀ s, valN s (addP B (4, 0, [x, y])).2 (addP B (4, 0, [x, y])).1 = (valN s B x || valN s B y)) ∧ ∀ u, Oc (addP B (4, 0, [x, y])).2 (addP B (4, 0, [x, y])).1 u → Oc B x u ∨ Oc B y u := by
  have hrg : ∀ i, i ∈ [x, y] → 0 ≤ i ∧ i < (B.length : Int) := fun i hi => by
    rcases List.mem_cons.1 hi with rfl | hi
    · exact hx
    · rw [List.mem_singleton.1 hi]; exact hy
  have hfm : formedP (4, 0, [x, y]) N B.length = true := formed_gate (.inr rfl) hrg
  have hB := b.sm.ord
  have gi := gin b.ok 4 hrg
  have kx : kindP B x ≠ 4 := by rcases h1 with h | ⟨h, _⟩ | ⟨h, _⟩ <;> omega
  have ky : kindP B y ≠ 4 := by rcases h2 with h | ⟨h, _⟩ | ⟨h, _⟩ <;> omega
  have hfl : flatP B 4 [x, y] = [x, y] := flat_id _ fun i hi => by
    rcases List.mem_cons.1 hi with rfl | hi
    · exact kx
    · rw [List.mem_singleton.1 hi]; exact ky
  have hD : ∀ z, z ∈ inputsR B 4 (dropK 4) [x, y] → (z = x ∨ z = y) ∧ kindP B z ≠ 0 := fun z hz => by
    have := (gi.mem z).1 hz
    rw [hfl] at this
    refine ⟨?_, this.2⟩
    rcases List.mem_cons.1 this.1 with h | h
    · exact .inl h
    · exact .inr (List.mem_singleton.1 h)
  have hvl : ∀ s, valN s (addP B (4, 0, [x, y])).2 (addP B (4, 0, [x, y])).1 = (valN s B x || valN s B y) := fun s => by
    rw [(val_add s hB b.ok hfm).1, truS_gate s _ _ _ (.inr rfl)]
    unfold valN ask
    simp
  have hcz : ∀ c : Int, ∀ k : Int, k ∈ (c, (0 : Int), ([] : List Int)).2.2 → 0 ≤ k ∧ k < (B.length : Int) := fun c k hk => absurd hk List.not_mem_nil
  have hcst : ∀ c : Int, (c = 0 ∨ c = 1) → addP B (4, 0, [x, y]) = putP B (c, 0, []) → Dd (addP B (4, 0, [x, y])).2 ∧ ∀ u, Oc (addP B (4, 0, [x, y])).2 (addP B (4, 0, [x, y])).1 u → Oc B x u ∨ Oc B y u := fun c hc e => by
    refine ⟨by rw [e]; exact b.dd.put hB (hcz c) (fun h => by have h : c = 3 := h; omega) (fun h => by have h : c = 4 := h; omega), fun u hu => ?_⟩
    rw [e, oc_put hB _ (hcz c)] at hu
    rcases hu with h | ⟨k, hk, _⟩
    · exact absurd h (oc_none rfl u)
    · exact absurd hk List.not_mem_nil
  rcases gate_out (B := B) (kind := 4) (lt := 0) (l := [x, y]) (.inr rfl) with e | ⟨e0, e⟩ | ⟨z, e0, e⟩ | ⟨e0, e⟩
  · obtain ⟨a1, a2⟩ := hcst _ (endK_c 4) e
    exact ⟨add1 hN b hfm a1, hvl, a2⟩
  · obtain ⟨a1, a2⟩ := hcst _ (dropK_c 4) e
    exact ⟨add1 hN b hfm a1, hvl, a2⟩
  · have hz := hD z (by rw [e0]; exact List.mem_singleton.2 rfl)
    have hd : Dd (addP B (4, 0, [x, y])).2 := by rw [e]; exact b.dd
    refine ⟨add1 hN b hfm hd, hvl, fun u hu => ?_⟩
    rw [e] at hu
    rcases hz.1 with h | h
    · rw [h] at hu; exact .inl hu
    · rw [h] at hu; exact .inr hu
  · have hmem : ∀ z, z ∈ sortS (inputsR B 4 (dropK 4) [x, y]) ↔ z ∈ inputsR B 4 (dropK 4) [x, y] := fun z => (sortS_perm _).mem_iff
    have hzr : ∀ k, k ∈ ((4 : Int), (0 : Int), sortS (inputsR B 4 (dropK 4) [x, y])).2.2 → 0 ≤ k ∧ k < (B.length : Int) := fun k hk => gi.rg k ((hmem k).1 hk)
    have hln := sortS_len (inputsR B 4 (dropK 4) [x, y])
    have hnd : (sortS (inputsR B 4 (dropK 4) [x, y])).Nodup := (sortS_perm _).nodup_iff.2 gi.nd
    have h4 : ∃ j k m, sortS (inputsR B 4 (dropK 4) [x, y]) = [j, k] ∧ m ≠ 0 ∧ Hd B j m ∧ Hd B k (-m) := by
      have hall : ∀ z, z ∈ sortS (inputsR B 4 (dropK 4) [x, y]) → (z = x ∨ z = y) ∧ kindP B z ≠ 0 := fun z hz => hD z ((hmem z).1 hz)
      generalize sortS (inputsR B 4 (dropK 4) [x, y]) = S at hnd hall hln
      rcases S with _ | ⟨j, _ | ⟨k, _ | ⟨q, t⟩⟩⟩
      · simp only [List.length_nil] at hln; omega
      · simp only [List.length_cons, List.length_nil] at hln; omega
      · have hj := hall j (by simp)
        have hk := hall k (by simp)
        have hjk : j ≠ k := by
          rw [List.nodup_cons] at hnd
          exact fun e => hnd.1 (e ▸ List.mem_cons_self)
        refine ⟨j, k, ?_⟩
        rcases hj.1 with ej | ej
        · have ek : k = y := by
            rcases hk.1 with e | e
            · exact absurd (ej.trans e.symm) hjk
            · exact e
          subst ej
          subst ek
          exact ⟨l, rfl, hl, h1.resolve_left hj.2, h2.resolve_left hk.2⟩
        · have ek : k = x := by
            rcases hk.1 with e | e
            · exact e
            · exact absurd (ej.trans e.symm) hjk
          subst ej
          subst ek
          exact ⟨-l, rfl, by omega, h2.resolve_left hj.2, by rw [Int.neg_neg]; exact h1.resolve_left hk.2⟩
      · exfalso
        have hj := (hall j (by simp)).1
        have hk := (hall k (by simp)).1
        have hq := (hall q (by simp)).1
        simp only [List.nodup_cons, List.mem_cons, not_or] at hnd
        rcases hj with rfl | rfl <;> rcases hk with rfl | rfl <;> rcases hq with rfl | rfl <;> simp_all
    have hd : Dd (addP B (4, 0, [x, y])).2 := by rw [e]; exact b.dd.put hB hzr (fun h => absurd (show (4 : Int) = 3 from h) (by decide)) (fun _ => h4)
    refine ⟨add1 hN b hfm hd, hvl, fun u hu => ?_⟩
    rw [e, oc_put hB _ hzr] at hu
    rcases hu with h | ⟨k, hk, hu⟩
    · exact absurd h (oc_none rfl u)
    · rcases (hD k ((hmem k).1 hk)).1 with h | h
      · rw [h] at hu; exact .inl hu
      · rw [h] at hu; exact .inr hu
end Go.Proofs.YtdiciemlbhkilaaGreatDoor
namespace Go.Proofs.YtdiciemlbhkilaaGreatDoor
open Go Go.Cx Go.RowKit
set_option linter.unusedVariables false
set_option linter.unusedSimpArgs false
set_option maxHeartbeats 4000000
attribute [local irreducible] J JC thenK blockK loopK roundK drawK retK QW Qt pel List.set Calls
def askP (B : List PN) (v no yes : Int) : Int × List PN :=
  if no = yes then (no, B) else
  let p1 := addP B (2, -v, [])
  let p2 := addP p1.2 (2, v, [])
  let p3 := addP p2.2 (3, 0, [p1.1, no])
  let p4 := addP p3.2 (3, 0, [p2.1, yes])
  addP p4.2 (4, 0, [p3.1, p4.1])
theorem tru_lit (s : Nat × Nat) (T : List Bool) (l : Int) : truS s T (2, l, []) = decide (hasB s (absI l) = decide (0 < l)) := rfl
theorem lit_pos {s : Nat × Nat} {T : List Bool} {v : Int} (hv : 1 ≤ v) : truS s T (2, v, []) = hasB s v := by
  rw [tru_lit, absI_pos (by omega), decide_eq_true (show 0 < v by omega)]
  cases hasB s v <;> rfl
theorem lit_neg {s : Nat × Nat} {T : List Bool} {v : Int} (hv : 1 ≤ v) : truS s T (2, -v, []) = !(hasB s v) := by
  rw [tru_lit, absI_neg, absI_pos (by omega), decide_eq_false (show ¬ 0 < -v by omega)]
  cases hasB s v <;> rfl
structure Ask5 (N : Int) (B : List PN) (v no yes : Int) : Prop where
  f1 : formedP (2, -v, []) N B.length = true
  b1 : Bt N (addP B (2, -v, [])).2
  l1 : (addP B (2, -v, [])).2.length ≤ B.length + 1
  f2 : formedP (2, v, []) N (addP B (2, -v, [])).2.length = true
  b2 : Bt N (addP (addP B (2, -v, [])).2 (2, v, [])).2
  l2 : (addP (addP B (2, -v, [])).2 (2, v, [])).2.length ≤ B.length + 2
  f3 : formedP (3, 0, [(addP B (2, -v, [])).1, no]) N (addP (addP B (2, -v, [])).2 (2, v, [])).2.length = true
  b3 : Bt N (addP (addP (addP B (2, -v, [])).2 (2, v, [])).2 (3, 0, [(addP B (2, -v, [])).1, no])).2
  l3 : (addP (addP (addP B (2, -v, [])).2 (2, v, [])).2 (3, 0, [(addP B (2, -v, [])).1, no])).2.length ≤ B.length + 3
  f4 : formedP (3, 0, [(addP (addP B (2, -v, [])).2 (2, v, [])).1, yes]) N (addP (addP (addP B (2, -v, [])).2 (2, v, [])).2 (3, 0, [(addP B (2, -v, [])).1, no])).2.length = true
  b4 : Bt N (addP (addP (addP (addP B (2, -v, [])).2 (2, v, [])).2 (3, 0, [(addP B (2, -v, [])).1, no])).2 (3, 0, [(addP (addP B (2, -v, [])).2 (2, v, [])).1, yes])).2
  l4 : (addP (addP (addP (addP B (2, -v, [])).2 (2, v, [])).2 (3, 0, [(addP B (2, -v, [])).1, no])).2 (3, 0, [(addP (addP B (2, -v, [])).2 (2, v, [])).1, yes])).2.length ≤ B.length + 4
  f5 : formedP (4, 0, [(addP (addP (addP B (2, -v, [])).2 (2, v, [])).2 (3, 0, [(addP B (2, -v, [])).1, no])).1, (addP (addP (addP (addP B (2, -v, [])).2 (2, v, [])).2 (3, 0, [(addP B (2, -v, [])).1, no])).2 (3, 0, [(addP (addP B (2, -v, [])).2 (2, v, [])).1, yes])).1]) N (addP (addP (addP (addP B (2, -v, [])).2 (2, v, [])).2 (3, 0, [(addP B (2, -v, [])).1, no])).2 (3, 0, [(addP (addP B (2, -v, [])).2 (2, v, [])).1, yes])).2.length = true
structure AskO (N : Int) (B : List PN) (v no yes : Int) (p : Int × List PN) : Prop where
  bt : Bt N p.2
  ex : ∃ C, p.2 = B ++ C
  le : p.2.length ≤ B.length + 5
  lo : 0 ≤ p.1
  hi : p.1 < p.2.length
  old : ∀ (s : Nat × Nat) (i : Int), i.toNat < B.length → valN s p.2 i = valN s B i
  new : ∀ s, valN s p.2 p.1 = if hasB s v then valN s B yes else valN s B no
  oc : ∀ u, Oc p.2 p.1 u → u = v ∨ Oc B no u ∨ Oc B yes u
attribute [local irreducible] addP in
theorem ask_ok {N : Int} (hN : 0 ≤ N ∧ N ≤ 128) {B : List PN} (b : Bt N B) {v no yes : Int} (hv : 1 ≤ v ∧ v ≤ N) (hn : 0 ≤ no ∧ no < B.length) (hy : 0 ≤ yes ∧ yes < B.length) (on : ¬ Oc B no v) (oy : ¬ Oc B yes v) : AskO N B v no yes (askP B v no yes) ∧ (no ≠ yes → Ask5 N B v no yes) := by
  by_cases he : no = yes
  · subst he
    have e : askP B v no no = (no, B) := by unfold askP; rw [if_pos rfl]
    rw [e]
    exact ⟨⟨b, ⟨[], by rw [List.append_nil]⟩, Nat.le_add_right _ _, hn.1, hn.2, fun s i _ => rfl, fun s => by split <;> rfl, fun u hu => .inr (.inl hu)⟩, fun h => absurd rfl h⟩
  have hask : askP B v no yes = addP (addP (addP (addP (addP B (2, -v, [])).2 (2, v, [])).2 (3, 0, [(addP B (2, -v, [])).1, no])).2 (3, 0, [(addP (addP B (2, -v, [])).2 (2, v, [])).1, yes])).2 (4, 0, [(addP (addP (addP B (2, -v, [])).2 (2, v, [])).2 (3, 0, [(addP B (2, -v, [])).1, no])).1, (addP (addP (addP (addP B (2, -v, [])).2 (2, v, [])).2 (3, 0, [(addP B (2, -v, [])).1, no])).2 (3, 0, [(addP (addP B (2, -v, [])).2 (2, v, [])).1, yes])).1]) := by unfold askP; rw [if_neg he]
  rw [hask]
  clear hask
  have f1 : formedP (2, -v, []) N B.length = true := formed_l hv (.inr rfl)
  obtain ⟨a1, k1, t1, v1, o1⟩ := leaf_ok hN b (k := 2) (l := -v) ⟨by decide, by decide⟩ f1
  generalize hp1 : addP B (2, -v, []) = p1 at a1 k1 t1 v1 o1
  have f2 : formedP (2, v, []) N p1.2.length = true := formed_l hv (.inl rfl)
  obtain ⟨a2, k2, t2, v2, o2⟩ := leaf_ok hN a1.bt (k := 2) (l := v) ⟨by decide, by decide⟩ f2
  generalize hp2 : addP p1.2 (2, v, []) = p2 at a2 k2 t2 v2 o2
  obtain ⟨C1, c1⟩ := a1.ex
  obtain ⟨C2, c2⟩ := a2.ex
  have e1 : p1.2.length = B.length + C1.length := by rw [c1, List.length_append]
  have e2 : p2.2.length = p1.2.length + C2.length := by rw [c2, List.length_append]
  have a1lo := a1.lo
  have a1hi := a1.hi
  have a2lo := a2.lo
  have a2hi := a2.hi
  have k12 : kindP p2.2 p1.1 = 2 := by rw [c2, kindP_app _ _ _ (by omega)]; exact k1
  have t12 : litP p2.2 p1.1 = -v := by rw [c2, litP_app _ _ _ (by omega)]; exact t1
  have oc2 : ∀ i : Int, i.toNat < B.length → ∀ u, Oc p2.2 i u ↔ Oc B i u := fun i hi u => by
    rw [c2, oc_app (by omega), c1, oc_app hi]
  have vl2 : ∀ s (i : Int), i.toNat < B.length → valN s p2.2 i = valN s B i := fun s i hi => by
    rw [a2.old s i (by omega), a1.old s i hi]
  obtain ⟨a3, v3, o3, h3⟩ := and_ok hN a2.bt (v := v) (l := -v) (low := p1.1) (r := no) hv (.inr rfl) ⟨by omega, by omega⟩ ⟨by omega, by omega⟩ k12 t12 (by rw [oc2 _ (by omega)]; exact on)
  have f3 : formedP (3, 0, [p1.1, no]) N p2.2.length = true := formed_gate (.inl rfl) fun i hi => by
    rcases List.mem_cons.1 hi with rfl | hi
    · omega
    · rw [List.mem_singleton.1 hi]; omega
  generalize hp3 : addP p2.2 (3, 0, [p1.1, no]) = p3 at a3 v3 o3 h3
  obtain ⟨C3, c3⟩ := a3.ex
  have e3 : p3.2.length = p2.2.length + C3.length := by rw [c3, List.length_append]
  have a3lo := a3.lo
  have a3hi := a3.hi
  have k23 : kindP p3.2 p2.1 = 2 := by rw [c3, kindP_app _ _ _ (by omega)]; exact k2
  have t23 : litP p3.2 p2.1 = v := by rw [c3, litP_app _ _ _ (by omega)]; exact t2
  have oc3 : ∀ i : Int, i.toNat < p2.2.length → ∀ u, Oc p3.2 i u ↔ Oc p2.2 i u := fun i hi u => by
    rw [c3, oc_app hi]
  obtain ⟨a4, v4, o4, h4⟩ := and_ok hN a3.bt (v := v) (l := v) (low := p2.1) (r := yes) hv (.inl rfl) ⟨by omega, by omega⟩ ⟨by omega, by omega⟩ k23 t23 (by rw [oc3 _ (by omega), oc2 _ (by omega)]; exact oy)
  have f4 : formedP (3, 0, [p2.1, yes]) N p3.2.length = true := formed_gate (.inl rfl) fun i hi => by
    rcases List.mem_cons.1 hi with rfl | hi
    · omega
    · rw [List.mem_singleton.1 hi]; omega
  generalize hp4 : addP p3.2 (3, 0, [p2.1, yes]) = p4 at a4 v4 o4 h4
  obtain ⟨C4, c4⟩ := a4.ex
  have e4 : p4.2.length = p3.2.length + C4.length := by rw [c4, List.length_append]
  have a4lo := a4.lo
  have a4hi := a4.hi
  have h34 : kindP p4.2 p3.1 = 0 ∨ Hd p4.2 p3.1 (-v) := by
    rcases h3 with h | h
    · left; rw [c4, kindP_app _ _ _ (by omega)]; exact h
    · right; rw [c4]; exact h.app a3.bt.sm.ord a3.lo a3.hi C4
  obtain ⟨a5, v5, o5⟩ := or_ok hN a4.bt (l := -v) (x := p3.1) (y := p4.1) (by omega) ⟨by omega, by omega⟩ ⟨by omega, by omega⟩ h34 (by rw [Int.neg_neg]; exact h4)
  have f5 : formedP (4, 0, [p3.1, p4.1]) N p4.2.length = true := formed_gate (.inr rfl) fun i hi => by
    rcases List.mem_cons.1 hi with rfl | hi
    · omega
    · rw [List.mem_singleton.1 hi]; omega
  have q1 := a1.le
  have q2 := a2.le
  have q3 := a3.le
  have q4 := a4.le
  refine ⟨?_, fun _ => ⟨f1, by rw [hp1]; exact a1.bt, by rw [hp1]; omega, by rw [hp1]; exact f2, by rw [hp1, hp2]; exact a2.bt, by rw [hp1, hp2]; omega, by rw [hp1, hp2]; exact f3, by rw [hp1, hp2, hp3]; exact a3.bt, by rw [hp1, hp2, hp3]; omega, by rw [hp1, hp2, hp3]; exact f4, by rw [hp1, hp2, hp3, hp4]; exact a4.bt, by rw [hp1, hp2, hp3, hp4]; omega, by rw [hp1, hp2, hp3, hp4]; exact f5⟩⟩
  generalize hp5 : addP p4.2 (4, 0, [p3.1, p4.1]) = p5 at a5 v5 o5
  obtain ⟨C5, c5⟩ := a5.ex
  have q6 := a5.le
  have vl3 : ∀ s (i : Int), i.toNat < p2.2.length → valN s p3.2 i = valN s p2.2 i := fun s i hi => a3.old s i hi
  refine ⟨a5.bt, ⟨C1 ++ C2 ++ C3 ++ C4 ++ C5, by rw [c5, c4, c3, c2, c1]; simp only [List.append_assoc]⟩, by omega, a5.lo, a5.hi, fun s i hi => ?_, fun s => ?_, fun u hu => ?_⟩
  · rw [a5.old s i (by omega), a4.old s i (by omega), a3.old s i (by omega), vl2 s i hi]
  · rw [v5, a4.old s p3.1 (by omega), v3, v4, a2.old s p1.1 (by omega), v1, vl3 s p2.1 (by omega), v2, vl3 s yes (by omega), vl2 s no (by omega), vl2 s yes (by omega), lit_neg hv.1, lit_pos hv.1]
    cases hasB s v <;> simp
  · rcases o5 u hu with h | h
    · rw [c4, oc_app (by omega)] at h
      rcases o3 u h with h | h
      · exact .inl h
      · exact .inr (.inl ((oc2 _ (by omega) u).1 h))
    · rcases o4 u h with h | h
      · exact .inl h
      · exact .inr (.inr ((oc2 _ (by omega) u).1 ((oc3 _ (by omega) u).1 h)))
structure TI (ts : List Nd) (N : Int) (m : Nat) (B : List PN) (vs : List Int) : Prop where
  bt : Bt N B
  ln : vs.length = ts.length
  le : (B.length : Int) ≤ (ts.drop m).length + 2 * ews (fun _ => 1) (ts.drop m)
  nd : ∀ j, m ≤ j → j < ts.length → 0 ≤ vs.getD j default ∧ vs.getD j default < B.length ∧ (∀ s, valN s B (vs.getD j default) = clsAt ts s j) ∧ ∀ u, Oc B (vs.getD j default) u → ∃ d, (d = j ∨ Pr ts j d) ∧ (ts.getD d default).v = u
theorem TI.start (ts : List Nd) (N : Int) (vs : List Int) (h : vs.length = ts.length) : TI ts N ts.length [] vs := by
  refine ⟨⟨Simp.nil N, fun x hx => absurd hx List.not_mem_nil, Dd.nil⟩, h, ?_, fun j h1 h2 => by omega⟩
  rw [List.drop_length]
  exact Int.le_refl 0
theorem ews_cons (x : Nd) (xs : List Nd) : ews (fun _ => 1) (x :: xs) = (if x.v = 0 then 0 else 2) + ews (fun _ => 1) xs := by
  show ew (fun _ => 1) x + ews (fun _ => 1) xs = _
  unfold ew
  split <;> rfl
theorem TI.leaf {ts : List Nd} {N : Int} (hV : Valid ts N) {k : Nat} (hk : k < ts.length) (hv : (ts.getD k default).v = 0) {B : List PN} {vs : List Int} (h : TI ts N (k + 1) B vs) :
    formedP (if (ts.getD k default).c then 1 else 0, 0, []) N B.length = true ∧ TI ts N k (addP B (if (ts.getD k default).c then 1 else 0, 0, [])).2 (vs.set k (addP B (if (ts.getD k default).c then 1 else 0, 0, [])).1) := by
  obtain ⟨b, hl, hle, hnd⟩ := h
  have hc : (if (ts.getD k default).c then (1 : Int) else 0) = 0 ∨ (if (ts.getD k default).c then (1 : Int) else 0) = 1 := by split <;> omega
  have hf : formedP (if (ts.getD k default).c then (1 : Int) else 0, 0, []) N B.length = true := formed_c hc
  have hcl := fun s => clsAt_leaf ts s k hk hv
  generalize hq : (if (ts.getD k default).c then (1 : Int) else 0) = q at hc hf
  refine ⟨hf, ?_⟩
  obtain ⟨a, kk, tt, vv, oo⟩ := leaf_ok hV.rng b (k := q) (l := 0) (by omega) hf
  have alo := a.lo
  have ahi := a.hi
  have ale := a.le
  obtain ⟨C, c⟩ := a.ex
  have e : (addP B (q, 0, [])).2.length = B.length + C.length := by rw [c, List.length_append]
  refine ⟨a.bt, by rw [List.length_set]; exact hl, ?_, fun j h1 h2 => ?_⟩
  · rw [drop_g ts k hk, ews_cons, if_pos hv, List.length_cons]
    omega
  · rw [getD_set]
    by_cases hjk : k = j
    · subst hjk
      rw [if_pos ⟨rfl, by omega⟩]
      refine ⟨alo, ahi, fun s => ?_, fun u hu => ?_⟩
      · rw [vv, hcl s, ← hq]
        cases (ts.getD k default).c <;> rfl
      · exact absurd ((oo u).1 hu) (oc_none rfl u)
    · rw [if_neg (fun h => hjk h.1)]
      obtain ⟨q0, q1, q2, q3⟩ := hnd j (by omega) h2
      refine ⟨q0, by omega, fun s => by rw [a.old s _ (by omega)]; exact q2 s, fun u hu => ?_⟩
      rw [c, oc_app (by omega)] at hu
      exact q3 u hu
theorem TI.rngs {ts : List Nd} {N : Int} (hV : Valid ts N) {k : Nat} (hk : k < ts.length) (hv : (ts.getD k default).v ≠ 0) {B : List PN} {vs : List Int} (h : TI ts N (k + 1) B vs) :
    (0 ≤ (ts.getD k default).no ∧ (ts.getD k default).no < ts.length ∧ 0 ≤ (ts.getD k default).yes ∧ (ts.getD k default).yes < ts.length) ∧ (0 ≤ vs.getD (ts.getD k default).no.toNat default ∧ vs.getD (ts.getD k default).no.toNat default < B.length) ∧ (0 ≤ vs.getD (ts.getD k default).yes.toNat default ∧ vs.getD (ts.getD k default).yes.toNat default < B.length) ∧ AskO N B (ts.getD k default).v (vs.getD (ts.getD k default).no.toNat default) (vs.getD (ts.getD k default).yes.toNat default) (askP B (ts.getD k default).v (vs.getD (ts.getD k default).no.toNat default) (vs.getD (ts.getD k default).yes.toNat default)) ∧ (vs.getD (ts.getD k default).no.toNat default ≠ vs.getD (ts.getD k default).yes.toNat default → Ask5 N B (ts.getD k default).v (vs.getD (ts.getD k default).no.toNat default) (vs.getD (ts.getD k default).yes.toNat default)) := by
  obtain ⟨b, hl, hle, hnd⟩ := h
  have hlk := hV.later k (by omega) (by omega)
  rw [Int.toNat_natCast] at hlk
  obtain ⟨l1, l2, l3, l4⟩ := hlk hv
  have hvar := hV.var hk hv
  have hfr := hV.fresh k hk hv
  have en : Ed ts k (ts.getD k default).no.toNat := ⟨hk, hv, .inl (by omega)⟩
  have ey : Ed ts k (ts.getD k default).yes.toNat := ⟨hk, hv, .inr (by omega)⟩
  obtain ⟨n0, n1, n2, n3⟩ := hnd (ts.getD k default).no.toNat (by omega) (by omega)
  obtain ⟨y0, y1, y2, y3⟩ := hnd (ts.getD k default).yes.toNat (by omega) (by omega)
  have on : ¬ Oc B (vs.getD (ts.getD k default).no.toNat default) (ts.getD k default).v := fun ho => by
    obtain ⟨d, hd, e⟩ := n3 _ ho
    refine hfr ⟨d, ?_, e⟩
    rcases hd with rfl | hd
    · exact .one en
    · exact .cons en hd
  have oy : ¬ Oc B (vs.getD (ts.getD k default).yes.toNat default) (ts.getD k default).v := fun ho => by
    obtain ⟨d, hd, e⟩ := y3 _ ho
    refine hfr ⟨d, ?_, e⟩
    rcases hd with rfl | hd
    · exact .one ey
    · exact .cons ey hd
  exact ⟨⟨by omega, by omega, by omega, by omega⟩, ⟨n0, n1⟩, ⟨y0, y1⟩, ask_ok hV.rng b hvar ⟨n0, n1⟩ ⟨y0, y1⟩ on oy⟩
theorem TI.ask {ts : List Nd} {N : Int} (hV : Valid ts N) {k : Nat} (hk : k < ts.length) (hv : (ts.getD k default).v ≠ 0) {B : List PN} {vs : List Int} (h : TI ts N (k + 1) B vs) :
    TI ts N k (askP B (ts.getD k default).v (vs.getD (ts.getD k default).no.toNat default) (vs.getD (ts.getD k default).yes.toNat default)).2 (vs.set k (askP B (ts.getD k default).v (vs.getD (ts.getD k default).no.toNat default) (vs.getD (ts.getD k default).yes.toNat default)).1) := by
  obtain ⟨⟨r1, r2, r3, r4⟩, _, _, ao, _⟩ := h.rngs hV hk hv
  obtain ⟨b, hl, hle, hnd⟩ := h
  have hlk := hV.later k (by omega) (by omega)
  rw [Int.toNat_natCast] at hlk
  obtain ⟨l1, l2, l3, l4⟩ := hlk hv
  have hcl := fun s => clsAt_q hV.later s k hk hv
  obtain ⟨n0, n1, n2, n3⟩ := hnd (ts.getD k default).no.toNat (by omega) (by omega)
  obtain ⟨y0, y1, y2, y3⟩ := hnd (ts.getD k default).yes.toNat (by omega) (by omega)
  have en : Ed ts k (ts.getD k default).no.toNat := ⟨hk, hv, .inl (by omega)⟩
  have ey : Ed ts k (ts.getD k default).yes.toNat := ⟨hk, hv, .inr (by omega)⟩
  generalize hp : askP B (ts.getD k default).v (vs.getD (ts.getD k default).no.toNat default) (vs.getD (ts.getD k default).yes.toNat default) = p at ao
  obtain ⟨C, c⟩ := ao.ex
  have e : p.2.length = B.length + C.length := by rw [c, List.length_append]
  have qle := ao.le
  refine ⟨ao.bt, by rw [List.length_set]; exact hl, ?_, fun j h1 h2 => ?_⟩
  · rw [drop_g ts k hk, ews_cons, if_neg hv, List.length_cons]
    omega
  · rw [getD_set]
    by_cases hjk : k = j
    · subst hjk
      rw [if_pos ⟨rfl, by omega⟩]
      refine ⟨ao.lo, ao.hi, fun s => ?_, fun u hu => ?_⟩
      · rw [ao.new, hcl s, n2, y2]
      · rcases ao.oc u hu with h | h | h
        · exact ⟨k, .inl rfl, h.symm⟩
        · obtain ⟨d, hd, e⟩ := n3 u h
          refine ⟨d, .inr ?_, e⟩
          rcases hd with rfl | hd
          · exact .one en
          · exact .cons en hd
        · obtain ⟨d, hd, e⟩ := y3 u h
          refine ⟨d, .inr ?_, e⟩
          rcases hd with rfl | hd
          · exact .one ey
          · exact .cons ey hd
    · rw [if_neg (fun h => hjk h.1)]
      obtain ⟨q0, q1, q2, q3⟩ := hnd j (by omega) h2
      refine ⟨q0, by omega, fun s => by rw [ao.old s _ (by omega)]; exact q2 s, fun u hu => ?_⟩
      rw [c, oc_app (by omega)] at hu
      exact q3 u hu
theorem Valid.quests {ts : List Nd} {n : Int} (h : Valid ts n) : ews (fun _ => 1) ts = (ts.length : Int) - 1 := by
  have e1 : ews (fun _ => 1) ts = sumTo (fun j => cn ts j * 1) ts.length := by
    refine ews_cn _ _ ts (fun x hx hv => ?_)
    obtain ⟨i, hi, rfl⟩ := List.mem_iff_getElem.1 hx
    have hg : ts.getD i default = ts[i] := by rw [List.getD_eq_getElem?_getD, List.getElem?_eq_getElem hi]; rfl
    obtain ⟨_, _, _, a, b, c, d⟩ := fmd_q (h.fm i hi) (by rw [hg]; exact hv)
    rw [hg] at a b c d
    omega
  have e3 : sumTo (fun j => cn ts j * 1) ts.length = sumTo (fun i => if i = 0 then 0 else (fun _ => (1 : Int)) i) ts.length := by
    refine sumTo_congr _ (fun i hi => ?_)
    by_cases h0 : i = 0
    · subst h0
      rw [if_pos rfl, cn_zero ts 0 (fun j hj => by simpa using h.fm j hj) 0 (Nat.le_refl _), Int.zero_mul]
    · rw [if_neg h0, h.one i (by omega) hi, Int.one_mul]
  have e4 : sumTo (fun _ => (1 : Int)) ts.length = 1 + sumTo (fun i => if i = 0 then 0 else (fun _ => (1 : Int)) i) ts.length := sumTo_first (fun _ => (1 : Int)) ts.length h.pos
  have e5 := sumTo_const 1 ts.length
  omega
theorem oc_net {N : Int} {B : List PN} (h : Simp N B) {r : Nat} (hr : r < B.length) {U : List Bool} (m : Marks B r U) (u : Int) : ∀ (n i : Nat), i < n → i < r + 1 → U.getD i false = true → (Oc (netTo B U (r + 1)) (rk U i) u ↔ Oc B i u)
  | 0, i, hi, _, _ => absurd hi (Nat.not_lt_zero _)
  | n + 1, i, hi, hir, hu => by
    have hs := net_simp h hr m
    have hl := net_last m
    have hle := rk_le U i
    have hri : rk U i ≤ rk U r := by
      by_cases e : i = r
      · rw [e]; exact Int.le_refl _
      · have := rk_lt (show i < r by omega) hu; omega
    have hr0 : 0 ≤ rk U i := by
      have := netTo_len B U i
      omega
    rw [oc_at hs.ord _ hr0 (by omega), oc_at h.ord _ (by omega) (by omega), lit_net hir hu, in_net hir hu]
    constructor
    · rintro (h1 | ⟨k, hk, h1⟩)
      · exact .inl h1
      · obtain ⟨q, hq, rfl⟩ := List.mem_map.1 hk
        have o := h.ord i q hq
        have := (oc_net h hr m u n q.toNat (by omega) (by omega) (m.cl i hir hu q hq)).1 h1
        rw [show ((q.toNat : Nat) : Int) = q by omega] at this
        exact .inr ⟨q, hq, this⟩
    · rintro (h1 | ⟨q, hq, h1⟩)
      · exact .inl h1
      · have o := h.ord i q hq
        rw [show q = ((q.toNat : Nat) : Int) by omega] at h1
        exact .inr ⟨_, List.mem_map.2 ⟨q, hq, rfl⟩, (oc_net h hr m u n q.toNat (by omega) (by omega) (m.cl i hir hu q hq)).2 h1⟩
theorem hd_net {N : Int} {B : List PN} (h : Simp N B) {r : Nat} {U : List Bool} (m : Marks B r U) {i : Nat} (hi : i < r + 1) (hu : U.getD i false = true) {l : Int} (hd : Hd B i l) : Hd (netTo B U (r + 1)) (rk U i) l := by
  unfold Hd
  rw [kind_net hi hu, lit_net hi hu, in_net hi hu]
  rcases hd with hd | ⟨h3, q, hq, h4, h5⟩
  · exact .inl hd
  · have o := h.ord i q hq
    have hu2 := m.cl i hi hu q hq
    refine .inr ⟨h3, rk U q.toNat, List.mem_map.2 ⟨q, hq, rfl⟩, ?_, ?_⟩
    · rw [kind_net (by omega) hu2, show ((q.toNat : Nat) : Int) = q by omega]; exact h4
    · rw [lit_net (by omega) hu2, show ((q.toNat : Nat) : Int) = q by omega]; exact h5
theorem Dd.net {N : Int} {B : List PN} (h : Simp N B) (d : Dd B) {r : Nat} (hr : r < B.length) {U : List Bool} (m : Marks B r U) : Dd (netTo B U (r + 1)) := by
  refine ⟨fun j hj hk a ha b hb hab u hua => ?_, fun j hj hk => ?_⟩
  · obtain ⟨i, h1, h2, h3⟩ := net_idx B U (r + 1) j hj
    rw [← h3, kind_net h1 h2] at hk
    rw [← h3, in_net h1 h2] at ha hb
    obtain ⟨x, hx, rfl⟩ := List.mem_map.1 ha
    obtain ⟨y, hy, rfl⟩ := List.mem_map.1 hb
    have ox := h.ord i x hx
    have oy := h.ord i y hy
    rw [oc_net h hr m u (r + 1) _ (by omega) (by omega) (m.cl i h1 h2 x hx)] at hua
    rw [oc_net h hr m u (r + 1) _ (by omega) (by omega) (m.cl i h1 h2 y hy)]
    rw [show ((x.toNat : Nat) : Int) = x by omega] at hua
    rw [show ((y.toNat : Nat) : Int) = y by omega]
    exact d.dec i (by omega) hk x hx y hy (fun e => hab (by rw [e])) u hua
  · obtain ⟨i, h1, h2, h3⟩ := net_idx B U (r + 1) j hj
    rw [← h3, kind_net h1 h2] at hk
    obtain ⟨x, y, l, e, l0, g1, g2⟩ := d.dci i (by omega) hk
    have hx : x ∈ inP B i := by rw [e]; simp
    have hy : y ∈ inP B i := by rw [e]; simp
    have ox := h.ord i x hx
    have oy := h.ord i y hy
    refine ⟨rk U x.toNat, rk U y.toNat, l, ?_, l0, ?_, ?_⟩
    · rw [← h3, in_net h1 h2, e]; rfl
    · exact hd_net h m (by omega) (m.cl i h1 h2 x hx) (by rw [show ((x.toNat : Nat) : Int) = x by omega]; exact g1)
    · exact hd_net h m (by omega) (m.cl i h1 h2 y hy) (by rw [show ((y.toNat : Nat) : Int) = y by omega]; exact g2)
structure TNet (ts : List Nd) (N : Int) (X : List PN) : Prop where
  ck : checkP N X = true
  sm : Simp N X
  dd : Dd X
  le : (X.length : Int) ≤ 3 * ts.length - 2
  ev : ∀ s, evalP s N X = clsAt ts s 0
theorem tree_net {ts : List Nd} {N : Int} (hV : Valid ts N) {B : List PN} {vs : List Int} (h : TI ts N 0 B vs) : (0 ≤ vs.getD 0 default ∧ vs.getD 0 default < B.length) ∧ TNet ts N (netP B (vs.getD 0 default).toNat) := by
  obtain ⟨b, hl, hle, hnd⟩ := h
  obtain ⟨q0, q1, q2, q3⟩ := hnd 0 (Nat.le_refl _) hV.pos
  have hq := hV.quests
  rw [List.drop_zero, hq] at hle
  have hpos := hV.le
  have hr : (vs.getD 0 default).toNat < B.length := by omega
  have m := marks b.sm.ord (vs.getD 0 default).toNat
  have hsn := net_simp b.sm hr m
  have hfn := net_full b.sm hr m
  have hll := net_last m
  have hrl := rk_le (markN B (vs.getD 0 default).toNat ((vs.getD 0 default).toNat + 1)) (vs.getD 0 default).toNat
  have hdd := b.dd.net b.sm hr m
  have e : netP B (vs.getD 0 default).toNat = netTo B (markN B (vs.getD 0 default).toNat ((vs.getD 0 default).toNat + 1)) ((vs.getD 0 default).toNat + 1) := rfl
  have hvn := fun s => val_net s b.sm.ord hr m _ (Nat.le_refl _) _ (Nat.lt_succ_self _) m.rt
  rw [← e] at hsn hfn hll hdd
  have hck : checkP N (netP B (vs.getD 0 default).toNat) = true := by
    unfold checkP
    simp only [Bool.and_eq_true, decide_eq_true_eq]
    refine ⟨hV.rng, ⟨hfn.ne, by omega⟩, formAll_of N _ 0 fun j hj => ?_⟩
    rw [Int.zero_add]; exact hsn.fm j hj
  refine ⟨⟨q0, q1⟩, hck, hsn, hdd, by omega, fun s => ?_⟩
  have h1 := hvn s
  rw [← e, show (((vs.getD 0 default).toNat : Nat) : Int) = vs.getD 0 default by omega, q2] at h1
  unfold evalP
  rw [hck, Bool.true_and, ← h1]
  unfold valN
  congr 1
  omega
end Go.Proofs.YtdiciemlbhkilaaGreatDoor
namespace Go.Proofs.YtdiciemlbhkilaaGreatDoor
open Go Go.Cx Go.RowKit
set_option linter.unusedVariables false
set_option linter.unusedSimpArgs false
set_option maxHeartbeats 4000000
attribute [local irreducible] J JC thenK blockK loopK roundK drawK retK QW Qt pel List.set Calls
attribute [local irreducible] JE Br eK0 eK3 brK
theorem eNet1 : Entr Tryz.prog 38 := Entr.of Tryz.func38 rfl rfl
theorem eNet2 : Entr Tryz.prog 41 := Entr.of Tryz.func41 rfl rfl
theorem eNet3 : Entr Tryz.prog 42 := Entr.of Tryz.func42 rfl rfl
def bpO (b : Nat) : Obj := .cells ⟨[.pointer (some ⟨b, 0, none⟩)]⟩ 77 (0, 0)
def afO (bb : Nat) : Obj := .cells ⟨[.func (.func 38) ⟨[]⟩ ⟨[.pointer (some ⟨bb, 0, none⟩)]⟩]⟩ 85 (0, 0)
set_option maxHeartbeats 16000000 in
theorem net1_any (N : Int) (hN : 0 ≤ N ∧ N ≤ 128) (v : NV) {w0 w : World} {R : Heap} {L : List Heap} {b bb cap bm : Nat} {a : Option Addr} {vs : List NV} {ho hi hm hl : Heap} (hsl : SlT encI 1 v.a v.l hl) (rl : RdH R L hl) (hvl : v.l.length ≤ 1000000) (hf : formedP (pnV v) N vs.length = true) (hT : Tab w0) (bs : BS vs a cap bm ho hi hm) (op : OkP (vs.map pnV)) (hv65 : vs.length < 65536) (rb : Rd R L bb (bpO b)) (hw : H w0 R (bL N b a vs cap bm ho hi hm ++ L) w) :
    Calls Tryz.prog 38 #[.agg ⟨encNV v⟩, .pointer (some ⟨bb, 0, none⟩)] w fun e w' => ∃ v' L', e = .returned v' ∧ H w0 R L' w' ∧ ∃ a' cap' ho' hi' hm' vs', v' = .int .i64 (addP (vs.map pnV) (pnV v)).1 ∧ L' = bL N b a' vs' cap' bm ho' hi' hm' ++ L ∧ BS vs' a' cap' bm ho' hi' hm' ∧ vs'.map pnV = (addP (vs.map pnV) (pnV v)).2 := by
  unfold bL at hw
  unfold bpO at rb
  simp only [List.cons_append, List.nil_append] at hw
  refine calls_in Tryz.func38 Tryz.ntmps38 rfl rfl (hw) ?_
  repeat' first
    | (refine J.isJ ?_; first | (first | (refine J.o 4 ?_; first | refine J.lR hΓ ?_ (hr := rb.tl.tl.tl.tl.tl) | refine J.lR hΓ ?_ (hr := Rd.hd)) | (refine J.fc 39 ?_; refine J.callx eAddN rfl rfl (fun w hw => addN_any N hN v hsl rl.tl hvl hf hT bs op hv65 (show H _ _ (bL N b a vs cap bm ho hi hm ++ (_ :: L)) w from hrot4 hw)) ?_; rintro _ _ ⟨a2, c2, ho2, hi2, hm2, vs2, rfl, rfl, bs2, e2⟩)) | (first | (refine J.o 0 ?_; refine J.ev' hΓ ?_) | refine J.nil ?_ | (refine J.o 4 ?_; first | refine J.lR hΓ ?_) | (refine J.o 3 ?_; first | refine J.ev' hΓ ?_) | (refine J.o 6 ?_; refine J.bx (fun _ => ?_)) | (refine J.o 10 ?_; refine J.ev' hΓ ?_) | (refine J.o 11 ?_; refine J.ev' hΓ ?_)))
    | (first | refine JC.seq ?_ | refine JC.region ?_ | refine JC.ret ?_ | refine thenK.nn ?_)
    | (fail)
    | fail
  all_goals first | (exfalso; omega) | skip
  exact ret1f rfl rfl rfl (fun w1 hw => ⟨_, _, rfl, H.sel (l := [_, _, _, _, _]) (M := L) hw [0, 1, 2, 3], a2, c2, ho2, hi2, hm2, vs2, rfl, rfl, bs2, e2⟩)
set_option maxHeartbeats 16000000 in
theorem net2_any (N : Int) (hN : 0 ≤ N ∧ N ≤ 128) (c : Bool) {w0 w : World} {R : Heap} {L : List Heap} {b bb bf cap bm : Nat} {a : Option Addr} {vs : List NV} {ho hi hm : Heap} (hf : formedP (if c then 1 else 0, 0, []) N vs.length = true) (hT : Tab w0) (bs : BS vs a cap bm ho hi hm) (op : OkP (vs.map pnV)) (hv65 : vs.length < 65536) (rb : Rd R L bb (bpO b)) (rf : Rd R L bf (afO bb)) (hw : H w0 R (bL N b a vs cap bm ho hi hm ++ L) w) :
    Calls Tryz.prog 41 #[.bool c, .pointer (some ⟨bf, 0, none⟩)] w fun e w' => ∃ v' L', e = .returned v' ∧ H w0 R L' w' ∧ ∃ a' cap' ho' hi' hm' vs', v' = .int .i64 (addP (vs.map pnV) (if c then 1 else 0, 0, [])).1 ∧ L' = bL N b a' vs' cap' bm ho' hi' hm' ++ L ∧ BS vs' a' cap' bm ho' hi' hm' ∧ vs'.map pnV = (addP (vs.map pnV) (if c then 1 else 0, 0, [])).2 := by
  unfold bL at hw
  unfold afO at rf
  simp only [List.cons_append, List.nil_append] at hw
  cases c with
  | true =>
    rw [if_pos rfl] at hf ⊢
    refine calls_in Tryz.func41 Tryz.ntmps41 rfl rfl (hw) ?_
    repeat' first
      | (refine J.isJ ?_; first | (first | (refine J.o 4 ?_; refine J.lR hΓ ?_ (hr := rf.tl.tl.tl.tl)) | (refine J.o 9 ?_; refine J.callvx eNet1 rfl rfl rfl (fun w hw => net1_any N hN ⟨1, 0, none, 0, []⟩ (lit_sl none) (hl := []) (fun _ h => absurd h List.not_mem_nil) (by decide) hf hT bs op hv65 rb hw) ?_; rintro _ _ ⟨a2, c2, ho2, hi2, hm2, vs2, rfl, rfl, bs2, e2⟩)) | (first | (refine J.o 0 ?_; refine J.ev' hΓ ?_) | refine J.nil ?_ | (refine J.o 4 ?_; first | refine J.lR hΓ ?_) | (refine J.o 3 ?_; first | refine J.ev' hΓ ?_) | (refine J.o 8 ?_; refine J.bd hΓ ?_) | (refine J.o 10 ?_; refine J.ev' hΓ ?_) | (refine J.o 11 ?_; refine J.ev' hΓ ?_)))
      | (first | refine JC.seq ?_ | refine JC.region ?_ | refine JC.ret ?_ | refine JC.skip ?_ | refine thenK.nn ?_ | refine thenK.r ?_ | refine JC.condT rfl ?_ | refine JC.condF rfl ?_)
      | (fail)
      | fail
    all_goals first | (exfalso; omega) | skip
    exact ret1f rfl rfl rfl (fun w1 hw => ⟨_, _, rfl, hw, a2, c2, ho2, hi2, hm2, vs2, rfl, rfl, bs2, e2⟩)
  | false =>
    rw [if_neg Bool.false_ne_true] at hf ⊢
    refine calls_in Tryz.func41 Tryz.ntmps41 rfl rfl (hw) ?_
    repeat' first
      | (refine J.isJ ?_; first | (first | (refine J.o 4 ?_; refine J.lR hΓ ?_ (hr := rf.tl.tl.tl.tl)) | (refine J.o 9 ?_; refine J.callvx eNet1 rfl rfl rfl (fun w hw => net1_any N hN ⟨0, 0, none, 0, []⟩ (lit_sl none) (hl := []) (fun _ h => absurd h List.not_mem_nil) (by decide) hf hT bs op hv65 rb hw) ?_; rintro _ _ ⟨a2, c2, ho2, hi2, hm2, vs2, rfl, rfl, bs2, e2⟩)) | (first | (refine J.o 0 ?_; refine J.ev' hΓ ?_) | refine J.nil ?_ | (refine J.o 4 ?_; first | refine J.lR hΓ ?_) | (refine J.o 3 ?_; first | refine J.ev' hΓ ?_) | (refine J.o 8 ?_; refine J.bd hΓ ?_) | (refine J.o 10 ?_; refine J.ev' hΓ ?_) | (refine J.o 11 ?_; refine J.ev' hΓ ?_)))
      | (first | refine JC.seq ?_ | refine JC.region ?_ | refine JC.ret ?_ | refine JC.skip ?_ | refine thenK.nn ?_ | refine thenK.r ?_ | refine JC.condT rfl ?_ | refine JC.condF rfl ?_)
      | (fail)
      | fail
    all_goals first | (exfalso; omega) | skip
    exact ret1f rfl rfl rfl (fun w1 hw => ⟨_, _, rfl, hw, a2, c2, ho2, hi2, hm2, vs2, rfl, rfl, bs2, e2⟩)
end Go.Proofs.YtdiciemlbhkilaaGreatDoor
namespace Go.Proofs.YtdiciemlbhkilaaGreatDoor
open Go Go.Cx Go.RowKit
set_option linter.unusedVariables false
set_option linter.unusedSimpArgs false
set_option maxHeartbeats 4000000
attribute [local irreducible] J JC thenK blockK loopK roundK drawK retK QW Qt pel List.set Calls
attribute [local irreducible] JE Br eK0 eK3 brK
theorem two_sl (x : Nat) (i j : Int) : SlT encI 1 (some ⟨x, 0, none⟩) [i, j] [(x, .cells ⟨[.int .i64 i, .int .i64 j]⟩ 3 (0, 0))] := OwT.sl (e := 3) (cap := 2) ⟨fun _ => rfl, .inr ⟨x, _, rfl, rfl, rfl, Nat.le_refl _, rfl⟩⟩
theorem ask5_ex {N : Int} {B : List PN} {v no yes : Int} (hne : no ≠ yes) (h : Ask5 N B v no yes) : ∃ p1 p2 p3 p4 : Int × List PN, p1 = addP B (2, -v, []) ∧ p2 = addP p1.2 (2, v, []) ∧ p3 = addP p2.2 (3, 0, [p1.1, no]) ∧ p4 = addP p3.2 (3, 0, [p2.1, yes]) ∧ askP B v no yes = addP p4.2 (4, 0, [p3.1, p4.1]) ∧ formedP (2, -v, []) N B.length = true ∧ (Bt N p1.2 ∧ p1.2.length ≤ B.length + 1 ∧ formedP (2, v, []) N p1.2.length = true) ∧ (Bt N p2.2 ∧ p2.2.length ≤ B.length + 2 ∧ formedP (3, 0, [p1.1, no]) N p2.2.length = true) ∧ (Bt N p3.2 ∧ p3.2.length ≤ B.length + 3 ∧ formedP (3, 0, [p2.1, yes]) N p3.2.length = true) ∧ Bt N p4.2 ∧ p4.2.length ≤ B.length + 4 ∧ formedP (4, 0, [p3.1, p4.1]) N p4.2.length = true :=
  ⟨_, _, _, _, rfl, rfl, rfl, rfl, by unfold askP; rw [if_neg hne], h.f1, ⟨h.b1, h.l1, h.f2⟩, ⟨h.b2, h.l2, h.f3⟩, ⟨h.b3, h.l3, h.f4⟩, h.b4, h.l4, h.f5⟩
theorem brx (x a b c d : Heap) (L : List Heap) : (x :: a :: b :: c :: d :: L).Perm (a :: b :: c :: d :: x :: L) := (bring_perm 4 (a :: b :: c :: d :: x :: L)).symm
set_option maxHeartbeats 32000000 in
theorem net3_any (N : Int) (hN : 0 ≤ N ∧ N ≤ 128) (v no yes : Int) {w0 w : World} {R : Heap} {L : List Heap} {b bb bf cap bm : Nat} {a : Option Addr} {vs : List NV} {ho hi hm : Heap} (hv : 1 ≤ v ∧ v ≤ N) (h5 : no ≠ yes → Ask5 N (vs.map pnV) v no yes) (hT : Tab w0) (bs : BS vs a cap bm ho hi hm) (op : OkP (vs.map pnV)) (hv65 : vs.length + 5 < 65536) (rb : Rd R L bb (bpO b)) (rf : Rd R L bf (afO bb)) (hw : H w0 R (bL N b a vs cap bm ho hi hm ++ L) w) :
    Calls Tryz.prog 42 #[.int .i64 v, .int .i64 no, .int .i64 yes, .pointer (some ⟨bf, 0, none⟩)] w fun e w' => ∃ v' L', e = .returned v' ∧ H w0 R L' w' ∧ ∃ a' cap' ho' hi' hm' vs', v' = .int .i64 (askP (vs.map pnV) v no yes).1 ∧ L' = bL N b a' vs' cap' bm ho' hi' hm' ++ L ∧ BS vs' a' cap' bm ho' hi' hm' ∧ vs'.map pnV = (askP (vs.map pnV) v no yes).2 := by
  have rf0 := rf
  unfold afO at rf0
  by_cases hne : no = yes
  · subst hne
    unfold bL at hw
    simp only [List.cons_append, List.nil_append] at hw
    have e : askP (vs.map pnV) v no no = (no, vs.map pnV) := by unfold askP; rw [if_pos rfl]
    rw [e]
    refine calls_in Tryz.func42 Tryz.ntmps42 rfl rfl (hw) ?_
    repeat' first
      | (refine J.isJ ?_; first | (fail) | (first | (refine J.o 0 ?_; refine J.ev' hΓ ?_) | refine J.nil ?_ | (refine J.o 4 ?_; first | refine J.lR hΓ ?_) | (refine J.o 3 ?_; first | refine J.ev' hΓ ?_) | (refine J.o 1 ?_; first | refine J.ng ?_) | (refine J.o 8 ?_; refine J.bd hΓ ?_) | (refine J.o 9 ?_; refine J.bl hΓ (fun _ => ?_)) | (refine J.o 10 ?_; refine J.ev' hΓ ?_) | (refine J.o 11 ?_; refine J.ev' hΓ ?_)))
      | (first | refine JC.seq ?_ | refine JC.region ?_ | refine JC.ret ?_ | refine JC.skip ?_ | refine thenK.nn ?_ | refine thenK.r ?_ | (refine JC.cond rfl (fun hc => ?_) (fun hc => ?_) <;> ((try simp only [decide_eq_true_eq, decide_eq_false_iff_not, beq_iff_eq, beq_eq_false_iff_ne, bne_iff_ne, bne_eq_false_iff_eq, Bool.not_eq_true', Bool.not_eq_false', Bool.not_eq_true, Bool.not_eq_false] at hc) <;> first | (first | (exact absurd rfl hc) | (exfalso; omega) | (exact absurd (hc.symm.trans (by assumption : _ = false)) (by decide)) | (exact absurd (hc.symm.trans (by assumption : _ = true)) (by decide))) | skip)))
      | (fail)
      | fail
    all_goals first | (exfalso; omega) | skip
    exact ret1f rfl rfl rfl (fun w1 hw => ⟨_, _, rfl, hw, a, cap, ho, hi, hm, vs, rfl, rfl, bs, rfl⟩)
  obtain ⟨p1, p2, p3, p4, q1, q2, q3, q4, q5, f1, ⟨b1, l1, f2⟩, ⟨b2, l2, f3⟩, ⟨b3, l3, f4⟩, b4, l4, f5⟩ := ask5_ex hne (h5 hne)
  rw [q5]
  rw [List.length_map] at f1 l1 l2 l3 l4
  have hln : ∀ (us : List NV) (B : List PN), us.map pnV = B → us.length = B.length := fun us B e => by rw [← e, List.length_map]
  unfold bL at hw
  simp only [List.cons_append, List.nil_append] at hw
  refine calls_in Tryz.func42 Tryz.ntmps42 rfl rfl (hw) ?_
  repeat' first
    | (refine J.isJ ?_; first | (fail) | (first | (refine J.o 0 ?_; refine J.ev' hΓ ?_) | refine J.nil ?_ | (refine J.o 4 ?_; first | refine J.lR hΓ ?_) | (refine J.o 3 ?_; first | refine J.ev' hΓ ?_) | (refine J.o 1 ?_; first | refine J.ng ?_) | (refine J.o 8 ?_; refine J.bd hΓ ?_) | (refine J.o 9 ?_; refine J.bl hΓ (fun _ => ?_)) | (refine J.o 10 ?_; refine J.ev' hΓ ?_) | (refine J.o 11 ?_; refine J.ev' hΓ ?_)))
    | (first | refine JC.seq ?_ | refine JC.region ?_ | refine JC.ret ?_ | refine JC.skip ?_ | refine thenK.nn ?_ | refine thenK.r ?_ | (refine JC.cond rfl (fun hc => ?_) (fun hc => ?_) <;> ((try simp only [decide_eq_true_eq, decide_eq_false_iff_not, beq_iff_eq, beq_eq_false_iff_ne, bne_iff_ne, bne_eq_false_iff_eq, Bool.not_eq_true', Bool.not_eq_false', Bool.not_eq_true, Bool.not_eq_false] at hc) <;> first | (first | (exact absurd rfl hc) | (exfalso; omega) | (exact absurd (hc.symm.trans (by assumption : _ = false)) (by decide)) | (exact absurd (hc.symm.trans (by assumption : _ = true)) (by decide))) | skip)))
    | (fail)
    | fail
  all_goals first | (exfalso; omega) | skip
  refine JC.mid (fun i => i == 8 || i == 9 || (Nat.ble 14 i && Nat.ble i 22)) (fun g L' => ∃ a2 c2 ho2 hi2 hm2 vs2, g 8 = .int .i64 p1.1 ∧ g 9 = .int .i64 p2.1 ∧ L' = bL N b a2 vs2 c2 bm ho2 hi2 hm2 ++ L ∧ BS vs2 a2 c2 bm ho2 hi2 hm2 ∧ vs2.map pnV = p2.2) ?_ ?_
  ·
    refine JC.drawE L [4, 8] [4, 8] [(4,0),(4,5),(0,1),(0,2),(0,3),(0,6),(0,7),(3,4),(3,8),(0,9),(0,10)] 0 _ (by kernel_rfl) (by kernel_rfl) rfl ?_
    repeat' first
      | (refine J.isJ ?_; first | (first | (refine J.o 4 ?_; refine J.lR hΓ ?_ (hr := rf0)) | (refine J.o 9 ?_; refine J.callvx (d := 18) eNet1 rfl rfl rfl (fun w hw => net1_any N hN ⟨2, -v, none, 0, []⟩ (lit_sl none) (hl := []) (fun _ h => absurd h List.not_mem_nil) (Nat.zero_le _) f1 hT bs op (by omega) rb hw) ?_; rintro _ _ ⟨a1, c1, ho1, hi1, hm1, vs1, rfl, rfl, bs1, e1⟩) | (refine J.o 9 ?_; refine J.callvx (d := 22) eNet1 rfl rfl rfl (fun w hw => net1_any N hN ⟨2, v, none, 0, []⟩ (lit_sl none) (hl := []) (fun _ h => absurd h List.not_mem_nil) (Nat.zero_le _) (by rw [hln vs1 p1.2 (by rw [q1]; exact e1)]; exact f2) hT bs1 (by rw [show vs1.map pnV = p1.2 by rw [q1]; exact e1]; exact b1.ok) (by rw [hln vs1 p1.2 (by rw [q1]; exact e1)]; omega) rb hw) ?_; rintro _ _ ⟨a2, c2, ho2, hi2, hm2, vs2, rfl, rfl, bs2, e2⟩)) | (first | (refine J.o 0 ?_; refine J.ev' hΓ ?_) | refine J.nil ?_ | (refine J.o 4 ?_; first | refine J.lR hΓ ?_) | (refine J.o 3 ?_; first | refine J.ev' hΓ ?_) | (refine J.o 1 ?_; first | refine J.ng ?_) | (refine J.o 8 ?_; refine J.bd hΓ ?_) | (refine J.o 9 ?_; refine J.bl hΓ (fun _ => ?_)) | (refine J.o 10 ?_; refine J.ev' hΓ ?_) | (refine J.o 11 ?_; refine J.ev' hΓ ?_)))
      | (first | (refine JE.is ?_; first | refine JE.s0 ?_ | refine JE.s3 ?_ | refine JE.nil ?_ | refine JE.s4 rfl (fun w hw => (by first | exact hw.drop.drop.drop.drop)) ?_) | refine eK0.nn ?_ | (refine eK3.is ?_; refine eK3.nn (fun w hw => (by first | exact hw.drop.drop.drop.drop)) ?_) | refine brK.nn ?_)
      | (first | refine JC.seq ?_ | refine JC.region ?_ | refine JC.ret ?_ | refine JC.skip ?_ | refine thenK.nn ?_ | refine thenK.r ?_ | (refine JC.cond rfl (fun hc => ?_) (fun hc => ?_) <;> ((try simp only [decide_eq_true_eq, decide_eq_false_iff_not, beq_iff_eq, beq_eq_false_iff_ne, bne_iff_ne, bne_eq_false_iff_eq, Bool.not_eq_true', Bool.not_eq_false', Bool.not_eq_true, Bool.not_eq_false] at hc) <;> first | (first | (exact absurd rfl hc) | (exfalso; omega) | (exact absurd (hc.symm.trans (by assumption : _ = false)) (by decide)) | (exact absurd (hc.symm.trans (by assumption : _ = true)) (by decide))) | skip)))
      | (fail)
      | fail
    refine Br.done (by kernel_rfl) ?_
    have e1' : vs1.map pnV = p1.2 := by rw [q1]; exact e1
    exact midK.nn (by repeat (first | refine Ag.upd rfl ?_ | exact Ag.rfl')) ⟨a2, c2, ho2, hi2, hm2, vs2, by rw [q1]; rfl, by rw [q2, ← e1']; rfl, rfl, bs2, by rw [q2, ← e1']; exact e2⟩
  rintro g4 L4 ⟨a2, c2, ho2, hi2, hm2, vs2, g8, g9, rfl, bs2, e2⟩
  refine thenK.nn (JC.pin 8 g8 (JC.pin 9 g9 ?_))
  clear g8 g9
  unfold bL
  simp only [List.cons_append, List.nil_append]
  have n2 := hln vs2 p2.2 e2
  refine JC.seq ?_
  refine JC.mid (fun i => i == 8 || i == 9 || (Nat.ble 23 i && Nat.ble i 34)) (fun g L' => ∃ a4 c4 ho4 hi4 hm4 vs4 y1 y2, g 8 = .int .i64 p3.1 ∧ g 9 = .int .i64 p4.1 ∧ L' = bL N b a4 vs4 c4 bm ho4 hi4 hm4 ++ y1 :: y2 :: L ∧ BS vs4 a4 c4 bm ho4 hi4 hm4 ∧ vs4.map pnV = p4.2) ?_ ?_
  ·
    refine JC.drawE L [3, 5, 9, 11] [3, 5, 9, 11] [(4,0),(4,6),(0,1),(0,2),(0,7),(0,8)] 8 _ (by kernel_rfl) (by kernel_rfl) rfl ?_
    repeat' first
      | (refine J.isJ ?_; first | ((refine J.o 4 ?_; refine J.lR hΓ ?_ (hr := rf0))) | (first | (refine J.o 0 ?_; refine J.ev' hΓ ?_) | refine J.nil ?_ | (refine J.o 4 ?_; first | refine J.lR hΓ ?_) | (refine J.o 3 ?_; first | refine J.ev' hΓ ?_) | (refine J.o 1 ?_; first | refine J.ng ?_) | (refine J.o 8 ?_; refine J.bd hΓ ?_) | (refine J.o 9 ?_; refine J.bl hΓ (fun _ => ?_)) | (refine J.o 10 ?_; refine J.ev' hΓ ?_) | (refine J.o 11 ?_; refine J.ev' hΓ ?_)))
      | (first | (refine JE.is ?_; first | refine JE.s0 ?_ | refine JE.s3 ?_ | refine JE.nil ?_ | refine JE.s4 rfl (fun w hw => (by first | exact hw.drop.drop.drop.drop)) ?_) | refine eK0.nn ?_ | (refine eK3.is ?_; refine eK3.nn (fun w hw => (by first | exact hw.drop.drop.drop.drop)) ?_) | refine brK.nn ?_)
      | (first | refine JC.seq ?_ | refine JC.region ?_ | refine JC.ret ?_ | refine JC.skip ?_ | refine thenK.nn ?_ | refine thenK.r ?_ | (refine JC.cond rfl (fun hc => ?_) (fun hc => ?_) <;> ((try simp only [decide_eq_true_eq, decide_eq_false_iff_not, beq_iff_eq, beq_eq_false_iff_ne, bne_iff_ne, bne_eq_false_iff_eq, Bool.not_eq_true', Bool.not_eq_false', Bool.not_eq_true, Bool.not_eq_false] at hc) <;> first | (first | (exact absurd rfl hc) | (exfalso; omega) | (exact absurd (hc.symm.trans (by assumption : _ = false)) (by decide)) | (exact absurd (hc.symm.trans (by assumption : _ = true)) (by decide))) | skip)))
      | (fail)
      | fail
    refine Br.two (c1 := 1) (c2 := 1) (m1 := 6) (m2 := 0) 3 9 [(0, 4)] [(0, 10), (3, 3), (0, 4), (3, 5), (3, 11), (0, 12), (0, 13)] (by decide +kernel) rfl rfl (by decide +kernel) rfl (by decide +kernel) rfl ?_ ?_
    ·
      repeat' first
        | (refine J.isJ ?_; first | ((refine J.o 9 ?_; first | (refine J.bl (d := 26) hΓ (fun x1 => ?_); refine J.perm (brx _ _ _ _ _ _) ?_) | (refine J.bl (d := 32) hΓ (fun x2 => ?_); refine J.perm (brx _ _ _ _ _ _) ?_))) | (first | (refine J.o 0 ?_; refine J.ev' hΓ ?_) | refine J.nil ?_ | (refine J.o 4 ?_; first | refine J.lR hΓ ?_) | (refine J.o 3 ?_; first | refine J.ev' hΓ ?_) | (refine J.o 1 ?_; first | refine J.ng ?_) | (refine J.o 8 ?_; refine J.bd hΓ ?_) | (refine J.o 9 ?_; refine J.bl hΓ (fun _ => ?_)) | (refine J.o 10 ?_; refine J.ev' hΓ ?_) | (refine J.o 11 ?_; refine J.ev' hΓ ?_)))
        | (first | (refine JE.is ?_; first | refine JE.s0 ?_ | refine JE.s3 ?_ | refine JE.nil ?_ | refine JE.s4 rfl (fun w hw => (by first | exact hw.drop.drop.drop.drop.drop | exact hw.drop.drop.drop.drop.drop.drop | exact hw.drop.drop.drop.drop)) ?_) | refine eK0.nn ?_ | (refine eK3.is ?_; refine eK3.nn (fun w hw => (by first | exact hw.drop.drop.drop.drop.drop | exact hw.drop.drop.drop.drop.drop.drop | exact hw.drop.drop.drop.drop)) ?_) | refine brK.nn ?_)
        | (first | refine JC.seq ?_ | refine JC.region ?_ | refine JC.ret ?_ | refine JC.skip ?_ | refine thenK.nn ?_ | refine thenK.r ?_ | (refine JC.cond rfl (fun hc => ?_) (fun hc => ?_) <;> ((try simp only [decide_eq_true_eq, decide_eq_false_iff_not, beq_iff_eq, beq_eq_false_iff_ne, bne_iff_ne, bne_eq_false_iff_eq, Bool.not_eq_true', Bool.not_eq_false', Bool.not_eq_true, Bool.not_eq_false] at hc) <;> first | (first | (exact absurd rfl hc) | (exfalso; omega) | (exact absurd (hc.symm.trans (by assumption : _ = false)) (by decide)) | (exact absurd (hc.symm.trans (by assumption : _ = true)) (by decide))) | skip)))
        | (fail)
        | fail
      refine Br.two (c1 := 1) (c2 := 1) (m1 := 0) (m2 := 0) 5 9 [(3, 9), (0, 10), (3, 11), (0, 12), (0, 13)] [(0, 10), (3, 5), (3, 11), (0, 12), (0, 13)] (by decide +kernel) rfl rfl (by decide +kernel) rfl (by decide +kernel) rfl ?_ ?_
      ·
        repeat' first
          | (refine J.isJ ?_; first | ((refine J.o 9 ?_; first | (refine J.bl (d := 26) hΓ (fun x1 => ?_); refine J.perm (brx _ _ _ _ _ _) ?_) | (refine J.bl (d := 32) hΓ (fun x2 => ?_); refine J.perm (brx _ _ _ _ _ _) ?_) | (refine J.callvx (d := 28) eNet1 rfl rfl rfl (fun w hw => net1_any N hN ⟨3, 0, some ⟨x1, 0, none⟩, 2, [p1.1, no]⟩ (two_sl x1 p1.1 no) (by first | exact RdH.hd | exact RdH.hd.tl) (by show 2 ≤ 1000000; decide) (by rw [n2]; exact f3) hT bs2 (by rw [e2]; exact b2.ok) (by rw [n2]; omega) (by first | exact rb.tl | exact rb.tl.tl) hw) ?_; rintro _ _ ⟨a3, c3, ho3, hi3, hm3, vs3, rfl, rfl, bs3, e3⟩) | (refine J.callvx (d := 34) eNet1 rfl rfl rfl (fun w hw => net1_any N hN ⟨3, 0, some ⟨x2, 0, none⟩, 2, [p2.1, yes]⟩ (two_sl x2 p2.1 yes) (by first | exact RdH.hd | exact RdH.hd.tl) (by show 2 ≤ 1000000; decide) (by rw [hln vs3 p3.2 (by rw [q3, ← e2]; exact e3)]; exact f4) hT bs3 (by rw [show vs3.map pnV = p3.2 by rw [q3, ← e2]; exact e3]; exact b3.ok) (by rw [hln vs3 p3.2 (by rw [q3, ← e2]; exact e3)]; omega) (by first | exact rb.tl.tl) hw) ?_; rintro _ _ ⟨a4, c4, ho4, hi4, hm4, vs4, rfl, rfl, bs4, e4⟩))) | (first | (refine J.o 0 ?_; refine J.ev' hΓ ?_) | refine J.nil ?_ | (refine J.o 4 ?_; first | refine J.lR hΓ ?_) | (refine J.o 3 ?_; first | refine J.ev' hΓ ?_) | (refine J.o 1 ?_; first | refine J.ng ?_) | (refine J.o 8 ?_; refine J.bd hΓ ?_) | (refine J.o 9 ?_; refine J.bl hΓ (fun _ => ?_)) | (refine J.o 10 ?_; refine J.ev' hΓ ?_) | (refine J.o 11 ?_; refine J.ev' hΓ ?_)))
          | (first | (refine JE.is ?_; first | refine JE.s0 ?_ | refine JE.s3 ?_ | refine JE.nil ?_ | refine JE.s4 rfl (fun w hw => (by first | exact hw.drop.drop.drop.drop.drop | exact hw.drop.drop.drop.drop.drop.drop | exact hw.drop.drop.drop.drop)) ?_) | refine eK0.nn ?_ | (refine eK3.is ?_; refine eK3.nn (fun w hw => (by first | exact hw.drop.drop.drop.drop.drop | exact hw.drop.drop.drop.drop.drop.drop | exact hw.drop.drop.drop.drop)) ?_) | refine brK.nn ?_)
          | (first | refine JC.seq ?_ | refine JC.region ?_ | refine JC.ret ?_ | refine JC.skip ?_ | refine thenK.nn ?_ | refine thenK.r ?_ | (refine JC.cond rfl (fun hc => ?_) (fun hc => ?_) <;> ((try simp only [decide_eq_true_eq, decide_eq_false_iff_not, beq_iff_eq, beq_eq_false_iff_ne, bne_iff_ne, bne_eq_false_iff_eq, Bool.not_eq_true', Bool.not_eq_false', Bool.not_eq_true, Bool.not_eq_false] at hc) <;> first | (first | (exact absurd rfl hc) | (exfalso; omega) | (exact absurd (hc.symm.trans (by assumption : _ = false)) (by decide)) | (exact absurd (hc.symm.trans (by assumption : _ = true)) (by decide))) | skip)))
          | (fail)
          | fail
        refine Br.done (by kernel_rfl) ?_
        have e3' : vs3.map pnV = p3.2 := by rw [q3, ← e2]; exact e3
        exact midK.nn (by repeat (first | exact Ag.rfl' | refine Ag.upd rfl ?_)) ⟨a4, c4, ho4, hi4, hm4, vs4, _, _, by rw [q3, ← e2]; rfl, by rw [q4, ← e3']; rfl, rfl, bs4, by rw [q4, ← e3']; exact e4⟩
      ·
        repeat' first
          | (refine J.isJ ?_; first | ((refine J.o 9 ?_; first | (refine J.bl (d := 26) hΓ (fun x1 => ?_); refine J.perm (brx _ _ _ _ _ _) ?_) | (refine J.bl (d := 32) hΓ (fun x2 => ?_); refine J.perm (brx _ _ _ _ _ _) ?_) | (refine J.callvx (d := 28) eNet1 rfl rfl rfl (fun w hw => net1_any N hN ⟨3, 0, some ⟨x1, 0, none⟩, 2, [p1.1, no]⟩ (two_sl x1 p1.1 no) (by first | exact RdH.hd | exact RdH.hd.tl) (by show 2 ≤ 1000000; decide) (by rw [n2]; exact f3) hT bs2 (by rw [e2]; exact b2.ok) (by rw [n2]; omega) (by first | exact rb.tl | exact rb.tl.tl) hw) ?_; rintro _ _ ⟨a3, c3, ho3, hi3, hm3, vs3, rfl, rfl, bs3, e3⟩) | (refine J.callvx (d := 34) eNet1 rfl rfl rfl (fun w hw => net1_any N hN ⟨3, 0, some ⟨x2, 0, none⟩, 2, [p2.1, yes]⟩ (two_sl x2 p2.1 yes) (by first | exact RdH.hd | exact RdH.hd.tl) (by show 2 ≤ 1000000; decide) (by rw [hln vs3 p3.2 (by rw [q3, ← e2]; exact e3)]; exact f4) hT bs3 (by rw [show vs3.map pnV = p3.2 by rw [q3, ← e2]; exact e3]; exact b3.ok) (by rw [hln vs3 p3.2 (by rw [q3, ← e2]; exact e3)]; omega) (by first | exact rb.tl.tl) hw) ?_; rintro _ _ ⟨a4, c4, ho4, hi4, hm4, vs4, rfl, rfl, bs4, e4⟩))) | (first | (refine J.o 0 ?_; refine J.ev' hΓ ?_) | refine J.nil ?_ | (refine J.o 4 ?_; first | refine J.lR hΓ ?_) | (refine J.o 3 ?_; first | refine J.ev' hΓ ?_) | (refine J.o 1 ?_; first | refine J.ng ?_) | (refine J.o 8 ?_; refine J.bd hΓ ?_) | (refine J.o 9 ?_; refine J.bl hΓ (fun _ => ?_)) | (refine J.o 10 ?_; refine J.ev' hΓ ?_) | (refine J.o 11 ?_; refine J.ev' hΓ ?_)))
          | (first | (refine JE.is ?_; first | refine JE.s0 ?_ | refine JE.s3 ?_ | refine JE.nil ?_ | refine JE.s4 rfl (fun w hw => (by first | exact hw.drop.drop.drop.drop.drop | exact hw.drop.drop.drop.drop.drop.drop | exact hw.drop.drop.drop.drop)) ?_) | refine eK0.nn ?_ | (refine eK3.is ?_; refine eK3.nn (fun w hw => (by first | exact hw.drop.drop.drop.drop.drop | exact hw.drop.drop.drop.drop.drop.drop | exact hw.drop.drop.drop.drop)) ?_) | refine brK.nn ?_)
          | (first | refine JC.seq ?_ | refine JC.region ?_ | refine JC.ret ?_ | refine JC.skip ?_ | refine thenK.nn ?_ | refine thenK.r ?_ | (refine JC.cond rfl (fun hc => ?_) (fun hc => ?_) <;> ((try simp only [decide_eq_true_eq, decide_eq_false_iff_not, beq_iff_eq, beq_eq_false_iff_ne, bne_iff_ne, bne_eq_false_iff_eq, Bool.not_eq_true', Bool.not_eq_false', Bool.not_eq_true, Bool.not_eq_false] at hc) <;> first | (first | (exact absurd rfl hc) | (exfalso; omega) | (exact absurd (hc.symm.trans (by assumption : _ = false)) (by decide)) | (exact absurd (hc.symm.trans (by assumption : _ = true)) (by decide))) | skip)))
          | (fail)
          | fail
        refine Br.done (by kernel_rfl) ?_
        have e3' : vs3.map pnV = p3.2 := by rw [q3, ← e2]; exact e3
        exact midK.nn (by repeat (first | exact Ag.rfl' | refine Ag.upd rfl ?_)) ⟨a4, c4, ho4, hi4, hm4, vs4, _, _, by rw [q3, ← e2]; rfl, by rw [q4, ← e3']; rfl, rfl, bs4, by rw [q4, ← e3']; exact e4⟩
    ·
      repeat' first
        | (refine J.isJ ?_; first | ((refine J.o 9 ?_; first | (refine J.bl (d := 26) hΓ (fun x1 => ?_); refine J.perm (brx _ _ _ _ _ _) ?_) | (refine J.bl (d := 32) hΓ (fun x2 => ?_); refine J.perm (brx _ _ _ _ _ _) ?_) | (refine J.callvx (d := 28) eNet1 rfl rfl rfl (fun w hw => net1_any N hN ⟨3, 0, some ⟨x1, 0, none⟩, 2, [p1.1, no]⟩ (two_sl x1 p1.1 no) (by first | exact RdH.hd | exact RdH.hd.tl) (by show 2 ≤ 1000000; decide) (by rw [n2]; exact f3) hT bs2 (by rw [e2]; exact b2.ok) (by rw [n2]; omega) (by first | exact rb.tl | exact rb.tl.tl) hw) ?_; rintro _ _ ⟨a3, c3, ho3, hi3, hm3, vs3, rfl, rfl, bs3, e3⟩) | (refine J.callvx (d := 34) eNet1 rfl rfl rfl (fun w hw => net1_any N hN ⟨3, 0, some ⟨x2, 0, none⟩, 2, [p2.1, yes]⟩ (two_sl x2 p2.1 yes) (by first | exact RdH.hd | exact RdH.hd.tl) (by show 2 ≤ 1000000; decide) (by rw [hln vs3 p3.2 (by rw [q3, ← e2]; exact e3)]; exact f4) hT bs3 (by rw [show vs3.map pnV = p3.2 by rw [q3, ← e2]; exact e3]; exact b3.ok) (by rw [hln vs3 p3.2 (by rw [q3, ← e2]; exact e3)]; omega) (by first | exact rb.tl.tl) hw) ?_; rintro _ _ ⟨a4, c4, ho4, hi4, hm4, vs4, rfl, rfl, bs4, e4⟩))) | (first | (refine J.o 0 ?_; refine J.ev' hΓ ?_) | refine J.nil ?_ | (refine J.o 4 ?_; first | refine J.lR hΓ ?_) | (refine J.o 3 ?_; first | refine J.ev' hΓ ?_) | (refine J.o 1 ?_; first | refine J.ng ?_) | (refine J.o 8 ?_; refine J.bd hΓ ?_) | (refine J.o 9 ?_; refine J.bl hΓ (fun _ => ?_)) | (refine J.o 10 ?_; refine J.ev' hΓ ?_) | (refine J.o 11 ?_; refine J.ev' hΓ ?_)))
        | (first | (refine JE.is ?_; first | refine JE.s0 ?_ | refine JE.s3 ?_ | refine JE.nil ?_ | refine JE.s4 rfl (fun w hw => (by first | exact hw.drop.drop.drop.drop.drop | exact hw.drop.drop.drop.drop.drop.drop | exact hw.drop.drop.drop.drop)) ?_) | refine eK0.nn ?_ | (refine eK3.is ?_; refine eK3.nn (fun w hw => (by first | exact hw.drop.drop.drop.drop.drop | exact hw.drop.drop.drop.drop.drop.drop | exact hw.drop.drop.drop.drop)) ?_) | refine brK.nn ?_)
        | (first | refine JC.seq ?_ | refine JC.region ?_ | refine JC.ret ?_ | refine JC.skip ?_ | refine thenK.nn ?_ | refine thenK.r ?_ | (refine JC.cond rfl (fun hc => ?_) (fun hc => ?_) <;> ((try simp only [decide_eq_true_eq, decide_eq_false_iff_not, beq_iff_eq, beq_eq_false_iff_ne, bne_iff_ne, bne_eq_false_iff_eq, Bool.not_eq_true', Bool.not_eq_false', Bool.not_eq_true, Bool.not_eq_false] at hc) <;> first | (first | (exact absurd rfl hc) | (exfalso; omega) | (exact absurd (hc.symm.trans (by assumption : _ = false)) (by decide)) | (exact absurd (hc.symm.trans (by assumption : _ = true)) (by decide))) | skip)))
        | (fail)
        | fail
      refine Br.done (by kernel_rfl) ?_
      have e3' : vs3.map pnV = p3.2 := by rw [q3, ← e2]; exact e3
      exact midK.nn (by repeat (first | exact Ag.rfl' | refine Ag.upd rfl ?_)) ⟨a4, c4, ho4, hi4, hm4, vs4, _, _, by rw [q3, ← e2]; rfl, by rw [q4, ← e3']; rfl, rfl, bs4, by rw [q4, ← e3']; exact e4⟩
  rintro g5 L5 ⟨a4, c4, ho4, hi4, hm4, vs4, y1, y2, g8, g9, rfl, bs4, e4⟩
  refine thenK.nn (JC.pin 8 g8 (JC.pin 9 g9 ?_))
  clear g8 g9
  unfold bL
  simp only [List.cons_append, List.nil_append]
  have n4 := hln vs4 p4.2 e4
  repeat' first
    | (refine J.isJ ?_; first | (first | (refine J.o 4 ?_; refine J.lR hΓ ?_ (hr := rf0.tl.tl.tl.tl.tl.tl)) | (refine J.o 9 ?_; first | (refine J.bl hΓ (fun x5 => ?_); refine J.perm (brx _ _ _ _ _ _) ?_) | (refine J.callvx eNet1 rfl rfl rfl (fun w hw => net1_any N hN ⟨4, 0, some ⟨x5, 0, none⟩, 2, [p3.1, p4.1]⟩ (two_sl x5 p3.1 p4.1) RdH.hd (by show 2 ≤ 1000000; decide) (by rw [n4]; exact f5) hT bs4 (by rw [e4]; exact b4.ok) (by rw [n4]; omega) rb.tl.tl.tl hw) ?_; rintro _ _ ⟨a6, c6, ho6, hi6, hm6, vs6, rfl, rfl, bs6, e6⟩))) | (first | (refine J.o 0 ?_; refine J.ev' hΓ ?_) | refine J.nil ?_ | (refine J.o 4 ?_; first | refine J.lR hΓ ?_) | (refine J.o 3 ?_; first | refine J.ev' hΓ ?_) | (refine J.o 1 ?_; first | refine J.ng ?_) | (refine J.o 8 ?_; refine J.bd hΓ ?_) | (refine J.o 9 ?_; refine J.bl hΓ (fun _ => ?_)) | (refine J.o 10 ?_; refine J.ev' hΓ ?_) | (refine J.o 11 ?_; refine J.ev' hΓ ?_)))
    | (first | refine JC.seq ?_ | refine JC.region ?_ | refine JC.ret ?_ | refine JC.skip ?_ | refine thenK.nn ?_ | refine thenK.r ?_ | (refine JC.cond rfl (fun hc => ?_) (fun hc => ?_) <;> ((try simp only [decide_eq_true_eq, decide_eq_false_iff_not, beq_iff_eq, beq_eq_false_iff_ne, bne_iff_ne, bne_eq_false_iff_eq, Bool.not_eq_true', Bool.not_eq_false', Bool.not_eq_true, Bool.not_eq_false] at hc) <;> first | (first | (exact absurd rfl hc) | (exfalso; omega) | (exact absurd (hc.symm.trans (by assumption : _ = false)) (by decide)) | (exact absurd (hc.symm.trans (by assumption : _ = true)) (by decide))) | skip)))
    | (fail)
    | fail
  all_goals first | (exfalso; omega) | skip
  exact ret1f rfl rfl rfl (fun w1 hw => ⟨_, _, rfl, H.sel (l := [_, _, _, _, _, _, _]) (M := L) hw [0, 1, 2, 3], a6, c6, ho6, hi6, hm6, vs6, by rw [← e4]; rfl, rfl, bs6, by rw [← e4]; exact e6⟩)
end Go.Proofs.YtdiciemlbhkilaaGreatDoor
namespace Go.Proofs.YtdiciemlbhkilaaGreatDoor
open Go Go.Cx Go.RowKit
set_option linter.unusedVariables false
set_option linter.unusedSimpArgs false
set_option maxHeartbeats 4000000
attribute [local irreducible] J JC thenK blockK loopK roundK drawK retK QW Qt pel List.set Calls
attribute [local irreducible] JE Br eK0 eK3 brK clsAt
theorem brv (a b c d x : Heap) (L : List Heap) : (a :: b :: c :: d :: x :: L).Perm (x :: a :: b :: c :: d :: L) := bring_perm 4 _
theorem hv6 {w0 w : World} {R x h a b c d : Heap} {L : List Heap} (hw : H w0 R (x :: h :: a :: b :: c :: d :: L) w) : H w0 R (a :: b :: c :: d :: h :: x :: L) w := H.sel (l := [_, _, _, _, _, _]) (M := L) hw [2, 3, 4, 5, 1, 0]
theorem hdx {w0 w : World} {R x h a b c d : Heap} {L : List Heap} (hw : H w0 R (h :: a :: b :: c :: d :: x :: L) w) : H w0 R (h :: a :: b :: c :: d :: L) w := H.sel (l := [_, _, _, _, _, _]) (M := L) hw [0, 1, 2, 3, 4]
set_option maxHeartbeats 16000000 in
theorem foldN_any {w0 w : World} {R : Heap} {L : List Heap} {N : Int} {b bb bf cap bm : Nat} {a : Option Addr} {ho hi hm : Heap} (at_ : Option Addr) (ct : Nat) (ts : List Nd) (hs : SlT encN 4 at_ ts R) (hV : Valid ts N) (hT : Tab w0) (bs : BS [] a cap bm ho hi hm) (rb : Rd R L bb (bpO b)) (rf : Rd R L bf (afO bb)) (hw : H w0 R (bL N b a [] cap bm ho hi hm ++ L) w) :
    Calls Tryz.prog 40 #[.slice at_ ts.length ct, .func (.func 41) ⟨[]⟩ ⟨[.pointer (some ⟨bf, 0, none⟩)]⟩, .func (.func 42) ⟨[]⟩ ⟨[.pointer (some ⟨bf, 0, none⟩)]⟩] w fun e' w' => ∃ v' L', e' = .returned v' ∧ H w0 R L' w' ∧ (∃ (us : List Int) (a' : Option Addr) (cap' : Nat) (ho' hi' hm' : Heap) (vs' : List NV), v' = .int .i64 (us.getD 0 default) ∧ L' = bL N b a' vs' cap' bm ho' hi' hm' ++ L ∧ BS vs' a' cap' bm ho' hi' hm' ∧ TI ts N 0 (vs'.map pnV) us) := by
  have hN := hV.rng
  have hpos := hV.pos
  have hle := hV.le
  have hqs := hV.quests
  have hcst : ∀ m, ((ts.drop m).length : Int) + 2 * ews (fun _ => 1) (ts.drop m) ≤ 12288 := fun m => by
    have key : ∀ xs : List Nd, 0 ≤ ews (fun _ => 1) xs := fun xs => by
      induction xs with
      | nil => exact Int.le_refl 0
      | cons x xs ih => rw [ews_cons]; split <;> omega
    have split_ : ∀ (m : Nat) (xs : List Nd), ews (fun _ => 1) (xs.drop m) ≤ ews (fun _ => 1) xs := fun m => by
      induction m with
      | zero => intro xs; rw [List.drop_zero]; exact Int.le_refl _
      | succ m ih =>
        intro xs
        cases xs with
        | nil => exact Int.le_refl _
        | cons x xs =>
          rw [List.drop_succ_cons, ews_cons]
          have := ih xs
          split <;> omega
    have := split_ m ts
    rw [List.length_drop]
    omega
  unfold bL at hw
  simp only [List.cons_append, List.nil_append] at hw
  refine calls_in Tryz.func40 Tryz.ntmps40 rfl rfl (hw) ?_
  repeat' first
    | (refine J.isJ ?_; first | ((refine J.o 9 ?_; refine J.make (enc := encI) (0 : Int) hΓ rfl rfl rfl rfl rfl rfl (fun _ => rfl) (by omega) (by omega) (fun bp hp0 op0 => ?_))) | (first | (refine J.o 0 ?_; refine J.ev' hΓ ?_) | refine J.nil ?_ | (refine J.o 4 ?_; first | refine J.lT default hΓ ?_ | refine J.lR hΓ ?_) | (refine J.o 3 ?_; first | refine J.iJ hΓ ?_ | refine J.ev' hΓ ?_) | (refine J.o 1 ?_; first | refine J.sb ?_) | (refine J.o 5 ?_; first | refine J.t0 hΓ ?_ | refine J.tT _ default hΓ (fun _ _ => ?_)) | (refine J.o 7 ?_; refine J.al hΓ (fun _ => ?_)) | (refine J.o 10 ?_; refine J.ev' hΓ ?_) | (refine J.o 11 ?_; refine J.ev' hΓ ?_)))
    | (first | refine JC.seq ?_ | refine JC.region ?_ | refine JC.block ?_ | refine JC.ret ?_ | refine JC.exit ?_ | refine JC.skip ?_ | refine thenK.nn ?_ | refine thenK.x ?_ | refine blockK.nn ?_ | refine blockK.hit rfl ?_ | refine JC.condT rfl ?_ | refine JC.condF rfl ?_ | (refine JC.cond rfl (fun hc => ?_) (fun hc => ?_) <;> ((try simp only [decide_eq_true_eq, decide_eq_false_iff_not, beq_iff_eq, beq_eq_false_iff_ne, bne_iff_ne, bne_eq_false_iff_eq, Bool.not_eq_true', Bool.not_eq_false', Bool.not_eq_true, Bool.not_eq_false] at hc) <;> first | (first | (exact absurd rfl hc) | (exfalso; omega) | (exact absurd (hc.symm.trans (by assumption : _ = false)) (by decide)) | (exact absurd (hc.symm.trans (by assumption : _ = true)) (by decide))) | skip)) | refine drawK.nn ?_ | refine loopK.x ?_)
    | (fail)
    | fail
  all_goals first | (exfalso; omega) | skip
  refine JC.loopG (fun i => i == 8 || i == 9 || Nat.ble 16 i) (fun m g L' => ∃ (us : List Int) (a' : Option Addr) (cap' : Nat) (ho' hi' hm' : Heap) (vs' : List NV) (hv : Heap), g 8 = .int .i64 ((m : Int) - 1) ∧ m ≤ ts.length ∧ OwT encI 1 3 (some ⟨bp, 0, none⟩) ts.length us hv ∧ BS vs' a' cap' bm ho' hi' hm' ∧ TI ts N m (vs'.map pnV) us ∧ L' = hv :: bL N b a' vs' cap' bm ho' hi' hm' ++ L) ts.length
    ⟨List.replicate ts.length 0, a, cap, ho, hi, hm, [], hp0, rfl, Nat.le_refl _, op0, bs, TI.start ts N _ (List.length_replicate ..), rfl⟩ ?_
  clear op0 bs
  rintro m g L' ⟨us, a1, c1, ho1, hi1, hm1, vs1, hv, e8, hm, ov, bs1, ti, rfl⟩
  cases m with
  | zero =>
    refine JC.pin 8 e8 ?_
    clear e8
    have hln := ti.ln
    unfold bL
    repeat' first
      | (refine J.isJ ?_; first | ((refine J.o 4 ?_; refine J.lT default hΓ ?_ (hs := ov.sl) (hr := RdH.hd))) | (first | (refine J.o 0 ?_; refine J.ev' hΓ ?_) | refine J.nil ?_ | (refine J.o 4 ?_; first | refine J.lT default hΓ ?_ | refine J.lR hΓ ?_) | (refine J.o 3 ?_; first | refine J.iJ hΓ ?_ | refine J.ev' hΓ ?_) | (refine J.o 1 ?_; first | refine J.sb ?_) | (refine J.o 5 ?_; first | refine J.t0 hΓ ?_ | refine J.tT _ default hΓ (fun _ _ => ?_)) | (refine J.o 7 ?_; refine J.al hΓ (fun _ => ?_)) | (refine J.o 10 ?_; refine J.ev' hΓ ?_) | (refine J.o 11 ?_; refine J.ev' hΓ ?_)))
      | (first | refine JC.seq ?_ | refine JC.region ?_ | refine JC.block ?_ | refine JC.ret ?_ | refine JC.exit ?_ | refine JC.skip ?_ | refine thenK.nn ?_ | refine thenK.x ?_ | refine blockK.nn ?_ | refine blockK.hit rfl ?_ | refine JC.condT rfl ?_ | refine JC.condF rfl ?_ | (refine JC.cond rfl (fun hc => ?_) (fun hc => ?_) <;> ((try simp only [decide_eq_true_eq, decide_eq_false_iff_not, beq_iff_eq, beq_eq_false_iff_ne, bne_iff_ne, bne_eq_false_iff_eq, Bool.not_eq_true', Bool.not_eq_false', Bool.not_eq_true, Bool.not_eq_false] at hc) <;> first | (first | (exact absurd rfl hc) | (exfalso; omega) | (exact absurd (hc.symm.trans (by assumption : _ = false)) (by decide)) | (exact absurd (hc.symm.trans (by assumption : _ = true)) (by decide))) | skip)) | refine drawK.nn ?_ | refine loopK.x ?_)
      | (fail)
      | fail
    all_goals first | (exfalso; omega) | skip
    exact ret1f rfl rfl rfl (fun w1 hw => ⟨_, _, rfl, hw.drop, us, a1, c1, ho1, hi1, hm1, vs1, rfl, rfl, bs1, ti⟩)
  | succ k =>
    have e8k : g 8 = .int .i64 (k : Int) := by rw [e8]; congr 1; omega
    refine JC.pin 8 e8k ?_
    clear e8 e8k
    have hk : k < ts.length := by omega
    have hln := ti.ln
    have hle1 := ti.le
    have hcs := hcst (k + 1)
    rw [List.length_map] at hle1
    have hlb : vs1.length ≤ 12288 := by omega
    clear hcst
    by_cases hv0 : (ts.getD k default).v = 0
    · obtain ⟨hf, ti2⟩ := ti.leaf hV hk hv0
      rw [List.length_map] at hf
      unfold bL
      simp only [List.cons_append, List.nil_append]
      repeat' first
        | (refine J.isJ ?_; first | (first | (refine J.o 4 ?_; refine J.lT default hΓ ?_ (hs := hs) (hr := RdH.old fun _ hh => hh)) | (refine J.o 9 ?_; refine J.callvx eNet2 rfl rfl rfl (fun w hw => net2_any N hN (ts.getD k default).c hf hT bs1 ti.bt.ok (by omega) rb.tl.tl rf.tl.tl (hv6 hw)) ?_; rintro _ _ ⟨a2, c2, ho2, hi2, hm2, vs2, rfl, rfl, bs2, e2⟩; unfold bL; simp only [List.cons_append, List.nil_append]; refine J.perm (brv _ _ _ _ _ _) ?_) | (refine J.o 5 ?_; refine J.tT _ default hΓ (fun hv2 ov2 => ?_))) | (first | (refine J.o 0 ?_; refine J.ev' hΓ ?_) | refine J.nil ?_ | (refine J.o 4 ?_; first | refine J.lT default hΓ ?_ | refine J.lR hΓ ?_) | (refine J.o 3 ?_; first | refine J.iJ hΓ ?_ | refine J.ev' hΓ ?_) | (refine J.o 1 ?_; first | refine J.sb ?_) | (refine J.o 5 ?_; first | refine J.t0 hΓ ?_ | refine J.tT _ default hΓ (fun _ _ => ?_)) | (refine J.o 7 ?_; refine J.al hΓ (fun _ => ?_)) | (refine J.o 10 ?_; refine J.ev' hΓ ?_) | (refine J.o 11 ?_; refine J.ev' hΓ ?_)))
        | (first | refine JC.seq ?_ | refine JC.region ?_ | refine JC.block ?_ | refine JC.ret ?_ | refine JC.exit ?_ | refine JC.skip ?_ | refine thenK.nn ?_ | refine thenK.x ?_ | refine blockK.nn ?_ | refine blockK.hit rfl ?_ | refine JC.condT rfl ?_ | refine JC.condF rfl ?_ | (refine JC.cond rfl (fun hc => ?_) (fun hc => ?_) <;> ((try simp only [decide_eq_true_eq, decide_eq_false_iff_not, beq_iff_eq, beq_eq_false_iff_ne, bne_iff_ne, bne_eq_false_iff_eq, Bool.not_eq_true', Bool.not_eq_false', Bool.not_eq_true, Bool.not_eq_false] at hc) <;> first | (first | (exact absurd rfl hc) | (exfalso; omega) | (exact absurd (hc.symm.trans (by assumption : _ = false)) (by decide)) | (exact absurd (hc.symm.trans (by assumption : _ = true)) (by decide))) | skip)) | refine drawK.nn ?_ | refine loopK.x ?_)
        | (fail)
        | fail
      all_goals first | (exfalso; omega) | skip
      refine loopK.nn k (by omega) (by repeat (first | refine Ag.upd rfl ?_ | exact Ag.hv)) ⟨_, ⟨us.set k (addP (vs1.map pnV) (if (ts.getD k default).c then 1 else 0, 0, [])).1, a2, c2, ho2, hi2, hm2, vs2, hv2, rfl, by omega, ov2, bs2, by rw [e2]; exact ti2, rfl⟩, fun w hw => hdx hw⟩
    · obtain ⟨⟨r1, r2, r3, r4⟩, ⟨n0, n1⟩, ⟨y0, y1⟩, ao, h5⟩ := ti.rngs hV hk hv0
      have ti2 := ti.ask hV hk hv0
      have hvar := hV.var hk hv0
      unfold bL
      simp only [List.cons_append, List.nil_append]
      repeat' first
        | (refine J.isJ ?_; first | (first | (refine J.o 4 ?_; first | refine J.lT default hΓ ?_ (hs := hs) (hr := RdH.old fun _ hh => hh) | refine J.lT default hΓ ?_ (hs := ov.sl) (hr := RdH.hd.tl)) | (refine J.o 9 ?_; refine J.callvx eNet3 rfl rfl rfl (fun w hw => net3_any N hN (ts.getD k default).v (us.getD (ts.getD k default).no.toNat default) (us.getD (ts.getD k default).yes.toNat default) hvar h5 hT bs1 ti.bt.ok (by omega) rb.tl.tl rf.tl.tl (hv6 hw)) ?_; rintro _ _ ⟨a2, c2, ho2, hi2, hm2, vs2, rfl, rfl, bs2, e2⟩; unfold bL; simp only [List.cons_append, List.nil_append]; refine J.perm (brv _ _ _ _ _ _) ?_) | (refine J.o 5 ?_; refine J.tT _ default hΓ (fun hv2 ov2 => ?_))) | (first | (refine J.o 0 ?_; refine J.ev' hΓ ?_) | refine J.nil ?_ | (refine J.o 4 ?_; first | refine J.lT default hΓ ?_ | refine J.lR hΓ ?_) | (refine J.o 3 ?_; first | refine J.iJ hΓ ?_ | refine J.ev' hΓ ?_) | (refine J.o 1 ?_; first | refine J.sb ?_) | (refine J.o 5 ?_; first | refine J.t0 hΓ ?_ | refine J.tT _ default hΓ (fun _ _ => ?_)) | (refine J.o 7 ?_; refine J.al hΓ (fun _ => ?_)) | (refine J.o 10 ?_; refine J.ev' hΓ ?_) | (refine J.o 11 ?_; refine J.ev' hΓ ?_)))
        | (first | refine JC.seq ?_ | refine JC.region ?_ | refine JC.block ?_ | refine JC.ret ?_ | refine JC.exit ?_ | refine JC.skip ?_ | refine thenK.nn ?_ | refine thenK.x ?_ | refine blockK.nn ?_ | refine blockK.hit rfl ?_ | refine JC.condT rfl ?_ | refine JC.condF rfl ?_ | (refine JC.cond rfl (fun hc => ?_) (fun hc => ?_) <;> ((try simp only [decide_eq_true_eq, decide_eq_false_iff_not, beq_iff_eq, beq_eq_false_iff_ne, bne_iff_ne, bne_eq_false_iff_eq, Bool.not_eq_true', Bool.not_eq_false', Bool.not_eq_true, Bool.not_eq_false] at hc) <;> first | (first | (exact absurd rfl hc) | (exfalso; omega) | (exact absurd (hc.symm.trans (by assumption : _ = false)) (by decide)) | (exact absurd (hc.symm.trans (by assumption : _ = true)) (by decide))) | skip)) | refine drawK.nn ?_ | refine loopK.x ?_)
        | ((refine JC.drawW [] [15] (by kernel_rfl) (by kernel_rfl) ?_))
        | fail
      all_goals first | (exfalso; omega) | skip
      refine loopK.nn k (by omega) (by repeat (first | refine Ag.upd rfl ?_ | exact Ag.hv)) ⟨_, ⟨us.set k (askP (vs1.map pnV) (ts.getD k default).v (us.getD (ts.getD k default).no.toNat default) (us.getD (ts.getD k default).yes.toNat default)).1, a2, c2, ho2, hi2, hm2, vs2, hv2, rfl, by omega, ov2, bs2, by rw [e2]; exact ti2, rfl⟩, fun w hw => hdx hw⟩
end Go.Proofs.YtdiciemlbhkilaaGreatDoor
namespace Go.Proofs.YtdiciemlbhkilaaGreatDoor
open Go Go.Cx Go.RowKit
set_option linter.unusedVariables false
set_option linter.unusedSimpArgs false
set_option maxHeartbeats 4000000
attribute [local irreducible] J JC thenK blockK loopK roundK drawK retK QW Qt pel List.set Calls
attribute [local irreducible] JE Br eK0 eK3 brK clsAt checkT
theorem eTNet : Entr Tryz.prog 10 := Entr.of Tryz.func10 rfl rfl
theorem netT_err (a : Option Addr) (cap : Nat) (ts : List Nd) (n : Int) (h : Heap) (hs : SlT encN 4 a ts h) (he : checkT ts n ≠ 0) (w : World) (hw : Holds h w) :
    Calls Tryz.prog 10 #[.slice a ts.length cap, .int .i64 n] w fun e w' => e = .returned (.tuple #[.agg ⟨[.int .i64 0, .slice none 0 0]⟩, .int .i64 (checkT ts n)]) ∧ Below w.heap.size w w' := by
  have cC := fun w hw => check_any a cap ts n h hs w hw
  refine calls_of_JC (R := h) Tryz.func10 Tryz.ntmps10 rfl rfl (hw) ?_
  repeat' first
    | (refine J.isJ ?_; first | ((refine J.fc 21 ?_; refine J.call0 eCheck rfl rfl (fun w hw => cC w (hw.rdH (by first | exact RdH.hd | exact RdH.hd.tl | exact RdH.hd.tl.tl | exact RdH.hd.tl.tl.tl | exact RdH.hd.tl.tl.tl.tl | exact RdH.hd.tl.tl.tl.tl.tl | exact RdH.hd.tl.tl.tl.tl.tl.tl | exact RdH.hd.tl.tl.tl.tl.tl.tl.tl | exact RdH.old (fun _ hh => hh) | assumption))) ?_)) | (first | (refine J.o 0 ?_; refine J.ev' hΓ ?_) | refine J.nil ?_ | (refine J.o 3 ?_; first | refine J.ev' hΓ ?_) | (refine J.o 5 ?_; first | refine J.t0 hΓ ?_) | (refine J.o 7 ?_; refine J.al hΓ (fun _ => ?_)) | (refine J.o 8 ?_; refine J.bd hΓ ?_) | (refine J.o 10 ?_; refine J.ev' hΓ ?_) | (refine J.o 11 ?_; refine J.ev' hΓ ?_)))
    | (first | refine JC.seq ?_ | refine JC.region ?_ | refine JC.ret ?_ | refine thenK.nn ?_ | refine thenK.r ?_ | (refine JC.cond rfl (fun hc => ?_) (fun hc => ?_) <;> ((try simp only [decide_eq_true_eq, decide_eq_false_iff_not, beq_iff_eq, beq_eq_false_iff_ne, bne_iff_ne, bne_eq_false_iff_eq, Bool.not_eq_true', Bool.not_eq_false', Bool.not_eq_true, Bool.not_eq_false] at hc) <;> first | (first | (exact absurd rfl hc) | (exfalso; omega) | (exact absurd (hc.symm.trans (by assumption : _ = false)) (by decide)) | (exact absurd (hc.symm.trans (by assumption : _ = true)) (by decide))) | skip)))
    | (fail)
    | fail
  all_goals first | (exfalso; omega) | exact retCS hΓ rfl rfl rfl rfl Rd.hd rfl rfl (fun w1 hw => ⟨rfl, hw.below⟩)
theorem hv7 {w0 w : World} {R x y a b c d : Heap} {L : List Heap} (hw : H w0 R (x :: y :: a :: b :: c :: d :: L) w) : H w0 R (a :: b :: c :: d :: x :: y :: L) w := H.sel (l := [_, _, _, _, _, _]) (M := L) hw [2, 3, 4, 5, 0, 1]
theorem NetO.netIn {a : Option Addr} {c : Nat} {os : List NV} {hO hI : Heap} (no : NetO a c os hO hI) (hl : os.length ≤ 1000000) (hs : ∀ x, x ∈ os.map pnV → x.2.2.length ≤ 1000000) : NetIn a os (hO ++ hI) :=
  ⟨no.ow.sl.sub fun x hx => List.mem_append_left _ hx, fun v hv => (no.ins v hv).sub fun x hx => List.mem_append_right _ hx, fun v hv => hs (pnV v) (List.mem_map_of_mem hv), hl⟩
theorem Simp.short {N : Int} {X : List PN} (h : Simp N X) : ∀ x, x ∈ X → x.2.2.length ≤ X.length := fun x hx => by
  obtain ⟨i, hi, rfl⟩ := mem_getD hx
  have hr := formed_rng (h.fm i hi)
  by_cases hg : isG (X.getD i default)
  · have := asc_len _ 0 i (by omega) (h.gt i hi hg).2.1 hr
    omega
  · rw [formed_low (h.fm i hi) hg]; exact Nat.zero_le _
set_option maxHeartbeats 16000000 in
theorem netT_ok (a : Option Addr) (cap : Nat) (ts : List Nd) (n : Int) (h : Heap) (hs : SlT encN 4 a ts h) (he : checkT ts n = 0) (w : World) (hT : Tab w) (hw : Holds h w) :
    Calls Tryz.prog 10 #[.slice a ts.length cap, .int .i64 n] w (Gives (fun v g => ∃ ao os co, v = .tuple #[.agg ⟨[.int .i64 n, .slice ao os.length co]⟩, .int .i64 0] ∧ NetIn ao os g ∧ TNet ts n (os.map pnV)) w) := by
  have cC := fun w hw => check_any a cap ts n h hs w hw
  rw [he] at cC
  have hV := (valid_iff ts n).1 he
  have hN := hV.rng
  refine calls_of_JC (R := h) Tryz.func10 Tryz.ntmps10 rfl rfl (hw) ?_
  repeat' first
    | (refine J.isJ ?_; first | (first | (refine J.fc 21 ?_; refine J.call0 eCheck rfl rfl (fun w hw => cC w (hw.rdH (by first | exact RdH.hd | exact RdH.hd.tl | exact RdH.hd.tl.tl | exact RdH.hd.tl.tl.tl | exact RdH.hd.tl.tl.tl.tl | exact RdH.hd.tl.tl.tl.tl.tl | exact RdH.hd.tl.tl.tl.tl.tl.tl | exact RdH.hd.tl.tl.tl.tl.tl.tl.tl | exact RdH.old (fun _ hh => hh) | assumption))) ?_) | (refine J.fc 37 ?_; refine J.callx eNew rfl rfl (fun w hw => new_any n hN hw) ?_; rintro _ _ ⟨b, bm, rfl, rfl, bs0⟩; unfold bL; simp only [List.cons_append, List.nil_append]) | (refine J.o 7 ?_; first | refine J.al (d := 7) hΓ (fun b7 => ?_) | refine J.al (d := 9) hΓ (fun b9 => ?_)) | (refine J.o 14 ?_; first | refine J.mfV [.pointer (some ⟨b7, 0, none⟩)] (d := 23) hΓ ?_ | refine J.mfV [.pointer (some ⟨b9, 0, none⟩)] (d := 25) hΓ ?_ | refine J.mfV [.pointer (some ⟨b9, 0, none⟩)] (d := 26) hΓ ?_) | (refine J.fc 40 ?_; refine J.callx eFold rfl rfl (fun w hw => foldN_any a cap ts hs hV hT bs0 (show Rd _ _ b7 (bpO b) from Rd.hd.tl) (show Rd _ _ b9 (afO b7) from Rd.hd) (hv7 hw)) ?_; rintro _ _ ⟨us, a1, c1, ho1, hi1, hm1, vs1, rfl, rfl, bs1, ti⟩; unfold bL; simp only [List.cons_append, List.nil_append]; obtain ⟨⟨q0, q1⟩, tn⟩ := tree_net hV ti; obtain ⟨r, hr⟩ := Int.eq_ofNat_of_zero_le q0; rw [hr, Int.toNat_natCast] at tn; rw [hr] at q1 ⊢) | (refine J.o 4 ?_; refine J.lR hΓ ?_ (hr := Rd.hd.tl.tl.tl.tl.tl)) | (refine J.fc 43 ?_; refine J.callx eNet rfl rfl (fun w hw => net_any r (by rw [List.length_map] at q1; omega) bs1 ti.bt.ok ti.bt.sm.ord (by have h1 := ti.le; have h2 := hV.quests; have h3 := hV.le; rw [List.drop_zero, h2, List.length_map] at h1; omega) hw) ?_; rintro _ _ ⟨ao, co, os, hO, hI, rfl, rfl, no, eo⟩; unfold bL; simp only [List.cons_append, List.nil_append]; refine J.perm (bring_perm 8 _) ?_)) | (first | (refine J.o 0 ?_; refine J.ev' hΓ ?_) | refine J.nil ?_ | (refine J.o 4 ?_; first | refine J.lR hΓ ?_) | (refine J.o 3 ?_; first | refine J.ev' hΓ ?_) | (refine J.o 5 ?_; first | refine J.t0 hΓ ?_) | (refine J.o 7 ?_; refine J.al hΓ (fun _ => ?_)) | (refine J.o 10 ?_; refine J.ev' hΓ ?_) | (refine J.o 11 ?_; refine J.ev' hΓ ?_)))
    | (first | refine JC.seq ?_ | refine JC.region ?_ | refine JC.ret ?_ | refine JC.skip ?_ | refine thenK.nn ?_ | refine JC.condF rfl ?_)
    | (fail)
    | fail
  all_goals first | (exfalso; omega) | skip
  rw [← eo] at tn
  have hlo := tn.le
  rw [List.length_map] at hlo
  have h3 := hV.le
  have hni := no.netIn (by omega) (fun x hx => by have := tn.sm.short x hx; rw [List.length_map] at this; omega)
  exact retCS hΓ rfl rfl rfl rfl Rd.hd rfl rfl (fun w1 hw => Gives.of hw.drop.mg1 ⟨ao, os, co, rfl, hni, tn⟩)
end Go.Proofs.YtdiciemlbhkilaaGreatDoor
namespace Go.Proofs.YtdiciemlbhkilaaGreatDoor
open Go Go.Cx Go.RowKit
set_option linter.unusedVariables false
set_option linter.unusedSimpArgs false
set_option maxHeartbeats 4000000
attribute [local irreducible] J JC thenK blockK loopK roundK drawK retK QW Qt pel List.set Calls
attribute [local irreducible] JE Br eK0 eK3 brK
theorem eHas05 : Entr Tryz.prog 89 := Entr.of Tryz.func89 rfl rfl
theorem has05_any (s : Nat × Nat) (hs : okS s) (v : Int) (w : World) :
    Calls Tryz.prog 89 #[sv s, .int .i64 v] w fun e w' => e = .returned (.bool (hasB s v)) ∧ Below w.heap.size w w' := by
  obtain ⟨h1, h2⟩ := hs
  unfold hasB
  by_cases hl : 1 ≤ v ∧ v ≤ 64
  · have e1 : (v - 1) / 64 = 0 := by omega
    have e2 : (v - 1) % 64 = v - 1 := by omega
    refine calls_of_JC (R := []) Tryz.func89 Tryz.ntmps89 rfl rfl (Holds.nil _) ?_
    repeat' first
      | (refine J.isJ ?_; (first | (first | (refine J.o 0 ?_; refine J.ev' hΓ ?_) | refine J.nil ?_ | refine J.kd ?_ | (refine J.o 4 ?_; first | refine J.e0 hΓ ?_) | (refine J.o 3 ?_; first | refine J.iA hΓ ?_ | refine J.ev' hΓ ?_) | (refine J.o 1 ?_; first | refine J.sb ?_ | refine J.qu ?_ | refine J.rm ?_ | refine J.sr ?_) | (refine J.o 2 ?_; refine J.cv _ hΓ ?_) | (refine J.o 6 ?_; refine J.bx (fun _ => ?_)) | (refine J.o 10 ?_; first | refine J.ev' hΓ ?_) | (refine J.o 11 ?_; first | refine J.ev' hΓ ?_)) | ((fail_if_success refine J.wt ?_); refine J.gc rfl rfl (fun hc => ?_) (fun hc => ?_) <;> ((try simp only [decide_eq_true_eq, decide_eq_false_iff_not, beq_iff_eq, beq_eq_false_iff_ne, bne_iff_ne, bne_eq_false_iff_eq, Bool.not_eq_true', Bool.not_eq_false', Bool.not_eq_true, Bool.not_eq_false] at hc) <;> first | (first | (exact absurd rfl hc) | (exfalso; omega) | (exact absurd (hc.symm.trans (by assumption : _ = false)) (by decide)) | (exact absurd (hc.symm.trans (by assumption : _ = true)) (by decide))) | skip))))
      | (first | refine JC.seq ?_ | refine JC.region ?_ | refine JC.ret ?_ | refine thenK.nn ?_)
      | fail
    all_goals first | (exfalso; omega) | skip
    all_goals (refine ret1f rfl rfl rfl (fun w1 hw => ⟨retB ?_, hw.below⟩))
    rw [if_pos hl, ← shr_bit, e2]
  by_cases hh : 65 ≤ v ∧ v ≤ 128
  · have e1 : (v - 1) / 64 = 1 := by omega
    have e2 : (v - 1) % 64 = v - 65 := by omega
    refine calls_of_JC (R := []) Tryz.func89 Tryz.ntmps89 rfl rfl (Holds.nil _) ?_
    repeat' first
      | (refine J.isJ ?_; (first | (first | (refine J.o 0 ?_; refine J.ev' hΓ ?_) | refine J.nil ?_ | refine J.kd ?_ | (refine J.o 4 ?_; first | refine J.e0 hΓ ?_) | (refine J.o 3 ?_; first | refine J.iA hΓ ?_ | refine J.ev' hΓ ?_) | (refine J.o 1 ?_; first | refine J.sb ?_ | refine J.qu ?_ | refine J.rm ?_ | refine J.sr ?_) | (refine J.o 2 ?_; refine J.cv _ hΓ ?_) | (refine J.o 6 ?_; refine J.bx (fun _ => ?_)) | (refine J.o 10 ?_; first | refine J.ev' hΓ ?_) | (refine J.o 11 ?_; first | refine J.ev' hΓ ?_)) | ((fail_if_success refine J.wt ?_); refine J.gc rfl rfl (fun hc => ?_) (fun hc => ?_) <;> ((try simp only [decide_eq_true_eq, decide_eq_false_iff_not, beq_iff_eq, beq_eq_false_iff_ne, bne_iff_ne, bne_eq_false_iff_eq, Bool.not_eq_true', Bool.not_eq_false', Bool.not_eq_true, Bool.not_eq_false] at hc) <;> first | (first | (exact absurd rfl hc) | (exfalso; omega) | (exact absurd (hc.symm.trans (by assumption : _ = false)) (by decide)) | (exact absurd (hc.symm.trans (by assumption : _ = true)) (by decide))) | skip))))
      | (first | refine JC.seq ?_ | refine JC.region ?_ | refine JC.ret ?_ | refine thenK.nn ?_)
      | fail
    all_goals first | (exfalso; omega) | skip
    all_goals (refine ret1f rfl rfl rfl (fun w1 hw => ⟨retB ?_, hw.below⟩))
    rw [if_neg hl, if_pos hh, ← shr_bit, e2]
  rw [if_neg hl, if_neg hh]
  refine calls_of_JC (R := []) Tryz.func89 Tryz.ntmps89 rfl rfl (Holds.nil _) ?_
  repeat' first
    | (refine J.isJ ?_; (first | (first | (refine J.o 0 ?_; refine J.ev' hΓ ?_) | refine J.nil ?_ | refine J.kd ?_ | (refine J.o 4 ?_; first | refine J.e0 hΓ ?_) | (refine J.o 3 ?_; first | refine J.iA hΓ ?_ | refine J.ev' hΓ ?_) | (refine J.o 1 ?_; first | refine J.sb ?_ | refine J.qu ?_ | refine J.rm ?_ | refine J.sr ?_) | (refine J.o 2 ?_; refine J.cv _ hΓ ?_) | (refine J.o 6 ?_; refine J.bx (fun _ => ?_)) | (refine J.o 10 ?_; first | refine J.ev' hΓ ?_) | (refine J.o 11 ?_; first | refine J.ev' hΓ ?_)) | ((fail_if_success refine J.wt ?_); refine J.gc rfl rfl (fun hc => ?_) (fun hc => ?_) <;> ((try simp only [decide_eq_true_eq, decide_eq_false_iff_not, beq_iff_eq, beq_eq_false_iff_ne, bne_iff_ne, bne_eq_false_iff_eq, Bool.not_eq_true', Bool.not_eq_false', Bool.not_eq_true, Bool.not_eq_false] at hc) <;> first | (first | (exact absurd rfl hc) | (exfalso; omega) | (exact absurd (hc.symm.trans (by assumption : _ = false)) (by decide)) | (exact absurd (hc.symm.trans (by assumption : _ = true)) (by decide))) | skip))))
    | (first | refine JC.seq ?_ | refine JC.region ?_ | refine JC.ret ?_ | refine thenK.nn ?_)
    | fail
  all_goals first | (exfalso; omega) | exact ret1f rfl rfl rfl (fun w1 hw => ⟨rfl, hw.below⟩)
theorem eValid05 : Entr Tryz.prog 86 := Entr.of Tryz.func86 rfl rfl
theorem valid05_any (l n : Int) (hn : 0 ≤ n ∧ n ≤ 128) (w : World) : Calls Tryz.prog 86 #[.int .i64 l, .int .i64 n] w fun e w' => e = .returned (.bool (validB l n)) ∧ Below w.heap.size w w' := by
  refine calls_of_JC (R := []) Tryz.func86 Tryz.ntmps86 rfl rfl (Holds.nil _) ?_
  repeat' first
    | (refine J.isJ ?_; (first | (first | (refine J.o 0 ?_; refine J.ev' hΓ ?_) | refine J.nil ?_ | refine J.kd ?_ | (refine J.o 3 ?_; first | refine J.ev' hΓ ?_) | (refine J.o 1 ?_; first | refine J.ng ?_) | (refine J.o 10 ?_; first | refine J.ev' hΓ ?_) | (refine J.o 11 ?_; first | refine J.ev' hΓ ?_)) | ((fail_if_success refine J.wt ?_); refine J.gc rfl rfl (fun hc => ?_) (fun hc => ?_) <;> ((try simp only [decide_eq_true_eq, decide_eq_false_iff_not, beq_iff_eq, beq_eq_false_iff_ne, bne_iff_ne, bne_eq_false_iff_eq, Bool.not_eq_true', Bool.not_eq_false', Bool.not_eq_true, Bool.not_eq_false] at hc) <;> first | (first | (exact absurd rfl hc) | (exfalso; omega) | (exact absurd (hc.symm.trans (by assumption : _ = false)) (by decide)) | (exact absurd (hc.symm.trans (by assumption : _ = true)) (by decide))) | skip))))
    | (first | refine JC.seq ?_ | refine JC.region ?_ | refine JC.ret ?_ | refine thenK.nn ?_)
    | fail
  all_goals first | (exfalso; omega) | skip
  all_goals (refine ret1f rfl rfl rfl (fun w1 hw => ⟨retB ?_, hw.below⟩))
  all_goals (clear hw; unfold validB; grind)
section
variable {P : Program} {n : Nat} {w0 : World} {R : Heap} {l0 : List Oper} {K : Exit → Fr → List Heap → Prop} {f : Fr} {L : List Heap} {rest : List (Nat × Oper)} {κ : Nat}
variable {d : Nat} {ty : TypeId} {pos : String} {aft : Array Edge} {g : Option (Nat × Bool)} {t u : TypeId} {x y : Operand}
theorem J.au {a b : Nat} (k : J P n w0 R l0 K rest (upd f d (.int .u64 ((a + b : Nat) : Int))) L) (hg : wantB n f l0 ⟨some d, .binOp .add t x y u, ty, pos, aft, g⟩ = true := by exact rfl) (hx : Cx.ev n f x = .int .u64 (a : Int) := by exact rfl) (hy : Cx.ev n f y = .int .u64 (b : Int) := by exact rfl) (h : a + b < 2 ^ 64 := by omega) : J P n w0 R l0 K ((κ, ⟨some d, .binOp .add t x y u, ty, pos, aft, g⟩) :: rest) f L :=
  J.p hg (bin_run hx hy (fun w => by
    have h1 : IntKind.u64.wrap ((a : Int) + (b : Int)) = ((a + b : Nat) : Int) := by rw [IntWalk.u64_in _ (by omega)]; rfl
    simp [binOp, Op.intArith, h1, go_sem])) k
end
theorem or_new : ∀ (j a : Nat), a.testBit j = false → a + 2 ^ j = a ||| 2 ^ j
  | 0, a, h => by
    rw [Nat.testBit_zero, decide_eq_false_iff_not] at h
    have e : a = 2 * (a / 2) := by omega
    have h2 : (2 * (a / 2)) ||| 1 = 2 * (a / 2) + 1 := by
      have := Nat.two_pow_add_eq_or_of_lt (b := 1) (i := 1) (by decide) (a / 2)
      rw [Nat.pow_one] at this
      exact this.symm
    rw [Nat.pow_zero, e, h2]
  | j + 1, a, h => by
    rw [Nat.testBit_succ] at h
    have ih := or_new j (a / 2) h
    refine Nat.eq_of_testBit_eq fun i => ?_
    cases i with
    | zero =>
      rw [Nat.testBit_or, Nat.testBit_zero, Nat.testBit_zero, Nat.testBit_zero, Nat.pow_succ]
      have e1 : (a + 2 ^ j * 2) % 2 = a % 2 := by omega
      have e2 : (2 ^ j * 2) % 2 = 0 := by omega
      rw [e1, e2]
      simp
    | succ i =>
      rw [Nat.testBit_or, Nat.testBit_succ, Nat.testBit_succ, Nat.testBit_succ, Nat.pow_succ]
      have e1 : (a + 2 ^ j * 2) / 2 = a / 2 + 2 ^ j := by omega
      have e2 : 2 ^ j * 2 / 2 = 2 ^ j := by omega
      rw [e1, e2, ih, Nat.testBit_or]
theorem eWith21 : Entr Tryz.prog 87 := Entr.of Tryz.func87 rfl rfl
theorem with21_any (s : Nat × Nat) (hs : okS s) (v : Int) (hv : 1 ≤ v ∧ v ≤ 128) (w : World) : Calls Tryz.prog 87 #[sv s, .int .i64 v] w fun e w' => e = .returned (sv (withS s v)) ∧ Below w.heap.size w w' := by
  have cH := fun w => has05_any s hs v w
  cases hb : hasB s v with
  | true =>
    have e : withS s v = s := okS_ext (okS_with hs v) hs fun u => by
      have h1 := has_with s v u hv
      cases h2 : hasB s u with
      | true => exact h1.2 (.inl h2)
      | false =>
        cases h3 : hasB (withS s v) u with
        | false => rfl
        | true =>
          rcases h1.1 h3 with h4 | h4
          · rw [h4] at h2; cases h2
          · rw [h4, hb] at h2; cases h2
    rw [hb] at cH
    rw [e]
    obtain ⟨h1, h2⟩ := hs
    refine calls_of_JC (R := []) Tryz.func87 Tryz.ntmps87 rfl rfl (Holds.nil _) ?_
    repeat' first
      | (refine J.isJ ?_; first | (first | (refine J.o 0 ?_; refine J.ev' hΓ ?_) | refine J.nil ?_ | (refine J.o 4 ?_; first | refine J.e1 hΓ ?_) | (refine J.o 3 ?_; first | refine J.iA hΓ ?_ | refine J.ev' hΓ ?_) | (refine J.o 1 ?_; first | refine J.sb ?_ | refine J.qu ?_ | refine J.rm ?_ | refine J.s1 ?_) | (refine J.o 2 ?_; refine J.cv _ hΓ ?_) | (refine J.o 5 ?_; first | refine J.t0 hΓ ?_ | refine J.t1 hΓ ?_) | (refine J.o 6 ?_; refine J.bx (fun _ => ?_)) | (refine J.o 7 ?_; refine J.al hΓ (fun _ => ?_)) | (refine J.o 10 ?_; first | refine J.ev' hΓ ?_) | (refine J.o 11 ?_; first | refine J.ev' hΓ ?_)) | ((refine J.fc 89 ?_; refine J.call0 eHas05 rfl rfl (fun w hw => cH w) ?_)))
      | (first | refine JC.seq ?_ | refine JC.region ?_ | refine JC.ret ?_ | refine JC.skip ?_ | refine thenK.nn ?_ | refine JC.condT rfl ?_ | refine JC.condF rfl ?_)
      | fail
    all_goals (refine retC hΓ rfl rfl rfl (by first | exact Rd.hd | exact Rd.hd.tl) rfl (fun w1 hw => ⟨rfl, hw.below⟩))
  | false =>
    rw [hb] at cH
    obtain ⟨h1, h2⟩ := hs
    unfold hasB at hb
    unfold withS
    by_cases hl : 1 ≤ v ∧ v ≤ 64
    · rw [if_pos hl] at hb ⊢
      have e1 : (v - 1) / 64 = 0 := by omega
      have e2 : (v - 1) % 64 = v - 1 := by omega
      have hn := or_new _ _ hb
      have hlt : s.1 + 2 ^ (v - 1).toNat < 2 ^ 64 := by rw [hn]; exact Nat.or_lt_two_pow h1 (pow64 (by omega))
      refine calls_of_JC (R := []) Tryz.func87 Tryz.ntmps87 rfl rfl (Holds.nil _) ?_
      repeat' first
        | (refine J.isJ ?_; first | (first | (refine J.o 0 ?_; refine J.ev' hΓ ?_) | refine J.nil ?_ | (refine J.o 4 ?_; first | refine J.e1 hΓ ?_) | (refine J.o 3 ?_; first | refine J.iA hΓ ?_ | refine J.ev' hΓ ?_) | (refine J.o 1 ?_; first | refine J.sb ?_ | refine J.qu ?_ | refine J.rm ?_ | refine J.s1 ?_) | (refine J.o 2 ?_; refine J.cv _ hΓ ?_) | (refine J.o 5 ?_; first | refine J.t0 hΓ ?_ | refine J.t1 hΓ ?_) | (refine J.o 6 ?_; refine J.bx (fun _ => ?_)) | (refine J.o 7 ?_; refine J.al hΓ (fun _ => ?_)) | (refine J.o 10 ?_; first | refine J.ev' hΓ ?_) | (refine J.o 11 ?_; first | refine J.ev' hΓ ?_)) | (first | (refine J.fc 89 ?_; refine J.call0 eHas05 rfl rfl (fun w hw => cH w) ?_) | (refine J.o 1 ?_; refine J.au (a := s.1) (b := 2 ^ (v - 1).toNat) ?_ (h := hlt) (hy := by rw [e2]; exact rfl))))
        | (first | refine JC.seq ?_ | refine JC.region ?_ | refine JC.ret ?_ | refine JC.skip ?_ | refine thenK.nn ?_ | refine JC.condT rfl ?_ | refine JC.condF rfl ?_)
        | fail
      all_goals first | (exfalso; omega) | skip
      all_goals (refine retC hΓ rfl rfl rfl (by first | exact Rd.hd | exact Rd.hd.tl) rfl (fun w1 hw => ⟨by rw [← hn]; rfl, hw.below⟩))
    · have hh : 65 ≤ v ∧ v ≤ 128 := by omega
      rw [if_neg hl, if_pos hh] at hb ⊢
      have e1 : (v - 1) / 64 = 1 := by omega
      have e2 : (v - 1) % 64 = v - 65 := by omega
      have hn := or_new _ _ hb
      have hlt : s.2 + 2 ^ (v - 65).toNat < 2 ^ 64 := by rw [hn]; exact Nat.or_lt_two_pow h2 (pow64 (by omega))
      refine calls_of_JC (R := []) Tryz.func87 Tryz.ntmps87 rfl rfl (Holds.nil _) ?_
      repeat' first
        | (refine J.isJ ?_; first | (first | (refine J.o 0 ?_; refine J.ev' hΓ ?_) | refine J.nil ?_ | (refine J.o 4 ?_; first | refine J.e1 hΓ ?_) | (refine J.o 3 ?_; first | refine J.iA hΓ ?_ | refine J.ev' hΓ ?_) | (refine J.o 1 ?_; first | refine J.sb ?_ | refine J.qu ?_ | refine J.rm ?_ | refine J.s1 ?_) | (refine J.o 2 ?_; refine J.cv _ hΓ ?_) | (refine J.o 5 ?_; first | refine J.t0 hΓ ?_ | refine J.t1 hΓ ?_) | (refine J.o 6 ?_; refine J.bx (fun _ => ?_)) | (refine J.o 7 ?_; refine J.al hΓ (fun _ => ?_)) | (refine J.o 10 ?_; first | refine J.ev' hΓ ?_) | (refine J.o 11 ?_; first | refine J.ev' hΓ ?_)) | (first | (refine J.fc 89 ?_; refine J.call0 eHas05 rfl rfl (fun w hw => cH w) ?_) | (refine J.o 1 ?_; refine J.au (a := s.2) (b := 2 ^ (v - 65).toNat) ?_ (h := hlt) (hy := by rw [e2]; exact rfl))))
        | (first | refine JC.seq ?_ | refine JC.region ?_ | refine JC.ret ?_ | refine JC.skip ?_ | refine thenK.nn ?_ | refine JC.condT rfl ?_ | refine JC.condF rfl ?_)
        | fail
      all_goals first | (exfalso; omega) | skip
      all_goals (refine retC hΓ rfl rfl rfl (by first | exact Rd.hd | exact Rd.hd.tl) rfl (fun w1 hw => ⟨by rw [← hn]; rfl, hw.below⟩))
theorem eUnion21 : Entr Tryz.prog 88 := Entr.of Tryz.func88 rfl rfl
def unTo (s t : Nat × Nat) : Nat → Nat × Nat
  | 0 => s
  | k + 1 => if hasB t ((k : Int) + 1) = true then withS (unTo s t k) ((k : Int) + 1) else unTo s t k
theorem okS_unTo {s : Nat × Nat} (hs : okS s) (t : Nat × Nat) : ∀ k, okS (unTo s t k)
  | 0 => hs
  | k + 1 => by
    unfold unTo
    split
    · exact okS_with (okS_unTo hs t k) _
    · exact okS_unTo hs t k
theorem has_unTo (s t : Nat × Nat) (u : Int) : ∀ k : Nat, k ≤ 128 → (hasB (unTo s t k) u = true ↔ hasB s u = true ∨ (hasB t u = true ∧ 1 ≤ u ∧ u ≤ k))
  | 0, _ => by
    unfold unTo
    constructor
    · exact .inl
    · rintro (h | ⟨_, h1, h2⟩)
      · exact h
      · omega
  | k + 1, hk => by
    have ih := has_unTo s t u k (by omega)
    unfold unTo
    by_cases hb : hasB t ((k : Int) + 1) = true
    · rw [if_pos hb, has_with _ _ _ (by omega), ih]
      constructor
      · rintro ((h | ⟨h, h1, h2⟩) | h)
        · exact .inl h
        · exact .inr ⟨h, by omega, by omega⟩
        · exact .inr ⟨by rw [h]; exact hb, by omega, by omega⟩
      · rintro (h | ⟨h, h1, h2⟩)
        · exact .inl (.inl h)
        · by_cases e : u = (k : Int) + 1
          · exact .inr e
          · exact .inl (.inr ⟨h, h1, by omega⟩)
    · rw [if_neg hb, ih]
      constructor
      · rintro (h | ⟨h, h1, h2⟩)
        · exact .inl h
        · exact .inr ⟨h, by omega, by omega⟩
      · rintro (h | ⟨h, h1, h2⟩)
        · exact .inl h
        · by_cases e : u = (k : Int) + 1
          · rw [e] at h; exact absurd h hb
          · exact .inr ⟨h, h1, by omega⟩
theorem unTo_all {s t : Nat × Nat} (hs : okS s) (ht : okS t) : unTo s t 128 = uniS s t := okS_ext (okS_unTo hs t _) (okS_uni hs ht) fun u => by
  rw [Bool.eq_iff_iff, has_unTo s t u 128 (Nat.le_refl _), has_uni, Bool.or_eq_true]
  constructor
  · rintro (h | ⟨h, _⟩)
    · exact .inl h
    · exact .inr h
  · rintro (h | h)
    · exact .inl h
    · exact .inr ⟨h, has_rng h⟩
set_option maxRecDepth 20000 in
theorem union21_any (s t : Nat × Nat) (hs : okS s) (ht : okS t) (w : World) : Calls Tryz.prog 88 #[sv s, sv t] w fun e w' => e = .returned (sv (uniS s t)) ∧ Below w.heap.size w w' := by
  rw [← unTo_all hs ht]
  refine calls_of_JC (R := []) Tryz.func88 Tryz.ntmps88 rfl rfl (Holds.nil _) ?_
  repeat' first
    | (refine J.isJ ?_; (first | (first | (refine J.o 0 ?_; refine J.ev' hΓ ?_) | refine J.nil ?_ | (refine J.o 4 ?_; first | refine J.e0 hΓ ?_ | refine J.e1 hΓ ?_) | (refine J.o 3 ?_; first | refine J.ev' hΓ ?_) | (refine J.o 1 ?_; first | refine J.ad ?_) | (refine J.o 5 ?_; first | refine J.t0 hΓ ?_ | refine J.t2 hΓ ?_) | (refine J.o 6 ?_; refine J.bx (fun _ => ?_)) | (refine J.o 7 ?_; refine J.al hΓ (fun _ => ?_)) | (refine J.o 10 ?_; first | refine J.ev' hΓ ?_) | (refine J.o 11 ?_; first | refine J.ev' hΓ ?_))))
    | (first | refine JC.seq ?_ | refine JC.region ?_ | refine JC.block ?_ | refine JC.ret ?_ | refine JC.exit ?_ | refine JC.skip ?_ | refine thenK.nn ?_ | refine thenK.x ?_ | refine blockK.nn ?_ | refine blockK.hit rfl ?_ | refine JC.condT rfl ?_ | refine JC.condF rfl ?_ | (refine JC.cond rfl (fun hc => ?_) (fun hc => ?_) <;> ((try simp only [decide_eq_true_eq, decide_eq_false_iff_not, beq_iff_eq, beq_eq_false_iff_ne, bne_iff_ne, bne_eq_false_iff_eq, Bool.not_eq_true', Bool.not_eq_false', Bool.not_eq_true, Bool.not_eq_false] at hc) <;> first | (first | (exact absurd rfl hc) | (exfalso; omega) | (exact absurd (hc.symm.trans (by assumption : _ = false)) (by decide)) | (exact absurd (hc.symm.trans (by assumption : _ = true)) (by decide))) | skip)) | refine loopK.x ?_)
    | fail
  all_goals first | (exfalso; omega) | skip
  rename_i b2 b3 b4
  refine JC.gen [(2, .pointer (some ⟨b2, 0, none⟩)), (3, .pointer (some ⟨b3, 0, none⟩)), (4, .pointer (some ⟨b4, 0, none⟩)), (5, .int .i64 1)] ⟨rfl, rfl, rfl, rfl, trivial⟩ (fun F1 => ?_)
  refine JC.weak (L' := [[(b2, setO (unTo s t 0))], [(b3, setO t)], [(b4, setO (0, 0))]]) (fun w hw => H.sel (l := [_, _, _]) (M := []) hw [2, 1, 0]) ?_
  refine JC.loop (fun i => Nat.ble 5 i) (fun m g L' => ∃ (k : Nat), g 5 = .int .i64 ((k : Int) + 1) ∧ k + m = 128 ∧ L' = [[(b2, setO (unTo s t k))], [(b3, setO t)], [(b4, setO (0, 0))]]) 128 ⟨0, rfl, by omega, rfl⟩ ?_
  rintro m g L' ⟨k, e5, hkm, rfl⟩
  refine JC.pin 5 e5 ?_
  clear e5
  have hok := okS_unTo hs t k
  have hstep : unTo s t (k + 1) = if hasB t ((k : Int) + 1) = true then withS (unTo s t k) ((k : Int) + 1) else unTo s t k := rfl
  have hok2 := hok
  obtain ⟨o1, o2⟩ := hok
  have ht' := ht
  obtain ⟨t1, t2⟩ := ht'
  unfold setO
  rcases Nat.lt_or_ge k 128 with hk | hk
  case inr =>
    have e : k = 128 := by omega
    subst e
    repeat' first
      | (refine J.isJ ?_; (first | (first | (refine J.o 0 ?_; refine J.ev' hΓ ?_) | refine J.nil ?_ | (refine J.o 4 ?_; first | refine J.e0 hΓ ?_ | refine J.e1 hΓ ?_) | (refine J.o 3 ?_; first | refine J.ev' hΓ ?_) | (refine J.o 1 ?_; first | refine J.ad ?_) | (refine J.o 5 ?_; first | refine J.t0 hΓ ?_ | refine J.t2 hΓ ?_) | (refine J.o 6 ?_; refine J.bx (fun _ => ?_)) | (refine J.o 7 ?_; refine J.al hΓ (fun _ => ?_)) | (refine J.o 10 ?_; first | refine J.ev' hΓ ?_) | (refine J.o 11 ?_; first | refine J.ev' hΓ ?_))))
      | (first | refine JC.seq ?_ | refine JC.region ?_ | refine JC.block ?_ | refine JC.ret ?_ | refine JC.exit ?_ | refine JC.skip ?_ | refine thenK.nn ?_ | refine thenK.x ?_ | refine blockK.nn ?_ | refine blockK.hit rfl ?_ | refine JC.condT rfl ?_ | refine JC.condF rfl ?_ | (refine JC.cond rfl (fun hc => ?_) (fun hc => ?_) <;> ((try simp only [decide_eq_true_eq, decide_eq_false_iff_not, beq_iff_eq, beq_eq_false_iff_ne, bne_iff_ne, bne_eq_false_iff_eq, Bool.not_eq_true', Bool.not_eq_false', Bool.not_eq_true, Bool.not_eq_false] at hc) <;> first | (first | (exact absurd rfl hc) | (exfalso; omega) | (exact absurd (hc.symm.trans (by assumption : _ = false)) (by decide)) | (exact absurd (hc.symm.trans (by assumption : _ = true)) (by decide))) | skip)) | refine loopK.x ?_)
      | fail
    all_goals first | (exfalso; omega) | skip
    all_goals (refine retC hΓ rfl rfl rfl (by first | exact Rd.hd | exact Rd.hd.tl | exact Rd.hd.tl.tl) rfl (fun w1 hw => ⟨rfl, hw.below⟩))
  have cH := fun w => has05_any t ht ((k : Int) + 1) w
  have cW := fun w => with21_any (unTo s t k) hok2 ((k : Int) + 1) (by omega) w
  cases hb : hasB t ((k : Int) + 1) with
  | true =>
    rw [hb] at cH
    rw [hb, if_pos rfl] at hstep
    rw [← hstep] at cW
    repeat' first
      | (refine J.isJ ?_; first | (first | (refine J.o 0 ?_; refine J.ev' hΓ ?_) | refine J.nil ?_ | (refine J.o 4 ?_; first | refine J.e0 hΓ ?_ | refine J.e1 hΓ ?_) | (refine J.o 3 ?_; first | refine J.ev' hΓ ?_) | (refine J.o 1 ?_; first | refine J.ad ?_) | (refine J.o 5 ?_; first | refine J.t0 hΓ ?_ | refine J.t2 hΓ ?_) | (refine J.o 6 ?_; refine J.bx (fun _ => ?_)) | (refine J.o 7 ?_; refine J.al hΓ (fun _ => ?_)) | (refine J.o 10 ?_; first | refine J.ev' hΓ ?_) | (refine J.o 11 ?_; first | refine J.ev' hΓ ?_)) | (first | (refine J.fc 89 ?_; refine J.call0 eHas05 rfl rfl (fun w hw => cH w) ?_) | (refine J.fc 87 ?_; refine J.call0 eWith21 rfl rfl (fun w hw => cW w) ?_)))
      | (first | refine JC.seq ?_ | refine JC.region ?_ | refine JC.block ?_ | refine JC.ret ?_ | refine JC.exit ?_ | refine JC.skip ?_ | refine thenK.nn ?_ | refine thenK.x ?_ | refine blockK.nn ?_ | refine blockK.hit rfl ?_ | refine JC.condT rfl ?_ | refine JC.condF rfl ?_ | (refine JC.cond rfl (fun hc => ?_) (fun hc => ?_) <;> ((try simp only [decide_eq_true_eq, decide_eq_false_iff_not, beq_iff_eq, beq_eq_false_iff_ne, bne_iff_ne, bne_eq_false_iff_eq, Bool.not_eq_true', Bool.not_eq_false', Bool.not_eq_true, Bool.not_eq_false] at hc) <;> first | (first | (exact absurd rfl hc) | (exfalso; omega) | (exact absurd (hc.symm.trans (by assumption : _ = false)) (by decide)) | (exact absurd (hc.symm.trans (by assumption : _ = true)) (by decide))) | skip)) | refine loopK.x ?_)
      | fail
    all_goals first | (exfalso; omega) | skip
    all_goals refine loopK.nn (m - 1) (by omega) (by repeat (first | refine Ag.upd rfl ?_ | exact Ag.hv)) ⟨k + 1, ?_, by omega, rfl⟩
    all_goals (show Value.int .i64 _ = _; congr 1)
  | false =>
    rw [hb] at cH
    rw [hb, if_neg Bool.false_ne_true] at hstep
    rw [← hstep] at o1 o2 ⊢
    repeat' first
      | (refine J.isJ ?_; first | (first | (refine J.o 0 ?_; refine J.ev' hΓ ?_) | refine J.nil ?_ | (refine J.o 4 ?_; first | refine J.e0 hΓ ?_ | refine J.e1 hΓ ?_) | (refine J.o 3 ?_; first | refine J.ev' hΓ ?_) | (refine J.o 1 ?_; first | refine J.ad ?_) | (refine J.o 5 ?_; first | refine J.t0 hΓ ?_ | refine J.t2 hΓ ?_) | (refine J.o 6 ?_; refine J.bx (fun _ => ?_)) | (refine J.o 7 ?_; refine J.al hΓ (fun _ => ?_)) | (refine J.o 10 ?_; first | refine J.ev' hΓ ?_) | (refine J.o 11 ?_; first | refine J.ev' hΓ ?_)) | ((refine J.fc 89 ?_; refine J.call0 eHas05 rfl rfl (fun w hw => cH w) ?_)))
      | (first | refine JC.seq ?_ | refine JC.region ?_ | refine JC.block ?_ | refine JC.ret ?_ | refine JC.exit ?_ | refine JC.skip ?_ | refine thenK.nn ?_ | refine thenK.x ?_ | refine blockK.nn ?_ | refine blockK.hit rfl ?_ | refine JC.condT rfl ?_ | refine JC.condF rfl ?_ | (refine JC.cond rfl (fun hc => ?_) (fun hc => ?_) <;> ((try simp only [decide_eq_true_eq, decide_eq_false_iff_not, beq_iff_eq, beq_eq_false_iff_ne, bne_iff_ne, bne_eq_false_iff_eq, Bool.not_eq_true', Bool.not_eq_false', Bool.not_eq_true, Bool.not_eq_false] at hc) <;> first | (first | (exact absurd rfl hc) | (exfalso; omega) | (exact absurd (hc.symm.trans (by assumption : _ = false)) (by decide)) | (exact absurd (hc.symm.trans (by assumption : _ = true)) (by decide))) | skip)) | refine loopK.x ?_)
      | fail
    all_goals first | (exfalso; omega) | skip
    all_goals refine loopK.nn (m - 1) (by omega) (by repeat (first | refine Ag.upd rfl ?_ | exact Ag.hv)) ⟨k + 1, ?_, by omega, rfl⟩
    all_goals (show Value.int .i64 _ = _; congr 1)
end Go.Proofs.YtdiciemlbhkilaaGreatDoor
namespace Go.Proofs.YtdiciemlbhkilaaGreatDoor
open Go Go.Cx Go.RowKit
set_option linter.unusedVariables false
set_option linter.unusedSimpArgs false
set_option maxHeartbeats 4000000
attribute [local irreducible] J JC thenK blockK loopK roundK drawK retK QW Qt pel List.set Calls
attribute [local irreducible] JE Br eK0 eK3 brK
theorem eVars21 : Entr Tryz.prog 46 := Entr.of Tryz.func46 rfl rfl
theorem formed_nolit {x : PN} {N bf : Int} (hf : formedP x N bf = true) (h2 : x.1 ≠ 2) : x.2.1 = 0 := by
  unfold formedP at hf
  simp only [Bool.and_eq_true] at hf
  have h := hf.2
  by_cases k1 : x.1 = 0 ∨ x.1 = 1
  · rw [if_pos k1] at h
    simp only [Bool.and_eq_true, decide_eq_true_eq] at h
    exact h.1
  rw [if_neg k1, if_neg h2] at h
  by_cases k2 : x.1 = 3 ∨ x.1 = 4
  · rw [if_pos k2] at h
    exact of_decide_eq_true h
  · rw [if_neg k2] at h; cases h
set_option maxHeartbeats 16000000 in
theorem vars21_any (N : Int) (a : Option Addr) (cap : Nat) (vs : List NV) (h : Heap) (hr : NetIn a vs h) (hC : checkP N (vs.map pnV) = true) (w : World) (hw : Holds h w) :
    Calls Tryz.prog 46 #[.agg ⟨[.int .i64 N, .slice a vs.length cap]⟩] w (Gives (fun v g => ∃ a' c', v = .slice a' vs.length c' ∧ SlT encS 2 a' (varT (vs.map pnV)) g) w) := by
  have q0 : ∀ L, RdH h L h := fun L => RdH.old fun _ hh => hh
  obtain ⟨so, si, sl, hl⟩ := hr
  have hX : (vs.map pnV).length = vs.length := List.length_map ..
  obtain ⟨hN, hM, hFA⟩ := check_facts hC
  rw [hX] at hM
  refine calls_of_JC (R := h) Tryz.func46 Tryz.ntmps46 rfl rfl (hw) ?_
  repeat' first
    | (refine J.isJ ?_; first | (first | (refine J.o 9 ?_; refine J.make (enc := encS) (m := vs.length) ((0, 0) : Nat × Nat) hΓ rfl rfl rfl rfl rfl rfl (fun _ => rfl) (by omega) (by omega) (fun bA hA oA => ?_); generalize (some (⟨bA, 0, none⟩ : Addr)) = aA at oA ⊢)) | (first | (refine J.o 0 ?_; refine J.ev' hΓ ?_) | refine J.nil ?_ | (refine J.o 4 ?_; first | refine J.lT default hΓ ?_ | refine J.lR hΓ ?_) | (refine J.o 3 ?_; first | refine J.iJ hΓ ?_ | refine J.fP hΓ ?_ | refine J.ev' hΓ ?_) | (refine J.o 1 ?_; first | refine J.ad ?_ | refine J.ng ?_) | (refine J.o 5 ?_; first | refine J.tT _ default hΓ (fun _ _ => ?_)) | (refine J.o 6 ?_; refine J.bx (fun _ => ?_)) | (refine J.o 10 ?_; refine J.ev' hΓ ?_) | (refine J.o 11 ?_; refine J.ev' hΓ ?_)))
    | (first | refine JC.seq ?_ | refine JC.region ?_ | refine JC.block ?_ | refine JC.ret ?_ | refine JC.exit ?_ | refine JC.skip ?_ | refine thenK.nn ?_ | refine thenK.x ?_ | refine blockK.nn ?_ | refine blockK.hit rfl ?_ | (refine JC.cond rfl (fun hc => ?_) (fun hc => ?_) <;> ((try simp only [decide_eq_true_eq, decide_eq_false_iff_not, beq_iff_eq, beq_eq_false_iff_ne, bne_iff_ne, bne_eq_false_iff_eq, Bool.not_eq_true', Bool.not_eq_false', Bool.not_eq_true, Bool.not_eq_false] at hc) <;> first | (first | (exact absurd rfl hc) | (exfalso; omega) | (exact absurd (hc.symm.trans (by assumption : _ = false)) (by decide)) | (exact absurd (hc.symm.trans (by assumption : _ = true)) (by decide))) | skip)) | refine drawK.nn ?_ | refine loopK.x ?_)
    | (fail)
    | fail
  all_goals first | (exfalso; omega) | skip
  rename_i n1
  refine JC.gen [(1, .pointer (some ⟨n1, 0, none⟩)), (3, .slice aA vs.length vs.length), (4, .int .i64 0)] ⟨rfl, rfl, rfl, trivial⟩ (fun F1 => ?_)
  refine JC.loopG (fun i => Nat.ble 4 i) (fun m g L' => ∃ (k : Nat) (hA : Heap), g 4 = .int .i64 (k : Int) ∧ k + m = vs.length ∧ OwT encS 2 40 aA vs.length (varT ((vs.map pnV).take k) ++ List.replicate m (0, 0)) hA ∧ L' = [hA, [(n1, netOb N a vs.length cap)]]) vs.length ⟨0, hA, rfl, by omega, oA, rfl⟩ ?_
  clear oA
  rintro m g L' ⟨k, hA, e4, hkm, oA, rfl⟩
  refine JC.pin 4 e4 ?_
  clear e4
  unfold netOb
  have hst := varT_len ((vs.map pnV).take k)
  rw [List.length_take, hX] at hst
  have hlT : (varT ((vs.map pnV).take k) ++ List.replicate m ((0, 0) : Nat × Nat)).length = vs.length := by rw [List.length_append, List.length_replicate]; omega
  rcases Nat.lt_or_ge k vs.length with hk | hk
  case inr =>
    have hm0 : m = 0 := by omega
    subst hm0
    rw [List.take_of_length_le (by omega), List.replicate_zero, List.append_nil] at oA
    repeat' first
      | (refine J.isJ ?_; first | (fail) | (first | (refine J.o 0 ?_; refine J.ev' hΓ ?_) | refine J.nil ?_ | (refine J.o 4 ?_; first | refine J.lT default hΓ ?_ | refine J.lR hΓ ?_) | (refine J.o 3 ?_; first | refine J.iJ hΓ ?_ | refine J.fP hΓ ?_ | refine J.ev' hΓ ?_) | (refine J.o 1 ?_; first | refine J.ad ?_ | refine J.ng ?_) | (refine J.o 5 ?_; first | refine J.tT _ default hΓ (fun _ _ => ?_)) | (refine J.o 6 ?_; refine J.bx (fun _ => ?_)) | (refine J.o 10 ?_; refine J.ev' hΓ ?_) | (refine J.o 11 ?_; refine J.ev' hΓ ?_)))
      | (first | refine JC.seq ?_ | refine JC.region ?_ | refine JC.block ?_ | refine JC.ret ?_ | refine JC.exit ?_ | refine JC.skip ?_ | refine thenK.nn ?_ | refine thenK.x ?_ | refine blockK.nn ?_ | refine blockK.hit rfl ?_ | (refine JC.cond rfl (fun hc => ?_) (fun hc => ?_) <;> ((try simp only [decide_eq_true_eq, decide_eq_false_iff_not, beq_iff_eq, beq_eq_false_iff_ne, bne_iff_ne, bne_eq_false_iff_eq, Bool.not_eq_true', Bool.not_eq_false', Bool.not_eq_true, Bool.not_eq_false] at hc) <;> first | (first | (exact absurd rfl hc) | (exfalso; omega) | (exact absurd (hc.symm.trans (by assumption : _ = false)) (by decide)) | (exact absurd (hc.symm.trans (by assumption : _ = true)) (by decide))) | skip)) | refine drawK.nn ?_ | refine loopK.x ?_)
      | (fail)
      | fail
    all_goals first | (exfalso; omega) | exact ret1f rfl rfl rfl (fun w1 hw => Gives.of (H.sel (l := [_, _]) (M := []) hw [0]) ⟨aA, vs.length, rfl, oA.sl⟩)
  have hkX : k < (vs.map pnV).length := by omega
  have hmk := mem_g vs k hk
  have hVl := sl _ hmk
  have hVs := si _ hmk
  have hfk : formedP (pnV (vs.getD k default)) N k = true := by
    have := formAll_at N (vs.map pnV) 0 hFA k hkX
    rw [Int.zero_add, getD_map] at this
    exact this
  have hVo : ∀ i, i ∈ (vs.getD k default).l → 0 ≤ i ∧ i < k := formed_rng hfk
  have hnext : varT ((vs.map pnV).take (k + 1)) = varT ((vs.map pnV).take k) ++ [varS (varT ((vs.map pnV).take k)) (pnV (vs.getD k default))] := by
    rw [take_g _ k hkX, varT_snoc, getD_map]
  obtain ⟨m', rfl⟩ : ∃ m', m = m' + 1 := ⟨m - 1, by omega⟩
  have hokT := okS_varT ((vs.map pnV).take k)
  have hlk : (varT ((vs.map pnV).take k)).length = k := by omega
  generalize varT ((vs.map pnV).take k) = T at *
  have hp0 : parV T (pnV (vs.getD k default)) 0 = withS (0, 0) (varI (vs.getD k default).lit) := rfl
  have hset : (T ++ List.replicate (m' + 1) ((0, 0) : Nat × Nat)).set k (parV T (pnV (vs.getD k default)) 0) = T ++ parV T (pnV (vs.getD k default)) 0 :: List.replicate m' (0, 0) := by
    have := app_st T (0, 0) (parV T (pnV (vs.getD k default)) 0) (List.replicate m' ((0, 0) : Nat × Nat))
    rw [hlk] at this
    rw [List.replicate_succ]; exact this
  have hg0 : (T ++ List.replicate (m' + 1) ((0, 0) : Nat × Nat)).getD k default = (0, 0) := by
    have := app_at T ((0, 0) : Nat × Nat) (List.replicate m' (0, 0))
    rw [hlk] at this
    rw [List.replicate_succ]; exact this
  by_cases h2 : (vs.getD k default).kind = 2
  · have hlit : (vs.getD k default).lit ≠ 0 ∧ -128 ≤ (vs.getD k default).lit ∧ (vs.getD k default).lit ≤ 128 := by
      rcases formed_kinds hfk with e | e | ⟨_, e1, e2, e3⟩ | e | e
      · have e : (vs.getD k default).kind = 0 := e; omega
      · have e : (vs.getD k default).kind = 1 := e; omega
      · have e1 : (vs.getD k default).lit ≠ 0 := e1
        have e2 : -N ≤ (vs.getD k default).lit := e2
        have e3 : (vs.getD k default).lit ≤ N := e3
        exact ⟨e1, by omega, by omega⟩
      · have e : (vs.getD k default).kind = 3 := e; omega
      · have e : (vs.getD k default).kind = 4 := e; omega
    have hva : varI (vs.getD k default).lit = max (vs.getD k default).lit (-(vs.getD k default).lit) := by unfold varI; grind
    have cW := fun w => with21_any (0, 0) okS_zero (max (vs.getD k default).lit (-(vs.getD k default).lit)) (by omega) w
    rw [← hva, ← hp0] at cW
    rw [hva] at cW
    repeat' first
      | (refine J.isJ ?_; first | (first | (refine J.o 4 ?_; first | refine J.lT default hΓ ?_ (hs := so) (hr := q0 _) | (refine J.lT default hΓ ?_ (hs := oA.sl) (hr := RdH.hd); rw [hg0])) | (refine J.fc 87 ?_; refine J.call0 eWith21 rfl rfl (fun w hw => cW w) ?_) | (refine J.o 5 ?_; refine J.tT (parV T (pnV (vs.getD k default)) 0) default hΓ (fun hA2 oA2 => ?_))) | (first | (refine J.o 0 ?_; refine J.ev' hΓ ?_) | refine J.nil ?_ | (refine J.o 4 ?_; first | refine J.lT default hΓ ?_ | refine J.lR hΓ ?_) | (refine J.o 3 ?_; first | refine J.iJ hΓ ?_ | refine J.fP hΓ ?_ | refine J.ev' hΓ ?_) | (refine J.o 1 ?_; first | refine J.ad ?_ | refine J.ng ?_) | (refine J.o 5 ?_; first | refine J.tT _ default hΓ (fun _ _ => ?_)) | (refine J.o 6 ?_; refine J.bx (fun _ => ?_)) | (refine J.o 10 ?_; refine J.ev' hΓ ?_) | (refine J.o 11 ?_; refine J.ev' hΓ ?_)))
      | (first | refine JC.seq ?_ | refine JC.region ?_ | refine JC.block ?_ | refine JC.ret ?_ | refine JC.exit ?_ | refine JC.skip ?_ | refine thenK.nn ?_ | refine thenK.x ?_ | refine blockK.nn ?_ | refine blockK.hit rfl ?_ | (refine JC.cond rfl (fun hc => ?_) (fun hc => ?_) <;> ((try simp only [decide_eq_true_eq, decide_eq_false_iff_not, beq_iff_eq, beq_eq_false_iff_ne, bne_iff_ne, bne_eq_false_iff_eq, Bool.not_eq_true', Bool.not_eq_false', Bool.not_eq_true, Bool.not_eq_false] at hc) <;> first | (first | (exact absurd rfl hc) | (exfalso; omega) | (exact absurd (hc.symm.trans (by assumption : _ = false)) (by decide)) | (exact absurd (hc.symm.trans (by assumption : _ = true)) (by decide))) | skip)) | refine drawK.nn ?_ | refine loopK.x ?_)
      | ((refine JC.drawN [] [] (by kernel_rfl) (by kernel_rfl) ?_))
      | fail
    all_goals first | (exfalso; omega) | skip
    rename_i oA2
    rw [hset] at oA2
    refine JC.loopG (fun i => i == 5 || Nat.ble 46 i) (fun m2 g L' => ∃ (q : Nat) (hA : Heap), g 5 = .int .i64 (q : Int) ∧ q + m2 = (vs.getD k default).l.length ∧ OwT encS 2 40 aA vs.length (T ++ parV T (pnV (vs.getD k default)) q :: List.replicate m' (0, 0)) hA ∧ L' = hA :: _) (vs.getD k default).l.length ⟨0, _, rfl, by omega, oA2, rfl⟩ ?_
    clear oA oA2
    rintro m2 g2 L' ⟨q, hA, e5, hqm, oA, rfl⟩
    refine JC.pin 5 e5 ?_
    clear e5
    rcases Nat.lt_or_ge q (vs.getD k default).l.length with hq | hq
    case inr =>
      rw [parV_all _ _ _ hq] at oA
      repeat' first
        | (refine J.isJ ?_; first | ((refine J.o 4 ?_; refine J.lT default hΓ ?_ (hs := so) (hr := q0 _))) | (first | (refine J.o 0 ?_; refine J.ev' hΓ ?_) | refine J.nil ?_ | (refine J.o 4 ?_; first | refine J.lT default hΓ ?_ | refine J.lR hΓ ?_) | (refine J.o 3 ?_; first | refine J.iJ hΓ ?_ | refine J.fP hΓ ?_ | refine J.ev' hΓ ?_) | (refine J.o 1 ?_; first | refine J.ad ?_ | refine J.ng ?_) | (refine J.o 5 ?_; first | refine J.tT _ default hΓ (fun _ _ => ?_)) | (refine J.o 6 ?_; refine J.bx (fun _ => ?_)) | (refine J.o 10 ?_; refine J.ev' hΓ ?_) | (refine J.o 11 ?_; refine J.ev' hΓ ?_)))
        | (first | refine JC.seq ?_ | refine JC.region ?_ | refine JC.block ?_ | refine JC.ret ?_ | refine JC.exit ?_ | refine JC.skip ?_ | refine thenK.nn ?_ | refine thenK.x ?_ | refine blockK.nn ?_ | refine blockK.hit rfl ?_ | (refine JC.cond rfl (fun hc => ?_) (fun hc => ?_) <;> ((try simp only [decide_eq_true_eq, decide_eq_false_iff_not, beq_iff_eq, beq_eq_false_iff_ne, bne_iff_ne, bne_eq_false_iff_eq, Bool.not_eq_true', Bool.not_eq_false', Bool.not_eq_true, Bool.not_eq_false] at hc) <;> first | (first | (exact absurd rfl hc) | (exfalso; omega) | (exact absurd (hc.symm.trans (by assumption : _ = false)) (by decide)) | (exact absurd (hc.symm.trans (by assumption : _ = true)) (by decide))) | skip)) | refine drawK.nn ?_ | refine loopK.x ?_)
        | (fail)
        | fail
      all_goals first | (exfalso; omega) | skip
      have e : T ++ varS T (pnV (vs.getD k default)) :: List.replicate m' ((0, 0) : Nat × Nat) = varT ((vs.map pnV).take (k + 1)) ++ List.replicate m' (0, 0) := by rw [hnext, List.append_assoc]; rfl
      rw [e] at oA
      refine loopK.nn m' (by omega) (by repeat (first | refine Ag.upd rfl ?_ | exact Ag.hv | refine Ag.hv2 (fun i hi => by simp at hi ⊢; omega) ?_)) ⟨_, ⟨k + 1, hA, ?_, by omega, oA, rfl⟩, fun w hw => hw⟩
      show Value.int .i64 _ = _; congr 1
    have hxq := hVo _ (mem_g (vs.getD k default).l q hq)
    have g1 := app_at T (parV T (pnV (vs.getD k default)) q) (List.replicate m' (0, 0))
    rw [hlk] at g1
    have g2 : (T ++ parV T (pnV (vs.getD k default)) q :: List.replicate m' (0, 0)).getD ((vs.getD k default).l.getD q default).toNat default = T.getD ((vs.getD k default).l.getD q default).toNat default := app_getD _ _ _ (by omega)
    have hl5 : (T ++ parV T (pnV (vs.getD k default)) q :: List.replicate m' ((0, 0) : Nat × Nat)).length = vs.length := by rw [List.length_append, List.length_cons, List.length_replicate]; omega
    have cU := fun w => union21_any (parV T (pnV (vs.getD k default)) q) (T.getD ((vs.getD k default).l.getD q default).toNat default) (okS_par T hokT _ _) (okS_d T hokT _) w
    have hstp := parV_step T (pnV (vs.getD k default)) q hq
    have hstp : parV T (pnV (vs.getD k default)) (q + 1) = uniS (parV T (pnV (vs.getD k default)) q) (T.getD ((vs.getD k default).l.getD q default).toNat default) := hstp
    rw [← hstp] at cU
    have hset2 := app_st T (parV T (pnV (vs.getD k default)) q) (parV T (pnV (vs.getD k default)) (q + 1)) (List.replicate m' ((0, 0) : Nat × Nat))
    rw [hlk] at hset2
    have hVs2 := hVs
    repeat' first
      | (refine J.isJ ?_; first | (first | (refine J.o 4 ?_; first | refine J.lT default hΓ ?_ (hs := so) (hr := q0 _) | refine J.lT default hΓ ?_ (hs := hVs2) (hr := q0 _) | (refine J.lT default hΓ ?_ (hs := oA.sl) (hr := RdH.hd); first | rw [g1] | rw [g2])) | (refine J.fc 88 ?_; refine J.call0 eUnion21 rfl rfl (fun w hw => cU w) ?_) | (refine J.o 5 ?_; refine J.tT (parV T (pnV (vs.getD k default)) (q + 1)) default hΓ (fun hA2 oA2 => ?_))) | (first | (refine J.o 0 ?_; refine J.ev' hΓ ?_) | refine J.nil ?_ | (refine J.o 4 ?_; first | refine J.lT default hΓ ?_ | refine J.lR hΓ ?_) | (refine J.o 3 ?_; first | refine J.iJ hΓ ?_ | refine J.fP hΓ ?_ | refine J.ev' hΓ ?_) | (refine J.o 1 ?_; first | refine J.ad ?_ | refine J.ng ?_) | (refine J.o 5 ?_; first | refine J.tT _ default hΓ (fun _ _ => ?_)) | (refine J.o 6 ?_; refine J.bx (fun _ => ?_)) | (refine J.o 10 ?_; refine J.ev' hΓ ?_) | (refine J.o 11 ?_; refine J.ev' hΓ ?_)))
      | (first | refine JC.seq ?_ | refine JC.region ?_ | refine JC.block ?_ | refine JC.ret ?_ | refine JC.exit ?_ | refine JC.skip ?_ | refine thenK.nn ?_ | refine thenK.x ?_ | refine blockK.nn ?_ | refine blockK.hit rfl ?_ | (refine JC.cond rfl (fun hc => ?_) (fun hc => ?_) <;> ((try simp only [decide_eq_true_eq, decide_eq_false_iff_not, beq_iff_eq, beq_eq_false_iff_ne, bne_iff_ne, bne_eq_false_iff_eq, Bool.not_eq_true', Bool.not_eq_false', Bool.not_eq_true, Bool.not_eq_false] at hc) <;> first | (first | (exact absurd rfl hc) | (exfalso; omega) | (exact absurd (hc.symm.trans (by assumption : _ = false)) (by decide)) | (exact absurd (hc.symm.trans (by assumption : _ = true)) (by decide))) | skip)) | refine drawK.nn ?_ | refine loopK.x ?_)
      | ((refine JC.drawN [] [] (by kernel_rfl) (by kernel_rfl) ?_))
      | fail
    all_goals first | (exfalso; omega) | skip
    rename_i oA2
    rw [hset2] at oA2
    refine loopK.nn (m2 - 1) (by omega) (by repeat (first | refine Ag.upd rfl ?_ | exact Ag.hv)) ⟨_, ⟨q + 1, _, ?_, by omega, oA2, rfl⟩, fun w hw => hw⟩
    show Value.int .i64 _ = _; congr 1
  · have hlit : (vs.getD k default).lit = 0 := formed_nolit hfk h2
    have hp1 : parV T (pnV (vs.getD k default)) 0 = (0, 0) := by rw [hp0, hlit]; decide
    have oA2 : OwT encS 2 40 aA vs.length (T ++ parV T (pnV (vs.getD k default)) 0 :: List.replicate m' (0, 0)) hA := by rw [hp1, ← List.replicate_succ]; exact oA
    repeat' first
      | (refine J.isJ ?_; first | ((refine J.o 4 ?_; refine J.lT default hΓ ?_ (hs := so) (hr := q0 _))) | (first | (refine J.o 0 ?_; refine J.ev' hΓ ?_) | refine J.nil ?_ | (refine J.o 4 ?_; first | refine J.lT default hΓ ?_ | refine J.lR hΓ ?_) | (refine J.o 3 ?_; first | refine J.iJ hΓ ?_ | refine J.fP hΓ ?_ | refine J.ev' hΓ ?_) | (refine J.o 1 ?_; first | refine J.ad ?_ | refine J.ng ?_) | (refine J.o 5 ?_; first | refine J.tT _ default hΓ (fun _ _ => ?_)) | (refine J.o 6 ?_; refine J.bx (fun _ => ?_)) | (refine J.o 10 ?_; refine J.ev' hΓ ?_) | (refine J.o 11 ?_; refine J.ev' hΓ ?_)))
      | (first | refine JC.seq ?_ | refine JC.region ?_ | refine JC.block ?_ | refine JC.ret ?_ | refine JC.exit ?_ | refine JC.skip ?_ | refine thenK.nn ?_ | refine thenK.x ?_ | refine blockK.nn ?_ | refine blockK.hit rfl ?_ | (refine JC.cond rfl (fun hc => ?_) (fun hc => ?_) <;> ((try simp only [decide_eq_true_eq, decide_eq_false_iff_not, beq_iff_eq, beq_eq_false_iff_ne, bne_iff_ne, bne_eq_false_iff_eq, Bool.not_eq_true', Bool.not_eq_false', Bool.not_eq_true, Bool.not_eq_false] at hc) <;> first | (first | (exact absurd rfl hc) | (exfalso; omega) | (exact absurd (hc.symm.trans (by assumption : _ = false)) (by decide)) | (exact absurd (hc.symm.trans (by assumption : _ = true)) (by decide))) | skip)) | refine drawK.nn ?_ | refine loopK.x ?_)
      | (fail)
      | fail
    all_goals first | (exfalso; omega) | skip
    refine JC.loopG (fun i => i == 5 || Nat.ble 46 i) (fun m2 g L' => ∃ (q : Nat) (hA : Heap), g 5 = .int .i64 (q : Int) ∧ q + m2 = (vs.getD k default).l.length ∧ OwT encS 2 40 aA vs.length (T ++ parV T (pnV (vs.getD k default)) q :: List.replicate m' (0, 0)) hA ∧ L' = hA :: _) (vs.getD k default).l.length ⟨0, _, rfl, by omega, oA2, rfl⟩ ?_
    clear oA oA2
    rintro m2 g2 L' ⟨q, hA, e5, hqm, oA, rfl⟩
    refine JC.pin 5 e5 ?_
    clear e5
    rcases Nat.lt_or_ge q (vs.getD k default).l.length with hq | hq
    case inr =>
      rw [parV_all _ _ _ hq] at oA
      repeat' first
        | (refine J.isJ ?_; first | ((refine J.o 4 ?_; refine J.lT default hΓ ?_ (hs := so) (hr := q0 _))) | (first | (refine J.o 0 ?_; refine J.ev' hΓ ?_) | refine J.nil ?_ | (refine J.o 4 ?_; first | refine J.lT default hΓ ?_ | refine J.lR hΓ ?_) | (refine J.o 3 ?_; first | refine J.iJ hΓ ?_ | refine J.fP hΓ ?_ | refine J.ev' hΓ ?_) | (refine J.o 1 ?_; first | refine J.ad ?_ | refine J.ng ?_) | (refine J.o 5 ?_; first | refine J.tT _ default hΓ (fun _ _ => ?_)) | (refine J.o 6 ?_; refine J.bx (fun _ => ?_)) | (refine J.o 10 ?_; refine J.ev' hΓ ?_) | (refine J.o 11 ?_; refine J.ev' hΓ ?_)))
        | (first | refine JC.seq ?_ | refine JC.region ?_ | refine JC.block ?_ | refine JC.ret ?_ | refine JC.exit ?_ | refine JC.skip ?_ | refine thenK.nn ?_ | refine thenK.x ?_ | refine blockK.nn ?_ | refine blockK.hit rfl ?_ | (refine JC.cond rfl (fun hc => ?_) (fun hc => ?_) <;> ((try simp only [decide_eq_true_eq, decide_eq_false_iff_not, beq_iff_eq, beq_eq_false_iff_ne, bne_iff_ne, bne_eq_false_iff_eq, Bool.not_eq_true', Bool.not_eq_false', Bool.not_eq_true, Bool.not_eq_false] at hc) <;> first | (first | (exact absurd rfl hc) | (exfalso; omega) | (exact absurd (hc.symm.trans (by assumption : _ = false)) (by decide)) | (exact absurd (hc.symm.trans (by assumption : _ = true)) (by decide))) | skip)) | refine drawK.nn ?_ | refine loopK.x ?_)
        | (fail)
        | fail
      all_goals first | (exfalso; omega) | skip
      have e : T ++ varS T (pnV (vs.getD k default)) :: List.replicate m' ((0, 0) : Nat × Nat) = varT ((vs.map pnV).take (k + 1)) ++ List.replicate m' (0, 0) := by rw [hnext, List.append_assoc]; rfl
      rw [e] at oA
      refine loopK.nn m' (by omega) (by repeat (first | refine Ag.upd rfl ?_ | exact Ag.hv | refine Ag.hv2 (fun i hi => by simp at hi ⊢; omega) ?_)) ⟨_, ⟨k + 1, hA, ?_, by omega, oA, rfl⟩, fun w hw => hw⟩
      show Value.int .i64 _ = _; congr 1
    have hxq := hVo _ (mem_g (vs.getD k default).l q hq)
    have g1 := app_at T (parV T (pnV (vs.getD k default)) q) (List.replicate m' (0, 0))
    rw [hlk] at g1
    have g2 : (T ++ parV T (pnV (vs.getD k default)) q :: List.replicate m' (0, 0)).getD ((vs.getD k default).l.getD q default).toNat default = T.getD ((vs.getD k default).l.getD q default).toNat default := app_getD _ _ _ (by omega)
    have hl5 : (T ++ parV T (pnV (vs.getD k default)) q :: List.replicate m' ((0, 0) : Nat × Nat)).length = vs.length := by rw [List.length_append, List.length_cons, List.length_replicate]; omega
    have cU := fun w => union21_any (parV T (pnV (vs.getD k default)) q) (T.getD ((vs.getD k default).l.getD q default).toNat default) (okS_par T hokT _ _) (okS_d T hokT _) w
    have hstp := parV_step T (pnV (vs.getD k default)) q hq
    have hstp : parV T (pnV (vs.getD k default)) (q + 1) = uniS (parV T (pnV (vs.getD k default)) q) (T.getD ((vs.getD k default).l.getD q default).toNat default) := hstp
    rw [← hstp] at cU
    have hset2 := app_st T (parV T (pnV (vs.getD k default)) q) (parV T (pnV (vs.getD k default)) (q + 1)) (List.replicate m' ((0, 0) : Nat × Nat))
    rw [hlk] at hset2
    have hVs2 := hVs
    repeat' first
      | (refine J.isJ ?_; first | (first | (refine J.o 4 ?_; first | refine J.lT default hΓ ?_ (hs := so) (hr := q0 _) | refine J.lT default hΓ ?_ (hs := hVs2) (hr := q0 _) | (refine J.lT default hΓ ?_ (hs := oA.sl) (hr := RdH.hd); first | rw [g1] | rw [g2])) | (refine J.fc 88 ?_; refine J.call0 eUnion21 rfl rfl (fun w hw => cU w) ?_) | (refine J.o 5 ?_; refine J.tT (parV T (pnV (vs.getD k default)) (q + 1)) default hΓ (fun hA2 oA2 => ?_))) | (first | (refine J.o 0 ?_; refine J.ev' hΓ ?_) | refine J.nil ?_ | (refine J.o 4 ?_; first | refine J.lT default hΓ ?_ | refine J.lR hΓ ?_) | (refine J.o 3 ?_; first | refine J.iJ hΓ ?_ | refine J.fP hΓ ?_ | refine J.ev' hΓ ?_) | (refine J.o 1 ?_; first | refine J.ad ?_ | refine J.ng ?_) | (refine J.o 5 ?_; first | refine J.tT _ default hΓ (fun _ _ => ?_)) | (refine J.o 6 ?_; refine J.bx (fun _ => ?_)) | (refine J.o 10 ?_; refine J.ev' hΓ ?_) | (refine J.o 11 ?_; refine J.ev' hΓ ?_)))
      | (first | refine JC.seq ?_ | refine JC.region ?_ | refine JC.block ?_ | refine JC.ret ?_ | refine JC.exit ?_ | refine JC.skip ?_ | refine thenK.nn ?_ | refine thenK.x ?_ | refine blockK.nn ?_ | refine blockK.hit rfl ?_ | (refine JC.cond rfl (fun hc => ?_) (fun hc => ?_) <;> ((try simp only [decide_eq_true_eq, decide_eq_false_iff_not, beq_iff_eq, beq_eq_false_iff_ne, bne_iff_ne, bne_eq_false_iff_eq, Bool.not_eq_true', Bool.not_eq_false', Bool.not_eq_true, Bool.not_eq_false] at hc) <;> first | (first | (exact absurd rfl hc) | (exfalso; omega) | (exact absurd (hc.symm.trans (by assumption : _ = false)) (by decide)) | (exact absurd (hc.symm.trans (by assumption : _ = true)) (by decide))) | skip)) | refine drawK.nn ?_ | refine loopK.x ?_)
      | ((refine JC.drawN [] [] (by kernel_rfl) (by kernel_rfl) ?_))
      | fail
    all_goals first | (exfalso; omega) | skip
    rename_i oA2
    rw [hset2] at oA2
    refine loopK.nn (m2 - 1) (by omega) (by repeat (first | refine Ag.upd rfl ?_ | exact Ag.hv)) ⟨_, ⟨q + 1, _, ?_, by omega, oA2, rfl⟩, fun w hw => hw⟩
    show Value.int .i64 _ = _; congr 1
end Go.Proofs.YtdiciemlbhkilaaGreatDoor
