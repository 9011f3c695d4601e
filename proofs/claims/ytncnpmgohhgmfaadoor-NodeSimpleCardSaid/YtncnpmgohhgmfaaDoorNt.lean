/- Plain: what reducing keeps: simple nodes, truth. -/
import Derived.Test.YtncnpmgohhgmfaaDoorNp
namespace Go.Proofs.YtncnpmgohhgmfaaDoor
open Go Go.Cx Go.RowKit
set_option linter.unusedVariables false
set_option linter.unusedSimpArgs false
set_option maxHeartbeats 4000000
attribute [local irreducible] J JC thenK blockK loopK roundK drawK retK QW Qt pel List.set Calls
/-- a gate in simplest form -/
def GateX (B : List PN) (x : PN) : Prop := 2 ≤ x.2.2.length ∧ x.2.2.Pairwise (· < ·) ∧ (∀ i, i ∈ x.2.2 → kindP B i ≠ x.1 ∧ 2 ≤ kindP B i) ∧ ∀ i k, i ∈ x.2.2 → k ∈ x.2.2 → kindP B i = 2 → kindP B k = 2 → litP B i ≠ -(litP B k)
def isG (x : PN) : Prop := x.1 = 3 ∨ x.1 = 4
/-- nodes in simplest form -/
structure Simp (N : Int) (B : List PN) : Prop where
  nd : B.Nodup
  fm : ∀ i : Nat, i < B.length → formedP (B.getD i default) N i = true
  gt : ∀ i : Nat, i < B.length → isG (B.getD i default) → GateX B (B.getD i default)
theorem kindP_nat (B : List PN) (i : Nat) : kindP B i = (B.getD i default).1 := by unfold kindP; rw [Int.toNat_natCast]
theorem litP_nat (B : List PN) (i : Nat) : litP B i = (B.getD i default).2.1 := by unfold litP; rw [Int.toNat_natCast]
theorem inP_nat (B : List PN) (i : Nat) : inP B i = (B.getD i default).2.2 := by unfold inP; rw [Int.toNat_natCast]
theorem getD_app {α : Type} [Inhabited α] (B C : List α) (i : Nat) (h : i < B.length) : (B ++ C).getD i default = B.getD i default := by
  rw [List.getD_eq_getElem?_getD, List.getD_eq_getElem?_getD, List.getElem?_append_left h]
theorem getD_last {α : Type} [Inhabited α] (B : List α) (x : α) : (B ++ [x]).getD B.length default = x := by
  rw [List.getD_eq_getElem?_getD, List.getElem?_append_right (Nat.le_refl _), Nat.sub_self]; rfl
theorem getD_last2 {α : Type} [Inhabited α] (B : List α) (x : α) (n : Nat) (h : B.length = n) : (B ++ [x]).getD n default = x := by
  subst h; exact getD_last B x
theorem getD_past {α : Type} [Inhabited α] (B : List α) (i : Nat) (h : B.length ≤ i) : B.getD i default = default := by
  rw [List.getD_eq_getElem?_getD, List.getElem?_eq_none h]; rfl
theorem kindP_app (B C : List PN) (i : Int) (h : i.toNat < B.length) : kindP (B ++ C) i = kindP B i := by unfold kindP; rw [getD_app _ _ _ h]
theorem litP_app (B C : List PN) (i : Int) (h : i.toNat < B.length) : litP (B ++ C) i = litP B i := by unfold litP; rw [getD_app _ _ _ h]
theorem inP_app (B C : List PN) (i : Int) (h : i.toNat < B.length) : inP (B ++ C) i = inP B i := by unfold inP; rw [getD_app _ _ _ h]
theorem mem_getD {B : List PN} {x : PN} (h : x ∈ B) : ∃ i, i < B.length ∧ B.getD i default = x := by
  obtain ⟨i, hi, rfl⟩ := List.mem_iff_getElem.1 h
  exact ⟨i, hi, by rw [List.getD_eq_getElem?_getD, List.getElem?_eq_getElem hi]; rfl⟩
/-- forms -/
theorem formed_low {x : PN} {N bf : Int} (h : formedP x N bf = true) (hk : ¬ isG x) : x.2.2 = [] := by
  obtain ⟨k, t, l⟩ := x
  unfold formedP at h
  unfold isG at hk
  simp only [Bool.and_eq_true, Bool.not_eq_true'] at h hk ⊢
  have h2 := h.2
  split at h2
  · simp only [Bool.and_eq_true, decide_eq_true_eq] at h2; exact List.length_eq_zero_iff.1 h2.2
  · split at h2
    · simp only [Bool.and_eq_true, decide_eq_true_eq] at h2; exact List.length_eq_zero_iff.1 h2.2
    · first | cases h2 | (split at h2 <;> first | contradiction | cases h2)
theorem formed_gate {kind : Int} {N bf : Int} {l : List Int} (hk : kind = 3 ∨ kind = 4) (hl : ∀ i, i ∈ l → 0 ≤ i ∧ i < bf) : formedP (kind, 0, l) N bf = true := by
  unfold formedP
  simp only [Bool.and_eq_true, Bool.not_eq_true']
  refine ⟨List.any_eq_false.2 fun i hi => ?_, ?_⟩
  · have := hl i hi
    unfold badI
    simp only [Bool.or_eq_true, decide_eq_true_eq]
    omega
  · rw [if_neg (by omega), if_neg (by omega), if_pos hk]; rfl
theorem formed_c {kind : Int} {N bf : Int} (hk : kind = 0 ∨ kind = 1) : formedP (kind, 0, []) N bf = true := by
  unfold formedP
  simp only [List.any_nil, Bool.not_false, Bool.true_and]
  rw [if_pos hk]; rfl
theorem formed_mono {x : PN} {N a b : Int} (h : formedP x N a = true) (hab : a ≤ b) : formedP x N b = true := by
  have hr := formed_rng h
  unfold formedP at h ⊢
  simp only [Bool.and_eq_true, Bool.not_eq_true'] at h ⊢
  refine ⟨List.any_eq_false.2 fun i hi => ?_, h.2⟩
  have := hr i hi
  unfold badI
  simp only [Bool.or_eq_true, decide_eq_true_eq]
  omega
theorem formed_empty {x : PN} {N bf : Int} (h : formedP x N bf = true) (hk : ¬ isG x) : formedP (x.1, x.2.1, []) N bf = true := by
  have := formed_low h hk
  obtain ⟨k, t, l⟩ := x
  simp only at this
  subst this
  exact h
theorem GateX.congr {B C : List PN} {x : PN} (h : GateX B x) (hr : ∀ i, i ∈ x.2.2 → i.toNat < B.length) : GateX (B ++ C) x := by
  obtain ⟨h1, h2, h3, h4⟩ := h
  refine ⟨h1, h2, fun i hi => ?_, fun i k hi hk => ?_⟩
  · rw [kindP_app _ _ _ (hr i hi)]; exact h3 i hi
  · rw [kindP_app _ _ _ (hr i hi), kindP_app _ _ _ (hr k hk), litP_app _ _ _ (hr i hi), litP_app _ _ _ (hr k hk)]; exact h4 i k hi hk
theorem Simp.nil (N : Int) : Simp N [] := ⟨List.nodup_nil, fun i hi => absurd hi (Nat.not_lt_zero _), fun i hi => absurd hi (Nat.not_lt_zero _)⟩
theorem Simp.ord {N : Int} {B : List PN} (h : Simp N B) : Ord B := fun i k hk => by
  rw [inP_nat] at hk
  by_cases hi : i < B.length
  · exact formed_rng (h.fm i hi) k hk
  · rw [getD_past _ _ (by omega)] at hk; exact absurd hk List.not_mem_nil
theorem Simp.put {N : Int} {B : List PN} (h : Simp N B) {z : PN} (hf : formedP z N B.length = true) (hg : isG z → GateX B z) : Simp N (putP B z).2 := by
  unfold putP
  by_cases hz : z ∈ B
  · rw [if_pos hz]; exact h
  · rw [if_neg hz]
    have hlen : (B ++ [z]).length = B.length + 1 := by rw [List.length_append]; rfl
    refine ⟨?_, fun i hi => ?_, fun i hi hgi => ?_⟩
    · rw [List.nodup_append]
      exact ⟨h.nd, by simp, fun a ha b hb => by rw [List.mem_singleton.1 hb]; exact fun e => hz (e ▸ ha)⟩
    · by_cases hb : i < B.length
      · show formedP ((B ++ [z]).getD i default) N i = true
        rw [getD_app _ _ _ hb]; exact h.fm i hb
      · have : i = B.length := by have : i < (B ++ [z]).length := hi; omega
        subst this
        show formedP ((B ++ [z]).getD B.length default) N B.length = true
        rw [getD_last]; exact hf
    · show GateX (B ++ [z]) ((B ++ [z]).getD i default)
      have hgi : isG ((B ++ [z]).getD i default) := hgi
      by_cases hb : i < B.length
      · rw [getD_app _ _ _ hb] at hgi ⊢
        exact (h.gt i hb hgi).congr fun k hk => by have := formed_rng (h.fm i hb) k hk; omega
      · have : i = B.length := by have : i < (B ++ [z]).length := hi; omega
        subst this
        rw [getD_last] at hgi ⊢
        exact (hg hgi).congr fun k hk => by have := formed_rng hf k hk; omega
theorem kind_rng {N : Int} {B : List PN} (h : Simp N B) (i : Int) : 0 ≤ kindP B i ∧ kindP B i ≤ 4 := by
  unfold kindP
  by_cases hb : i.toNat < B.length
  · rcases formed_kinds (h.fm _ hb) with e | e | e | e | e
    · omega
    · omega
    · omega
    · omega
    · omega
  · rw [getD_past _ _ (by omega)]; exact ⟨Int.le_refl 0, (by decide : (0 : Int) ≤ 4)⟩
theorem flat_kind {N : Int} {B : List PN} (h : Simp N B) {kind : Int} (hk : kind = 3 ∨ kind = 4) {l : List Int} (hl : ∀ i, i ∈ l → 0 ≤ i ∧ i < B.length) : ∀ i, i ∈ flatP B kind l → kindP B i ≠ kind := fun i hi => by
  unfold flatP at hi
  obtain ⟨j, hj, hi⟩ := List.mem_flatMap.1 hi
  have hjr := hl j hj
  split at hi
  · rename_i hkj
    have hjl : j.toNat < B.length := by omega
    have hg : isG (B.getD j.toNat default) := by
      have : (B.getD j.toNat default).1 = kind := hkj
      unfold isG; rw [this]; exact hk
    have hG := h.gt _ hjl hg
    have h3 := (hG.2.2.1 i hi).1
    have hkj : (B.getD j.toNat default).1 = kind := hkj
    rw [hkj] at h3
    exact h3
  · rename_i hkj
    rw [List.mem_singleton.1 hi]; exact hkj
/-- what a gate's inputs are -/
structure GIn (B : List PN) (kind : Int) (l D : List Int) : Prop where
  mem : ∀ x, x ∈ D ↔ x ∈ flatP B kind l ∧ kindP B x ≠ dropK kind
  nd : D.Nodup
  rg : ∀ i, i ∈ D → 0 ≤ i ∧ i < B.length
theorem gin {B : List PN} (h : OkP B) (kind : Int) {l : List Int} (hl : ∀ i, i ∈ l → 0 ≤ i ∧ i < B.length) : GIn B kind l (inputsR B kind (dropK kind) l) := by
  have ag := agree_all (B := B) (drop := dropK kind) (end_ := endK kind) (by unfold dropK endK; split <;> decide) (by unfold dropK; split <;> decide) (lit_ne h) (flatP B kind l)
  exact ⟨ag.mem, ag.nd, fun i hi => flat_rng h kind hl i ((ag.mem i).1 hi).1⟩
theorem add_doc {B : List PN} {kind lt : Int} {l : List Int} (hk : kind = 3 ∨ kind = 4) : addP B (kind, lt, l) = (if decR B (inputsR B kind (dropK kind) l) (endK kind) = true then putP B (endK kind, 0, []) else match inputsR B kind (dropK kind) l with
      | [] => putP B (dropK kind, 0, [])
      | [y] => (y, B)
      | _ => putP B (kind, 0, sortS (inputsR B kind (dropK kind) l))) := by
  unfold addP
  rw [if_neg (by omega)]
  rfl
theorem dropK_c (kind : Int) : dropK kind = 0 ∨ dropK kind = 1 := by unfold dropK; split <;> omega
theorem endK_c (kind : Int) : endK kind = 0 ∨ endK kind = 1 := by unfold endK; split <;> omega
/-- what Add does to simple nodes -/
theorem add_simp {N : Int} {B : List PN} (h : Simp N B) (ho : OkP B) {x : PN} (hf : formedP x N B.length = true) : Simp N (addP B x).2 := by
  have hr := formed_rng hf
  have hL := fun hk => formed_empty hf hk
  obtain ⟨kind, lt, l⟩ := x
  simp only at hr hL
  by_cases hk : kind = 3 ∨ kind = 4
  case neg =>
    rw [add_const (x := (kind, lt, l)) ⟨fun e => hk (.inl e), fun e => hk (.inr e)⟩]
    exact h.put (hL hk) fun hg => absurd hg hk
  have gi := gin ho kind hr
  have hfk := flat_kind h hk hr
  rw [add_doc hk]
  generalize inputsR B kind (dropK kind) l = D at gi
  have hnG : ∀ c : Int, c = 0 ∨ c = 1 → ¬ isG (c, 0, []) := fun c hc hg => by
    have hg : c = 3 ∨ c = 4 := hg
    omega
  by_cases hd : decR B D (endK kind) = true
  · rw [if_pos hd]; exact h.put (formed_c (endK_c kind)) fun hg => absurd hg (hnG _ (endK_c kind))
  rw [if_neg hd]
  rcases hD : D with _ | ⟨y, _ | ⟨z, t⟩⟩
  · exact h.put (formed_c (dropK_c kind)) fun hg => absurd hg (hnG _ (dropK_c kind))
  · exact h
  · show Simp N (putP B (kind, 0, sortS (y :: z :: t))).2
    rw [← hD]
    have hs := sortS_perm D
    have hln := sortS_len D
    have hmem : ∀ i, i ∈ sortS D ↔ i ∈ D := fun i => hs.mem_iff
    refine h.put (formed_gate hk fun i hi => gi.rg i ((hmem i).1 hi)) fun _ => ⟨?_, sorted_lt (sortS_sorted _) (hs.nodup_iff.2 gi.nd), fun i hi => ?_, fun i k hi hk2 ha hb hc => ?_⟩
    · show 2 ≤ (sortS D).length
      rw [hln, hD]; simp only [List.length_cons]; omega
    · have hi := (hmem i).1 hi
      have h1 := (gi.mem i).1 hi
      refine ⟨hfk i h1.1, ?_⟩
      have h2 := kind_rng h i
      have h3 : kindP B i ≠ endK kind := fun e => hd ((dec_iff B D (endK kind)).2 ⟨i, hi, .inl e⟩)
      have h4 := h1.2
      unfold endK dropK at *
      split at h3 <;> omega
    · exact hd ((dec_iff B D (endK kind)).2 ⟨i, (hmem i).1 hi, .inr ⟨k, (hmem k).1 hk2, ha, hb, hc⟩⟩)
theorem red_simp {N : Int} (hN : 0 ≤ N ∧ N ≤ 128) {X : List PN} (hf : formAll N X 0 = true) : ∀ k, k ≤ X.length → Simp N (redT (X.take k)).1 := fun k => by
  induction k with
  | zero => intro _; exact Simp.nil N
  | succ k ih =>
    intro hk
    have h1 := ih (by omega)
    have h2 := formAll_at N X 0 hf k (by omega)
    have h3 := redI_all hN hf k (by omega)
    rw [Int.zero_add] at h2
    have h4 := h3.form h2
    unfold redT at h1 h3 h4 ⊢
    rw [take_g X k (by omega), List.foldl_append]
    exact add_simp h1 h3.ok h4
/-! nets -/
theorem rk_lt {U : List Bool} {k i : Nat} (h : k < i) (hk : U.getD k false = true) : rk U k < rk U i := by
  induction i with
  | zero => omega
  | succ i ih =>
    rw [rk]
    by_cases e : k = i
    · subst e; rw [hk]; unfold b2i; simp; omega
    · have := ih (by omega)
      unfold b2i; split <;> omega
theorem rk_inj {U : List Bool} {i k : Nat} (hi : U.getD i false = true) (hk : U.getD k false = true) (h : rk U i = rk U k) : i = k := by
  rcases Nat.lt_trichotomy i k with e | e | e
  · have := rk_lt e hi; omega
  · exact e
  · have := rk_lt e hk; omega
def nodeN (B : List PN) (U : List Bool) (i : Nat) : PN := (kindP B i, litP B i, (inP B i).map fun k => rk U k.toNat)
theorem netTo_succ (B : List PN) (U : List Bool) (n : Nat) : netTo B U (n + 1) = netTo B U n ++ (if U.getD n false = true then [nodeN B U n] else []) := rfl
theorem net_at (B : List PN) (U : List Bool) : ∀ n i, i < n → U.getD i false = true → (netTo B U n).getD (rk U i).toNat default = nodeN B U i
  | 0, i, h, _ => absurd h (Nat.not_lt_zero _)
  | n + 1, i, h, hu => by
    have hl := netTo_len B U n
    rw [netTo_succ]
    by_cases e : i = n
    · subst e
      rw [hu, if_pos rfl, ← hl, Int.toNat_natCast, getD_last]
    · have := rk_lt (U := U) (show i < n by omega) hu
      have := rk_le U i
      rw [getD_app _ _ _ (by omega)]
      exact net_at B U n i (by omega) hu
theorem net_idx (B : List PN) (U : List Bool) : ∀ n j, j < (netTo B U n).length → ∃ i, i < n ∧ U.getD i false = true ∧ rk U i = j
  | 0, j, h => absurd h (Nat.not_lt_zero _)
  | n + 1, j, h => by
    have hl := netTo_len B U n
    rw [netTo_succ, List.length_append] at h
    by_cases e : j < (netTo B U n).length
    · obtain ⟨i, h1, h2, h3⟩ := net_idx B U n j e
      exact ⟨i, by omega, h2, h3⟩
    · cases hu : U.getD n false with
      | false => rw [hu, if_neg (by decide)] at h; simp only [List.length_nil] at h; omega
      | true =>
        rw [hu, if_pos rfl] at h
        simp only [List.length_cons, List.length_nil] at h
        exact ⟨n, by omega, hu, by omega⟩
theorem orS_cases : ∀ (l : List Int) (U : List Bool) (x : Bool) (j : Nat), (orS U l x).getD j false = true → U.getD j false = true ∨ (x = true ∧ ∃ k, k ∈ l ∧ k.toNat = j)
  | [], U, x, j, h => .inl h
  | k :: l, U, x, j, h => by
    rw [orS_cons] at h
    rcases orS_cases l _ x j h with h | ⟨h1, q, hq, e⟩
    · rw [getD_set] at h
      split at h
      · rename_i hc
        rw [Bool.or_eq_true] at h
        rcases h with h | h
        · left; rw [← hc.1]; exact h
        · exact .inr ⟨h, k, List.mem_cons_self, hc.1⟩
      · exact .inl h
    · exact .inr ⟨h1, q, List.mem_cons_of_mem _ hq, e⟩
theorem mk_parent (B : List PN) : ∀ (n : Nat) (U : List Bool) (j : Nat), (mk B n U).getD j false = true → U.getD j false = true ∨ ∃ i, i < n ∧ (mk B n U).getD i false = true ∧ ∃ k, k ∈ inP B i ∧ k.toNat = j
  | 0, U, j, h => .inl h
  | n + 1, U, j, h => by
    rw [mk] at h ⊢
    rcases mk_parent B n _ j h with h1 | ⟨i, h1, h2, h3⟩
    · rcases orS_cases _ _ _ _ h1 with h2 | ⟨h2, h3⟩
      · exact .inl h2
      · exact .inr ⟨n, by omega, mk_mono B n _ _ (orS_mono _ _ _ _ h2), h3⟩
    · exact .inr ⟨i, by omega, h2, h3⟩
/-- the marks of a root -/
structure Marks (B : List PN) (r : Nat) (U : List Bool) : Prop where
  rt : U.getD r false = true
  cl : ∀ i, i < r + 1 → U.getD i false = true → ∀ k, k ∈ inP B i → U.getD k.toNat false = true
  pa : ∀ j, U.getD j false = true → j ≠ r → ∃ i, i < r + 1 ∧ U.getD i false = true ∧ (j : Int) ∈ inP B i ∧ j < i
theorem marks {B : List PN} (hB : Ord B) (r : Nat) : Marks B r (markN B r (r + 1)) := by
  have hr : ((List.replicate (r + 1) false).set r true).getD r false = true := by rw [getD_set, if_pos ⟨rfl, by simp⟩]
  refine ⟨mk_mono B _ _ _ hr, mk_closed hB (r + 1) _ (by simp), fun j hj hne => ?_⟩
  rcases mk_parent B (r + 1) _ j hj with h | ⟨i, h1, h2, k, h3, h4⟩
  · rw [getD_set, if_neg (fun e => hne e.1.symm), List.getD_eq_getElem?_getD, List.getElem?_replicate] at h
    split at h <;> cases h
  · have := hB i k h3
    exact ⟨i, h1, h2, by rw [show (j : Int) = k by omega]; exact h3, by omega⟩
theorem net_last {B : List PN} {r : Nat} {U : List Bool} (m : Marks B r U) : ((netTo B U (r + 1)).length : Int) = rk U r + 1 := by
  rw [netTo_len, rk, m.rt]; rfl
theorem nodeN_form {N : Int} {B : List PN} (h : Simp N B) {r : Nat} {U : List Bool} (m : Marks B r U) {i : Nat} (hi : i < r + 1) (hib : i < B.length) (hu : U.getD i false = true) : formedP (nodeN B U i) N (rk U i) = true := by
  have hf := h.fm i hib
  have hr := formed_rng hf
  unfold formedP at hf ⊢
  simp only [Bool.and_eq_true, Bool.not_eq_true'] at hf ⊢
  refine ⟨List.any_eq_false.2 fun q hq => ?_, ?_⟩
  · obtain ⟨k, hk, rfl⟩ := List.mem_map.1 hq
    have hk2 := m.cl i hi hu k hk
    rw [inP_nat] at hk
    have := hr k hk
    have := rk_lt (U := U) (show k.toNat < i by omega) hk2
    have := rk_le U k.toNat
    unfold badI
    simp only [Bool.or_eq_true, decide_eq_true_eq]
    omega
  · unfold nodeN
    simp only [List.length_map]
    rw [kindP_nat, litP_nat, inP_nat]
    exact hf.2
theorem kind_net {B : List PN} {U : List Bool} {n i : Nat} (h : i < n) (hu : U.getD i false = true) : kindP (netTo B U n) (rk U i) = kindP B i := by
  show ((netTo B U n).getD (rk U i).toNat default).1 = _
  rw [net_at B U n i h hu]; rfl
theorem lit_net {B : List PN} {U : List Bool} {n i : Nat} (h : i < n) (hu : U.getD i false = true) : litP (netTo B U n) (rk U i) = litP B i := by
  show ((netTo B U n).getD (rk U i).toNat default).2.1 = _
  rw [net_at B U n i h hu]; rfl
theorem in_net {B : List PN} {U : List Bool} {n i : Nat} (h : i < n) (hu : U.getD i false = true) : inP (netTo B U n) (rk U i) = (inP B i).map fun k => rk U k.toNat := by
  show ((netTo B U n).getD (rk U i).toNat default).2.2 = _
  rw [net_at B U n i h hu]; rfl
theorem map_inj_on {f : Int → Int} : ∀ {a b : List Int}, (∀ x, x ∈ a → ∀ y, y ∈ b → f x = f y → x = y) → a.map f = b.map f → a = b
  | [], [], _, _ => rfl
  | [], y :: b, _, h => by cases h
  | x :: a, [], _, h => by cases h
  | x :: a, y :: b, hi, h => by
    rw [List.map_cons, List.map_cons, List.cons.injEq] at h
    rw [hi x List.mem_cons_self y List.mem_cons_self h.1, map_inj_on (fun u hu v hv => hi u (List.mem_cons_of_mem _ hu) v (List.mem_cons_of_mem _ hv)) h.2]
/-- the net of a root of simple nodes is simple -/
theorem net_simp {N : Int} {B : List PN} (h : Simp N B) {r : Nat} (hr : r < B.length) {U : List Bool} (m : Marks B r U) : Simp N (netTo B U (r + 1)) := by
  have hpair : ∀ i, i < r + 1 → (inP B i).Pairwise (· < ·) ∨ inP B i = [] := fun i hi => by
    rw [inP_nat]
    by_cases hg : isG (B.getD i default)
    · exact .inl (h.gt i (by omega) hg).2.1
    · exact .inr (formed_low (h.fm i (by omega)) hg)
  refine ⟨?_, fun j hj => ?_, fun j hj hg => ?_⟩
  · rw [List.nodup_iff_pairwise_ne, List.pairwise_iff_getElem]
    intro a b ha hb hab e
    obtain ⟨i, h1, h2, h3⟩ := net_idx B U (r + 1) a ha
    obtain ⟨k, k1, k2, k3⟩ := net_idx B U (r + 1) b hb
    have e1 := net_at B U (r + 1) i h1 h2
    have e2 := net_at B U (r + 1) k k1 k2
    rw [h3, Int.toNat_natCast, List.getD_eq_getElem?_getD, List.getElem?_eq_getElem ha] at e1
    rw [k3, Int.toNat_natCast, List.getD_eq_getElem?_getD, List.getElem?_eq_getElem hb] at e2
    have e3 : nodeN B U i = nodeN B U k := by rw [← e1, ← e2]; exact e
    unfold nodeN at e3
    simp only [Prod.mk.injEq] at e3
    have e4 : inP B i = inP B k := map_inj_on (fun x hx y hy hxy => by
      have o1 := h.ord i x hx
      have o2 := h.ord k y hy
      have := rk_inj (m.cl i h1 h2 x hx) (m.cl k k1 k2 y hy) hxy
      omega) e3.2.2
    have e5 : B.getD i default = B.getD k default := Prod.ext (by rw [← kindP_nat, ← kindP_nat]; exact e3.1) (Prod.ext (by rw [← litP_nat, ← litP_nat]; exact e3.2.1) (by rw [← inP_nat, ← inP_nat]; exact e4))
    have hne : i ≠ k := fun e => by subst e; omega
    have hnd := h.nd
    rw [List.nodup_iff_pairwise_ne, List.pairwise_iff_getElem] at hnd
    rw [List.getD_eq_getElem?_getD, List.getD_eq_getElem?_getD, List.getElem?_eq_getElem (show i < B.length by omega), List.getElem?_eq_getElem (show k < B.length by omega)] at e5
    have e5 : B[i] = B[k] := e5
    rcases Nat.lt_or_gt_of_ne hne with hlt | hlt
    · exact hnd i k (by omega) (by omega) hlt e5
    · exact hnd k i (by omega) (by omega) hlt e5.symm
  · obtain ⟨i, h1, h2, h3⟩ := net_idx B U (r + 1) j hj
    have e1 := net_at B U (r + 1) i h1 h2
    rw [h3, Int.toNat_natCast] at e1
    rw [e1, ← h3]
    exact nodeN_form h m h1 (by omega) h2
  · obtain ⟨i, h1, h2, h3⟩ := net_idx B U (r + 1) j hj
    have e1 := net_at B U (r + 1) i h1 h2
    rw [h3, Int.toNat_natCast] at e1
    rw [e1] at hg ⊢
    have hg2 : isG (B.getD i default) := by unfold isG at hg ⊢; rw [← kindP_nat]; exact hg
    obtain ⟨g1, g2, g3, g4⟩ := h.gt i (by omega) hg2
    rw [← inP_nat] at g1 g2 g3 g4
    rw [← kindP_nat] at g3
    have hcl := m.cl i h1 h2
    have hor := h.ord i
    refine ⟨by show 2 ≤ ((inP B i).map _).length; rw [List.length_map]; exact g1, ?_, fun q hq => ?_, fun q q2 hq hq2 => ?_⟩
    · show ((inP B i).map _).Pairwise (· < ·)
      rw [List.pairwise_map]
      refine List.Pairwise.imp_of_mem ?_ g2
      intro a b ha hb hab
      exact rk_lt (by have := hor a ha; have := hor b hb; omega) (hcl a ha)
    · obtain ⟨k, hk, rfl⟩ := List.mem_map.1 hq
      have hkr := hor k hk
      rw [kind_net (by omega) (hcl k hk), show ((k.toNat : Nat) : Int) = k by omega]
      exact g3 k hk
    · obtain ⟨k, hk, rfl⟩ := List.mem_map.1 hq
      obtain ⟨k2, hk2, rfl⟩ := List.mem_map.1 hq2
      have hkr := hor k hk
      have hkr2 := hor k2 hk2
      rw [kind_net (by omega) (hcl k hk), kind_net (by omega) (hcl k2 hk2), lit_net (by omega) (hcl k hk), lit_net (by omega) (hcl k2 hk2), show ((k.toNat : Nat) : Int) = k by omega, show ((k2.toNat : Nat) : Int) = k2 by omega]
      exact g4 k k2 hk hk2
/-- a net that stands for its root -/
structure Full (X : List PN) : Prop where
  us : ∀ j, j + 1 < X.length → ∃ i, j < i ∧ i < X.length ∧ (j : Int) ∈ inP X i
  co : ∀ i, i < X.length → (X.getD i default).1 < 2 → X.length = 1
  ne : 1 ≤ X.length
theorem rk_zero (U : List Bool) : ∀ n, (∀ j, j < n → U.getD j false = false) → rk U n = 0
  | 0, _ => rfl
  | n + 1, h => by rw [rk, rk_zero U n fun j hj => h j (by omega), h n (by omega)]; rfl
theorem net_full {N : Int} {B : List PN} (h : Simp N B) {r : Nat} (hr : r < B.length) {U : List Bool} (m : Marks B r U) : Full (netTo B U (r + 1)) := by
  have hl := net_last m
  have hrk := rk_le U r
  refine ⟨fun j hj => ?_, fun j hj hk => ?_, by omega⟩
  · obtain ⟨i, h1, h2, h3⟩ := net_idx B U (r + 1) j (by omega)
    have hne : i ≠ r := fun e => by subst e; omega
    obtain ⟨q, q1, q2, q3, q4⟩ := m.pa i h2 hne
    have hlt := rk_lt q4 h2
    have hlq : rk U q < rk U (r + 1) := rk_lt q1 q2
    rw [← netTo_len B U (r + 1)] at hlq
    have hq0 := rk_le U q
    refine ⟨(rk U q).toNat, by omega, by omega, ?_⟩
    rw [show (((rk U q).toNat : Nat) : Int) = rk U q by omega, in_net q1 q2]
    exact List.mem_map.2 ⟨(i : Int), q3, by rw [Int.toNat_natCast]; exact h3⟩
  · obtain ⟨i, h1, h2, h3⟩ := net_idx B U (r + 1) j hj
    have e1 := net_at B U (r + 1) i h1 h2
    rw [h3, Int.toNat_natCast] at e1
    rw [e1] at hk
    have hk : kindP B i < 2 := hk
    have hir : i = r := Decidable.byContradiction fun hne => by
      obtain ⟨q, q1, q2, q3, q4⟩ := m.pa i h2 hne
      rw [inP_nat] at q3
      by_cases hg : isG (B.getD q default)
      · have := ((h.gt q (by omega) hg).2.2.1 i q3).2
        omega
      · rw [formed_low (h.fm q (by omega)) hg] at q3; exact absurd q3 List.not_mem_nil
    subst hir
    have hin : inP B i = [] := by
      rw [inP_nat]
      refine formed_low (h.fm i hr) fun hg => ?_
      unfold isG at hg
      rw [← kindP_nat] at hg
      omega
    have hnone : ∀ d j, j < i → i - j ≤ d → U.getD j false = false := fun d => by
      induction d with
      | zero => intro j hj hd; omega
      | succ d ih =>
        intro j hj hd
        cases hu : U.getD j false with
        | false => rfl
        | true =>
          obtain ⟨q, q1, q2, q3, q4⟩ := m.pa j hu (by omega)
          by_cases e : q = i
          · subst e; rw [hin] at q3; exact absurd q3 List.not_mem_nil
          · rw [ih q (by omega) (by omega)] at q2; cases q2
    have hz := rk_zero U i fun j hj => hnone (i - j) j hj (Nat.le_refl _)
    omega
/-! a simple net is its own reduced form -/
theorem all_ext (U V : List Bool) (n : Nat) (h : ∀ j, j < n → U.getD j false = true) : rk U n = n := by
  induction n with
  | zero => rfl
  | succ n ih => rw [rk, ih fun j hj => h j (by omega), h n (by omega)]; unfold b2i; simp
theorem net_id {X : List PN} (hB : Ord X) (n : Nat) (hn : n ≤ X.length) {U : List Bool} (h : ∀ j, j < X.length → U.getD j false = true) : netTo X U n = X.take n := by
  induction n with
  | zero => rfl
  | succ n ih =>
    rw [netTo_succ, ih (by omega), h n (by omega), if_pos rfl, take_g X n (by omega)]
    congr 2
    unfold nodeN
    have : (inP X n).map (fun k => rk U k.toNat) = inP X n := by
      conv => rhs; rw [← List.map_id (inP X n)]
      refine List.map_congr_left fun k hk => ?_
      have := hB n k hk
      rw [all_ext U U k.toNat fun j hj => h j (by omega)]
      show ((k.toNat : Nat) : Int) = k
      omega
    rw [this, kindP_nat, litP_nat, inP_nat]
theorem ded_id {B : List PN} {drop : Int} : ∀ (l acc : List Int), (acc ++ l).Nodup → (∀ i, i ∈ l → kindP B i ≠ drop) → l.foldl (dedS B drop) acc = acc ++ l
  | [], acc, _, _ => by simp
  | x :: l, acc, hn, hk => by
    have hx : x ∉ acc := fun hx => by
      rw [List.nodup_append] at hn
      exact hn.2.2 x hx x List.mem_cons_self rfl
    rw [List.foldl_cons]
    have e : dedS B drop acc x = acc ++ [x] := by unfold dedS; rw [if_pos ⟨hk x List.mem_cons_self, hx⟩]
    rw [e, ded_id l (acc ++ [x]) (by simpa using hn) fun i hi => hk i (List.mem_cons_of_mem _ hi)]
    simp
theorem flat_id {B : List PN} {kind : Int} : ∀ (l : List Int), (∀ i, i ∈ l → kindP B i ≠ kind) → flatP B kind l = l
  | [], _ => rfl
  | x :: l, h => by
    have ih := flat_id l fun i hi => h i (List.mem_cons_of_mem _ hi)
    unfold flatP at ih ⊢
    rw [List.flatMap_cons, if_neg (h x List.mem_cons_self), ih]; rfl
theorem sort_id {l : List Int} (h : l.Pairwise (· < ·)) : sortS l = l := sort_eq _ _ (sortS_perm l) (sortS_sorted l) (h.imp fun h => Int.le_of_lt h)
theorem add_id {N : Int} {B : List PN} {x : PN} (hx : x ∉ B) (hf : formedP x N B.length = true) (hg : isG x → GateX B x) : addP B x = ((B.length : Int), B ++ [x]) := by
  have hp : putP B x = ((B.length : Int), B ++ [x]) := if_neg hx
  by_cases hk : isG x
  case neg =>
    have hl := formed_low hf hk
    rw [add_const ⟨fun e => hk (.inl e), fun e => hk (.inr e)⟩, ← hp]
    obtain ⟨k, t, l⟩ := x
    simp only at hl
    rw [hl]
  obtain ⟨g1, g2, g3, g4⟩ := hg hk
  have hlit : x.2.1 = 0 := by
    obtain ⟨k, t, l⟩ := x
    unfold formedP at hf
    have hk : k = 3 ∨ k = 4 := hk
    simp only [Bool.and_eq_true] at hf ⊢
    have h2 := hf.2
    rw [if_neg (by omega), if_neg (by omega), if_pos hk] at h2
    simpa using h2
  obtain ⟨k, t, l⟩ := x
  simp only at hlit g1 g2 g3 g4
  subst hlit
  have hk : k = 3 ∨ k = 4 := hk
  have hin : inputsR B k (dropK k) l = l := by
    unfold inputsR
    rw [flat_id l fun i hi => (g3 i hi).1, ded_id l [] (by rw [List.nil_append, List.nodup_iff_pairwise_ne]; exact g2.imp (fun h => Int.ne_of_lt h)) fun i hi => by
      have := (g3 i hi).2
      rcases dropK_c k with e | e <;> omega]
    rfl
  have hd : decR B l (endK k) = false := by
    cases hd : decR B l (endK k) with
    | false => rfl
    | true =>
      obtain ⟨i, hi, h | ⟨q, hq, h1, h2, h3⟩⟩ := (dec_iff B l (endK k)).1 hd
      · have := (g3 i hi).2
        rcases endK_c k with e | e <;> omega
      · exact absurd h3 (g4 i q hi hq h1 h2)
  rw [add_doc hk, hin, hd, if_neg (by decide), sort_id g2, ← hp]
  rcases l with _ | ⟨y, _ | ⟨z, t⟩⟩
  · simp at g1
  · simp at g1
  · rfl
def upI (k : Nat) : List Int := (List.range k).map fun i : Nat => (i : Int)
theorem upI_getD (k j : Nat) (h : j < k) : (upI k).getD j default = j := by
  unfold upI
  rw [List.getD_eq_getElem?_getD, List.getElem?_map, List.getElem?_range h]; rfl
theorem upI_succ (k : Nat) : upI (k + 1) = upI k ++ [(k : Int)] := by unfold upI; rw [List.range_succ, List.map_append]; rfl
theorem redT_id {N : Int} {X : List PN} (h : Simp N X) : ∀ k, k ≤ X.length → redT (X.take k) = (X.take k, upI k) := fun k => by
  induction k with
  | zero => intro _; rfl
  | succ k ih =>
    intro hk
    have h1 := ih (by omega)
    have hlk : (X.take k).length = k := by rw [List.length_take]; omega
    have hf := h.fm k (by omega)
    have hr := formed_rng hf
    have hY : redY (upI k) (X.getD k default) = X.getD k default := by
      unfold redY
      have : (X.getD k default).2.2.map (fun q => (upI k).getD q.toNat default) = (X.getD k default).2.2 := by
        conv => rhs; rw [← List.map_id (X.getD k default).2.2]
        refine List.map_congr_left fun q hq => ?_
        have := hr q hq
        rw [upI_getD _ _ (by omega)]
        show ((q.toNat : Nat) : Int) = q
        omega
      rw [this]
    have hni : X.getD k default ∉ X.take k := fun hm => by
      obtain ⟨i, hi, e⟩ := mem_getD hm
      have hik : i < k := by omega
      rw [take_getD _ _ _ hik] at e
      have hnd := h.nd
      rw [List.nodup_iff_pairwise_ne, List.pairwise_iff_getElem] at hnd
      rw [List.getD_eq_getElem?_getD, List.getD_eq_getElem?_getD, List.getElem?_eq_getElem (show i < X.length by omega), List.getElem?_eq_getElem (show k < X.length by omega)] at e
      exact hnd i k (by omega) (by omega) hik e
    have hkp : ∀ i : Int, 0 ≤ i ∧ i < k → kindP (X.take k) i = kindP X i ∧ litP (X.take k) i = litP X i := fun i hi => by
      unfold kindP litP
      rw [take_getD _ _ _ (by omega)]; exact ⟨rfl, rfl⟩
    have hA : addP (X.take k) (X.getD k default) = (((X.take k).length : Int), X.take k ++ [X.getD k default]) := add_id (N := N) hni (by rw [hlk]; exact hf) fun hg => by
      obtain ⟨g1, g2, g3, g4⟩ := h.gt k (by omega) hg
      refine ⟨g1, g2, fun i hi => ?_, fun i q hi hq => ?_⟩
      · rw [(hkp i (hr i hi)).1]; exact g3 i hi
      · rw [(hkp i (hr i hi)).1, (hkp i (hr i hi)).2, (hkp q (hr q hq)).1, (hkp q (hr q hq)).2]; exact g4 i q hi hq
    unfold redT at h1 ⊢
    rw [take_g X k (by omega), List.foldl_append, h1]
    show ((addP (X.take k) (redY (upI k) (X.getD k default))).2, upI k ++ [(addP (X.take k) (redY (upI k) (X.getD k default))).1]) = _
    rw [hY, hA, hlk, upI_succ]
theorem red_id {N : Int} {X : List PN} (h : Simp N X) (hf : Full X) : redP X = X := by
  have h1 := redT_id h X.length (Nat.le_refl _)
  rw [List.take_length] at h1
  have hne := hf.ne
  unfold redP
  rw [h1, upI_getD _ _ (by omega), Int.toNat_natCast]
  have m := marks h.ord (X.length - 1)
  unfold netP
  have hall : ∀ d j, j < X.length → X.length - j ≤ d → (markN X (X.length - 1) (X.length - 1 + 1)).getD j false = true := fun d => by
    induction d with
    | zero => intro j hj hd; omega
    | succ d ih =>
      intro j hj hd
      by_cases e : j = X.length - 1
      · rw [e]; exact m.rt
      · obtain ⟨i, i1, i2, i3⟩ := hf.us j (by omega)
        have := m.cl i (by omega) (ih i i2 (by omega)) _ i3
        rw [Int.toNat_natCast] at this
        exact this
  rw [net_id h.ord _ (by omega) fun j hj => hall (X.length - j) j hj (Nat.le_refl _), show X.length - 1 + 1 = X.length by omega, List.take_length]
end Go.Proofs.YtncnpmgohhgmfaaDoor
