/- TreeWide: part 9. -/
import Derived.Test.YtdiciemlbhkilaaGreatDoorWdH
namespace Go.Proofs.YtdiciemlbhkilaaGreatDoor
open Go Go.Cx Go.RowKit
set_option linter.unusedVariables false
set_option linter.unusedSimpArgs false
set_option maxHeartbeats 4000000
attribute [local irreducible] J JC thenK blockK loopK roundK drawK retK QW Qt pel List.set Calls
def GateX (B : List PN) (x : PN) : Prop := 2 ≤ x.2.2.length ∧ x.2.2.Pairwise (· < ·) ∧ (∀ i, i ∈ x.2.2 → kindP B i ≠ x.1 ∧ 2 ≤ kindP B i) ∧ ∀ i k, i ∈ x.2.2 → k ∈ x.2.2 → kindP B i = 2 → kindP B k = 2 → litP B i ≠ -(litP B k)
def isG (x : PN) : Prop := x.1 = 3 ∨ x.1 = 4
structure Simp (N : Int) (B : List PN) : Prop where
  nd : B.Nodup
  fm : ∀ i : Nat, i < B.length → formedP (B.getD i default) N i = true
  gt : ∀ i : Nat, i < B.length → isG (B.getD i default) → GateX B (B.getD i default)
theorem kindP_nat (B : List PN) (i : Nat) : kindP B i = (B.getD i default).1 := by unfold kindP; rw [Int.toNat_natCast]
theorem litP_nat (B : List PN) (i : Nat) : litP B i = (B.getD i default).2.1 := by unfold litP; rw [Int.toNat_natCast]
theorem inP_nat (B : List PN) (i : Nat) : inP B i = (B.getD i default).2.2 := by unfold inP; rw [Int.toNat_natCast]
theorem getD_app {α : Type} [Inhabited α] (B C : List α) (i : Nat) (h : i < B.length) : (B ++ C).getD i default = B.getD i default := by
  rw [List.getD_eq_getElem?_getD, List.getD_eq_getElem?_getD, List.getElem?_append_left h]
theorem getD_lastN {α : Type} [Inhabited α] (B : List α) (x : α) : (B ++ [x]).getD B.length default = x := by
  rw [List.getD_eq_getElem?_getD, List.getElem?_append_right (Nat.le_refl _), Nat.sub_self]; rfl
theorem getD_last2 {α : Type} [Inhabited α] (B : List α) (x : α) (n : Nat) (h : B.length = n) : (B ++ [x]).getD n default = x := by
  subst h; exact getD_lastN B x
theorem getD_past {α : Type} [Inhabited α] (B : List α) (i : Nat) (h : B.length ≤ i) : B.getD i default = default := by
  rw [List.getD_eq_getElem?_getD, List.getElem?_eq_none h]; rfl
theorem kindP_app (B C : List PN) (i : Int) (h : i.toNat < B.length) : kindP (B ++ C) i = kindP B i := by unfold kindP; rw [getD_app _ _ _ h]
theorem litP_app (B C : List PN) (i : Int) (h : i.toNat < B.length) : litP (B ++ C) i = litP B i := by unfold litP; rw [getD_app _ _ _ h]
theorem inP_app (B C : List PN) (i : Int) (h : i.toNat < B.length) : inP (B ++ C) i = inP B i := by unfold inP; rw [getD_app _ _ _ h]
theorem mem_getD {B : List PN} {x : PN} (h : x ∈ B) : ∃ i, i < B.length ∧ B.getD i default = x := by
  obtain ⟨i, hi, rfl⟩ := List.mem_iff_getElem.1 h
  exact ⟨i, hi, by rw [List.getD_eq_getElem?_getD, List.getElem?_eq_getElem hi]; rfl⟩
theorem formed_low {x : PN} {N bf : Int} (h : formedP x N bf = true) (hk : ¬ isG x) : x.2.2 = [] := by
  obtain ⟨k, t, l⟩ := x
  unfold formedP at h
  unfold isG at hk
  simp only [Bool.and_eq_true, Bool.not_eq_true'] at h hk ⊢
  have h2 := h.2
  split at h2
  · simp only [Bool.and_eq_true, decide_eq_true_eq] at h2; exact List.length_eq_zero_iff.1 h2.2
  · split at h2
    · simp only [Bool.and_eq_true, decide_eq_true_eq] at h2; exact List.length_eq_zero_iff.1 h2.2
    · first | cases h2 | (split at h2 <;> first | contradiction | cases h2)
theorem formed_gate {kind : Int} {N bf : Int} {l : List Int} (hk : kind = 3 ∨ kind = 4) (hl : ∀ i, i ∈ l → 0 ≤ i ∧ i < bf) : formedP (kind, 0, l) N bf = true := by
  unfold formedP
  simp only [Bool.and_eq_true, Bool.not_eq_true']
  refine ⟨List.any_eq_false.2 fun i hi => ?_, ?_⟩
  · have := hl i hi
    unfold badI
    simp only [Bool.or_eq_true, decide_eq_true_eq]
    omega
  · rw [if_neg (by omega), if_neg (by omega), if_pos hk]; rfl
theorem formed_c {kind : Int} {N bf : Int} (hk : kind = 0 ∨ kind = 1) : formedP (kind, 0, []) N bf = true := by
  unfold formedP
  simp only [List.any_nil, Bool.not_false, Bool.true_and]
  rw [if_pos hk]; rfl
theorem formed_empty {x : PN} {N bf : Int} (h : formedP x N bf = true) (hk : ¬ isG x) : formedP (x.1, x.2.1, []) N bf = true := by
  have := formed_low h hk
  obtain ⟨k, t, l⟩ := x
  simp only at this
  subst this
  exact h
theorem GateX.congr {B C : List PN} {x : PN} (h : GateX B x) (hr : ∀ i, i ∈ x.2.2 → i.toNat < B.length) : GateX (B ++ C) x := by
  obtain ⟨h1, h2, h3, h4⟩ := h
  refine ⟨h1, h2, fun i hi => ?_, fun i k hi hk => ?_⟩
  · rw [kindP_app _ _ _ (hr i hi)]; exact h3 i hi
  · rw [kindP_app _ _ _ (hr i hi), kindP_app _ _ _ (hr k hk), litP_app _ _ _ (hr i hi), litP_app _ _ _ (hr k hk)]; exact h4 i k hi hk
theorem Simp.nil (N : Int) : Simp N [] := ⟨List.nodup_nil, fun i hi => absurd hi (Nat.not_lt_zero _), fun i hi => absurd hi (Nat.not_lt_zero _)⟩
theorem Simp.ord {N : Int} {B : List PN} (h : Simp N B) : Ord B := fun i k hk => by
  rw [inP_nat] at hk
  by_cases hi : i < B.length
  · exact formed_rng (h.fm i hi) k hk
  · rw [getD_past _ _ (by omega)] at hk; exact absurd hk List.not_mem_nil
theorem Simp.put {N : Int} {B : List PN} (h : Simp N B) {z : PN} (hf : formedP z N B.length = true) (hg : isG z → GateX B z) : Simp N (putP B z).2 := by
  unfold putP
  by_cases hz : z ∈ B
  · rw [if_pos hz]; exact h
  · rw [if_neg hz]
    have hlen : (B ++ [z]).length = B.length + 1 := by rw [List.length_append]; rfl
    refine ⟨?_, fun i hi => ?_, fun i hi hgi => ?_⟩
    · rw [List.nodup_append]
      exact ⟨h.nd, by simp, fun a ha b hb => by rw [List.mem_singleton.1 hb]; exact fun e => hz (e ▸ ha)⟩
    · by_cases hb : i < B.length
      · show formedP ((B ++ [z]).getD i default) N i = true
        rw [getD_app _ _ _ hb]; exact h.fm i hb
      · have : i = B.length := by have : i < (B ++ [z]).length := hi; omega
        subst this
        show formedP ((B ++ [z]).getD B.length default) N B.length = true
        rw [getD_lastN]; exact hf
    · show GateX (B ++ [z]) ((B ++ [z]).getD i default)
      have hgi : isG ((B ++ [z]).getD i default) := hgi
      by_cases hb : i < B.length
      · rw [getD_app _ _ _ hb] at hgi ⊢
        exact (h.gt i hb hgi).congr fun k hk => by have := formed_rng (h.fm i hb) k hk; omega
      · have : i = B.length := by have : i < (B ++ [z]).length := hi; omega
        subst this
        rw [getD_lastN] at hgi ⊢
        exact (hg hgi).congr fun k hk => by have := formed_rng hf k hk; omega
theorem kind_rng {N : Int} {B : List PN} (h : Simp N B) (i : Int) : 0 ≤ kindP B i ∧ kindP B i ≤ 4 := by
  unfold kindP
  by_cases hb : i.toNat < B.length
  · rcases formed_kinds (h.fm _ hb) with e | e | e | e | e
    · omega
    · omega
    · omega
    · omega
    · omega
  · rw [getD_past _ _ (by omega)]; exact ⟨Int.le_refl 0, (by decide : (0 : Int) ≤ 4)⟩
theorem flat_kind {N : Int} {B : List PN} (h : Simp N B) {kind : Int} (hk : kind = 3 ∨ kind = 4) {l : List Int} (hl : ∀ i, i ∈ l → 0 ≤ i ∧ i < B.length) : ∀ i, i ∈ flatP B kind l → kindP B i ≠ kind := fun i hi => by
  unfold flatP at hi
  obtain ⟨j, hj, hi⟩ := List.mem_flatMap.1 hi
  have hjr := hl j hj
  split at hi
  · rename_i hkj
    have hjl : j.toNat < B.length := by omega
    have hg : isG (B.getD j.toNat default) := by
      have : (B.getD j.toNat default).1 = kind := hkj
      unfold isG; rw [this]; exact hk
    have hG := h.gt _ hjl hg
    have h3 := (hG.2.2.1 i hi).1
    have hkj : (B.getD j.toNat default).1 = kind := hkj
    rw [hkj] at h3
    exact h3
  · rename_i hkj
    rw [List.mem_singleton.1 hi]; exact hkj
structure GIn (B : List PN) (kind : Int) (l D : List Int) : Prop where
  mem : ∀ x, x ∈ D ↔ x ∈ flatP B kind l ∧ kindP B x ≠ dropK kind
  nd : D.Nodup
  rg : ∀ i, i ∈ D → 0 ≤ i ∧ i < B.length
theorem gin {B : List PN} (h : OkP B) (kind : Int) {l : List Int} (hl : ∀ i, i ∈ l → 0 ≤ i ∧ i < B.length) : GIn B kind l (inputsR B kind (dropK kind) l) := by
  have ag := agree_all (B := B) (drop := dropK kind) (end_ := endK kind) (by unfold dropK endK; split <;> decide) (by unfold dropK; split <;> decide) (lit_ne h) (flatP B kind l)
  exact ⟨ag.mem, ag.nd, fun i hi => flat_rng h kind hl i ((ag.mem i).1 hi).1⟩
theorem add_doc {B : List PN} {kind lt : Int} {l : List Int} (hk : kind = 3 ∨ kind = 4) : addP B (kind, lt, l) = (if decR B (inputsR B kind (dropK kind) l) (endK kind) = true then putP B (endK kind, 0, []) else match inputsR B kind (dropK kind) l with
      | [] => putP B (dropK kind, 0, [])
      | [y] => (y, B)
      | _ => putP B (kind, 0, sortS (inputsR B kind (dropK kind) l))) := by
  unfold addP
  rw [if_neg (by omega)]
  rfl
theorem dropK_c (kind : Int) : dropK kind = 0 ∨ dropK kind = 1 := by unfold dropK; split <;> omega
theorem endK_c (kind : Int) : endK kind = 0 ∨ endK kind = 1 := by unfold endK; split <;> omega
theorem add_simp {N : Int} {B : List PN} (h : Simp N B) (ho : OkP B) {x : PN} (hf : formedP x N B.length = true) : Simp N (addP B x).2 := by
  have hr := formed_rng hf
  have hL := fun hk => formed_empty hf hk
  obtain ⟨kind, lt, l⟩ := x
  simp only at hr hL
  by_cases hk : kind = 3 ∨ kind = 4
  case neg =>
    rw [add_const (x := (kind, lt, l)) ⟨fun e => hk (.inl e), fun e => hk (.inr e)⟩]
    exact h.put (hL hk) fun hg => absurd hg hk
  have gi := gin ho kind hr
  have hfk := flat_kind h hk hr
  rw [add_doc hk]
  generalize inputsR B kind (dropK kind) l = D at gi
  have hnG : ∀ c : Int, c = 0 ∨ c = 1 → ¬ isG (c, 0, []) := fun c hc hg => by
    have hg : c = 3 ∨ c = 4 := hg
    omega
  by_cases hd : decR B D (endK kind) = true
  · rw [if_pos hd]; exact h.put (formed_c (endK_c kind)) fun hg => absurd hg (hnG _ (endK_c kind))
  rw [if_neg hd]
  rcases hD : D with _ | ⟨y, _ | ⟨z, t⟩⟩
  · exact h.put (formed_c (dropK_c kind)) fun hg => absurd hg (hnG _ (dropK_c kind))
  · exact h
  · show Simp N (putP B (kind, 0, sortS (y :: z :: t))).2
    rw [← hD]
    have hs := sortS_perm D
    have hln := sortS_len D
    have hmem : ∀ i, i ∈ sortS D ↔ i ∈ D := fun i => hs.mem_iff
    refine h.put (formed_gate hk fun i hi => gi.rg i ((hmem i).1 hi)) fun _ => ⟨?_, sorted_lt (sortS_sorted _) (hs.nodup_iff.2 gi.nd), fun i hi => ?_, fun i k hi hk2 ha hb hc => ?_⟩
    · show 2 ≤ (sortS D).length
      rw [hln, hD]; simp only [List.length_cons]; omega
    · have hi := (hmem i).1 hi
      have h1 := (gi.mem i).1 hi
      refine ⟨hfk i h1.1, ?_⟩
      have h2 := kind_rng h i
      have h3 : kindP B i ≠ endK kind := fun e => hd ((dec_iff B D (endK kind)).2 ⟨i, hi, .inl e⟩)
      have h4 := h1.2
      unfold endK dropK at *
      split at h3 <;> omega
    · exact hd ((dec_iff B D (endK kind)).2 ⟨i, (hmem i).1 hi, .inr ⟨k, (hmem k).1 hk2, ha, hb, hc⟩⟩)
theorem rk_lt {U : List Bool} {k i : Nat} (h : k < i) (hk : U.getD k false = true) : rk U k < rk U i := by
  induction i with
  | zero => omega
  | succ i ih =>
    rw [rk]
    by_cases e : k = i
    · subst e; rw [hk]; unfold b2i; simp; omega
    · have := ih (by omega)
      unfold b2i; split <;> omega
theorem rk_inj {U : List Bool} {i k : Nat} (hi : U.getD i false = true) (hk : U.getD k false = true) (h : rk U i = rk U k) : i = k := by
  rcases Nat.lt_trichotomy i k with e | e | e
  · have := rk_lt e hi; omega
  · exact e
  · have := rk_lt e hk; omega
def nodeN (B : List PN) (U : List Bool) (i : Nat) : PN := (kindP B i, litP B i, (inP B i).map fun k => rk U k.toNat)
theorem netTo_succ (B : List PN) (U : List Bool) (n : Nat) : netTo B U (n + 1) = netTo B U n ++ (if U.getD n false = true then [nodeN B U n] else []) := rfl
theorem net_at (B : List PN) (U : List Bool) : ∀ n i, i < n → U.getD i false = true → (netTo B U n).getD (rk U i).toNat default = nodeN B U i
  | 0, i, h, _ => absurd h (Nat.not_lt_zero _)
  | n + 1, i, h, hu => by
    have hl := netTo_len B U n
    rw [netTo_succ]
    by_cases e : i = n
    · subst e
      rw [hu, if_pos rfl, ← hl, Int.toNat_natCast, getD_lastN]
    · have := rk_lt (U := U) (show i < n by omega) hu
      have := rk_le U i
      rw [getD_app _ _ _ (by omega)]
      exact net_at B U n i (by omega) hu
theorem net_idx (B : List PN) (U : List Bool) : ∀ n j, j < (netTo B U n).length → ∃ i, i < n ∧ U.getD i false = true ∧ rk U i = j
  | 0, j, h => absurd h (Nat.not_lt_zero _)
  | n + 1, j, h => by
    have hl := netTo_len B U n
    rw [netTo_succ, List.length_append] at h
    by_cases e : j < (netTo B U n).length
    · obtain ⟨i, h1, h2, h3⟩ := net_idx B U n j e
      exact ⟨i, by omega, h2, h3⟩
    · cases hu : U.getD n false with
      | false => rw [hu, if_neg (by decide)] at h; simp only [List.length_nil] at h; omega
      | true =>
        rw [hu, if_pos rfl] at h
        simp only [List.length_cons, List.length_nil] at h
        exact ⟨n, by omega, hu, by omega⟩
theorem orS_cases : ∀ (l : List Int) (U : List Bool) (x : Bool) (j : Nat), (orS U l x).getD j false = true → U.getD j false = true ∨ (x = true ∧ ∃ k, k ∈ l ∧ k.toNat = j)
  | [], U, x, j, h => .inl h
  | k :: l, U, x, j, h => by
    rw [orS_cons] at h
    rcases orS_cases l _ x j h with h | ⟨h1, q, hq, e⟩
    · rw [getD_setB] at h
      split at h
      · rename_i hc
        rw [Bool.or_eq_true] at h
        rcases h with h | h
        · left; rw [← hc.1]; exact h
        · exact .inr ⟨h, k, List.mem_cons_self, hc.1⟩
      · exact .inl h
    · exact .inr ⟨h1, q, List.mem_cons_of_mem _ hq, e⟩
theorem mk_parent (B : List PN) : ∀ (n : Nat) (U : List Bool) (j : Nat), (mk B n U).getD j false = true → U.getD j false = true ∨ ∃ i, i < n ∧ (mk B n U).getD i false = true ∧ ∃ k, k ∈ inP B i ∧ k.toNat = j
  | 0, U, j, h => .inl h
  | n + 1, U, j, h => by
    rw [mk] at h ⊢
    rcases mk_parent B n _ j h with h1 | ⟨i, h1, h2, h3⟩
    · rcases orS_cases _ _ _ _ h1 with h2 | ⟨h2, h3⟩
      · exact .inl h2
      · exact .inr ⟨n, by omega, mk_mono B n _ _ (orS_mono _ _ _ _ h2), h3⟩
    · exact .inr ⟨i, by omega, h2, h3⟩
structure Marks (B : List PN) (r : Nat) (U : List Bool) : Prop where
  rt : U.getD r false = true
  cl : ∀ i, i < r + 1 → U.getD i false = true → ∀ k, k ∈ inP B i → U.getD k.toNat false = true
  pa : ∀ j, U.getD j false = true → j ≠ r → ∃ i, i < r + 1 ∧ U.getD i false = true ∧ (j : Int) ∈ inP B i ∧ j < i
theorem marks {B : List PN} (hB : Ord B) (r : Nat) : Marks B r (markN B r (r + 1)) := by
  have hr : ((List.replicate (r + 1) false).set r true).getD r false = true := by rw [getD_setB, if_pos ⟨rfl, by simp⟩]
  refine ⟨mk_mono B _ _ _ hr, mk_closed hB (r + 1) _ (by simp), fun j hj hne => ?_⟩
  rcases mk_parent B (r + 1) _ j hj with h | ⟨i, h1, h2, k, h3, h4⟩
  · rw [getD_setB, if_neg (fun e => hne e.1.symm), List.getD_eq_getElem?_getD, List.getElem?_replicate] at h
    split at h <;> cases h
  · have := hB i k h3
    exact ⟨i, h1, h2, by rw [show (j : Int) = k by omega]; exact h3, by omega⟩
theorem net_last {B : List PN} {r : Nat} {U : List Bool} (m : Marks B r U) : ((netTo B U (r + 1)).length : Int) = rk U r + 1 := by
  rw [netTo_len, rk, m.rt]; rfl
theorem nodeN_form {N : Int} {B : List PN} (h : Simp N B) {r : Nat} {U : List Bool} (m : Marks B r U) {i : Nat} (hi : i < r + 1) (hib : i < B.length) (hu : U.getD i false = true) : formedP (nodeN B U i) N (rk U i) = true := by
  have hf := h.fm i hib
  have hr := formed_rng hf
  unfold formedP at hf ⊢
  simp only [Bool.and_eq_true, Bool.not_eq_true'] at hf ⊢
  refine ⟨List.any_eq_false.2 fun q hq => ?_, ?_⟩
  · obtain ⟨k, hk, rfl⟩ := List.mem_map.1 hq
    have hk2 := m.cl i hi hu k hk
    rw [inP_nat] at hk
    have := hr k hk
    have := rk_lt (U := U) (show k.toNat < i by omega) hk2
    have := rk_le U k.toNat
    unfold badI
    simp only [Bool.or_eq_true, decide_eq_true_eq]
    omega
  · unfold nodeN
    simp only [List.length_map]
    rw [kindP_nat, litP_nat, inP_nat]
    exact hf.2
theorem kind_net {B : List PN} {U : List Bool} {n i : Nat} (h : i < n) (hu : U.getD i false = true) : kindP (netTo B U n) (rk U i) = kindP B i := by
  show ((netTo B U n).getD (rk U i).toNat default).1 = _
  rw [net_at B U n i h hu]; rfl
theorem lit_net {B : List PN} {U : List Bool} {n i : Nat} (h : i < n) (hu : U.getD i false = true) : litP (netTo B U n) (rk U i) = litP B i := by
  show ((netTo B U n).getD (rk U i).toNat default).2.1 = _
  rw [net_at B U n i h hu]; rfl
theorem in_net {B : List PN} {U : List Bool} {n i : Nat} (h : i < n) (hu : U.getD i false = true) : inP (netTo B U n) (rk U i) = (inP B i).map fun k => rk U k.toNat := by
  show ((netTo B U n).getD (rk U i).toNat default).2.2 = _
  rw [net_at B U n i h hu]; rfl
theorem map_inj_on {f : Int → Int} : ∀ {a b : List Int}, (∀ x, x ∈ a → ∀ y, y ∈ b → f x = f y → x = y) → a.map f = b.map f → a = b
  | [], [], _, _ => rfl
  | [], y :: b, _, h => by cases h
  | x :: a, [], _, h => by cases h
  | x :: a, y :: b, hi, h => by
    rw [List.map_cons, List.map_cons, List.cons.injEq] at h
    rw [hi x List.mem_cons_self y List.mem_cons_self h.1, map_inj_on (fun u hu v hv => hi u (List.mem_cons_of_mem _ hu) v (List.mem_cons_of_mem _ hv)) h.2]
theorem net_simp {N : Int} {B : List PN} (h : Simp N B) {r : Nat} (hr : r < B.length) {U : List Bool} (m : Marks B r U) : Simp N (netTo B U (r + 1)) := by
  have hpair : ∀ i, i < r + 1 → (inP B i).Pairwise (· < ·) ∨ inP B i = [] := fun i hi => by
    rw [inP_nat]
    by_cases hg : isG (B.getD i default)
    · exact .inl (h.gt i (by omega) hg).2.1
    · exact .inr (formed_low (h.fm i (by omega)) hg)
  refine ⟨?_, fun j hj => ?_, fun j hj hg => ?_⟩
  · rw [List.nodup_iff_pairwise_ne, List.pairwise_iff_getElem]
    intro a b ha hb hab e
    obtain ⟨i, h1, h2, h3⟩ := net_idx B U (r + 1) a ha
    obtain ⟨k, k1, k2, k3⟩ := net_idx B U (r + 1) b hb
    have e1 := net_at B U (r + 1) i h1 h2
    have e2 := net_at B U (r + 1) k k1 k2
    rw [h3, Int.toNat_natCast, List.getD_eq_getElem?_getD, List.getElem?_eq_getElem ha] at e1
    rw [k3, Int.toNat_natCast, List.getD_eq_getElem?_getD, List.getElem?_eq_getElem hb] at e2
    have e3 : nodeN B U i = nodeN B U k := by rw [← e1, ← e2]; exact e
    unfold nodeN at e3
    simp only [Prod.mk.injEq] at e3
    have e4 : inP B i = inP B k := map_inj_on (fun x hx y hy hxy => by
      have o1 := h.ord i x hx
      have o2 := h.ord k y hy
      have := rk_inj (m.cl i h1 h2 x hx) (m.cl k k1 k2 y hy) hxy
      omega) e3.2.2
    have e5 : B.getD i default = B.getD k default := Prod.ext (by rw [← kindP_nat, ← kindP_nat]; exact e3.1) (Prod.ext (by rw [← litP_nat, ← litP_nat]; exact e3.2.1) (by rw [← inP_nat, ← inP_nat]; exact e4))
    have hne : i ≠ k := fun e => by subst e; omega
    have hnd := h.nd
    rw [List.nodup_iff_pairwise_ne, List.pairwise_iff_getElem] at hnd
    rw [List.getD_eq_getElem?_getD, List.getD_eq_getElem?_getD, List.getElem?_eq_getElem (show i < B.length by omega), List.getElem?_eq_getElem (show k < B.length by omega)] at e5
    have e5 : B[i] = B[k] := e5
    rcases Nat.lt_or_gt_of_ne hne with hlt | hlt
    · exact hnd i k (by omega) (by omega) hlt e5
    · exact hnd k i (by omega) (by omega) hlt e5.symm
  · obtain ⟨i, h1, h2, h3⟩ := net_idx B U (r + 1) j hj
    have e1 := net_at B U (r + 1) i h1 h2
    rw [h3, Int.toNat_natCast] at e1
    rw [e1, ← h3]
    exact nodeN_form h m h1 (by omega) h2
  · obtain ⟨i, h1, h2, h3⟩ := net_idx B U (r + 1) j hj
    have e1 := net_at B U (r + 1) i h1 h2
    rw [h3, Int.toNat_natCast] at e1
    rw [e1] at hg ⊢
    have hg2 : isG (B.getD i default) := by unfold isG at hg ⊢; rw [← kindP_nat]; exact hg
    obtain ⟨g1, g2, g3, g4⟩ := h.gt i (by omega) hg2
    rw [← inP_nat] at g1 g2 g3 g4
    rw [← kindP_nat] at g3
    have hcl := m.cl i h1 h2
    have hor := h.ord i
    refine ⟨by show 2 ≤ ((inP B i).map _).length; rw [List.length_map]; exact g1, ?_, fun q hq => ?_, fun q q2 hq hq2 => ?_⟩
    · show ((inP B i).map _).Pairwise (· < ·)
      rw [List.pairwise_map]
      refine List.Pairwise.imp_of_mem ?_ g2
      intro a b ha hb hab
      exact rk_lt (by have := hor a ha; have := hor b hb; omega) (hcl a ha)
    · obtain ⟨k, hk, rfl⟩ := List.mem_map.1 hq
      have hkr := hor k hk
      rw [kind_net (by omega) (hcl k hk), show ((k.toNat : Nat) : Int) = k by omega]
      exact g3 k hk
    · obtain ⟨k, hk, rfl⟩ := List.mem_map.1 hq
      obtain ⟨k2, hk2, rfl⟩ := List.mem_map.1 hq2
      have hkr := hor k hk
      have hkr2 := hor k2 hk2
      rw [kind_net (by omega) (hcl k hk), kind_net (by omega) (hcl k2 hk2), lit_net (by omega) (hcl k hk), lit_net (by omega) (hcl k2 hk2), show ((k.toNat : Nat) : Int) = k by omega, show ((k2.toNat : Nat) : Int) = k2 by omega]
      exact g4 k k2 hk hk2
structure Full (X : List PN) : Prop where
  us : ∀ j, j + 1 < X.length → ∃ i, j < i ∧ i < X.length ∧ (j : Int) ∈ inP X i
  co : ∀ i, i < X.length → (X.getD i default).1 < 2 → X.length = 1
  ne : 1 ≤ X.length
theorem rk_zero (U : List Bool) : ∀ n, (∀ j, j < n → U.getD j false = false) → rk U n = 0
  | 0, _ => rfl
  | n + 1, h => by rw [rk, rk_zero U n fun j hj => h j (by omega), h n (by omega)]; rfl
theorem net_full {N : Int} {B : List PN} (h : Simp N B) {r : Nat} (hr : r < B.length) {U : List Bool} (m : Marks B r U) : Full (netTo B U (r + 1)) := by
  have hl := net_last m
  have hrk := rk_le U r
  refine ⟨fun j hj => ?_, fun j hj hk => ?_, by omega⟩
  · obtain ⟨i, h1, h2, h3⟩ := net_idx B U (r + 1) j (by omega)
    have hne : i ≠ r := fun e => by subst e; omega
    obtain ⟨q, q1, q2, q3, q4⟩ := m.pa i h2 hne
    have hlt := rk_lt q4 h2
    have hlq : rk U q < rk U (r + 1) := rk_lt q1 q2
    rw [← netTo_len B U (r + 1)] at hlq
    have hq0 := rk_le U q
    refine ⟨(rk U q).toNat, by omega, by omega, ?_⟩
    rw [show (((rk U q).toNat : Nat) : Int) = rk U q by omega, in_net q1 q2]
    exact List.mem_map.2 ⟨(i : Int), q3, by rw [Int.toNat_natCast]; exact h3⟩
  · obtain ⟨i, h1, h2, h3⟩ := net_idx B U (r + 1) j hj
    have e1 := net_at B U (r + 1) i h1 h2
    rw [h3, Int.toNat_natCast] at e1
    rw [e1] at hk
    have hk : kindP B i < 2 := hk
    have hir : i = r := Decidable.byContradiction fun hne => by
      obtain ⟨q, q1, q2, q3, q4⟩ := m.pa i h2 hne
      rw [inP_nat] at q3
      by_cases hg : isG (B.getD q default)
      · have := ((h.gt q (by omega) hg).2.2.1 i q3).2
        omega
      · rw [formed_low (h.fm q (by omega)) hg] at q3; exact absurd q3 List.not_mem_nil
    subst hir
    have hin : inP B i = [] := by
      rw [inP_nat]
      refine formed_low (h.fm i hr) fun hg => ?_
      unfold isG at hg
      rw [← kindP_nat] at hg
      omega
    have hnone : ∀ d j, j < i → i - j ≤ d → U.getD j false = false := fun d => by
      induction d with
      | zero => intro j hj hd; omega
      | succ d ih =>
        intro j hj hd
        cases hu : U.getD j false with
        | false => rfl
        | true =>
          obtain ⟨q, q1, q2, q3, q4⟩ := m.pa j hu (by omega)
          by_cases e : q = i
          · subst e; rw [hin] at q3; exact absurd q3 List.not_mem_nil
          · rw [ih q (by omega) (by omega)] at q2; cases q2
    have hz := rk_zero U i fun j hj => hnone (i - j) j hj (Nat.le_refl _)
    omega
theorem flat_id {B : List PN} {kind : Int} : ∀ (l : List Int), (∀ i, i ∈ l → kindP B i ≠ kind) → flatP B kind l = l
  | [], _ => rfl
  | x :: l, h => by
    have ih := flat_id l fun i hi => h i (List.mem_cons_of_mem _ hi)
    unfold flatP at ih ⊢
    rw [List.flatMap_cons, if_neg (h x List.mem_cons_self), ih]; rfl
end Go.Proofs.YtdiciemlbhkilaaGreatDoor
namespace Go.Proofs.YtdiciemlbhkilaaGreatDoor
open Go Go.Cx Go.RowKit
set_option linter.unusedVariables false
set_option linter.unusedSimpArgs false
set_option maxHeartbeats 4000000
attribute [local irreducible] J JC thenK blockK loopK roundK drawK retK QW Qt pel List.set Calls
theorem truS_congr (s : Nat × Nat) {T V : List Bool} {x : PN} (h : ∀ k, k ∈ x.2.2 → T.getD k.toNat default = V.getD k.toNat default) : truS s T x = truS s V x := by
  unfold truS
  rw [any_congr (p := fun k => !(T.getD k.toNat default)) (q := fun k => !(V.getD k.toNat default)) fun k hk => by rw [h k hk], any_congr (p := fun k => T.getD k.toNat default) (q := fun k => V.getD k.toNat default) fun k hk => by rw [h k hk]]
theorem truS_map (s : Nat × Nat) {T V : List Bool} {f : Int → Int} (a b : Int) (l : List Int) (h : ∀ k, k ∈ l → T.getD (f k).toNat default = V.getD k.toNat default) : truS s T (a, b, l.map f) = truS s V (a, b, l) := by
  unfold truS
  simp only [List.any_map]
  rw [any_congr (p := (fun k : Int => !(T.getD k.toNat default)) ∘ f) (q := fun k => !(V.getD k.toNat default)) fun k hk => by show (!_) = _; rw [h k hk], any_congr (p := (fun k : Int => T.getD k.toNat default) ∘ f) (q := fun k => V.getD k.toNat default) fun k hk => h k hk]
def valN (s : Nat × Nat) (B : List PN) (i : Int) : Bool := (truT s B).getD i.toNat default
theorem val_app (s : Nat × Nat) (B : List PN) (x : PN) (i : Int) (h : i.toNat < B.length) : valN s (B ++ [x]) i = valN s B i := by
  unfold valN; rw [truT_snoc, getD_app _ _ _ (by rw [truT_len]; exact h)]
theorem valN_last (s : Nat × Nat) (B : List PN) (x : PN) : valN s (B ++ [x]) B.length = truS s (truT s B) x := by
  unfold valN; rw [truT_snoc, Int.toNat_natCast, ← truT_len s B, getD_lastN]
theorem val_take (s : Nat × Nat) (B : List PN) (k j : Nat) (h : j < k) (hk : k ≤ B.length) : (truT s (B.take k)).getD j default = (truT s B).getD j default := by
  have : ∀ d, k + d ≤ B.length → (truT s (B.take (k + d))).getD j default = (truT s (B.take k)).getD j default := fun d => by
    induction d with
    | zero => intro _; rfl
    | succ d ih =>
      intro hd
      rw [show k + (d + 1) = (k + d) + 1 by omega, take_g B (k + d) (by omega), truT_snoc, getD_app _ _ _ (by rw [truT_len, List.length_take]; omega)]
      exact ih (by omega)
  have h2 := this (B.length - k) (by omega)
  rw [show k + (B.length - k) = B.length by omega, List.take_length] at h2
  exact h2.symm
theorem val_at (s : Nat × Nat) {B : List PN} (hB : Ord B) (i : Nat) (hi : i < B.length) : valN s B i = truS s (truT s B) (B.getD i default) := by
  have h1 : valN s B i = truS s (truT s (B.take i)) (B.getD i default) := by
    unfold valN
    rw [Int.toNat_natCast, ← val_take s B (i + 1) i (by omega) (by omega), take_g B i hi, truT_snoc]
    exact getD_last2 _ _ _ (by rw [truT_len, List.length_take]; omega)
  rw [h1]
  refine truS_congr s fun k hk => ?_
  have := hB i k (by rw [inP_nat]; exact hk)
  exact val_take s B i k.toNat (by omega) (by omega)
theorem val_put (s : Nat × Nat) {B : List PN} (hB : Ord B) (z : PN) : valN s (putP B z).2 (putP B z).1 = truS s (truT s B) z ∧ ∀ i : Int, i.toNat < B.length → valN s (putP B z).2 i = valN s B i := by
  unfold putP
  by_cases hz : z ∈ B
  · rw [if_pos hz]
    have hb := idx_nat B z hz
    have hat := idxP_at z B 0 hz
    rw [Int.sub_zero] at hat
    refine ⟨?_, fun i _ => rfl⟩
    have := val_at s hB (idxP B z 0).toNat (by omega)
    rw [hat, show (((idxP B z 0).toNat : Nat) : Int) = idxP B z 0 by omega] at this
    exact this
  · rw [if_neg hz]
    exact ⟨valN_last s B z, fun i hi => val_app s B z i hi⟩
def ask (kind : Int) (v : Bool) : Bool := if kind = 4 then v else !v
theorem truS_gate (s : Nat × Nat) (T : List Bool) {kind : Int} (lt : Int) (l : List Int) (hk : kind = 3 ∨ kind = 4) : truS s T (kind, lt, l) = ask kind (l.any fun k => ask kind (T.getD k.toNat default)) := by
  unfold truS ask
  rcases hk with rfl | rfl
  · rfl
  · rfl
theorem ask_ask (kind : Int) (v : Bool) : ask kind (ask kind v) = v := by unfold ask; split <;> simp
theorem any_mem {p : Int → Bool} {a b : List Int} (h : ∀ x, x ∈ a ↔ x ∈ b) : a.any p = b.any p := by
  rw [Bool.eq_iff_iff, List.any_eq_true, List.any_eq_true]
  exact ⟨fun ⟨x, h1, h2⟩ => ⟨x, (h x).1 h1, h2⟩, fun ⟨x, h1, h2⟩ => ⟨x, (h x).2 h1, h2⟩⟩
theorem any_flat (s : Nat × Nat) {B : List PN} (hB : Ord B) {kind : Int} (hk : kind = 3 ∨ kind = 4) : ∀ (l : List Int), (∀ i, i ∈ l → 0 ≤ i ∧ i < B.length) → (flatP B kind l).any (fun k => ask kind (valN s B k)) = l.any (fun k => ask kind (valN s B k))
  | [], _ => rfl
  | x :: l, h => by
    have ih := any_flat s hB hk l fun i hi => h i (List.mem_cons_of_mem _ hi)
    have hx := h x List.mem_cons_self
    unfold flatP at ih ⊢
    rw [List.flatMap_cons, List.any_append, List.any_cons, ih]
    congr 1
    split
    · rename_i hkx
      have h1 := val_at s hB x.toNat (by omega)
      rw [show ((x.toNat : Nat) : Int) = x by omega] at h1
      have h2 : B.getD x.toNat default = (kind, litP B x, inP B x) := by rw [← hkx]; rfl
      rw [h2, truS_gate s _ _ _ hk] at h1
      rw [h1, ask_ask]; rfl
    · rw [List.any_cons, List.any_nil, Bool.or_false]
theorem val_lit (s : Nat × Nat) {B : List PN} (hB : Ord B) (i : Int) (h : 0 ≤ i ∧ i < B.length) (hk : kindP B i = 2) : valN s B i = decide (hasB s (absI (litP B i)) = decide (0 < litP B i)) := by
  have h1 := val_at s hB i.toNat (by omega)
  rw [show ((i.toNat : Nat) : Int) = i by omega] at h1
  have h2 : B.getD i.toNat default = (2, litP B i, inP B i) := by rw [← hk]; rfl
  rw [h1, h2]; rfl
theorem val_const (s : Nat × Nat) {B : List PN} (hB : Ord B) (i : Int) (h : 0 ≤ i ∧ i < B.length) (hk : kindP B i = 0 ∨ kindP B i = 1) : valN s B i = decide (kindP B i = 1) := by
  have h1 := val_at s hB i.toNat (by omega)
  rw [show ((i.toNat : Nat) : Int) = i by omega] at h1
  have h2 : B.getD i.toNat default = (kindP B i, litP B i, inP B i) := rfl
  rw [h1, h2]
  rcases hk with e | e <;> rw [e] <;> rfl
theorem val_add (s : Nat × Nat) {N : Int} {B : List PN} (hB : Ord B) (ho : OkP B) {x : PN} (hf : formedP x N B.length = true) : valN s (addP B x).2 (addP B x).1 = truS s (truT s B) x ∧ ∀ i : Int, i.toNat < B.length → valN s (addP B x).2 i = valN s B i := by
  have hr := formed_rng hf
  have hL := fun hk => formed_low hf hk
  obtain ⟨kind, lt, l⟩ := x
  simp only at hr hL
  by_cases hk : kind = 3 ∨ kind = 4
  case neg =>
    have := hL hk
    subst this
    rw [add_const (x := (kind, lt, [])) ⟨fun e => hk (.inl e), fun e => hk (.inr e)⟩]
    exact val_put s hB _
  have gi := gin ho kind hr
  have hfl := any_flat s hB hk l hr
  have hT : truS s (truT s B) (kind, lt, l) = ask kind (l.any fun k => ask kind (valN s B k)) := truS_gate s _ _ _ hk
  rw [hT, add_doc hk, ← hfl]
  generalize inputsR B kind (dropK kind) l = D at gi
  have hdrop : ∀ i, i ∈ flatP B kind l → kindP B i = dropK kind → ask kind (valN s B i) = false := fun i hi e => by
    have hri := flat_rng ho kind hr i hi
    rw [val_const s hB i hri (by rcases dropK_c kind with h | h <;> omega), e]
    unfold dropK ask
    split <;> rfl
  have hAD : (flatP B kind l).any (fun k => ask kind (valN s B k)) = D.any (fun k => ask kind (valN s B k)) := by
    rw [Bool.eq_iff_iff, List.any_eq_true, List.any_eq_true]
    constructor
    · rintro ⟨x, h1, h2⟩
      refine ⟨x, (gi.mem x).2 ⟨h1, fun e => ?_⟩, h2⟩
      rw [hdrop x h1 e] at h2; cases h2
    · rintro ⟨x, h1, h2⟩
      exact ⟨x, ((gi.mem x).1 h1).1, h2⟩
  rw [hAD]
  by_cases hd : decR B D (endK kind) = true
  · rw [if_pos hd]
    have hA : D.any (fun k => ask kind (valN s B k)) = true := by
      rw [List.any_eq_true]
      obtain ⟨i, hi, h | ⟨q, hq, h1, h2, h3⟩⟩ := (dec_iff B D (endK kind)).1 hd
      · refine ⟨i, hi, ?_⟩
        rw [val_const s hB i (gi.rg i hi) (by rcases endK_c kind with h4 | h4 <;> omega), h]
        unfold endK ask
        split <;> rfl
      · have v1 := val_lit s hB i (gi.rg i hi) h1
        have v2 := val_lit s hB q (gi.rg q hq) h2
        have hz := lit_ne ho q h2
        rw [h3, absI_neg] at v1
        have hn : valN s B i = !(valN s B q) := by
          rw [v1, v2]
          rcases Int.lt_or_gt_of_ne hz with h | h
          · rw [decide_eq_true (show 0 < -(litP B q) by omega), decide_eq_false (show ¬ 0 < litP B q by omega)]
            cases hasB s (absI (litP B q)) <;> rfl
          · rw [decide_eq_false (show ¬ 0 < -(litP B q) by omega), decide_eq_true h]
            cases hasB s (absI (litP B q)) <;> rfl
        by_cases hv : ask kind (valN s B i) = true
        · exact ⟨i, hi, hv⟩
        · refine ⟨q, hq, ?_⟩
          rw [hn] at hv
          unfold ask at hv ⊢
          split
          · rename_i h; rw [if_pos h] at hv; simpa using hv
          · rename_i h; rw [if_neg h] at hv; simpa using hv
    rw [hA]
    have := val_put s hB (endK kind, 0, [])
    refine ⟨this.1.trans ?_, this.2⟩
    unfold truS endK ask
    rcases hk with rfl | rfl <;> rfl
  rw [if_neg hd]
  rcases hD : D with _ | ⟨y, _ | ⟨z, t⟩⟩
  · have := val_put s hB (dropK kind, 0, [])
    refine ⟨this.1.trans ?_, this.2⟩
    unfold truS dropK ask
    rcases hk with rfl | rfl <;> rfl
  · refine ⟨?_, fun i _ => rfl⟩
    show valN s B y = _
    rw [List.any_cons, List.any_nil, Bool.or_false, ask_ask]
  · show valN s (putP B (kind, 0, sortS (y :: z :: t))).2 (putP B (kind, 0, sortS (y :: z :: t))).1 = _ ∧ ∀ i : Int, i.toNat < B.length → valN s (putP B (kind, 0, sortS (y :: z :: t))).2 i = valN s B i
    rw [← hD]
    have := val_put s hB (kind, 0, sortS D)
    refine ⟨this.1.trans ?_, this.2⟩
    rw [truS_gate s _ _ _ hk, any_mem fun x => (sortS_perm D).mem_iff]; rfl
theorem val_net (s : Nat × Nat) {B : List PN} (hB : Ord B) {r : Nat} (hr : r < B.length) {U : List Bool} (m : Marks B r U) : ∀ n, n ≤ r + 1 → ∀ i, i < n → U.getD i false = true → valN s (netTo B U n) (rk U i) = valN s B i := fun n => by
  induction n with
  | zero => intro _ i hi; omega
  | succ n ih =>
    intro hn i hi hu
    have ih := ih (by omega)
    have hl := netTo_len B U n
    rw [netTo_succ]
    by_cases e : i < n
    · have := rk_lt e hu
      have := rk_le U i
      have h2 : valN s (netTo B U n ++ if U.getD n false = true then [nodeN B U n] else []) (rk U i) = valN s (netTo B U n) (rk U i) := by
        split
        · exact val_app s _ _ _ (by omega)
        · rw [List.append_nil]
      rw [h2]
      exact ih i e hu
    · have e : i = n := by omega
      subst e
      rw [hu, if_pos rfl, ← hl, valN_last, val_at s hB i (by omega)]
      have hx : B.getD i default = (kindP B i, litP B i, inP B i) := by rw [kindP_nat, litP_nat, inP_nat]
      rw [hx]
      have hv : ∀ k, k ∈ inP B i → (truT s (netTo B U i)).getD (rk U k.toNat).toNat default = (truT s B).getD k.toNat default := fun k hk => by
        have := hB i k hk
        have h3 := ih k.toNat (by omega) (m.cl i (by omega) hu k hk)
        unfold valN at h3
        rw [Int.toNat_natCast] at h3
        exact h3
      exact truS_map s _ _ _ hv
theorem formAll_of (N : Int) : ∀ (B : List PN) (k : Int), (∀ j : Nat, j < B.length → formedP (B.getD j default) N (k + j) = true) → formAll N B k = true
  | [], k, _ => rfl
  | x :: B, k, h => by
    unfold formAll
    rw [Bool.and_eq_true]
    refine ⟨?_, formAll_of N B (k + 1) fun j hj => ?_⟩
    · have := h 0 (by rw [List.length_cons]; omega)
      rw [Int.natCast_zero, Int.add_zero] at this
      exact this
    · have := h (j + 1) (by rw [List.length_cons]; omega)
      rw [show k + ((j + 1 : Nat) : Int) = k + 1 + (j : Int) by omega] at this
      exact this
end Go.Proofs.YtdiciemlbhkilaaGreatDoor
namespace Go.Proofs.YtdiciemlbhkilaaGreatDoor
open Go Go.Cx Go.RowKit
set_option linter.unusedVariables false
set_option linter.unusedSimpArgs false
set_option maxHeartbeats 4000000
attribute [local irreducible] J JC thenK blockK loopK roundK drawK retK QW Qt pel List.set Calls
attribute [local irreducible] JE Br eK0 eK3 brK
def uniS (s t : Nat × Nat) : Nat × Nat := (s.1 ||| t.1, s.2 ||| t.2)
theorem has_uni (s t : Nat × Nat) (u : Int) : hasB (uniS s t) u = (hasB s u || hasB t u) := by
  unfold hasB uniS
  split
  · exact Nat.testBit_or _ _ _
  · split
    · exact Nat.testBit_or _ _ _
    · rfl
def setO (s : Nat × Nat) : Obj := .cells ⟨[.int .u64 (s.1 : Int), .int .u64 (s.2 : Int)]⟩ 40 (0, 0)
def varS (T : List (Nat × Nat)) (x : PN) : Nat × Nat := x.2.2.foldl (fun s k => uniS s (T.getD k.toNat default)) (withS (0, 0) (varI x.2.1))
def varT (X : List PN) : List (Nat × Nat) := X.foldl (fun T x => T ++ [varS T x]) []
theorem varT_snoc (X : List PN) (x : PN) : varT (X ++ [x]) = varT X ++ [varS (varT X) x] := by
  unfold varT; rw [List.foldl_append]; rfl
theorem varT_len : ∀ (X : List PN), (varT X).length = X.length := fun X => by
  have h : ∀ (X : List PN) (T : List (Nat × Nat)), (X.foldl (fun T x => T ++ [varS T x]) T).length = T.length + X.length := fun X => by
    induction X with
    | nil => intro T; rfl
    | cons x X ih => intro T; rw [List.foldl_cons, ih]; simp only [List.length_append, List.length_cons, List.length_nil]; omega
  have := h X []
  rw [List.length_nil, Nat.zero_add] at this
  exact this
theorem has_fold (T : List (Nat × Nat)) (u : Int) : ∀ (l : List Int) (s : Nat × Nat), hasB (l.foldl (fun s (k : Int) => uniS s (T.getD k.toNat default)) s) u = true ↔ hasB s u = true ∨ ∃ k, k ∈ l ∧ hasB (T.getD k.toNat default) u = true
  | [], s => by simp
  | x :: l, s => by
    rw [List.foldl_cons, has_fold T u l, has_uni, Bool.or_eq_true]
    constructor
    · rintro ((h | h) | ⟨k, h1, h2⟩)
      · exact .inl h
      · exact .inr ⟨x, List.mem_cons_self, h⟩
      · exact .inr ⟨k, List.mem_cons_of_mem _ h1, h2⟩
    · rintro (h | ⟨k, h1, h2⟩)
      · exact .inl (.inl h)
      · rcases List.mem_cons.1 h1 with rfl | h1
        · exact .inl (.inr h2)
        · exact .inr ⟨k, h1, h2⟩
end Go.Proofs.YtdiciemlbhkilaaGreatDoor
namespace Go.Proofs.YtdiciemlbhkilaaGreatDoor
open Go Go.Cx Go.RowKit
set_option linter.unusedVariables false
set_option linter.unusedSimpArgs false
set_option maxHeartbeats 4000000
attribute [local irreducible] J JC thenK blockK loopK roundK drawK retK QW Qt pel List.set Calls
theorem foldV_pre (C : List PN) : ∀ T : List (Nat × Nat), ∃ T', C.foldl (fun T x => T ++ [varS T x]) T = T ++ T' := by
  induction C with
  | nil => exact fun T => ⟨[], by simp⟩
  | cons x C ih =>
    intro T
    obtain ⟨T', h⟩ := ih (T ++ [varS T x])
    exact ⟨[varS T x] ++ T', by rw [List.foldl_cons, h, List.append_assoc]⟩
theorem varT_pre (B C : List PN) : ∃ T', varT (B ++ C) = varT B ++ T' := by
  unfold varT; rw [List.foldl_append]; exact foldV_pre C _
theorem vd_app (B C : List PN) (i : Nat) (h : i < B.length) : (varT (B ++ C)).getD i default = (varT B).getD i default := by
  obtain ⟨T, e⟩ := varT_pre B C
  rw [e, getD_app _ _ _ (by rw [varT_len]; exact h)]
theorem has_varS (T : List (Nat × Nat)) (x : PN) (u : Int) : hasB (varS T x) u = true ↔ hasB (withS (0, 0) (varI x.2.1)) u = true ∨ ∃ k, k ∈ x.2.2 ∧ hasB (T.getD k.toNat default) u = true := has_fold T u _ _
def Oc (B : List PN) (i : Int) (u : Int) : Prop := hasB ((varT B).getD i.toNat default) u = true
theorem oc_app {B C : List PN} {i u : Int} (h : i.toNat < B.length) : Oc (B ++ C) i u ↔ Oc B i u := by unfold Oc; rw [vd_app _ _ _ h]
theorem oc_at {B : List PN} (hB : Ord B) (i : Int) (h0 : 0 ≤ i) (hi : i < B.length) (u : Int) : Oc B i u ↔ hasB (withS (0, 0) (varI (litP B i))) u = true ∨ ∃ k, k ∈ inP B i ∧ Oc B k u := by
  obtain ⟨j, rfl⟩ := Int.eq_ofNat_of_zero_le h0
  have hj : j < B.length := by omega
  have e1 : (varT B).getD j default = varS (varT (B.take j)) (B.getD j default) := by
    have e : B.take (j + 1) ++ B.drop (j + 1) = B := List.take_append_drop ..
    have h1 := vd_app (B.take (j + 1)) (B.drop (j + 1)) j (by rw [List.length_take]; omega)
    rw [e] at h1
    rw [h1, take_g B j hj, varT_snoc]
    exact getD_last2 _ _ _ (by rw [varT_len, List.length_take]; omega)
  have e2 : ∀ k, k < j → (varT B).getD k default = (varT (B.take j)).getD k default := fun k hk => by
    have e : B.take j ++ B.drop j = B := List.take_append_drop ..
    have h1 := vd_app (B.take j) (B.drop j) k (by rw [List.length_take]; omega)
    rw [e] at h1
    exact h1
  unfold Oc
  rw [Int.toNat_natCast, e1, has_varS, litP_nat, inP_nat]
  have hr := hB j
  rw [inP_nat] at hr
  constructor
  · rintro (h | ⟨k, hk, h⟩)
    · exact .inl h
    · have := hr k hk
      exact .inr ⟨k, hk, by rw [e2 _ (by omega)]; exact h⟩
  · rintro (h | ⟨k, hk, h⟩)
    · exact .inl h
    · have := hr k hk
      exact .inr ⟨k, hk, by rw [← e2 _ (by omega)]; exact h⟩
theorem oc_put {B : List PN} (hB : Ord B) (z : PN) (hz : ∀ k, k ∈ z.2.2 → 0 ≤ k ∧ k < B.length) (u : Int) : Oc (putP B z).2 (putP B z).1 u ↔ hasB (withS (0, 0) (varI z.2.1)) u = true ∨ ∃ k, k ∈ z.2.2 ∧ Oc B k u := by
  unfold putP
  by_cases hm : z ∈ B
  · rw [if_pos hm]
    have hb := idx_nat B z hm
    have hat := idxP_at z B 0 hm
    rw [Int.sub_zero] at hat
    have := oc_at hB (idxP B z 0) hb.1 hb.2 u
    unfold litP inP at this
    rw [hat] at this
    exact this
  · rw [if_neg hm]
    show Oc (B ++ [z]) (B.length : Int) u ↔ _
    unfold Oc
    rw [varT_snoc, Int.toNat_natCast, getD_last2 _ _ _ (varT_len B), has_varS]
theorem with_zero : withS (0, 0) (varI 0) = (0, 0) := by decide
theorem oc_none {l : Int} (h : l = 0) (u : Int) : ¬ hasB (withS (0, 0) (varI l)) u = true := by
  subst h; rw [with_zero, has_zero]; exact Bool.false_ne_true
theorem varI_abs {l : Int} (h : l ≠ 0 ∧ -128 ≤ l ∧ l ≤ 128) : varI l = absI l := by unfold varI absI; grind
theorem oc_lit {l : Int} (h : l ≠ 0 ∧ -128 ≤ l ∧ l ≤ 128) (u : Int) : hasB (withS (0, 0) (varI l)) u = true ↔ u = absI l := by
  have : 1 ≤ absI l ∧ absI l ≤ 128 := by unfold absI; omega
  rw [varI_abs h, has_with _ _ _ this, has_zero]
  constructor
  · rintro (h | h)
    · cases h
    · exact h
  · exact .inr
def Hd (B : List PN) (j l : Int) : Prop := (kindP B j = 2 ∧ litP B j = l) ∨ (kindP B j = 3 ∧ ∃ q, q ∈ inP B j ∧ kindP B q = 2 ∧ litP B q = l)
theorem Hd.app {B : List PN} (hB : Ord B) {j l : Int} (h : Hd B j l) (h0 : 0 ≤ j) (hj : j < B.length) (C : List PN) : Hd (B ++ C) j l := by
  unfold Hd
  rw [kindP_app _ _ _ (by omega), litP_app _ _ _ (by omega), inP_app _ _ _ (by omega)]
  rcases h with h | ⟨h, q, hq, h2⟩
  · exact .inl h
  · refine .inr ⟨h, q, hq, ?_⟩
    have := hB j.toNat q (by rw [show ((j.toNat : Nat) : Int) = j by omega]; exact hq)
    rw [kindP_app _ _ _ (by omega), litP_app _ _ _ (by omega)]
    exact h2
structure Dd (B : List PN) : Prop where
  dec : ∀ i : Nat, i < B.length → kindP B i = 3 → ∀ a, a ∈ inP B i → ∀ b, b ∈ inP B i → a ≠ b → ∀ u, Oc B a u → ¬ Oc B b u
  dci : ∀ i : Nat, i < B.length → kindP B i = 4 → ∃ j k l, inP B i = [j, k] ∧ l ≠ 0 ∧ Hd B j l ∧ Hd B k (-l)
theorem Dd.nil : Dd [] := ⟨fun i hi => absurd hi (Nat.not_lt_zero _), fun i hi => absurd hi (Nat.not_lt_zero _)⟩
theorem Dd.put {B : List PN} (hB : Ord B) (d : Dd B) {z : PN} (hz : ∀ k, k ∈ z.2.2 → 0 ≤ k ∧ k < B.length) (h3 : z.1 = 3 → ∀ a, a ∈ z.2.2 → ∀ b, b ∈ z.2.2 → a ≠ b → ∀ u, Oc B a u → ¬ Oc B b u) (h4 : z.1 = 4 → ∃ j k l, z.2.2 = [j, k] ∧ l ≠ 0 ∧ Hd B j l ∧ Hd B k (-l)) : Dd (putP B z).2 := by
  unfold putP
  by_cases hm : z ∈ B
  · rw [if_pos hm]; exact d
  rw [if_neg hm]
  have hlen : (B ++ [z]).length = B.length + 1 := by rw [List.length_append]; rfl
  have key : ∀ i : Nat, i < (B ++ [z]).length → (i < B.length ∧ kindP (B ++ [z]) i = kindP B i ∧ inP (B ++ [z]) i = inP B i ∧ ∀ k, k ∈ inP B i → 0 ≤ k ∧ k < B.length) ∨ (kindP (B ++ [z]) i = z.1 ∧ inP (B ++ [z]) i = z.2.2) := fun i hi => by
    by_cases hb : i < B.length
    · refine .inl ⟨hb, kindP_app _ _ _ (by omega), inP_app _ _ _ (by omega), fun k hk => ?_⟩
      have := hB i k hk
      omega
    · have e : i = B.length := by omega
      subst e
      refine .inr ⟨?_, ?_⟩
      · rw [kindP_nat, getD_last]
      · rw [inP_nat, getD_last]
  refine ⟨fun i hi hk a ha b hb hab u hu => ?_, fun i hi hk => ?_⟩
  · rcases key i hi with ⟨k1, k2, k3, k4⟩ | ⟨k1, k2⟩
    · rw [k3] at ha hb
      rw [k2] at hk
      have ra := k4 a ha
      have rb := k4 b hb
      rw [oc_app (by omega)] at hu ⊢
      exact d.dec i k1 hk a ha b hb hab u hu
    · rw [k2] at ha hb
      rw [k1] at hk
      have ra := hz a ha
      have rb := hz b hb
      rw [oc_app (by omega)] at hu ⊢
      exact h3 hk a ha b hb hab u hu
  · rcases key i hi with ⟨k1, k2, k3, k4⟩ | ⟨k1, k2⟩
    · rw [k2] at hk
      obtain ⟨j, k, l, e, l0, h1, h2⟩ := d.dci i k1 hk
      have rj := k4 j (by rw [e]; simp)
      have rk := k4 k (by rw [e]; simp)
      exact ⟨j, k, l, by rw [k3, e], l0, h1.app hB rj.1 rj.2 _, h2.app hB rk.1 rk.2 _⟩
    · rw [k1] at hk
      obtain ⟨j, k, l, e, l0, h1, h2⟩ := h4 hk
      have rj := hz j (by rw [e]; simp)
      have rk := hz k (by rw [e]; simp)
      exact ⟨j, k, l, by rw [k2, e], l0, h1.app hB rj.1 rj.2 _, h2.app hB rk.1 rk.2 _⟩
theorem gate_out {B : List PN} {kind lt : Int} {l : List Int} (hk : kind = 3 ∨ kind = 4) :
    addP B (kind, lt, l) = putP B (endK kind, 0, []) ∨ (inputsR B kind (dropK kind) l = [] ∧ addP B (kind, lt, l) = putP B (dropK kind, 0, [])) ∨ (∃ y, inputsR B kind (dropK kind) l = [y] ∧ addP B (kind, lt, l) = (y, B)) ∨ (2 ≤ (inputsR B kind (dropK kind) l).length ∧ addP B (kind, lt, l) = putP B (kind, 0, sortS (inputsR B kind (dropK kind) l))) := by
  rw [add_doc hk]
  by_cases hd : decR B (inputsR B kind (dropK kind) l) (endK kind) = true
  · rw [if_pos hd]; exact .inl rfl
  rw [if_neg hd]
  generalize inputsR B kind (dropK kind) l = D
  rcases D with _ | ⟨y, _ | ⟨z, t⟩⟩
  · exact .inr (.inl ⟨rfl, rfl⟩)
  · exact .inr (.inr (.inl ⟨y, rfl, rfl⟩))
  · exact .inr (.inr (.inr ⟨by simp only [List.length_cons]; omega, rfl⟩))
structure Bt (N : Int) (B : List PN) : Prop where
  sm : Simp N B
  ok : OkP B
  dd : Dd B
structure Add1 (N : Int) (B : List PN) (p : Int × List PN) : Prop where
  bt : Bt N p.2
  ex : ∃ C, p.2 = B ++ C
  le : p.2.length ≤ B.length + 1
  lo : 0 ≤ p.1
  hi : p.1 < p.2.length
  old : ∀ (s : Nat × Nat) (i : Int), i.toNat < B.length → valN s p.2 i = valN s B i
theorem put_ext (B : List PN) (z : PN) : ∃ C, (putP B z).2 = B ++ C := by
  unfold putP
  split
  · exact ⟨[], by rw [List.append_nil]⟩
  · exact ⟨[z], rfl⟩
theorem add_ext {B : List PN} (h : OkP B) {N : Int} (hN : 0 ≤ N ∧ N ≤ 128) {x : PN} (hf : formedP x N B.length = true) : ∃ C, (addP B x).2 = B ++ C := by
  rcases add_cases h hN hf with ⟨y, e, _⟩ | ⟨z, e, hz⟩
  · rw [e]; exact ⟨[], by rw [List.append_nil]⟩
  · rw [e]; exact put_ext B z
theorem add1 {N : Int} (hN : 0 ≤ N ∧ N ≤ 128) {B : List PN} (b : Bt N B) {x : PN} (hf : formedP x N B.length = true) (hd : Dd (addP B x).2) : Add1 N B (addP B x) := by
  have h := b.ok.add hN hf
  exact ⟨⟨add_simp b.sm b.ok hf, h.1, hd⟩, add_ext b.ok hN hf, h.2.2.1, h.2.2.2.1, h.2.2.2.2, fun s => (val_add s b.sm.ord b.ok hf).2⟩
theorem put_at (B : List PN) (z : PN) : kindP (putP B z).2 (putP B z).1 = z.1 ∧ litP (putP B z).2 (putP B z).1 = z.2.1 ∧ inP (putP B z).2 (putP B z).1 = z.2.2 := by
  have key : (putP B z).2.getD (putP B z).1.toNat default = z := by
    unfold putP
    by_cases hm : z ∈ B
    · rw [if_pos hm]
      have hat := idxP_at z B 0 hm
      rwa [Int.sub_zero] at hat
    · rw [if_neg hm]
      show (B ++ [z]).getD ((B.length : Int)).toNat default = z
      rw [Int.toNat_natCast, getD_last]
  unfold kindP litP inP
  rw [key]
  exact ⟨rfl, rfl, rfl⟩
theorem leaf_ok {N : Int} (hN : 0 ≤ N ∧ N ≤ 128) {B : List PN} (b : Bt N B) {k l : Int} (hk : k ≠ 3 ∧ k ≠ 4) (hf : formedP (k, l, []) N B.length = true) : Add1 N B (addP B (k, l, [])) ∧ kindP (addP B (k, l, [])).2 (addP B (k, l, [])).1 = k ∧ litP (addP B (k, l, [])).2 (addP B (k, l, [])).1 = l ∧ (∀ s, valN s (addP B (k, l, [])).2 (addP B (k, l, [])).1 = truS s (truT s B) (k, l, [])) ∧ ∀ u, Oc (addP B (k, l, [])).2 (addP B (k, l, [])).1 u ↔ hasB (withS (0, 0) (varI l)) u = true := by
  have hz : ∀ i : Int, i ∈ ([] : List Int) → 0 ≤ i ∧ i < B.length := fun i hi => absurd hi List.not_mem_nil
  have e : addP B (k, l, []) = putP B (k, l, []) := add_const (x := (k, l, [])) hk
  refine ⟨add1 hN b hf ?_, ?_, ?_, fun s => (val_add s b.sm.ord b.ok hf).1, fun u => ?_⟩
  · rw [e]; exact b.dd.put b.sm.ord hz (fun h => absurd h hk.1) (fun h => absurd h hk.2)
  · rw [e]; exact (put_at B _).1
  · rw [e]; exact (put_at B _).2.1
  · rw [e, oc_put b.sm.ord _ hz]
    constructor
    · rintro (h | ⟨q, hq, _⟩)
      · exact h
      · exact absurd hq List.not_mem_nil
    · exact .inl
theorem formed_l {N : Int} {v l bf : Int} (hv : 1 ≤ v ∧ v ≤ N) (hl : l = v ∨ l = -v) : formedP (2, l, []) N bf = true := by
  unfold formedP
  simp only [List.any_nil, Bool.not_false, Bool.true_and]
  rw [if_neg (by decide), if_pos trivial]
  unfold validB
  simp only [Bool.and_eq_true, decide_eq_true_eq]
  exact ⟨by omega, rfl⟩
theorem and_ok {N : Int} (hN : 0 ≤ N ∧ N ≤ 128) {B : List PN} (b : Bt N B) {v l low r : Int} (hv : 1 ≤ v ∧ v ≤ N) (hl : l = v ∨ l = -v) (h0 : 0 ≤ low ∧ low < B.length) (hr : 0 ≤ r ∧ r < B.length) (k0 : kindP B low = 2) (l0 : litP B low = l) (hf : ¬ Oc B r v) :
    Add1 N B (addP B (3, 0, [low, r])) ∧ (∀ s, valN s (addP B (3, 0, [low, r])).2 (addP B (3, 0, [low, r])).1 = (valN s B low && valN s B r)) ∧ (∀ u, Oc (addP B (3, 0, [low, r])).2 (addP B (3, 0, [low, r])).1 u → u = v ∨ Oc B r u) ∧ (kindP (addP B (3, 0, [low, r])).2 (addP B (3, 0, [low, r])).1 = 0 ∨ Hd (addP B (3, 0, [low, r])).2 (addP B (3, 0, [low, r])).1 l) := by
  have hl128 : l ≠ 0 ∧ -128 ≤ l ∧ l ≤ 128 := by omega
  have habs : absI l = v := by unfold absI; omega
  have hrg : ∀ i, i ∈ [low, r] → 0 ≤ i ∧ i < (B.length : Int) := fun i hi => by
    rcases List.mem_cons.1 hi with rfl | hi
    · exact h0
    · rw [List.mem_singleton.1 hi]; exact hr
  have hfm : formedP (3, 0, [low, r]) N B.length = true := formed_gate (.inl rfl) hrg
  have hB := b.sm.ord
  have gi := gin b.ok 3 hrg
  have hlowin : inP B low = [] := by
    have := formed_low (b.sm.fm low.toNat (by omega)) (by
      have e : (B.getD low.toNat default).1 = 2 := k0
      unfold isG; omega)
    exact this
  have hoclow : ∀ u, Oc B low u ↔ u = v := fun u => by
    rw [oc_at hB low h0.1 h0.2, l0, oc_lit hl128, habs, hlowin]
    constructor
    · rintro (h | ⟨k, hk, _⟩)
      · exact h
      · exact absurd hk List.not_mem_nil
    · exact .inl
  have hX : ∀ x, x ∈ flatP B 3 [low, r] → x = low ∨ (kindP B r = 3 ∧ x ∈ inP B r) ∨ x = r := fun x hx => by
    unfold flatP at hx
    rw [List.mem_flatMap] at hx
    obtain ⟨i, hi, hx⟩ := hx
    rcases List.mem_cons.1 hi with rfl | hi
    · rw [if_neg (by omega)] at hx
      exact .inl (List.mem_singleton.1 hx)
    · have hi := List.mem_singleton.1 hi
      subst hi
      split at hx
      · rename_i h; exact .inr (.inl ⟨h, hx⟩)
      · exact .inr (.inr (List.mem_singleton.1 hx))
  have hXo : ∀ x, x ∈ flatP B 3 [low, r] → x ≠ low → ∀ u, Oc B x u → Oc B r u := fun x hx hne u hu => by
    rcases hX x hx with h | ⟨_, h⟩ | h
    · exact absurd h hne
    · exact (oc_at hB r hr.1 hr.2 u).2 (.inr ⟨x, h, hu⟩)
    · rw [← h]; exact hu
  have hmem : ∀ x, x ∈ sortS (inputsR B 3 (dropK 3) [low, r]) ↔ x ∈ inputsR B 3 (dropK 3) [low, r] := fun x => (sortS_perm _).mem_iff
  have hlowD : low ∈ inputsR B 3 (dropK 3) [low, r] := by
    rw [gi.mem]
    refine ⟨?_, by rw [k0]; decide⟩
    unfold flatP
    rw [List.mem_flatMap]
    exact ⟨low, List.mem_cons_self, by rw [if_neg (by omega)]; exact List.mem_singleton.2 rfl⟩
  have hdec : ∀ a, a ∈ sortS (inputsR B 3 (dropK 3) [low, r]) → ∀ c, c ∈ sortS (inputsR B 3 (dropK 3) [low, r]) → a ≠ c → ∀ u, Oc B a u → ¬ Oc B c u := fun a ha c hc hac u hu hu2 => by
    have ha := ((gi.mem a).1 ((hmem a).1 ha)).1
    have hc := ((gi.mem c).1 ((hmem c).1 hc)).1
    by_cases e1 : a = low
    · have h2 := hXo c hc (fun e => hac (e1.trans e.symm)) u hu2
      rw [e1, hoclow] at hu
      rw [hu] at h2
      exact hf h2
    by_cases e2 : c = low
    · have h2 := hXo a ha e1 u hu
      rw [e2, hoclow] at hu2
      rw [hu2] at h2
      exact hf h2
    rcases hX a ha with h | ⟨h3, h⟩ | h
    · exact e1 h
    · rcases hX c hc with g | ⟨_, g⟩ | g
      · exact e2 g
      · have := b.dd.dec r.toNat (by omega)
        rw [show ((r.toNat : Nat) : Int) = r by omega] at this
        exact this h3 a h c g hac u hu hu2
      · subst g
        have h5 : c ∈ flatP B 3 [low, c] := hc
        have := flat_kind b.sm (.inl rfl) hrg c h5
        exact this h3
    · rcases hX c hc with g | ⟨g3, g⟩ | g
      · exact e2 g
      · subst h
        have := flat_kind b.sm (.inl rfl) hrg a ha
        exact this g3
      · exact hac (h.trans g.symm)
  have hvl : ∀ s, valN s (addP B (3, 0, [low, r])).2 (addP B (3, 0, [low, r])).1 = (valN s B low && valN s B r) := fun s => by
    rw [(val_add s hB b.ok hfm).1, truS_gate s _ _ _ (.inl rfl)]
    unfold valN ask
    simp
  have hcz : ∀ c : Int, ∀ k : Int, k ∈ (c, (0 : Int), ([] : List Int)).2.2 → 0 ≤ k ∧ k < (B.length : Int) := fun c k hk => absurd hk List.not_mem_nil
  have he3 : endK 3 = 0 := rfl
  rcases gate_out (B := B) (kind := 3) (lt := 0) (l := [low, r]) (.inl rfl) with e | ⟨e0, e⟩ | ⟨y, e0, e⟩ | ⟨e0, e⟩
  · rw [he3] at e
    have hd : Dd (addP B (3, 0, [low, r])).2 := by rw [e]; exact b.dd.put hB (hcz 0) (fun h => absurd h (by decide)) (fun h => absurd h (by decide))
    refine ⟨add1 hN b hfm hd, hvl, fun u hu => ?_, .inl ?_⟩
    · rw [e, oc_put hB _ (hcz 0)] at hu
      rcases hu with h | ⟨k, hk, _⟩
      · exact absurd h (oc_none rfl u)
      · exact absurd hk List.not_mem_nil
    · rw [e]; exact (put_at B _).1
  · rw [e0] at hlowD; exact absurd hlowD List.not_mem_nil
  · rw [e0] at hlowD
    have hy := List.mem_singleton.1 hlowD
    subst hy
    have hd : Dd (addP B (3, 0, [low, r])).2 := by rw [e]; exact b.dd
    refine ⟨add1 hN b hfm hd, hvl, fun u hu => ?_, .inr ?_⟩
    · rw [e] at hu; exact .inl ((hoclow u).1 hu)
    · rw [e]; exact .inl ⟨k0, l0⟩
  · have hzr : ∀ k, k ∈ ((3 : Int), (0 : Int), sortS (inputsR B 3 (dropK 3) [low, r])).2.2 → 0 ≤ k ∧ k < (B.length : Int) := fun k hk => gi.rg k ((hmem k).1 hk)
    have hd : Dd (addP B (3, 0, [low, r])).2 := by rw [e]; exact b.dd.put hB hzr (fun _ => hdec) (fun h => absurd (show (3 : Int) = 4 from h) (by decide))
    have ha := add1 hN b hfm hd
    refine ⟨ha, hvl, fun u hu => ?_, .inr (.inr ⟨?_, low, ?_, ?_⟩)⟩
    · rw [e, oc_put hB _ hzr] at hu
      rcases hu with h | ⟨k, hk, hu⟩
      · exact absurd h (oc_none rfl u)
      · have hk := ((gi.mem k).1 ((hmem k).1 hk)).1
        by_cases e1 : k = low
        · rw [e1] at hu; exact .inl ((hoclow u).1 hu)
        · exact .inr (hXo k hk e1 u hu)
    · rw [e]; exact (put_at B _).1
    · rw [e, (put_at B _).2.2]; exact (hmem low).2 hlowD
    · obtain ⟨C, hC⟩ := ha.ex
      rw [hC, kindP_app _ _ _ (by omega), litP_app _ _ _ (by omega)]
      exact ⟨k0, l0⟩
theorem or_ok {N : Int} (hN : 0 ≤ N ∧ N ≤ 128) {B : List PN} (b : Bt N B) {l x y : Int} (hl : l ≠ 0) (hx : 0 ≤ x ∧ x < B.length) (hy : 0 ≤ y ∧ y < B.length) (h1 : kindP B x = 0 ∨ Hd B x l) (h2 : kindP B y = 0 ∨ Hd B y (-l)) :
    Add1 N B (addP B (4, 0, [x, y])) ∧ (∀ s, valN s (addP B (4, 0, [x, y])).2 (addP B (4, 0, [x, y])).1 = (valN s B x || valN s B y)) ∧ ∀ u, Oc (addP B (4, 0, [x, y])).2 (addP B (4, 0, [x, y])).1 u → Oc B x u ∨ Oc B y u := by
  have hrg : ∀ i, i ∈ [x, y] → 0 ≤ i ∧ i < (B.length : Int) := fun i hi => by
    rcases List.mem_cons.1 hi with rfl | hi
    · exact hx
    · rw [List.mem_singleton.1 hi]; exact hy
  have hfm : formedP (4, 0, [x, y]) N B.length = true := formed_gate (.inr rfl) hrg
  have hB := b.sm.ord
  have gi := gin b.ok 4 hrg
  have kx : kindP B x ≠ 4 := by rcases h1 with h | ⟨h, _⟩ | ⟨h, _⟩ <;> omega
  have ky : kindP B y ≠ 4 := by rcases h2 with h | ⟨h, _⟩ | ⟨h, _⟩ <;> omega
  have hfl : flatP B 4 [x, y] = [x, y] := flat_id _ fun i hi => by
    rcases List.mem_cons.1 hi with rfl | hi
    · exact kx
    · rw [List.mem_singleton.1 hi]; exact ky
  have hD : ∀ z, z ∈ inputsR B 4 (dropK 4) [x, y] → (z = x ∨ z = y) ∧ kindP B z ≠ 0 := fun z hz => by
    have := (gi.mem z).1 hz
    rw [hfl] at this
    refine ⟨?_, this.2⟩
    rcases List.mem_cons.1 this.1 with h | h
    · exact .inl h
    · exact .inr (List.mem_singleton.1 h)
  have hvl : ∀ s, valN s (addP B (4, 0, [x, y])).2 (addP B (4, 0, [x, y])).1 = (valN s B x || valN s B y) := fun s => by
    rw [(val_add s hB b.ok hfm).1, truS_gate s _ _ _ (.inr rfl)]
    unfold valN ask
    simp
  have hcz : ∀ c : Int, ∀ k : Int, k ∈ (c, (0 : Int), ([] : List Int)).2.2 → 0 ≤ k ∧ k < (B.length : Int) := fun c k hk => absurd hk List.not_mem_nil
  have hcst : ∀ c : Int, (c = 0 ∨ c = 1) → addP B (4, 0, [x, y]) = putP B (c, 0, []) → Dd (addP B (4, 0, [x, y])).2 ∧ ∀ u, Oc (addP B (4, 0, [x, y])).2 (addP B (4, 0, [x, y])).1 u → Oc B x u ∨ Oc B y u := fun c hc e => by
    refine ⟨by rw [e]; exact b.dd.put hB (hcz c) (fun h => by have h : c = 3 := h; omega) (fun h => by have h : c = 4 := h; omega), fun u hu => ?_⟩
    rw [e, oc_put hB _ (hcz c)] at hu
    rcases hu with h | ⟨k, hk, _⟩
    · exact absurd h (oc_none rfl u)
    · exact absurd hk List.not_mem_nil
  rcases gate_out (B := B) (kind := 4) (lt := 0) (l := [x, y]) (.inr rfl) with e | ⟨e0, e⟩ | ⟨z, e0, e⟩ | ⟨e0, e⟩
  · obtain ⟨a1, a2⟩ := hcst _ (endK_c 4) e
    exact ⟨add1 hN b hfm a1, hvl, a2⟩
  · obtain ⟨a1, a2⟩ := hcst _ (dropK_c 4) e
    exact ⟨add1 hN b hfm a1, hvl, a2⟩
  · have hz := hD z (by rw [e0]; exact List.mem_singleton.2 rfl)
    have hd : Dd (addP B (4, 0, [x, y])).2 := by rw [e]; exact b.dd
    refine ⟨add1 hN b hfm hd, hvl, fun u hu => ?_⟩
    rw [e] at hu
    rcases hz.1 with h | h
    · rw [h] at hu; exact .inl hu
    · rw [h] at hu; exact .inr hu
  · have hmem : ∀ z, z ∈ sortS (inputsR B 4 (dropK 4) [x, y]) ↔ z ∈ inputsR B 4 (dropK 4) [x, y] := fun z => (sortS_perm _).mem_iff
    have hzr : ∀ k, k ∈ ((4 : Int), (0 : Int), sortS (inputsR B 4 (dropK 4) [x, y])).2.2 → 0 ≤ k ∧ k < (B.length : Int) := fun k hk => gi.rg k ((hmem k).1 hk)
    have hln := sortS_len (inputsR B 4 (dropK 4) [x, y])
    have hnd : (sortS (inputsR B 4 (dropK 4) [x, y])).Nodup := (sortS_perm _).nodup_iff.2 gi.nd
    have h4 : ∃ j k m, sortS (inputsR B 4 (dropK 4) [x, y]) = [j, k] ∧ m ≠ 0 ∧ Hd B j m ∧ Hd B k (-m) := by
      have hall : ∀ z, z ∈ sortS (inputsR B 4 (dropK 4) [x, y]) → (z = x ∨ z = y) ∧ kindP B z ≠ 0 := fun z hz => hD z ((hmem z).1 hz)
      generalize sortS (inputsR B 4 (dropK 4) [x, y]) = S at hnd hall hln
      rcases S with _ | ⟨j, _ | ⟨k, _ | ⟨q, t⟩⟩⟩
      · simp only [List.length_nil] at hln; omega
      · simp only [List.length_cons, List.length_nil] at hln; omega
      · have hj := hall j (by simp)
        have hk := hall k (by simp)
        have hjk : j ≠ k := by
          rw [List.nodup_cons] at hnd
          exact fun e => hnd.1 (e ▸ List.mem_cons_self)
        refine ⟨j, k, ?_⟩
        rcases hj.1 with ej | ej
        · have ek : k = y := by
            rcases hk.1 with e | e
            · exact absurd (ej.trans e.symm) hjk
            · exact e
          subst ej
          subst ek
          exact ⟨l, rfl, hl, h1.resolve_left hj.2, h2.resolve_left hk.2⟩
        · have ek : k = x := by
            rcases hk.1 with e | e
            · exact e
            · exact absurd (ej.trans e.symm) hjk
          subst ej
          subst ek
          exact ⟨-l, rfl, by omega, h2.resolve_left hj.2, by rw [Int.neg_neg]; exact h1.resolve_left hk.2⟩
      · exfalso
        have hj := (hall j (by simp)).1
        have hk := (hall k (by simp)).1
        have hq := (hall q (by simp)).1
        simp only [List.nodup_cons, List.mem_cons, not_or] at hnd
        rcases hj with rfl | rfl <;> rcases hk with rfl | rfl <;> rcases hq with rfl | rfl <;> simp_all
    have hd : Dd (addP B (4, 0, [x, y])).2 := by rw [e]; exact b.dd.put hB hzr (fun h => absurd (show (4 : Int) = 3 from h) (by decide)) (fun _ => h4)
    refine ⟨add1 hN b hfm hd, hvl, fun u hu => ?_⟩
    rw [e, oc_put hB _ hzr] at hu
    rcases hu with h | ⟨k, hk, hu⟩
    · exact absurd h (oc_none rfl u)
    · rcases (hD k ((hmem k).1 hk)).1 with h | h
      · rw [h] at hu; exact .inl hu
      · rw [h] at hu; exact .inr hu
end Go.Proofs.YtdiciemlbhkilaaGreatDoor
namespace Go.Proofs.YtdiciemlbhkilaaGreatDoor
open Go Go.Cx Go.RowKit
set_option linter.unusedVariables false
set_option linter.unusedSimpArgs false
set_option maxHeartbeats 4000000
attribute [local irreducible] J JC thenK blockK loopK roundK drawK retK QW Qt pel List.set Calls
def askP (B : List PN) (v no yes : Int) : Int × List PN :=
  if no = yes then (no, B) else
  let p1 := addP B (2, -v, [])
  let p2 := addP p1.2 (2, v, [])
  let p3 := addP p2.2 (3, 0, [p1.1, no])
  let p4 := addP p3.2 (3, 0, [p2.1, yes])
  addP p4.2 (4, 0, [p3.1, p4.1])
theorem tru_lit (s : Nat × Nat) (T : List Bool) (l : Int) : truS s T (2, l, []) = decide (hasB s (absI l) = decide (0 < l)) := rfl
theorem lit_pos {s : Nat × Nat} {T : List Bool} {v : Int} (hv : 1 ≤ v) : truS s T (2, v, []) = hasB s v := by
  rw [tru_lit, absI_pos (by omega), decide_eq_true (show 0 < v by omega)]
  cases hasB s v <;> rfl
theorem lit_neg {s : Nat × Nat} {T : List Bool} {v : Int} (hv : 1 ≤ v) : truS s T (2, -v, []) = !(hasB s v) := by
  rw [tru_lit, absI_neg, absI_pos (by omega), decide_eq_false (show ¬ 0 < -v by omega)]
  cases hasB s v <;> rfl
structure Ask5 (N : Int) (B : List PN) (v no yes : Int) : Prop where
  f1 : formedP (2, -v, []) N B.length = true
  b1 : Bt N (addP B (2, -v, [])).2
  l1 : (addP B (2, -v, [])).2.length ≤ B.length + 1
  f2 : formedP (2, v, []) N (addP B (2, -v, [])).2.length = true
  b2 : Bt N (addP (addP B (2, -v, [])).2 (2, v, [])).2
  l2 : (addP (addP B (2, -v, [])).2 (2, v, [])).2.length ≤ B.length + 2
  f3 : formedP (3, 0, [(addP B (2, -v, [])).1, no]) N (addP (addP B (2, -v, [])).2 (2, v, [])).2.length = true
  b3 : Bt N (addP (addP (addP B (2, -v, [])).2 (2, v, [])).2 (3, 0, [(addP B (2, -v, [])).1, no])).2
  l3 : (addP (addP (addP B (2, -v, [])).2 (2, v, [])).2 (3, 0, [(addP B (2, -v, [])).1, no])).2.length ≤ B.length + 3
  f4 : formedP (3, 0, [(addP (addP B (2, -v, [])).2 (2, v, [])).1, yes]) N (addP (addP (addP B (2, -v, [])).2 (2, v, [])).2 (3, 0, [(addP B (2, -v, [])).1, no])).2.length = true
  b4 : Bt N (addP (addP (addP (addP B (2, -v, [])).2 (2, v, [])).2 (3, 0, [(addP B (2, -v, [])).1, no])).2 (3, 0, [(addP (addP B (2, -v, [])).2 (2, v, [])).1, yes])).2
  l4 : (addP (addP (addP (addP B (2, -v, [])).2 (2, v, [])).2 (3, 0, [(addP B (2, -v, [])).1, no])).2 (3, 0, [(addP (addP B (2, -v, [])).2 (2, v, [])).1, yes])).2.length ≤ B.length + 4
  f5 : formedP (4, 0, [(addP (addP (addP B (2, -v, [])).2 (2, v, [])).2 (3, 0, [(addP B (2, -v, [])).1, no])).1, (addP (addP (addP (addP B (2, -v, [])).2 (2, v, [])).2 (3, 0, [(addP B (2, -v, [])).1, no])).2 (3, 0, [(addP (addP B (2, -v, [])).2 (2, v, [])).1, yes])).1]) N (addP (addP (addP (addP B (2, -v, [])).2 (2, v, [])).2 (3, 0, [(addP B (2, -v, [])).1, no])).2 (3, 0, [(addP (addP B (2, -v, [])).2 (2, v, [])).1, yes])).2.length = true
structure AskO (N : Int) (B : List PN) (v no yes : Int) (p : Int × List PN) : Prop where
  bt : Bt N p.2
  ex : ∃ C, p.2 = B ++ C
  le : p.2.length ≤ B.length + 5
  lo : 0 ≤ p.1
  hi : p.1 < p.2.length
  old : ∀ (s : Nat × Nat) (i : Int), i.toNat < B.length → valN s p.2 i = valN s B i
  new : ∀ s, valN s p.2 p.1 = if hasB s v then valN s B yes else valN s B no
  oc : ∀ u, Oc p.2 p.1 u → u = v ∨ Oc B no u ∨ Oc B yes u
attribute [local irreducible] addP in
theorem ask_ok {N : Int} (hN : 0 ≤ N ∧ N ≤ 128) {B : List PN} (b : Bt N B) {v no yes : Int} (hv : 1 ≤ v ∧ v ≤ N) (hn : 0 ≤ no ∧ no < B.length) (hy : 0 ≤ yes ∧ yes < B.length) (on : ¬ Oc B no v) (oy : ¬ Oc B yes v) : AskO N B v no yes (askP B v no yes) ∧ (no ≠ yes → Ask5 N B v no yes) := by
  by_cases he : no = yes
  · subst he
    have e : askP B v no no = (no, B) := by unfold askP; rw [if_pos rfl]
    rw [e]
    exact ⟨⟨b, ⟨[], by rw [List.append_nil]⟩, Nat.le_add_right _ _, hn.1, hn.2, fun s i _ => rfl, fun s => by split <;> rfl, fun u hu => .inr (.inl hu)⟩, fun h => absurd rfl h⟩
  have hask : askP B v no yes = addP (addP (addP (addP (addP B (2, -v, [])).2 (2, v, [])).2 (3, 0, [(addP B (2, -v, [])).1, no])).2 (3, 0, [(addP (addP B (2, -v, [])).2 (2, v, [])).1, yes])).2 (4, 0, [(addP (addP (addP B (2, -v, [])).2 (2, v, [])).2 (3, 0, [(addP B (2, -v, [])).1, no])).1, (addP (addP (addP (addP B (2, -v, [])).2 (2, v, [])).2 (3, 0, [(addP B (2, -v, [])).1, no])).2 (3, 0, [(addP (addP B (2, -v, [])).2 (2, v, [])).1, yes])).1]) := by unfold askP; rw [if_neg he]
  rw [hask]
  clear hask
  have f1 : formedP (2, -v, []) N B.length = true := formed_l hv (.inr rfl)
  obtain ⟨a1, k1, t1, v1, o1⟩ := leaf_ok hN b (k := 2) (l := -v) ⟨by decide, by decide⟩ f1
  generalize hp1 : addP B (2, -v, []) = p1 at a1 k1 t1 v1 o1
  have f2 : formedP (2, v, []) N p1.2.length = true := formed_l hv (.inl rfl)
  obtain ⟨a2, k2, t2, v2, o2⟩ := leaf_ok hN a1.bt (k := 2) (l := v) ⟨by decide, by decide⟩ f2
  generalize hp2 : addP p1.2 (2, v, []) = p2 at a2 k2 t2 v2 o2
  obtain ⟨C1, c1⟩ := a1.ex
  obtain ⟨C2, c2⟩ := a2.ex
  have e1 : p1.2.length = B.length + C1.length := by rw [c1, List.length_append]
  have e2 : p2.2.length = p1.2.length + C2.length := by rw [c2, List.length_append]
  have a1lo := a1.lo
  have a1hi := a1.hi
  have a2lo := a2.lo
  have a2hi := a2.hi
  have k12 : kindP p2.2 p1.1 = 2 := by rw [c2, kindP_app _ _ _ (by omega)]; exact k1
  have t12 : litP p2.2 p1.1 = -v := by rw [c2, litP_app _ _ _ (by omega)]; exact t1
  have oc2 : ∀ i : Int, i.toNat < B.length → ∀ u, Oc p2.2 i u ↔ Oc B i u := fun i hi u => by
    rw [c2, oc_app (by omega), c1, oc_app hi]
  have vl2 : ∀ s (i : Int), i.toNat < B.length → valN s p2.2 i = valN s B i := fun s i hi => by
    rw [a2.old s i (by omega), a1.old s i hi]
  obtain ⟨a3, v3, o3, h3⟩ := and_ok hN a2.bt (v := v) (l := -v) (low := p1.1) (r := no) hv (.inr rfl) ⟨by omega, by omega⟩ ⟨by omega, by omega⟩ k12 t12 (by rw [oc2 _ (by omega)]; exact on)
  have f3 : formedP (3, 0, [p1.1, no]) N p2.2.length = true := formed_gate (.inl rfl) fun i hi => by
    rcases List.mem_cons.1 hi with rfl | hi
    · omega
    · rw [List.mem_singleton.1 hi]; omega
  generalize hp3 : addP p2.2 (3, 0, [p1.1, no]) = p3 at a3 v3 o3 h3
  obtain ⟨C3, c3⟩ := a3.ex
  have e3 : p3.2.length = p2.2.length + C3.length := by rw [c3, List.length_append]
  have a3lo := a3.lo
  have a3hi := a3.hi
  have k23 : kindP p3.2 p2.1 = 2 := by rw [c3, kindP_app _ _ _ (by omega)]; exact k2
  have t23 : litP p3.2 p2.1 = v := by rw [c3, litP_app _ _ _ (by omega)]; exact t2
  have oc3 : ∀ i : Int, i.toNat < p2.2.length → ∀ u, Oc p3.2 i u ↔ Oc p2.2 i u := fun i hi u => by
    rw [c3, oc_app hi]
  obtain ⟨a4, v4, o4, h4⟩ := and_ok hN a3.bt (v := v) (l := v) (low := p2.1) (r := yes) hv (.inl rfl) ⟨by omega, by omega⟩ ⟨by omega, by omega⟩ k23 t23 (by rw [oc3 _ (by omega), oc2 _ (by omega)]; exact oy)
  have f4 : formedP (3, 0, [p2.1, yes]) N p3.2.length = true := formed_gate (.inl rfl) fun i hi => by
    rcases List.mem_cons.1 hi with rfl | hi
    · omega
    · rw [List.mem_singleton.1 hi]; omega
  generalize hp4 : addP p3.2 (3, 0, [p2.1, yes]) = p4 at a4 v4 o4 h4
  obtain ⟨C4, c4⟩ := a4.ex
  have e4 : p4.2.length = p3.2.length + C4.length := by rw [c4, List.length_append]
  have a4lo := a4.lo
  have a4hi := a4.hi
  have h34 : kindP p4.2 p3.1 = 0 ∨ Hd p4.2 p3.1 (-v) := by
    rcases h3 with h | h
    · left; rw [c4, kindP_app _ _ _ (by omega)]; exact h
    · right; rw [c4]; exact h.app a3.bt.sm.ord a3.lo a3.hi C4
  obtain ⟨a5, v5, o5⟩ := or_ok hN a4.bt (l := -v) (x := p3.1) (y := p4.1) (by omega) ⟨by omega, by omega⟩ ⟨by omega, by omega⟩ h34 (by rw [Int.neg_neg]; exact h4)
  have f5 : formedP (4, 0, [p3.1, p4.1]) N p4.2.length = true := formed_gate (.inr rfl) fun i hi => by
    rcases List.mem_cons.1 hi with rfl | hi
    · omega
    · rw [List.mem_singleton.1 hi]; omega
  have q1 := a1.le
  have q2 := a2.le
  have q3 := a3.le
  have q4 := a4.le
  refine ⟨?_, fun _ => ⟨f1, by rw [hp1]; exact a1.bt, by rw [hp1]; omega, by rw [hp1]; exact f2, by rw [hp1, hp2]; exact a2.bt, by rw [hp1, hp2]; omega, by rw [hp1, hp2]; exact f3, by rw [hp1, hp2, hp3]; exact a3.bt, by rw [hp1, hp2, hp3]; omega, by rw [hp1, hp2, hp3]; exact f4, by rw [hp1, hp2, hp3, hp4]; exact a4.bt, by rw [hp1, hp2, hp3, hp4]; omega, by rw [hp1, hp2, hp3, hp4]; exact f5⟩⟩
  generalize hp5 : addP p4.2 (4, 0, [p3.1, p4.1]) = p5 at a5 v5 o5
  obtain ⟨C5, c5⟩ := a5.ex
  have q6 := a5.le
  have vl3 : ∀ s (i : Int), i.toNat < p2.2.length → valN s p3.2 i = valN s p2.2 i := fun s i hi => a3.old s i hi
  refine ⟨a5.bt, ⟨C1 ++ C2 ++ C3 ++ C4 ++ C5, by rw [c5, c4, c3, c2, c1]; simp only [List.append_assoc]⟩, by omega, a5.lo, a5.hi, fun s i hi => ?_, fun s => ?_, fun u hu => ?_⟩
  · rw [a5.old s i (by omega), a4.old s i (by omega), a3.old s i (by omega), vl2 s i hi]
  · rw [v5, a4.old s p3.1 (by omega), v3, v4, a2.old s p1.1 (by omega), v1, vl3 s p2.1 (by omega), v2, vl3 s yes (by omega), vl2 s no (by omega), vl2 s yes (by omega), lit_neg hv.1, lit_pos hv.1]
    cases hasB s v <;> simp
  · rcases o5 u hu with h | h
    · rw [c4, oc_app (by omega)] at h
      rcases o3 u h with h | h
      · exact .inl h
      · exact .inr (.inl ((oc2 _ (by omega) u).1 h))
    · rcases o4 u h with h | h
      · exact .inl h
      · exact .inr (.inr ((oc2 _ (by omega) u).1 ((oc3 _ (by omega) u).1 h)))
structure TI (ts : List Nd) (N : Int) (m : Nat) (B : List PN) (vs : List Int) : Prop where
  bt : Bt N B
  ln : vs.length = ts.length
  le : (B.length : Int) ≤ (ts.drop m).length + 2 * ews (fun _ => 1) (ts.drop m)
  nd : ∀ j, m ≤ j → j < ts.length → 0 ≤ vs.getD j default ∧ vs.getD j default < B.length ∧ (∀ s, valN s B (vs.getD j default) = clsAt ts s j) ∧ ∀ u, Oc B (vs.getD j default) u → ∃ d, (d = j ∨ Pr ts j d) ∧ (ts.getD d default).v = u
theorem TI.start (ts : List Nd) (N : Int) (vs : List Int) (h : vs.length = ts.length) : TI ts N ts.length [] vs := by
  refine ⟨⟨Simp.nil N, fun x hx => absurd hx List.not_mem_nil, Dd.nil⟩, h, ?_, fun j h1 h2 => by omega⟩
  rw [List.drop_length]
  exact Int.le_refl 0
theorem ews_cons (x : Nd) (xs : List Nd) : ews (fun _ => 1) (x :: xs) = (if x.v = 0 then 0 else 2) + ews (fun _ => 1) xs := by
  show ew (fun _ => 1) x + ews (fun _ => 1) xs = _
  unfold ew
  split <;> rfl
theorem TI.leaf {ts : List Nd} {N : Int} (hV : Valid ts N) {k : Nat} (hk : k < ts.length) (hv : (ts.getD k default).v = 0) {B : List PN} {vs : List Int} (h : TI ts N (k + 1) B vs) :
    formedP (if (ts.getD k default).c then 1 else 0, 0, []) N B.length = true ∧ TI ts N k (addP B (if (ts.getD k default).c then 1 else 0, 0, [])).2 (vs.set k (addP B (if (ts.getD k default).c then 1 else 0, 0, [])).1) := by
  obtain ⟨b, hl, hle, hnd⟩ := h
  have hc : (if (ts.getD k default).c then (1 : Int) else 0) = 0 ∨ (if (ts.getD k default).c then (1 : Int) else 0) = 1 := by split <;> omega
  have hf : formedP (if (ts.getD k default).c then (1 : Int) else 0, 0, []) N B.length = true := formed_c hc
  have hcl := fun s => clsAt_leaf ts s k hk hv
  generalize hq : (if (ts.getD k default).c then (1 : Int) else 0) = q at hc hf
  refine ⟨hf, ?_⟩
  obtain ⟨a, kk, tt, vv, oo⟩ := leaf_ok hV.rng b (k := q) (l := 0) (by omega) hf
  have alo := a.lo
  have ahi := a.hi
  have ale := a.le
  obtain ⟨C, c⟩ := a.ex
  have e : (addP B (q, 0, [])).2.length = B.length + C.length := by rw [c, List.length_append]
  refine ⟨a.bt, by rw [List.length_set]; exact hl, ?_, fun j h1 h2 => ?_⟩
  · rw [drop_g ts k hk, ews_cons, if_pos hv, List.length_cons]
    omega
  · rw [getD_set]
    by_cases hjk : k = j
    · subst hjk
      rw [if_pos ⟨rfl, by omega⟩]
      refine ⟨alo, ahi, fun s => ?_, fun u hu => ?_⟩
      · rw [vv, hcl s, ← hq]
        cases (ts.getD k default).c <;> rfl
      · exact absurd ((oo u).1 hu) (oc_none rfl u)
    · rw [if_neg (fun h => hjk h.1)]
      obtain ⟨q0, q1, q2, q3⟩ := hnd j (by omega) h2
      refine ⟨q0, by omega, fun s => by rw [a.old s _ (by omega)]; exact q2 s, fun u hu => ?_⟩
      rw [c, oc_app (by omega)] at hu
      exact q3 u hu
theorem TI.rngs {ts : List Nd} {N : Int} (hV : Valid ts N) {k : Nat} (hk : k < ts.length) (hv : (ts.getD k default).v ≠ 0) {B : List PN} {vs : List Int} (h : TI ts N (k + 1) B vs) :
    (0 ≤ (ts.getD k default).no ∧ (ts.getD k default).no < ts.length ∧ 0 ≤ (ts.getD k default).yes ∧ (ts.getD k default).yes < ts.length) ∧ (0 ≤ vs.getD (ts.getD k default).no.toNat default ∧ vs.getD (ts.getD k default).no.toNat default < B.length) ∧ (0 ≤ vs.getD (ts.getD k default).yes.toNat default ∧ vs.getD (ts.getD k default).yes.toNat default < B.length) ∧ AskO N B (ts.getD k default).v (vs.getD (ts.getD k default).no.toNat default) (vs.getD (ts.getD k default).yes.toNat default) (askP B (ts.getD k default).v (vs.getD (ts.getD k default).no.toNat default) (vs.getD (ts.getD k default).yes.toNat default)) ∧ (vs.getD (ts.getD k default).no.toNat default ≠ vs.getD (ts.getD k default).yes.toNat default → Ask5 N B (ts.getD k default).v (vs.getD (ts.getD k default).no.toNat default) (vs.getD (ts.getD k default).yes.toNat default)) := by
  obtain ⟨b, hl, hle, hnd⟩ := h
  have hlk := hV.later k (by omega) (by omega)
  rw [Int.toNat_natCast] at hlk
  obtain ⟨l1, l2, l3, l4⟩ := hlk hv
  have hvar := hV.var hk hv
  have hfr := hV.fresh k hk hv
  have en : Ed ts k (ts.getD k default).no.toNat := ⟨hk, hv, .inl (by omega)⟩
  have ey : Ed ts k (ts.getD k default).yes.toNat := ⟨hk, hv, .inr (by omega)⟩
  obtain ⟨n0, n1, n2, n3⟩ := hnd (ts.getD k default).no.toNat (by omega) (by omega)
  obtain ⟨y0, y1, y2, y3⟩ := hnd (ts.getD k default).yes.toNat (by omega) (by omega)
  have on : ¬ Oc B (vs.getD (ts.getD k default).no.toNat default) (ts.getD k default).v := fun ho => by
    obtain ⟨d, hd, e⟩ := n3 _ ho
    refine hfr ⟨d, ?_, e⟩
    rcases hd with rfl | hd
    · exact .one en
    · exact .cons en hd
  have oy : ¬ Oc B (vs.getD (ts.getD k default).yes.toNat default) (ts.getD k default).v := fun ho => by
    obtain ⟨d, hd, e⟩ := y3 _ ho
    refine hfr ⟨d, ?_, e⟩
    rcases hd with rfl | hd
    · exact .one ey
    · exact .cons ey hd
  exact ⟨⟨by omega, by omega, by omega, by omega⟩, ⟨n0, n1⟩, ⟨y0, y1⟩, ask_ok hV.rng b hvar ⟨n0, n1⟩ ⟨y0, y1⟩ on oy⟩
theorem TI.ask {ts : List Nd} {N : Int} (hV : Valid ts N) {k : Nat} (hk : k < ts.length) (hv : (ts.getD k default).v ≠ 0) {B : List PN} {vs : List Int} (h : TI ts N (k + 1) B vs) :
    TI ts N k (askP B (ts.getD k default).v (vs.getD (ts.getD k default).no.toNat default) (vs.getD (ts.getD k default).yes.toNat default)).2 (vs.set k (askP B (ts.getD k default).v (vs.getD (ts.getD k default).no.toNat default) (vs.getD (ts.getD k default).yes.toNat default)).1) := by
  obtain ⟨⟨r1, r2, r3, r4⟩, _, _, ao, _⟩ := h.rngs hV hk hv
  obtain ⟨b, hl, hle, hnd⟩ := h
  have hlk := hV.later k (by omega) (by omega)
  rw [Int.toNat_natCast] at hlk
  obtain ⟨l1, l2, l3, l4⟩ := hlk hv
  have hcl := fun s => clsAt_q hV.later s k hk hv
  obtain ⟨n0, n1, n2, n3⟩ := hnd (ts.getD k default).no.toNat (by omega) (by omega)
  obtain ⟨y0, y1, y2, y3⟩ := hnd (ts.getD k default).yes.toNat (by omega) (by omega)
  have en : Ed ts k (ts.getD k default).no.toNat := ⟨hk, hv, .inl (by omega)⟩
  have ey : Ed ts k (ts.getD k default).yes.toNat := ⟨hk, hv, .inr (by omega)⟩
  generalize hp : askP B (ts.getD k default).v (vs.getD (ts.getD k default).no.toNat default) (vs.getD (ts.getD k default).yes.toNat default) = p at ao
  obtain ⟨C, c⟩ := ao.ex
  have e : p.2.length = B.length + C.length := by rw [c, List.length_append]
  have qle := ao.le
  refine ⟨ao.bt, by rw [List.length_set]; exact hl, ?_, fun j h1 h2 => ?_⟩
  · rw [drop_g ts k hk, ews_cons, if_neg hv, List.length_cons]
    omega
  · rw [getD_set]
    by_cases hjk : k = j
    · subst hjk
      rw [if_pos ⟨rfl, by omega⟩]
      refine ⟨ao.lo, ao.hi, fun s => ?_, fun u hu => ?_⟩
      · rw [ao.new, hcl s, n2, y2]
      · rcases ao.oc u hu with h | h | h
        · exact ⟨k, .inl rfl, h.symm⟩
        · obtain ⟨d, hd, e⟩ := n3 u h
          refine ⟨d, .inr ?_, e⟩
          rcases hd with rfl | hd
          · exact .one en
          · exact .cons en hd
        · obtain ⟨d, hd, e⟩ := y3 u h
          refine ⟨d, .inr ?_, e⟩
          rcases hd with rfl | hd
          · exact .one ey
          · exact .cons ey hd
    · rw [if_neg (fun h => hjk h.1)]
      obtain ⟨q0, q1, q2, q3⟩ := hnd j (by omega) h2
      refine ⟨q0, by omega, fun s => by rw [ao.old s _ (by omega)]; exact q2 s, fun u hu => ?_⟩
      rw [c, oc_app (by omega)] at hu
      exact q3 u hu
theorem Valid.quests {ts : List Nd} {n : Int} (h : Valid ts n) : ews (fun _ => 1) ts = (ts.length : Int) - 1 := by
  have e1 : ews (fun _ => 1) ts = sumTo (fun j => cn ts j * 1) ts.length := by
    refine ews_cn _ _ ts (fun x hx hv => ?_)
    obtain ⟨i, hi, rfl⟩ := List.mem_iff_getElem.1 hx
    have hg : ts.getD i default = ts[i] := by rw [List.getD_eq_getElem?_getD, List.getElem?_eq_getElem hi]; rfl
    obtain ⟨_, _, _, a, b, c, d⟩ := fmd_q (h.fm i hi) (by rw [hg]; exact hv)
    rw [hg] at a b c d
    omega
  have e3 : sumTo (fun j => cn ts j * 1) ts.length = sumTo (fun i => if i = 0 then 0 else (fun _ => (1 : Int)) i) ts.length := by
    refine sumTo_congr _ (fun i hi => ?_)
    by_cases h0 : i = 0
    · subst h0
      rw [if_pos rfl, cn_zero ts 0 (fun j hj => by simpa using h.fm j hj) 0 (Nat.le_refl _), Int.zero_mul]
    · rw [if_neg h0, h.one i (by omega) hi, Int.one_mul]
  have e4 : sumTo (fun _ => (1 : Int)) ts.length = 1 + sumTo (fun i => if i = 0 then 0 else (fun _ => (1 : Int)) i) ts.length := sumTo_first (fun _ => (1 : Int)) ts.length h.pos
  have e5 := sumTo_const 1 ts.length
  omega
theorem oc_net {N : Int} {B : List PN} (h : Simp N B) {r : Nat} (hr : r < B.length) {U : List Bool} (m : Marks B r U) (u : Int) : ∀ (n i : Nat), i < n → i < r + 1 → U.getD i false = true → (Oc (netTo B U (r + 1)) (rk U i) u ↔ Oc B i u)
  | 0, i, hi, _, _ => absurd hi (Nat.not_lt_zero _)
  | n + 1, i, hi, hir, hu => by
    have hs := net_simp h hr m
    have hl := net_last m
    have hle := rk_le U i
    have hri : rk U i ≤ rk U r := by
      by_cases e : i = r
      · rw [e]; exact Int.le_refl _
      · have := rk_lt (show i < r by omega) hu; omega
    have hr0 : 0 ≤ rk U i := by
      have := netTo_len B U i
      omega
    rw [oc_at hs.ord _ hr0 (by omega), oc_at h.ord _ (by omega) (by omega), lit_net hir hu, in_net hir hu]
    constructor
    · rintro (h1 | ⟨k, hk, h1⟩)
      · exact .inl h1
      · obtain ⟨q, hq, rfl⟩ := List.mem_map.1 hk
        have o := h.ord i q hq
        have := (oc_net h hr m u n q.toNat (by omega) (by omega) (m.cl i hir hu q hq)).1 h1
        rw [show ((q.toNat : Nat) : Int) = q by omega] at this
        exact .inr ⟨q, hq, this⟩
    · rintro (h1 | ⟨q, hq, h1⟩)
      · exact .inl h1
      · have o := h.ord i q hq
        rw [show q = ((q.toNat : Nat) : Int) by omega] at h1
        exact .inr ⟨_, List.mem_map.2 ⟨q, hq, rfl⟩, (oc_net h hr m u n q.toNat (by omega) (by omega) (m.cl i hir hu q hq)).2 h1⟩
theorem hd_net {N : Int} {B : List PN} (h : Simp N B) {r : Nat} {U : List Bool} (m : Marks B r U) {i : Nat} (hi : i < r + 1) (hu : U.getD i false = true) {l : Int} (hd : Hd B i l) : Hd (netTo B U (r + 1)) (rk U i) l := by
  unfold Hd
  rw [kind_net hi hu, lit_net hi hu, in_net hi hu]
  rcases hd with hd | ⟨h3, q, hq, h4, h5⟩
  · exact .inl hd
  · have o := h.ord i q hq
    have hu2 := m.cl i hi hu q hq
    refine .inr ⟨h3, rk U q.toNat, List.mem_map.2 ⟨q, hq, rfl⟩, ?_, ?_⟩
    · rw [kind_net (by omega) hu2, show ((q.toNat : Nat) : Int) = q by omega]; exact h4
    · rw [lit_net (by omega) hu2, show ((q.toNat : Nat) : Int) = q by omega]; exact h5
theorem Dd.net {N : Int} {B : List PN} (h : Simp N B) (d : Dd B) {r : Nat} (hr : r < B.length) {U : List Bool} (m : Marks B r U) : Dd (netTo B U (r + 1)) := by
  refine ⟨fun j hj hk a ha b hb hab u hua => ?_, fun j hj hk => ?_⟩
  · obtain ⟨i, h1, h2, h3⟩ := net_idx B U (r + 1) j hj
    rw [← h3, kind_net h1 h2] at hk
    rw [← h3, in_net h1 h2] at ha hb
    obtain ⟨x, hx, rfl⟩ := List.mem_map.1 ha
    obtain ⟨y, hy, rfl⟩ := List.mem_map.1 hb
    have ox := h.ord i x hx
    have oy := h.ord i y hy
    rw [oc_net h hr m u (r + 1) _ (by omega) (by omega) (m.cl i h1 h2 x hx)] at hua
    rw [oc_net h hr m u (r + 1) _ (by omega) (by omega) (m.cl i h1 h2 y hy)]
    rw [show ((x.toNat : Nat) : Int) = x by omega] at hua
    rw [show ((y.toNat : Nat) : Int) = y by omega]
    exact d.dec i (by omega) hk x hx y hy (fun e => hab (by rw [e])) u hua
  · obtain ⟨i, h1, h2, h3⟩ := net_idx B U (r + 1) j hj
    rw [← h3, kind_net h1 h2] at hk
    obtain ⟨x, y, l, e, l0, g1, g2⟩ := d.dci i (by omega) hk
    have hx : x ∈ inP B i := by rw [e]; simp
    have hy : y ∈ inP B i := by rw [e]; simp
    have ox := h.ord i x hx
    have oy := h.ord i y hy
    refine ⟨rk U x.toNat, rk U y.toNat, l, ?_, l0, ?_, ?_⟩
    · rw [← h3, in_net h1 h2, e]; rfl
    · exact hd_net h m (by omega) (m.cl i h1 h2 x hx) (by rw [show ((x.toNat : Nat) : Int) = x by omega]; exact g1)
    · exact hd_net h m (by omega) (m.cl i h1 h2 y hy) (by rw [show ((y.toNat : Nat) : Int) = y by omega]; exact g2)
structure TNet (ts : List Nd) (N : Int) (X : List PN) : Prop where
  ck : checkP N X = true
  sm : Simp N X
  dd : Dd X
  le : (X.length : Int) ≤ 3 * ts.length - 2
  ev : ∀ s, evalP s N X = clsAt ts s 0
theorem tree_net {ts : List Nd} {N : Int} (hV : Valid ts N) {B : List PN} {vs : List Int} (h : TI ts N 0 B vs) : (0 ≤ vs.getD 0 default ∧ vs.getD 0 default < B.length) ∧ TNet ts N (netP B (vs.getD 0 default).toNat) := by
  obtain ⟨b, hl, hle, hnd⟩ := h
  obtain ⟨q0, q1, q2, q3⟩ := hnd 0 (Nat.le_refl _) hV.pos
  have hq := hV.quests
  rw [List.drop_zero, hq] at hle
  have hpos := hV.le
  have hr : (vs.getD 0 default).toNat < B.length := by omega
  have m := marks b.sm.ord (vs.getD 0 default).toNat
  have hsn := net_simp b.sm hr m
  have hfn := net_full b.sm hr m
  have hll := net_last m
  have hrl := rk_le (markN B (vs.getD 0 default).toNat ((vs.getD 0 default).toNat + 1)) (vs.getD 0 default).toNat
  have hdd := b.dd.net b.sm hr m
  have e : netP B (vs.getD 0 default).toNat = netTo B (markN B (vs.getD 0 default).toNat ((vs.getD 0 default).toNat + 1)) ((vs.getD 0 default).toNat + 1) := rfl
  have hvn := fun s => val_net s b.sm.ord hr m _ (Nat.le_refl _) _ (Nat.lt_succ_self _) m.rt
  rw [← e] at hsn hfn hll hdd
  have hck : checkP N (netP B (vs.getD 0 default).toNat) = true := by
    unfold checkP
    simp only [Bool.and_eq_true, decide_eq_true_eq]
    refine ⟨hV.rng, ⟨hfn.ne, by omega⟩, formAll_of N _ 0 fun j hj => ?_⟩
    rw [Int.zero_add]; exact hsn.fm j hj
  refine ⟨⟨q0, q1⟩, hck, hsn, hdd, by omega, fun s => ?_⟩
  have h1 := hvn s
  rw [← e, show (((vs.getD 0 default).toNat : Nat) : Int) = vs.getD 0 default by omega, q2] at h1
  unfold evalP
  rw [hck, Bool.true_and, ← h1]
  unfold valN
  congr 1
  omega
end Go.Proofs.YtdiciemlbhkilaaGreatDoor
namespace Go.Proofs.YtdiciemlbhkilaaGreatDoor
open Go Go.Cx Go.RowKit
set_option linter.unusedVariables false
set_option linter.unusedSimpArgs false
set_option maxHeartbeats 4000000
attribute [local irreducible] J JC thenK blockK loopK roundK drawK retK QW Qt pel List.set Calls
attribute [local irreducible] JE Br eK0 eK3 brK
theorem eNet1 : Entr Tryz.prog 38 := Entr.of Tryz.func38 rfl rfl
theorem eNet2 : Entr Tryz.prog 41 := Entr.of Tryz.func41 rfl rfl
theorem eNet3 : Entr Tryz.prog 42 := Entr.of Tryz.func42 rfl rfl
def bpO (b : Nat) : Obj := .cells ⟨[.pointer (some ⟨b, 0, none⟩)]⟩ 77 (0, 0)
def afO (bb : Nat) : Obj := .cells ⟨[.func (.func 38) ⟨[]⟩ ⟨[.pointer (some ⟨bb, 0, none⟩)]⟩]⟩ 85 (0, 0)
set_option maxHeartbeats 16000000 in
theorem net1_any (N : Int) (hN : 0 ≤ N ∧ N ≤ 128) (v : NV) {w0 w : World} {R : Heap} {L : List Heap} {b bb cap bm : Nat} {a : Option Addr} {vs : List NV} {ho hi hm hl : Heap} (hsl : SlT encI 1 v.a v.l hl) (rl : RdH R L hl) (hvl : v.l.length ≤ 1000000) (hf : formedP (pnV v) N vs.length = true) (hT : Tab w0) (bs : BS vs a cap bm ho hi hm) (op : OkP (vs.map pnV)) (hv65 : vs.length < 65536) (rb : Rd R L bb (bpO b)) (hw : H w0 R (bL N b a vs cap bm ho hi hm ++ L) w) :
    Calls Tryz.prog 38 #[.agg ⟨encNV v⟩, .pointer (some ⟨bb, 0, none⟩)] w fun e w' => ∃ v' L', e = .returned v' ∧ H w0 R L' w' ∧ ∃ a' cap' ho' hi' hm' vs', v' = .int .i64 (addP (vs.map pnV) (pnV v)).1 ∧ L' = bL N b a' vs' cap' bm ho' hi' hm' ++ L ∧ BS vs' a' cap' bm ho' hi' hm' ∧ vs'.map pnV = (addP (vs.map pnV) (pnV v)).2 := by
  unfold bL at hw
  unfold bpO at rb
  simp only [List.cons_append, List.nil_append] at hw
  refine calls_in Tryz.func38 Tryz.ntmps38 rfl rfl (hw) ?_
  repeat' first
    | (refine J.isJ ?_; first | (first | (refine J.o 4 ?_; first | refine J.lR hΓ ?_ (hr := rb.tl.tl.tl.tl.tl) | refine J.lR hΓ ?_ (hr := Rd.hd)) | (refine J.fc 39 ?_; refine J.callx eAddN rfl rfl (fun w hw => addN_any N hN v hsl rl.tl hvl hf hT bs op hv65 (show H _ _ (bL N b a vs cap bm ho hi hm ++ (_ :: L)) w from hrot4 hw)) ?_; rintro _ _ ⟨a2, c2, ho2, hi2, hm2, vs2, rfl, rfl, bs2, e2⟩)) | (first | (refine J.o 0 ?_; refine J.ev' hΓ ?_) | refine J.nil ?_ | (refine J.o 4 ?_; first | refine J.lR hΓ ?_) | (refine J.o 3 ?_; first | refine J.ev' hΓ ?_) | (refine J.o 6 ?_; refine J.bx (fun _ => ?_)) | (refine J.o 10 ?_; refine J.ev' hΓ ?_) | (refine J.o 11 ?_; refine J.ev' hΓ ?_)))
    | (first | refine JC.seq ?_ | refine JC.region ?_ | refine JC.ret ?_ | refine thenK.nn ?_)
    | (fail)
    | fail
  all_goals first | (exfalso; omega) | skip
  exact ret1f rfl rfl rfl (fun w1 hw => ⟨_, _, rfl, H.sel (l := [_, _, _, _, _]) (M := L) hw [0, 1, 2, 3], a2, c2, ho2, hi2, hm2, vs2, rfl, rfl, bs2, e2⟩)
set_option maxHeartbeats 16000000 in
theorem net2_any (N : Int) (hN : 0 ≤ N ∧ N ≤ 128) (c : Bool) {w0 w : World} {R : Heap} {L : List Heap} {b bb bf cap bm : Nat} {a : Option Addr} {vs : List NV} {ho hi hm : Heap} (hf : formedP (if c then 1 else 0, 0, []) N vs.length = true) (hT : Tab w0) (bs : BS vs a cap bm ho hi hm) (op : OkP (vs.map pnV)) (hv65 : vs.length < 65536) (rb : Rd R L bb (bpO b)) (rf : Rd R L bf (afO bb)) (hw : H w0 R (bL N b a vs cap bm ho hi hm ++ L) w) :
    Calls Tryz.prog 41 #[.bool c, .pointer (some ⟨bf, 0, none⟩)] w fun e w' => ∃ v' L', e = .returned v' ∧ H w0 R L' w' ∧ ∃ a' cap' ho' hi' hm' vs', v' = .int .i64 (addP (vs.map pnV) (if c then 1 else 0, 0, [])).1 ∧ L' = bL N b a' vs' cap' bm ho' hi' hm' ++ L ∧ BS vs' a' cap' bm ho' hi' hm' ∧ vs'.map pnV = (addP (vs.map pnV) (if c then 1 else 0, 0, [])).2 := by
  unfold bL at hw
  unfold afO at rf
  simp only [List.cons_append, List.nil_append] at hw
  cases c with
  | true =>
    rw [if_pos rfl] at hf ⊢
    refine calls_in Tryz.func41 Tryz.ntmps41 rfl rfl (hw) ?_
    repeat' first
      | (refine J.isJ ?_; first | (first | (refine J.o 4 ?_; refine J.lR hΓ ?_ (hr := rf.tl.tl.tl.tl)) | (refine J.o 9 ?_; refine J.callvx eNet1 rfl rfl rfl (fun w hw => net1_any N hN ⟨1, 0, none, 0, []⟩ (lit_sl none) (hl := []) (fun _ h => absurd h List.not_mem_nil) (by decide) hf hT bs op hv65 rb hw) ?_; rintro _ _ ⟨a2, c2, ho2, hi2, hm2, vs2, rfl, rfl, bs2, e2⟩)) | (first | (refine J.o 0 ?_; refine J.ev' hΓ ?_) | refine J.nil ?_ | (refine J.o 4 ?_; first | refine J.lR hΓ ?_) | (refine J.o 3 ?_; first | refine J.ev' hΓ ?_) | (refine J.o 8 ?_; refine J.bd hΓ ?_) | (refine J.o 10 ?_; refine J.ev' hΓ ?_) | (refine J.o 11 ?_; refine J.ev' hΓ ?_)))
      | (first | refine JC.seq ?_ | refine JC.region ?_ | refine JC.ret ?_ | refine JC.skip ?_ | refine thenK.nn ?_ | refine thenK.r ?_ | refine JC.condT rfl ?_ | refine JC.condF rfl ?_)
      | (fail)
      | fail
    all_goals first | (exfalso; omega) | skip
    exact ret1f rfl rfl rfl (fun w1 hw => ⟨_, _, rfl, hw, a2, c2, ho2, hi2, hm2, vs2, rfl, rfl, bs2, e2⟩)
  | false =>
    rw [if_neg Bool.false_ne_true] at hf ⊢
    refine calls_in Tryz.func41 Tryz.ntmps41 rfl rfl (hw) ?_
    repeat' first
      | (refine J.isJ ?_; first | (first | (refine J.o 4 ?_; refine J.lR hΓ ?_ (hr := rf.tl.tl.tl.tl)) | (refine J.o 9 ?_; refine J.callvx eNet1 rfl rfl rfl (fun w hw => net1_any N hN ⟨0, 0, none, 0, []⟩ (lit_sl none) (hl := []) (fun _ h => absurd h List.not_mem_nil) (by decide) hf hT bs op hv65 rb hw) ?_; rintro _ _ ⟨a2, c2, ho2, hi2, hm2, vs2, rfl, rfl, bs2, e2⟩)) | (first | (refine J.o 0 ?_; refine J.ev' hΓ ?_) | refine J.nil ?_ | (refine J.o 4 ?_; first | refine J.lR hΓ ?_) | (refine J.o 3 ?_; first | refine J.ev' hΓ ?_) | (refine J.o 8 ?_; refine J.bd hΓ ?_) | (refine J.o 10 ?_; refine J.ev' hΓ ?_) | (refine J.o 11 ?_; refine J.ev' hΓ ?_)))
      | (first | refine JC.seq ?_ | refine JC.region ?_ | refine JC.ret ?_ | refine JC.skip ?_ | refine thenK.nn ?_ | refine thenK.r ?_ | refine JC.condT rfl ?_ | refine JC.condF rfl ?_)
      | (fail)
      | fail
    all_goals first | (exfalso; omega) | skip
    exact ret1f rfl rfl rfl (fun w1 hw => ⟨_, _, rfl, hw, a2, c2, ho2, hi2, hm2, vs2, rfl, rfl, bs2, e2⟩)
end Go.Proofs.YtdiciemlbhkilaaGreatDoor
namespace Go.Proofs.YtdiciemlbhkilaaGreatDoor
open Go Go.Cx Go.RowKit
set_option linter.unusedVariables false
set_option linter.unusedSimpArgs false
set_option maxHeartbeats 4000000
attribute [local irreducible] J JC thenK blockK loopK roundK drawK retK QW Qt pel List.set Calls
attribute [local irreducible] JE Br eK0 eK3 brK
theorem two_sl (x : Nat) (i j : Int) : SlT encI 1 (some ⟨x, 0, none⟩) [i, j] [(x, .cells ⟨[.int .i64 i, .int .i64 j]⟩ 3 (0, 0))] := OwT.sl (e := 3) (cap := 2) ⟨fun _ => rfl, .inr ⟨x, _, rfl, rfl, rfl, Nat.le_refl _, rfl⟩⟩
theorem ask5_ex {N : Int} {B : List PN} {v no yes : Int} (hne : no ≠ yes) (h : Ask5 N B v no yes) : ∃ p1 p2 p3 p4 : Int × List PN, p1 = addP B (2, -v, []) ∧ p2 = addP p1.2 (2, v, []) ∧ p3 = addP p2.2 (3, 0, [p1.1, no]) ∧ p4 = addP p3.2 (3, 0, [p2.1, yes]) ∧ askP B v no yes = addP p4.2 (4, 0, [p3.1, p4.1]) ∧ formedP (2, -v, []) N B.length = true ∧ (Bt N p1.2 ∧ p1.2.length ≤ B.length + 1 ∧ formedP (2, v, []) N p1.2.length = true) ∧ (Bt N p2.2 ∧ p2.2.length ≤ B.length + 2 ∧ formedP (3, 0, [p1.1, no]) N p2.2.length = true) ∧ (Bt N p3.2 ∧ p3.2.length ≤ B.length + 3 ∧ formedP (3, 0, [p2.1, yes]) N p3.2.length = true) ∧ Bt N p4.2 ∧ p4.2.length ≤ B.length + 4 ∧ formedP (4, 0, [p3.1, p4.1]) N p4.2.length = true :=
  ⟨_, _, _, _, rfl, rfl, rfl, rfl, by unfold askP; rw [if_neg hne], h.f1, ⟨h.b1, h.l1, h.f2⟩, ⟨h.b2, h.l2, h.f3⟩, ⟨h.b3, h.l3, h.f4⟩, h.b4, h.l4, h.f5⟩
theorem brx (x a b c d : Heap) (L : List Heap) : (x :: a :: b :: c :: d :: L).Perm (a :: b :: c :: d :: x :: L) := (bring_perm 4 (a :: b :: c :: d :: x :: L)).symm
set_option maxHeartbeats 32000000 in
theorem net3_any (N : Int) (hN : 0 ≤ N ∧ N ≤ 128) (v no yes : Int) {w0 w : World} {R : Heap} {L : List Heap} {b bb bf cap bm : Nat} {a : Option Addr} {vs : List NV} {ho hi hm : Heap} (hv : 1 ≤ v ∧ v ≤ N) (h5 : no ≠ yes → Ask5 N (vs.map pnV) v no yes) (hT : Tab w0) (bs : BS vs a cap bm ho hi hm) (op : OkP (vs.map pnV)) (hv65 : vs.length + 5 < 65536) (rb : Rd R L bb (bpO b)) (rf : Rd R L bf (afO bb)) (hw : H w0 R (bL N b a vs cap bm ho hi hm ++ L) w) :
    Calls Tryz.prog 42 #[.int .i64 v, .int .i64 no, .int .i64 yes, .pointer (some ⟨bf, 0, none⟩)] w fun e w' => ∃ v' L', e = .returned v' ∧ H w0 R L' w' ∧ ∃ a' cap' ho' hi' hm' vs', v' = .int .i64 (askP (vs.map pnV) v no yes).1 ∧ L' = bL N b a' vs' cap' bm ho' hi' hm' ++ L ∧ BS vs' a' cap' bm ho' hi' hm' ∧ vs'.map pnV = (askP (vs.map pnV) v no yes).2 := by
  have rf0 := rf
  unfold afO at rf0
  by_cases hne : no = yes
  · subst hne
    unfold bL at hw
    simp only [List.cons_append, List.nil_append] at hw
    have e : askP (vs.map pnV) v no no = (no, vs.map pnV) := by unfold askP; rw [if_pos rfl]
    rw [e]
    refine calls_in Tryz.func42 Tryz.ntmps42 rfl rfl (hw) ?_
    repeat' first
      | (refine J.isJ ?_; first | (fail) | (first | (refine J.o 0 ?_; refine J.ev' hΓ ?_) | refine J.nil ?_ | (refine J.o 4 ?_; first | refine J.lR hΓ ?_) | (refine J.o 3 ?_; first | refine J.ev' hΓ ?_) | (refine J.o 1 ?_; first | refine J.ng ?_) | (refine J.o 8 ?_; refine J.bd hΓ ?_) | (refine J.o 9 ?_; refine J.bl hΓ (fun _ => ?_)) | (refine J.o 10 ?_; refine J.ev' hΓ ?_) | (refine J.o 11 ?_; refine J.ev' hΓ ?_)))
      | (first | refine JC.seq ?_ | refine JC.region ?_ | refine JC.ret ?_ | refine JC.skip ?_ | refine thenK.nn ?_ | refine thenK.r ?_ | (refine JC.cond rfl (fun hc => ?_) (fun hc => ?_) <;> ((try simp only [decide_eq_true_eq, decide_eq_false_iff_not, beq_iff_eq, beq_eq_false_iff_ne, bne_iff_ne, bne_eq_false_iff_eq, Bool.not_eq_true', Bool.not_eq_false', Bool.not_eq_true, Bool.not_eq_false] at hc) <;> first | (first | (exact absurd rfl hc) | (exfalso; omega) | (exact absurd (hc.symm.trans (by assumption : _ = false)) (by decide)) | (exact absurd (hc.symm.trans (by assumption : _ = true)) (by decide))) | skip)))
      | (fail)
      | fail
    all_goals first | (exfalso; omega) | skip
    exact ret1f rfl rfl rfl (fun w1 hw => ⟨_, _, rfl, hw, a, cap, ho, hi, hm, vs, rfl, rfl, bs, rfl⟩)
  obtain ⟨p1, p2, p3, p4, q1, q2, q3, q4, q5, f1, ⟨b1, l1, f2⟩, ⟨b2, l2, f3⟩, ⟨b3, l3, f4⟩, b4, l4, f5⟩ := ask5_ex hne (h5 hne)
  rw [q5]
  rw [List.length_map] at f1 l1 l2 l3 l4
  have hln : ∀ (us : List NV) (B : List PN), us.map pnV = B → us.length = B.length := fun us B e => by rw [← e, List.length_map]
  unfold bL at hw
  simp only [List.cons_append, List.nil_append] at hw
  refine calls_in Tryz.func42 Tryz.ntmps42 rfl rfl (hw) ?_
  repeat' first
    | (refine J.isJ ?_; first | (fail) | (first | (refine J.o 0 ?_; refine J.ev' hΓ ?_) | refine J.nil ?_ | (refine J.o 4 ?_; first | refine J.lR hΓ ?_) | (refine J.o 3 ?_; first | refine J.ev' hΓ ?_) | (refine J.o 1 ?_; first | refine J.ng ?_) | (refine J.o 8 ?_; refine J.bd hΓ ?_) | (refine J.o 9 ?_; refine J.bl hΓ (fun _ => ?_)) | (refine J.o 10 ?_; refine J.ev' hΓ ?_) | (refine J.o 11 ?_; refine J.ev' hΓ ?_)))
    | (first | refine JC.seq ?_ | refine JC.region ?_ | refine JC.ret ?_ | refine JC.skip ?_ | refine thenK.nn ?_ | refine thenK.r ?_ | (refine JC.cond rfl (fun hc => ?_) (fun hc => ?_) <;> ((try simp only [decide_eq_true_eq, decide_eq_false_iff_not, beq_iff_eq, beq_eq_false_iff_ne, bne_iff_ne, bne_eq_false_iff_eq, Bool.not_eq_true', Bool.not_eq_false', Bool.not_eq_true, Bool.not_eq_false] at hc) <;> first | (first | (exact absurd rfl hc) | (exfalso; omega) | (exact absurd (hc.symm.trans (by assumption : _ = false)) (by decide)) | (exact absurd (hc.symm.trans (by assumption : _ = true)) (by decide))) | skip)))
    | (fail)
    | fail
  all_goals first | (exfalso; omega) | skip
  refine JC.mid (fun i => i == 8 || i == 9 || (Nat.ble 14 i && Nat.ble i 22)) (fun g L' => ∃ a2 c2 ho2 hi2 hm2 vs2, g 8 = .int .i64 p1.1 ∧ g 9 = .int .i64 p2.1 ∧ L' = bL N b a2 vs2 c2 bm ho2 hi2 hm2 ++ L ∧ BS vs2 a2 c2 bm ho2 hi2 hm2 ∧ vs2.map pnV = p2.2) ?_ ?_
  ·
    refine JC.drawE L [4, 8] [4, 8] [(4,0),(4,5),(0,1),(0,2),(0,3),(0,6),(0,7),(3,4),(3,8),(0,9),(0,10)] 0 _ (by kernel_rfl) (by kernel_rfl) rfl ?_
    repeat' first
      | (refine J.isJ ?_; first | (first | (refine J.o 4 ?_; refine J.lR hΓ ?_ (hr := rf0)) | (refine J.o 9 ?_; refine J.callvx (d := 18) eNet1 rfl rfl rfl (fun w hw => net1_any N hN ⟨2, -v, none, 0, []⟩ (lit_sl none) (hl := []) (fun _ h => absurd h List.not_mem_nil) (Nat.zero_le _) f1 hT bs op (by omega) rb hw) ?_; rintro _ _ ⟨a1, c1, ho1, hi1, hm1, vs1, rfl, rfl, bs1, e1⟩) | (refine J.o 9 ?_; refine J.callvx (d := 22) eNet1 rfl rfl rfl (fun w hw => net1_any N hN ⟨2, v, none, 0, []⟩ (lit_sl none) (hl := []) (fun _ h => absurd h List.not_mem_nil) (Nat.zero_le _) (by rw [hln vs1 p1.2 (by rw [q1]; exact e1)]; exact f2) hT bs1 (by rw [show vs1.map pnV = p1.2 by rw [q1]; exact e1]; exact b1.ok) (by rw [hln vs1 p1.2 (by rw [q1]; exact e1)]; omega) rb hw) ?_; rintro _ _ ⟨a2, c2, ho2, hi2, hm2, vs2, rfl, rfl, bs2, e2⟩)) | (first | (refine J.o 0 ?_; refine J.ev' hΓ ?_) | refine J.nil ?_ | (refine J.o 4 ?_; first | refine J.lR hΓ ?_) | (refine J.o 3 ?_; first | refine J.ev' hΓ ?_) | (refine J.o 1 ?_; first | refine J.ng ?_) | (refine J.o 8 ?_; refine J.bd hΓ ?_) | (refine J.o 9 ?_; refine J.bl hΓ (fun _ => ?_)) | (refine J.o 10 ?_; refine J.ev' hΓ ?_) | (refine J.o 11 ?_; refine J.ev' hΓ ?_)))
      | (first | (refine JE.is ?_; first | refine JE.s0 ?_ | refine JE.s3 ?_ | refine JE.nil ?_ | refine JE.s4 rfl (fun w hw => (by first | exact hw.drop.drop.drop.drop)) ?_) | refine eK0.nn ?_ | (refine eK3.is ?_; refine eK3.nn (fun w hw => (by first | exact hw.drop.drop.drop.drop)) ?_) | refine brK.nn ?_)
      | (first | refine JC.seq ?_ | refine JC.region ?_ | refine JC.ret ?_ | refine JC.skip ?_ | refine thenK.nn ?_ | refine thenK.r ?_ | (refine JC.cond rfl (fun hc => ?_) (fun hc => ?_) <;> ((try simp only [decide_eq_true_eq, decide_eq_false_iff_not, beq_iff_eq, beq_eq_false_iff_ne, bne_iff_ne, bne_eq_false_iff_eq, Bool.not_eq_true', Bool.not_eq_false', Bool.not_eq_true, Bool.not_eq_false] at hc) <;> first | (first | (exact absurd rfl hc) | (exfalso; omega) | (exact absurd (hc.symm.trans (by assumption : _ = false)) (by decide)) | (exact absurd (hc.symm.trans (by assumption : _ = true)) (by decide))) | skip)))
      | (fail)
      | fail
    refine Br.done (by kernel_rfl) ?_
    have e1' : vs1.map pnV = p1.2 := by rw [q1]; exact e1
    exact midK.nn (by repeat (first | refine Ag.upd rfl ?_ | exact Ag.rfl')) ⟨a2, c2, ho2, hi2, hm2, vs2, by rw [q1]; rfl, by rw [q2, ← e1']; rfl, rfl, bs2, by rw [q2, ← e1']; exact e2⟩
  rintro g4 L4 ⟨a2, c2, ho2, hi2, hm2, vs2, g8, g9, rfl, bs2, e2⟩
  refine thenK.nn (JC.pin 8 g8 (JC.pin 9 g9 ?_))
  clear g8 g9
  unfold bL
  simp only [List.cons_append, List.nil_append]
  have n2 := hln vs2 p2.2 e2
  refine JC.seq ?_
  refine JC.mid (fun i => i == 8 || i == 9 || (Nat.ble 23 i && Nat.ble i 34)) (fun g L' => ∃ a4 c4 ho4 hi4 hm4 vs4 y1 y2, g 8 = .int .i64 p3.1 ∧ g 9 = .int .i64 p4.1 ∧ L' = bL N b a4 vs4 c4 bm ho4 hi4 hm4 ++ y1 :: y2 :: L ∧ BS vs4 a4 c4 bm ho4 hi4 hm4 ∧ vs4.map pnV = p4.2) ?_ ?_
  ·
    refine JC.drawE L [3, 5, 9, 11] [3, 5, 9, 11] [(4,0),(4,6),(0,1),(0,2),(0,7),(0,8)] 8 _ (by kernel_rfl) (by kernel_rfl) rfl ?_
    repeat' first
      | (refine J.isJ ?_; first | ((refine J.o 4 ?_; refine J.lR hΓ ?_ (hr := rf0))) | (first | (refine J.o 0 ?_; refine J.ev' hΓ ?_) | refine J.nil ?_ | (refine J.o 4 ?_; first | refine J.lR hΓ ?_) | (refine J.o 3 ?_; first | refine J.ev' hΓ ?_) | (refine J.o 1 ?_; first | refine J.ng ?_) | (refine J.o 8 ?_; refine J.bd hΓ ?_) | (refine J.o 9 ?_; refine J.bl hΓ (fun _ => ?_)) | (refine J.o 10 ?_; refine J.ev' hΓ ?_) | (refine J.o 11 ?_; refine J.ev' hΓ ?_)))
      | (first | (refine JE.is ?_; first | refine JE.s0 ?_ | refine JE.s3 ?_ | refine JE.nil ?_ | refine JE.s4 rfl (fun w hw => (by first | exact hw.drop.drop.drop.drop)) ?_) | refine eK0.nn ?_ | (refine eK3.is ?_; refine eK3.nn (fun w hw => (by first | exact hw.drop.drop.drop.drop)) ?_) | refine brK.nn ?_)
      | (first | refine JC.seq ?_ | refine JC.region ?_ | refine JC.ret ?_ | refine JC.skip ?_ | refine thenK.nn ?_ | refine thenK.r ?_ | (refine JC.cond rfl (fun hc => ?_) (fun hc => ?_) <;> ((try simp only [decide_eq_true_eq, decide_eq_false_iff_not, beq_iff_eq, beq_eq_false_iff_ne, bne_iff_ne, bne_eq_false_iff_eq, Bool.not_eq_true', Bool.not_eq_false', Bool.not_eq_true, Bool.not_eq_false] at hc) <;> first | (first | (exact absurd rfl hc) | (exfalso; omega) | (exact absurd (hc.symm.trans (by assumption : _ = false)) (by decide)) | (exact absurd (hc.symm.trans (by assumption : _ = true)) (by decide))) | skip)))
      | (fail)
      | fail
    refine Br.two (c1 := 1) (c2 := 1) (m1 := 6) (m2 := 0) 3 9 [(0, 4)] [(0, 10), (3, 3), (0, 4), (3, 5), (3, 11), (0, 12), (0, 13)] (by decide +kernel) rfl rfl (by decide +kernel) rfl (by decide +kernel) rfl ?_ ?_
    ·
      repeat' first
        | (refine J.isJ ?_; first | ((refine J.o 9 ?_; first | (refine J.bl (d := 26) hΓ (fun x1 => ?_); refine J.perm (brx _ _ _ _ _ _) ?_) | (refine J.bl (d := 32) hΓ (fun x2 => ?_); refine J.perm (brx _ _ _ _ _ _) ?_))) | (first | (refine J.o 0 ?_; refine J.ev' hΓ ?_) | refine J.nil ?_ | (refine J.o 4 ?_; first | refine J.lR hΓ ?_) | (refine J.o 3 ?_; first | refine J.ev' hΓ ?_) | (refine J.o 1 ?_; first | refine J.ng ?_) | (refine J.o 8 ?_; refine J.bd hΓ ?_) | (refine J.o 9 ?_; refine J.bl hΓ (fun _ => ?_)) | (refine J.o 10 ?_; refine J.ev' hΓ ?_) | (refine J.o 11 ?_; refine J.ev' hΓ ?_)))
        | (first | (refine JE.is ?_; first | refine JE.s0 ?_ | refine JE.s3 ?_ | refine JE.nil ?_ | refine JE.s4 rfl (fun w hw => (by first | exact hw.drop.drop.drop.drop.drop | exact hw.drop.drop.drop.drop.drop.drop | exact hw.drop.drop.drop.drop)) ?_) | refine eK0.nn ?_ | (refine eK3.is ?_; refine eK3.nn (fun w hw => (by first | exact hw.drop.drop.drop.drop.drop | exact hw.drop.drop.drop.drop.drop.drop | exact hw.drop.drop.drop.drop)) ?_) | refine brK.nn ?_)
        | (first | refine JC.seq ?_ | refine JC.region ?_ | refine JC.ret ?_ | refine JC.skip ?_ | refine thenK.nn ?_ | refine thenK.r ?_ | (refine JC.cond rfl (fun hc => ?_) (fun hc => ?_) <;> ((try simp only [decide_eq_true_eq, decide_eq_false_iff_not, beq_iff_eq, beq_eq_false_iff_ne, bne_iff_ne, bne_eq_false_iff_eq, Bool.not_eq_true', Bool.not_eq_false', Bool.not_eq_true, Bool.not_eq_false] at hc) <;> first | (first | (exact absurd rfl hc) | (exfalso; omega) | (exact absurd (hc.symm.trans (by assumption : _ = false)) (by decide)) | (exact absurd (hc.symm.trans (by assumption : _ = true)) (by decide))) | skip)))
        | (fail)
        | fail
      refine Br.two (c1 := 1) (c2 := 1) (m1 := 0) (m2 := 0) 5 9 [(3, 9), (0, 10), (3, 11), (0, 12), (0, 13)] [(0, 10), (3, 5), (3, 11), (0, 12), (0, 13)] (by decide +kernel) rfl rfl (by decide +kernel) rfl (by decide +kernel) rfl ?_ ?_
      ·
        repeat' first
          | (refine J.isJ ?_; first | ((refine J.o 9 ?_; first | (refine J.bl (d := 26) hΓ (fun x1 => ?_); refine J.perm (brx _ _ _ _ _ _) ?_) | (refine J.bl (d := 32) hΓ (fun x2 => ?_); refine J.perm (brx _ _ _ _ _ _) ?_) | (refine J.callvx (d := 28) eNet1 rfl rfl rfl (fun w hw => net1_any N hN ⟨3, 0, some ⟨x1, 0, none⟩, 2, [p1.1, no]⟩ (two_sl x1 p1.1 no) (by first | exact RdH.hd | exact RdH.hd.tl) (by show 2 ≤ 1000000; decide) (by rw [n2]; exact f3) hT bs2 (by rw [e2]; exact b2.ok) (by rw [n2]; omega) (by first | exact rb.tl | exact rb.tl.tl) hw) ?_; rintro _ _ ⟨a3, c3, ho3, hi3, hm3, vs3, rfl, rfl, bs3, e3⟩) | (refine J.callvx (d := 34) eNet1 rfl rfl rfl (fun w hw => net1_any N hN ⟨3, 0, some ⟨x2, 0, none⟩, 2, [p2.1, yes]⟩ (two_sl x2 p2.1 yes) (by first | exact RdH.hd | exact RdH.hd.tl) (by show 2 ≤ 1000000; decide) (by rw [hln vs3 p3.2 (by rw [q3, ← e2]; exact e3)]; exact f4) hT bs3 (by rw [show vs3.map pnV = p3.2 by rw [q3, ← e2]; exact e3]; exact b3.ok) (by rw [hln vs3 p3.2 (by rw [q3, ← e2]; exact e3)]; omega) (by first | exact rb.tl.tl) hw) ?_; rintro _ _ ⟨a4, c4, ho4, hi4, hm4, vs4, rfl, rfl, bs4, e4⟩))) | (first | (refine J.o 0 ?_; refine J.ev' hΓ ?_) | refine J.nil ?_ | (refine J.o 4 ?_; first | refine J.lR hΓ ?_) | (refine J.o 3 ?_; first | refine J.ev' hΓ ?_) | (refine J.o 1 ?_; first | refine J.ng ?_) | (refine J.o 8 ?_; refine J.bd hΓ ?_) | (refine J.o 9 ?_; refine J.bl hΓ (fun _ => ?_)) | (refine J.o 10 ?_; refine J.ev' hΓ ?_) | (refine J.o 11 ?_; refine J.ev' hΓ ?_)))
          | (first | (refine JE.is ?_; first | refine JE.s0 ?_ | refine JE.s3 ?_ | refine JE.nil ?_ | refine JE.s4 rfl (fun w hw => (by first | exact hw.drop.drop.drop.drop.drop | exact hw.drop.drop.drop.drop.drop.drop | exact hw.drop.drop.drop.drop)) ?_) | refine eK0.nn ?_ | (refine eK3.is ?_; refine eK3.nn (fun w hw => (by first | exact hw.drop.drop.drop.drop.drop | exact hw.drop.drop.drop.drop.drop.drop | exact hw.drop.drop.drop.drop)) ?_) | refine brK.nn ?_)
          | (first | refine JC.seq ?_ | refine JC.region ?_ | refine JC.ret ?_ | refine JC.skip ?_ | refine thenK.nn ?_ | refine thenK.r ?_ | (refine JC.cond rfl (fun hc => ?_) (fun hc => ?_) <;> ((try simp only [decide_eq_true_eq, decide_eq_false_iff_not, beq_iff_eq, beq_eq_false_iff_ne, bne_iff_ne, bne_eq_false_iff_eq, Bool.not_eq_true', Bool.not_eq_false', Bool.not_eq_true, Bool.not_eq_false] at hc) <;> first | (first | (exact absurd rfl hc) | (exfalso; omega) | (exact absurd (hc.symm.trans (by assumption : _ = false)) (by decide)) | (exact absurd (hc.symm.trans (by assumption : _ = true)) (by decide))) | skip)))
          | (fail)
          | fail
        refine Br.done (by kernel_rfl) ?_
        have e3' : vs3.map pnV = p3.2 := by rw [q3, ← e2]; exact e3
        exact midK.nn (by repeat (first | exact Ag.rfl' | refine Ag.upd rfl ?_)) ⟨a4, c4, ho4, hi4, hm4, vs4, _, _, by rw [q3, ← e2]; rfl, by rw [q4, ← e3']; rfl, rfl, bs4, by rw [q4, ← e3']; exact e4⟩
      ·
        repeat' first
          | (refine J.isJ ?_; first | ((refine J.o 9 ?_; first | (refine J.bl (d := 26) hΓ (fun x1 => ?_); refine J.perm (brx _ _ _ _ _ _) ?_) | (refine J.bl (d := 32) hΓ (fun x2 => ?_); refine J.perm (brx _ _ _ _ _ _) ?_) | (refine J.callvx (d := 28) eNet1 rfl rfl rfl (fun w hw => net1_any N hN ⟨3, 0, some ⟨x1, 0, none⟩, 2, [p1.1, no]⟩ (two_sl x1 p1.1 no) (by first | exact RdH.hd | exact RdH.hd.tl) (by show 2 ≤ 1000000; decide) (by rw [n2]; exact f3) hT bs2 (by rw [e2]; exact b2.ok) (by rw [n2]; omega) (by first | exact rb.tl | exact rb.tl.tl) hw) ?_; rintro _ _ ⟨a3, c3, ho3, hi3, hm3, vs3, rfl, rfl, bs3, e3⟩) | (refine J.callvx (d := 34) eNet1 rfl rfl rfl (fun w hw => net1_any N hN ⟨3, 0, some ⟨x2, 0, none⟩, 2, [p2.1, yes]⟩ (two_sl x2 p2.1 yes) (by first | exact RdH.hd | exact RdH.hd.tl) (by show 2 ≤ 1000000; decide) (by rw [hln vs3 p3.2 (by rw [q3, ← e2]; exact e3)]; exact f4) hT bs3 (by rw [show vs3.map pnV = p3.2 by rw [q3, ← e2]; exact e3]; exact b3.ok) (by rw [hln vs3 p3.2 (by rw [q3, ← e2]; exact e3)]; omega) (by first | exact rb.tl.tl) hw) ?_; rintro _ _ ⟨a4, c4, ho4, hi4, hm4, vs4, rfl, rfl, bs4, e4⟩))) | (first | (refine J.o 0 ?_; refine J.ev' hΓ ?_) | refine J.nil ?_ | (refine J.o 4 ?_; first | refine J.lR hΓ ?_) | (refine J.o 3 ?_; first | refine J.ev' hΓ ?_) | (refine J.o 1 ?_; first | refine J.ng ?_) | (refine J.o 8 ?_; refine J.bd hΓ ?_) | (refine J.o 9 ?_; refine J.bl hΓ (fun _ => ?_)) | (refine J.o 10 ?_; refine J.ev' hΓ ?_) | (refine J.o 11 ?_; refine J.ev' hΓ ?_)))
          | (first | (refine JE.is ?_; first | refine JE.s0 ?_ | refine JE.s3 ?_ | refine JE.nil ?_ | refine JE.s4 rfl (fun w hw => (by first | exact hw.drop.drop.drop.drop.drop | exact hw.drop.drop.drop.drop.drop.drop | exact hw.drop.drop.drop.drop)) ?_) | refine eK0.nn ?_ | (refine eK3.is ?_; refine eK3.nn (fun w hw => (by first | exact hw.drop.drop.drop.drop.drop | exact hw.drop.drop.drop.drop.drop.drop | exact hw.drop.drop.drop.drop)) ?_) | refine brK.nn ?_)
          | (first | refine JC.seq ?_ | refine JC.region ?_ | refine JC.ret ?_ | refine JC.skip ?_ | refine thenK.nn ?_ | refine thenK.r ?_ | (refine JC.cond rfl (fun hc => ?_) (fun hc => ?_) <;> ((try simp only [decide_eq_true_eq, decide_eq_false_iff_not, beq_iff_eq, beq_eq_false_iff_ne, bne_iff_ne, bne_eq_false_iff_eq, Bool.not_eq_true', Bool.not_eq_false', Bool.not_eq_true, Bool.not_eq_false] at hc) <;> first | (first | (exact absurd rfl hc) | (exfalso; omega) | (exact absurd (hc.symm.trans (by assumption : _ = false)) (by decide)) | (exact absurd (hc.symm.trans (by assumption : _ = true)) (by decide))) | skip)))
          | (fail)
          | fail
        refine Br.done (by kernel_rfl) ?_
        have e3' : vs3.map pnV = p3.2 := by rw [q3, ← e2]; exact e3
        exact midK.nn (by repeat (first | exact Ag.rfl' | refine Ag.upd rfl ?_)) ⟨a4, c4, ho4, hi4, hm4, vs4, _, _, by rw [q3, ← e2]; rfl, by rw [q4, ← e3']; rfl, rfl, bs4, by rw [q4, ← e3']; exact e4⟩
    ·
      repeat' first
        | (refine J.isJ ?_; first | ((refine J.o 9 ?_; first | (refine J.bl (d := 26) hΓ (fun x1 => ?_); refine J.perm (brx _ _ _ _ _ _) ?_) | (refine J.bl (d := 32) hΓ (fun x2 => ?_); refine J.perm (brx _ _ _ _ _ _) ?_) | (refine J.callvx (d := 28) eNet1 rfl rfl rfl (fun w hw => net1_any N hN ⟨3, 0, some ⟨x1, 0, none⟩, 2, [p1.1, no]⟩ (two_sl x1 p1.1 no) (by first | exact RdH.hd | exact RdH.hd.tl) (by show 2 ≤ 1000000; decide) (by rw [n2]; exact f3) hT bs2 (by rw [e2]; exact b2.ok) (by rw [n2]; omega) (by first | exact rb.tl | exact rb.tl.tl) hw) ?_; rintro _ _ ⟨a3, c3, ho3, hi3, hm3, vs3, rfl, rfl, bs3, e3⟩) | (refine J.callvx (d := 34) eNet1 rfl rfl rfl (fun w hw => net1_any N hN ⟨3, 0, some ⟨x2, 0, none⟩, 2, [p2.1, yes]⟩ (two_sl x2 p2.1 yes) (by first | exact RdH.hd | exact RdH.hd.tl) (by show 2 ≤ 1000000; decide) (by rw [hln vs3 p3.2 (by rw [q3, ← e2]; exact e3)]; exact f4) hT bs3 (by rw [show vs3.map pnV = p3.2 by rw [q3, ← e2]; exact e3]; exact b3.ok) (by rw [hln vs3 p3.2 (by rw [q3, ← e2]; exact e3)]; omega) (by first | exact rb.tl.tl) hw) ?_; rintro _ _ ⟨a4, c4, ho4, hi4, hm4, vs4, rfl, rfl, bs4, e4⟩))) | (first | (refine J.o 0 ?_; refine J.ev' hΓ ?_) | refine J.nil ?_ | (refine J.o 4 ?_; first | refine J.lR hΓ ?_) | (refine J.o 3 ?_; first | refine J.ev' hΓ ?_) | (refine J.o 1 ?_; first | refine J.ng ?_) | (refine J.o 8 ?_; refine J.bd hΓ ?_) | (refine J.o 9 ?_; refine J.bl hΓ (fun _ => ?_)) | (refine J.o 10 ?_; refine J.ev' hΓ ?_) | (refine J.o 11 ?_; refine J.ev' hΓ ?_)))
        | (first | (refine JE.is ?_; first | refine JE.s0 ?_ | refine JE.s3 ?_ | refine JE.nil ?_ | refine JE.s4 rfl (fun w hw => (by first | exact hw.drop.drop.drop.drop.drop | exact hw.drop.drop.drop.drop.drop.drop | exact hw.drop.drop.drop.drop)) ?_) | refine eK0.nn ?_ | (refine eK3.is ?_; refine eK3.nn (fun w hw => (by first | exact hw.drop.drop.drop.drop.drop | exact hw.drop.drop.drop.drop.drop.drop | exact hw.drop.drop.drop.drop)) ?_) | refine brK.nn ?_)
        | (first | refine JC.seq ?_ | refine JC.region ?_ | refine JC.ret ?_ | refine JC.skip ?_ | refine thenK.nn ?_ | refine thenK.r ?_ | (refine JC.cond rfl (fun hc => ?_) (fun hc => ?_) <;> ((try simp only [decide_eq_true_eq, decide_eq_false_iff_not, beq_iff_eq, beq_eq_false_iff_ne, bne_iff_ne, bne_eq_false_iff_eq, Bool.not_eq_true', Bool.not_eq_false', Bool.not_eq_true, Bool.not_eq_false] at hc) <;> first | (first | (exact absurd rfl hc) | (exfalso; omega) | (exact absurd (hc.symm.trans (by assumption : _ = false)) (by decide)) | (exact absurd (hc.symm.trans (by assumption : _ = true)) (by decide))) | skip)))
        | (fail)
        | fail
      refine Br.done (by kernel_rfl) ?_
      have e3' : vs3.map pnV = p3.2 := by rw [q3, ← e2]; exact e3
      exact midK.nn (by repeat (first | exact Ag.rfl' | refine Ag.upd rfl ?_)) ⟨a4, c4, ho4, hi4, hm4, vs4, _, _, by rw [q3, ← e2]; rfl, by rw [q4, ← e3']; rfl, rfl, bs4, by rw [q4, ← e3']; exact e4⟩
  rintro g5 L5 ⟨a4, c4, ho4, hi4, hm4, vs4, y1, y2, g8, g9, rfl, bs4, e4⟩
  refine thenK.nn (JC.pin 8 g8 (JC.pin 9 g9 ?_))
  clear g8 g9
  unfold bL
  simp only [List.cons_append, List.nil_append]
  have n4 := hln vs4 p4.2 e4
  repeat' first
    | (refine J.isJ ?_; first | (first | (refine J.o 4 ?_; refine J.lR hΓ ?_ (hr := rf0.tl.tl.tl.tl.tl.tl)) | (refine J.o 9 ?_; first | (refine J.bl hΓ (fun x5 => ?_); refine J.perm (brx _ _ _ _ _ _) ?_) | (refine J.callvx eNet1 rfl rfl rfl (fun w hw => net1_any N hN ⟨4, 0, some ⟨x5, 0, none⟩, 2, [p3.1, p4.1]⟩ (two_sl x5 p3.1 p4.1) RdH.hd (by show 2 ≤ 1000000; decide) (by rw [n4]; exact f5) hT bs4 (by rw [e4]; exact b4.ok) (by rw [n4]; omega) rb.tl.tl.tl hw) ?_; rintro _ _ ⟨a6, c6, ho6, hi6, hm6, vs6, rfl, rfl, bs6, e6⟩))) | (first | (refine J.o 0 ?_; refine J.ev' hΓ ?_) | refine J.nil ?_ | (refine J.o 4 ?_; first | refine J.lR hΓ ?_) | (refine J.o 3 ?_; first | refine J.ev' hΓ ?_) | (refine J.o 1 ?_; first | refine J.ng ?_) | (refine J.o 8 ?_; refine J.bd hΓ ?_) | (refine J.o 9 ?_; refine J.bl hΓ (fun _ => ?_)) | (refine J.o 10 ?_; refine J.ev' hΓ ?_) | (refine J.o 11 ?_; refine J.ev' hΓ ?_)))
    | (first | refine JC.seq ?_ | refine JC.region ?_ | refine JC.ret ?_ | refine JC.skip ?_ | refine thenK.nn ?_ | refine thenK.r ?_ | (refine JC.cond rfl (fun hc => ?_) (fun hc => ?_) <;> ((try simp only [decide_eq_true_eq, decide_eq_false_iff_not, beq_iff_eq, beq_eq_false_iff_ne, bne_iff_ne, bne_eq_false_iff_eq, Bool.not_eq_true', Bool.not_eq_false', Bool.not_eq_true, Bool.not_eq_false] at hc) <;> first | (first | (exact absurd rfl hc) | (exfalso; omega) | (exact absurd (hc.symm.trans (by assumption : _ = false)) (by decide)) | (exact absurd (hc.symm.trans (by assumption : _ = true)) (by decide))) | skip)))
    | (fail)
    | fail
  all_goals first | (exfalso; omega) | skip
  exact ret1f rfl rfl rfl (fun w1 hw => ⟨_, _, rfl, H.sel (l := [_, _, _, _, _, _, _]) (M := L) hw [0, 1, 2, 3], a6, c6, ho6, hi6, hm6, vs6, by rw [← e4]; rfl, rfl, bs6, by rw [← e4]; exact e6⟩)
end Go.Proofs.YtdiciemlbhkilaaGreatDoor
namespace Go.Proofs.YtdiciemlbhkilaaGreatDoor
open Go Go.Cx Go.RowKit
set_option linter.unusedVariables false
set_option linter.unusedSimpArgs false
set_option maxHeartbeats 4000000
attribute [local irreducible] J JC thenK blockK loopK roundK drawK retK QW Qt pel List.set Calls
attribute [local irreducible] JE Br eK0 eK3 brK clsAt
theorem brv (a b c d x : Heap) (L : List Heap) : (a :: b :: c :: d :: x :: L).Perm (x :: a :: b :: c :: d :: L) := bring_perm 4 _
theorem hv6 {w0 w : World} {R x h a b c d : Heap} {L : List Heap} (hw : H w0 R (x :: h :: a :: b :: c :: d :: L) w) : H w0 R (a :: b :: c :: d :: h :: x :: L) w := H.sel (l := [_, _, _, _, _, _]) (M := L) hw [2, 3, 4, 5, 1, 0]
theorem hdx {w0 w : World} {R x h a b c d : Heap} {L : List Heap} (hw : H w0 R (h :: a :: b :: c :: d :: x :: L) w) : H w0 R (h :: a :: b :: c :: d :: L) w := H.sel (l := [_, _, _, _, _, _]) (M := L) hw [0, 1, 2, 3, 4]
set_option maxHeartbeats 16000000 in
theorem foldN_any {w0 w : World} {R : Heap} {L : List Heap} {N : Int} {b bb bf cap bm : Nat} {a : Option Addr} {ho hi hm : Heap} (at_ : Option Addr) (ct : Nat) (ts : List Nd) (hs : SlT encN 4 at_ ts R) (hV : Valid ts N) (hT : Tab w0) (bs : BS [] a cap bm ho hi hm) (rb : Rd R L bb (bpO b)) (rf : Rd R L bf (afO bb)) (hw : H w0 R (bL N b a [] cap bm ho hi hm ++ L) w) :
    Calls Tryz.prog 40 #[.slice at_ ts.length ct, .func (.func 41) ⟨[]⟩ ⟨[.pointer (some ⟨bf, 0, none⟩)]⟩, .func (.func 42) ⟨[]⟩ ⟨[.pointer (some ⟨bf, 0, none⟩)]⟩] w fun e' w' => ∃ v' L', e' = .returned v' ∧ H w0 R L' w' ∧ (∃ (us : List Int) (a' : Option Addr) (cap' : Nat) (ho' hi' hm' : Heap) (vs' : List NV), v' = .int .i64 (us.getD 0 default) ∧ L' = bL N b a' vs' cap' bm ho' hi' hm' ++ L ∧ BS vs' a' cap' bm ho' hi' hm' ∧ TI ts N 0 (vs'.map pnV) us) := by
  have hN := hV.rng
  have hpos := hV.pos
  have hle := hV.le
  have hqs := hV.quests
  have hcst : ∀ m, ((ts.drop m).length : Int) + 2 * ews (fun _ => 1) (ts.drop m) ≤ 12288 := fun m => by
    have key : ∀ xs : List Nd, 0 ≤ ews (fun _ => 1) xs := fun xs => by
      induction xs with
      | nil => exact Int.le_refl 0
      | cons x xs ih => rw [ews_cons]; split <;> omega
    have split_ : ∀ (m : Nat) (xs : List Nd), ews (fun _ => 1) (xs.drop m) ≤ ews (fun _ => 1) xs := fun m => by
      induction m with
      | zero => intro xs; rw [List.drop_zero]; exact Int.le_refl _
      | succ m ih =>
        intro xs
        cases xs with
        | nil => exact Int.le_refl _
        | cons x xs =>
          rw [List.drop_succ_cons, ews_cons]
          have := ih xs
          split <;> omega
    have := split_ m ts
    rw [List.length_drop]
    omega
  unfold bL at hw
  simp only [List.cons_append, List.nil_append] at hw
  refine calls_in Tryz.func40 Tryz.ntmps40 rfl rfl (hw) ?_
  repeat' first
    | (refine J.isJ ?_; first | ((refine J.o 9 ?_; refine J.make (enc := encI) (0 : Int) hΓ rfl rfl rfl rfl rfl rfl (fun _ => rfl) (by omega) (by omega) (fun bp hp0 op0 => ?_))) | (first | (refine J.o 0 ?_; refine J.ev' hΓ ?_) | refine J.nil ?_ | (refine J.o 4 ?_; first | refine J.lT default hΓ ?_ | refine J.lR hΓ ?_) | (refine J.o 3 ?_; first | refine J.iJ hΓ ?_ | refine J.ev' hΓ ?_) | (refine J.o 1 ?_; first | refine J.sb ?_) | (refine J.o 5 ?_; first | refine J.t0 hΓ ?_ | refine J.tT _ default hΓ (fun _ _ => ?_)) | (refine J.o 7 ?_; refine J.al hΓ (fun _ => ?_)) | (refine J.o 10 ?_; refine J.ev' hΓ ?_) | (refine J.o 11 ?_; refine J.ev' hΓ ?_)))
    | (first | refine JC.seq ?_ | refine JC.region ?_ | refine JC.block ?_ | refine JC.ret ?_ | refine JC.exit ?_ | refine JC.skip ?_ | refine thenK.nn ?_ | refine thenK.x ?_ | refine blockK.nn ?_ | refine blockK.hit rfl ?_ | refine JC.condT rfl ?_ | refine JC.condF rfl ?_ | (refine JC.cond rfl (fun hc => ?_) (fun hc => ?_) <;> ((try simp only [decide_eq_true_eq, decide_eq_false_iff_not, beq_iff_eq, beq_eq_false_iff_ne, bne_iff_ne, bne_eq_false_iff_eq, Bool.not_eq_true', Bool.not_eq_false', Bool.not_eq_true, Bool.not_eq_false] at hc) <;> first | (first | (exact absurd rfl hc) | (exfalso; omega) | (exact absurd (hc.symm.trans (by assumption : _ = false)) (by decide)) | (exact absurd (hc.symm.trans (by assumption : _ = true)) (by decide))) | skip)) | refine drawK.nn ?_ | refine loopK.x ?_)
    | (fail)
    | fail
  all_goals first | (exfalso; omega) | skip
  refine JC.loopG (fun i => i == 8 || i == 9 || Nat.ble 16 i) (fun m g L' => ∃ (us : List Int) (a' : Option Addr) (cap' : Nat) (ho' hi' hm' : Heap) (vs' : List NV) (hv : Heap), g 8 = .int .i64 ((m : Int) - 1) ∧ m ≤ ts.length ∧ OwT encI 1 3 (some ⟨bp, 0, none⟩) ts.length us hv ∧ BS vs' a' cap' bm ho' hi' hm' ∧ TI ts N m (vs'.map pnV) us ∧ L' = hv :: bL N b a' vs' cap' bm ho' hi' hm' ++ L) ts.length
    ⟨List.replicate ts.length 0, a, cap, ho, hi, hm, [], hp0, rfl, Nat.le_refl _, op0, bs, TI.start ts N _ (List.length_replicate ..), rfl⟩ ?_
  clear op0 bs
  rintro m g L' ⟨us, a1, c1, ho1, hi1, hm1, vs1, hv, e8, hm, ov, bs1, ti, rfl⟩
  cases m with
  | zero =>
    refine JC.pin 8 e8 ?_
    clear e8
    have hln := ti.ln
    unfold bL
    repeat' first
      | (refine J.isJ ?_; first | ((refine J.o 4 ?_; refine J.lT default hΓ ?_ (hs := ov.sl) (hr := RdH.hd))) | (first | (refine J.o 0 ?_; refine J.ev' hΓ ?_) | refine J.nil ?_ | (refine J.o 4 ?_; first | refine J.lT default hΓ ?_ | refine J.lR hΓ ?_) | (refine J.o 3 ?_; first | refine J.iJ hΓ ?_ | refine J.ev' hΓ ?_) | (refine J.o 1 ?_; first | refine J.sb ?_) | (refine J.o 5 ?_; first | refine J.t0 hΓ ?_ | refine J.tT _ default hΓ (fun _ _ => ?_)) | (refine J.o 7 ?_; refine J.al hΓ (fun _ => ?_)) | (refine J.o 10 ?_; refine J.ev' hΓ ?_) | (refine J.o 11 ?_; refine J.ev' hΓ ?_)))
      | (first | refine JC.seq ?_ | refine JC.region ?_ | refine JC.block ?_ | refine JC.ret ?_ | refine JC.exit ?_ | refine JC.skip ?_ | refine thenK.nn ?_ | refine thenK.x ?_ | refine blockK.nn ?_ | refine blockK.hit rfl ?_ | refine JC.condT rfl ?_ | refine JC.condF rfl ?_ | (refine JC.cond rfl (fun hc => ?_) (fun hc => ?_) <;> ((try simp only [decide_eq_true_eq, decide_eq_false_iff_not, beq_iff_eq, beq_eq_false_iff_ne, bne_iff_ne, bne_eq_false_iff_eq, Bool.not_eq_true', Bool.not_eq_false', Bool.not_eq_true, Bool.not_eq_false] at hc) <;> first | (first | (exact absurd rfl hc) | (exfalso; omega) | (exact absurd (hc.symm.trans (by assumption : _ = false)) (by decide)) | (exact absurd (hc.symm.trans (by assumption : _ = true)) (by decide))) | skip)) | refine drawK.nn ?_ | refine loopK.x ?_)
      | (fail)
      | fail
    all_goals first | (exfalso; omega) | skip
    exact ret1f rfl rfl rfl (fun w1 hw => ⟨_, _, rfl, hw.drop, us, a1, c1, ho1, hi1, hm1, vs1, rfl, rfl, bs1, ti⟩)
  | succ k =>
    have e8k : g 8 = .int .i64 (k : Int) := by rw [e8]; congr 1; omega
    refine JC.pin 8 e8k ?_
    clear e8 e8k
    have hk : k < ts.length := by omega
    have hln := ti.ln
    have hle1 := ti.le
    have hcs := hcst (k + 1)
    rw [List.length_map] at hle1
    have hlb : vs1.length ≤ 12288 := by omega
    clear hcst
    by_cases hv0 : (ts.getD k default).v = 0
    · obtain ⟨hf, ti2⟩ := ti.leaf hV hk hv0
      rw [List.length_map] at hf
      unfold bL
      simp only [List.cons_append, List.nil_append]
      repeat' first
        | (refine J.isJ ?_; first | (first | (refine J.o 4 ?_; refine J.lT default hΓ ?_ (hs := hs) (hr := RdH.old fun _ hh => hh)) | (refine J.o 9 ?_; refine J.callvx eNet2 rfl rfl rfl (fun w hw => net2_any N hN (ts.getD k default).c hf hT bs1 ti.bt.ok (by omega) rb.tl.tl rf.tl.tl (hv6 hw)) ?_; rintro _ _ ⟨a2, c2, ho2, hi2, hm2, vs2, rfl, rfl, bs2, e2⟩; unfold bL; simp only [List.cons_append, List.nil_append]; refine J.perm (brv _ _ _ _ _ _) ?_) | (refine J.o 5 ?_; refine J.tT _ default hΓ (fun hv2 ov2 => ?_))) | (first | (refine J.o 0 ?_; refine J.ev' hΓ ?_) | refine J.nil ?_ | (refine J.o 4 ?_; first | refine J.lT default hΓ ?_ | refine J.lR hΓ ?_) | (refine J.o 3 ?_; first | refine J.iJ hΓ ?_ | refine J.ev' hΓ ?_) | (refine J.o 1 ?_; first | refine J.sb ?_) | (refine J.o 5 ?_; first | refine J.t0 hΓ ?_ | refine J.tT _ default hΓ (fun _ _ => ?_)) | (refine J.o 7 ?_; refine J.al hΓ (fun _ => ?_)) | (refine J.o 10 ?_; refine J.ev' hΓ ?_) | (refine J.o 11 ?_; refine J.ev' hΓ ?_)))
        | (first | refine JC.seq ?_ | refine JC.region ?_ | refine JC.block ?_ | refine JC.ret ?_ | refine JC.exit ?_ | refine JC.skip ?_ | refine thenK.nn ?_ | refine thenK.x ?_ | refine blockK.nn ?_ | refine blockK.hit rfl ?_ | refine JC.condT rfl ?_ | refine JC.condF rfl ?_ | (refine JC.cond rfl (fun hc => ?_) (fun hc => ?_) <;> ((try simp only [decide_eq_true_eq, decide_eq_false_iff_not, beq_iff_eq, beq_eq_false_iff_ne, bne_iff_ne, bne_eq_false_iff_eq, Bool.not_eq_true', Bool.not_eq_false', Bool.not_eq_true, Bool.not_eq_false] at hc) <;> first | (first | (exact absurd rfl hc) | (exfalso; omega) | (exact absurd (hc.symm.trans (by assumption : _ = false)) (by decide)) | (exact absurd (hc.symm.trans (by assumption : _ = true)) (by decide))) | skip)) | refine drawK.nn ?_ | refine loopK.x ?_)
        | (fail)
        | fail
      all_goals first | (exfalso; omega) | skip
      refine loopK.nn k (by omega) (by repeat (first | refine Ag.upd rfl ?_ | exact Ag.hv)) ⟨_, ⟨us.set k (addP (vs1.map pnV) (if (ts.getD k default).c then 1 else 0, 0, [])).1, a2, c2, ho2, hi2, hm2, vs2, hv2, rfl, by omega, ov2, bs2, by rw [e2]; exact ti2, rfl⟩, fun w hw => hdx hw⟩
    · obtain ⟨⟨r1, r2, r3, r4⟩, ⟨n0, n1⟩, ⟨y0, y1⟩, ao, h5⟩ := ti.rngs hV hk hv0
      have ti2 := ti.ask hV hk hv0
      have hvar := hV.var hk hv0
      unfold bL
      simp only [List.cons_append, List.nil_append]
      repeat' first
        | (refine J.isJ ?_; first | (first | (refine J.o 4 ?_; first | refine J.lT default hΓ ?_ (hs := hs) (hr := RdH.old fun _ hh => hh) | refine J.lT default hΓ ?_ (hs := ov.sl) (hr := RdH.hd.tl)) | (refine J.o 9 ?_; refine J.callvx eNet3 rfl rfl rfl (fun w hw => net3_any N hN (ts.getD k default).v (us.getD (ts.getD k default).no.toNat default) (us.getD (ts.getD k default).yes.toNat default) hvar h5 hT bs1 ti.bt.ok (by omega) rb.tl.tl rf.tl.tl (hv6 hw)) ?_; rintro _ _ ⟨a2, c2, ho2, hi2, hm2, vs2, rfl, rfl, bs2, e2⟩; unfold bL; simp only [List.cons_append, List.nil_append]; refine J.perm (brv _ _ _ _ _ _) ?_) | (refine J.o 5 ?_; refine J.tT _ default hΓ (fun hv2 ov2 => ?_))) | (first | (refine J.o 0 ?_; refine J.ev' hΓ ?_) | refine J.nil ?_ | (refine J.o 4 ?_; first | refine J.lT default hΓ ?_ | refine J.lR hΓ ?_) | (refine J.o 3 ?_; first | refine J.iJ hΓ ?_ | refine J.ev' hΓ ?_) | (refine J.o 1 ?_; first | refine J.sb ?_) | (refine J.o 5 ?_; first | refine J.t0 hΓ ?_ | refine J.tT _ default hΓ (fun _ _ => ?_)) | (refine J.o 7 ?_; refine J.al hΓ (fun _ => ?_)) | (refine J.o 10 ?_; refine J.ev' hΓ ?_) | (refine J.o 11 ?_; refine J.ev' hΓ ?_)))
        | (first | refine JC.seq ?_ | refine JC.region ?_ | refine JC.block ?_ | refine JC.ret ?_ | refine JC.exit ?_ | refine JC.skip ?_ | refine thenK.nn ?_ | refine thenK.x ?_ | refine blockK.nn ?_ | refine blockK.hit rfl ?_ | refine JC.condT rfl ?_ | refine JC.condF rfl ?_ | (refine JC.cond rfl (fun hc => ?_) (fun hc => ?_) <;> ((try simp only [decide_eq_true_eq, decide_eq_false_iff_not, beq_iff_eq, beq_eq_false_iff_ne, bne_iff_ne, bne_eq_false_iff_eq, Bool.not_eq_true', Bool.not_eq_false', Bool.not_eq_true, Bool.not_eq_false] at hc) <;> first | (first | (exact absurd rfl hc) | (exfalso; omega) | (exact absurd (hc.symm.trans (by assumption : _ = false)) (by decide)) | (exact absurd (hc.symm.trans (by assumption : _ = true)) (by decide))) | skip)) | refine drawK.nn ?_ | refine loopK.x ?_)
        | ((refine JC.drawW [] [15] (by kernel_rfl) (by kernel_rfl) ?_))
        | fail
      all_goals first | (exfalso; omega) | skip
      refine loopK.nn k (by omega) (by repeat (first | refine Ag.upd rfl ?_ | exact Ag.hv)) ⟨_, ⟨us.set k (askP (vs1.map pnV) (ts.getD k default).v (us.getD (ts.getD k default).no.toNat default) (us.getD (ts.getD k default).yes.toNat default)).1, a2, c2, ho2, hi2, hm2, vs2, hv2, rfl, by omega, ov2, bs2, by rw [e2]; exact ti2, rfl⟩, fun w hw => hdx hw⟩
end Go.Proofs.YtdiciemlbhkilaaGreatDoor
namespace Go.Proofs.YtdiciemlbhkilaaGreatDoor
open Go Go.Cx Go.RowKit
set_option linter.unusedVariables false
set_option linter.unusedSimpArgs false
set_option maxHeartbeats 4000000
attribute [local irreducible] J JC thenK blockK loopK roundK drawK retK QW Qt pel List.set Calls
attribute [local irreducible] JE Br eK0 eK3 brK clsAt checkT
theorem eTNet : Entr Tryz.prog 10 := Entr.of Tryz.func10 rfl rfl
theorem hv7 {w0 w : World} {R x y a b c d : Heap} {L : List Heap} (hw : H w0 R (x :: y :: a :: b :: c :: d :: L) w) : H w0 R (a :: b :: c :: d :: x :: y :: L) w := H.sel (l := [_, _, _, _, _, _]) (M := L) hw [2, 3, 4, 5, 0, 1]
theorem NetO.netIn {a : Option Addr} {c : Nat} {os : List NV} {hO hI : Heap} (no : NetO a c os hO hI) (hl : os.length ≤ 1000000) (hs : ∀ x, x ∈ os.map pnV → x.2.2.length ≤ 1000000) : NetIn a os (hO ++ hI) :=
  ⟨no.ow.sl.sub fun x hx => List.mem_append_left _ hx, fun v hv => (no.ins v hv).sub fun x hx => List.mem_append_right _ hx, fun v hv => hs (pnV v) (List.mem_map_of_mem hv), hl⟩
theorem Simp.short {N : Int} {X : List PN} (h : Simp N X) : ∀ x, x ∈ X → x.2.2.length ≤ X.length := fun x hx => by
  obtain ⟨i, hi, rfl⟩ := mem_getD hx
  have hr := formed_rng (h.fm i hi)
  by_cases hg : isG (X.getD i default)
  · have := asc_len _ 0 i (by omega) (h.gt i hi hg).2.1 hr
    omega
  · rw [formed_low (h.fm i hi) hg]; exact Nat.zero_le _
set_option maxHeartbeats 16000000 in
theorem netT_ok (a : Option Addr) (cap : Nat) (ts : List Nd) (n : Int) (h : Heap) (hs : SlT encN 4 a ts h) (he : checkT ts n = 0) (w : World) (hT : Tab w) (hw : Holds h w) :
    Calls Tryz.prog 10 #[.slice a ts.length cap, .int .i64 n] w (Gives (fun v g => ∃ ao os co, v = .tuple #[.agg ⟨[.int .i64 n, .slice ao os.length co]⟩, .int .i64 0] ∧ NetIn ao os g ∧ TNet ts n (os.map pnV)) w) := by
  have cC := fun w hw => check_any a cap ts n h hs w hw
  rw [he] at cC
  have hV := (valid_iff ts n).1 he
  have hN := hV.rng
  refine calls_of_JC (R := h) Tryz.func10 Tryz.ntmps10 rfl rfl (hw) ?_
  repeat' first
    | (refine J.isJ ?_; first | (first | (refine J.fc 21 ?_; refine J.call0 eCheck rfl rfl (fun w hw => cC w (hw.rdH (by first | exact RdH.hd | exact RdH.hd.tl | exact RdH.hd.tl.tl | exact RdH.hd.tl.tl.tl | exact RdH.hd.tl.tl.tl.tl | exact RdH.hd.tl.tl.tl.tl.tl | exact RdH.hd.tl.tl.tl.tl.tl.tl | exact RdH.hd.tl.tl.tl.tl.tl.tl.tl | exact RdH.old (fun _ hh => hh) | assumption))) ?_) | (refine J.fc 37 ?_; refine J.callx eNew rfl rfl (fun w hw => new_any n hN hw) ?_; rintro _ _ ⟨b, bm, rfl, rfl, bs0⟩; unfold bL; simp only [List.cons_append, List.nil_append]) | (refine J.o 7 ?_; first | refine J.al (d := 7) hΓ (fun b7 => ?_) | refine J.al (d := 9) hΓ (fun b9 => ?_)) | (refine J.o 14 ?_; first | refine J.mfV [.pointer (some ⟨b7, 0, none⟩)] (d := 23) hΓ ?_ | refine J.mfV [.pointer (some ⟨b9, 0, none⟩)] (d := 25) hΓ ?_ | refine J.mfV [.pointer (some ⟨b9, 0, none⟩)] (d := 26) hΓ ?_) | (refine J.fc 40 ?_; refine J.callx eFold rfl rfl (fun w hw => foldN_any a cap ts hs hV hT bs0 (show Rd _ _ b7 (bpO b) from Rd.hd.tl) (show Rd _ _ b9 (afO b7) from Rd.hd) (hv7 hw)) ?_; rintro _ _ ⟨us, a1, c1, ho1, hi1, hm1, vs1, rfl, rfl, bs1, ti⟩; unfold bL; simp only [List.cons_append, List.nil_append]; obtain ⟨⟨q0, q1⟩, tn⟩ := tree_net hV ti; obtain ⟨r, hr⟩ := Int.eq_ofNat_of_zero_le q0; rw [hr, Int.toNat_natCast] at tn; rw [hr] at q1 ⊢) | (refine J.o 4 ?_; refine J.lR hΓ ?_ (hr := Rd.hd.tl.tl.tl.tl.tl)) | (refine J.fc 43 ?_; refine J.callx eNet rfl rfl (fun w hw => net_any r (by rw [List.length_map] at q1; omega) bs1 ti.bt.ok ti.bt.sm.ord (by have h1 := ti.le; have h2 := hV.quests; have h3 := hV.le; rw [List.drop_zero, h2, List.length_map] at h1; omega) hw) ?_; rintro _ _ ⟨ao, co, os, hO, hI, rfl, rfl, no, eo⟩; unfold bL; simp only [List.cons_append, List.nil_append]; refine J.perm (bring_perm 8 _) ?_)) | (first | (refine J.o 0 ?_; refine J.ev' hΓ ?_) | refine J.nil ?_ | (refine J.o 4 ?_; first | refine J.lR hΓ ?_) | (refine J.o 3 ?_; first | refine J.ev' hΓ ?_) | (refine J.o 5 ?_; first | refine J.t0 hΓ ?_) | (refine J.o 7 ?_; refine J.al hΓ (fun _ => ?_)) | (refine J.o 10 ?_; refine J.ev' hΓ ?_) | (refine J.o 11 ?_; refine J.ev' hΓ ?_)))
    | (first | refine JC.seq ?_ | refine JC.region ?_ | refine JC.ret ?_ | refine JC.skip ?_ | refine thenK.nn ?_ | refine JC.condF rfl ?_)
    | (fail)
    | fail
  all_goals first | (exfalso; omega) | skip
  rw [← eo] at tn
  have hlo := tn.le
  rw [List.length_map] at hlo
  have h3 := hV.le
  have hni := no.netIn (by omega) (fun x hx => by have := tn.sm.short x hx; rw [List.length_map] at this; omega)
  exact retCS hΓ rfl rfl rfl rfl Rd.hd rfl rfl (fun w1 hw => Gives.of hw.drop.mg1 ⟨ao, os, co, rfl, hni, tn⟩)
end Go.Proofs.YtdiciemlbhkilaaGreatDoor
namespace Go.Proofs.YtdiciemlbhkilaaGreatDoor
open Go Go.Cx Go.RowKit
set_option linter.unusedVariables false
set_option linter.unusedSimpArgs false
set_option maxHeartbeats 4000000
attribute [local irreducible] J JC thenK blockK loopK roundK drawK retK QW Qt pel List.set Calls
attribute [local irreducible] JE Br eK0 eK3 brK clsAt checkT
theorem fmd_more {x : Nd} {i n size : Int} (h : fmd x i n size = true) (hn : n ≤ 128) : fmd x i 128 size = true := by
  by_cases hv : x.v = 0
  · rw [fmd_0 hv] at h ⊢; exact h
  · obtain ⟨a, b, c, d, e, f, g⟩ := fmd_q h hv
    unfold fmd formedB
    rw [if_neg hv]
    simp [*]
    omega
theorem Valid.more {ts : List Nd} {n : Int} (h : Valid ts n) : Valid ts 128 :=
  ⟨by omega, h.pos, h.le, fun j hj => fmd_more (h.fm j hj) h.rng.2, h.one, h.fresh⟩
theorem class_cls {ts : List Nd} {n : Int} (h : checkT ts n = 0) (s : Nat × Nat) : clsAt ts s 0 = classT ts s := by
  have h1 := (valid_iff ts 128).2 ((valid_iff ts n).1 h).more
  unfold clsAt classT
  rw [if_pos h1]; rfl
end Go.Proofs.YtdiciemlbhkilaaGreatDoor
namespace Go.Proofs.YtdiciemlbhkilaaGreatDoor
open Go Go.Cx Go.RowKit
set_option linter.unusedVariables false
set_option linter.unusedSimpArgs false
set_option maxHeartbeats 4000000
attribute [local irreducible] J JC thenK blockK loopK roundK drawK retK QW Qt pel List.set Calls
attribute [local irreducible] JE Br eK0 eK3 brK clsAt checkT wideT wP
theorem eEvalN : Entr Tryz.prog 23 := Entr.of Tryz.func23 rfl rfl
theorem forest_one_eval (x : Nat) (at_ : Option Addr) (ct : Nat) (ts : List Nd) (n : Int) (h : Heap) (hs : SlT encN 4 at_ ts h) (hsz : ts.length ≤ 300) (he : checkT ts n = 0)
    (s : Nat × Nat) (hok : okS s) (hsub : ∀ u, hasB s u = true → hasB (allS n.toNat) u = true) (d : Bool) (hd : clsAt ts s 0 = d) (w : World) (hw : Holds ([(x, .cells ⟨[.slice at_ ts.length ct]⟩ 23 (0, 0))] ++ h) w) :
    Calls Tryz.prog 20 #[.slice (some ⟨x, 0, none⟩) 1 1, .int .i64 n] w (Gives (fun v hc => ∃ (ac : Option Addr) (len cc : Nat), v = .tuple #[cv n ac len cc, .int .i64 0] ∧
      ∀ w, Holds hc w → Calls Tryz.prog 24 #[cv n ac len cc, sv s] w fun e w' => e = .returned (.bool d) ∧ Below w.heap.size w w') w) := by
  have hV := (valid_iff ts n).1 he
  have hf : firstE n [(⟨at_, ct, ts⟩ : TV)] = 0 := by
    have := hV.rng
    rw [firstE, if_pos he, firstE_nil, if_neg (by omega)]
  have hsl : SlT encTV 1 (some ⟨x, 0, none⟩) [(⟨at_, ct, ts⟩ : TV)] ([(x, .cells ⟨[.slice at_ ts.length ct]⟩ 23 (0, 0))] ++ h) :=
    slm (OwT.sl (e := 23) (cap := 1) ⟨fun _ => rfl, .inr ⟨x, _, rfl, rfl, rfl, Nat.le_refl _, rfl⟩⟩) fun y hy => List.mem_append_left _ hy
  have hsl2 : ∀ t, t ∈ [(⟨at_, ct, ts⟩ : TV)] → SlT encN 4 t.a t.ts ([(x, .cells ⟨[.slice at_ ts.length ct]⟩ 23 (0, 0))] ++ h) := fun t ht => by
    rw [List.mem_singleton.1 ht]
    exact slm hs fun y hy => List.mem_append_right _ hy
  refine Go.Calls.mono (forest_one (some ⟨x, 0, none⟩) 1 [(⟨at_, ct, ts⟩ : TV)] n _ hsl hsl2 (Nat.le_refl _) (fun t ht => by rw [List.mem_singleton.1 ht]; exact hsz) hf w hw) ?_
  rintro e w' ⟨v, hc, he2, hb, hH, hn, hnd, ac, gs, cc, hv, cir, hval⟩
  refine ⟨v, hc, he2, hb, hH, hn, hnd, ac, gs.length, cc, hv, fun w2 hw2 => ?_⟩
  have hE := evalC_any cir cc s hok hsub w2 hw2
  rw [hval s] at hE
  have e1 : decide ([(⟨at_, ct, ts⟩ : TV)].length < 2 * vt s [(⟨at_, ct, ts⟩ : TV)]) = d := by
    unfold vt votesOf votesOf
    rw [← hd]
    cases clsAt ts s 0 <;> rfl
  rw [e1] at hE
  exact hE
def oddI (k : Nat) : Bool := ((k : Int) + 1) % 2 == 1
set_option maxHeartbeats 32000000 in
set_option maxRecDepth 20000 in
theorem treeWide_walk (n : Nat) (hn : n ≤ 255) (s : Nat × Nat) (hok : okS s) (w : World) (hT : Tab w) (hT2 : Tab64 w) :
    Calls Tryz.prog 4 #[.int .u8 (n : Int), sv s] w fun e w' => e = .returned (.bool true) ∧ Below w.heap.size w w' := by
  obtain ⟨m, hm⟩ : ∃ m, n % 129 = m := ⟨_, rfl⟩
  have hm128 : m ≤ 128 := by omega
  have hmI : (n : Int) % 129 = (m : Int) := by omega
  have hV := wide_valid m hm128
  have he := (valid_iff (wideT m) m).2 hV
  have hlen := wide_len m
  have hok2 : okS (cutS s (allS m)) := okS_cut hok
  have hsub : ∀ u, hasB (cutS s (allS m)) u = true → hasB (allS m) u = true := fun u hu => by
    rw [has_cut, Bool.and_eq_true] at hu; exact hu.2
  have hcl := wide_class m hm128 (cutS s (allS m)) (fun u hu => (has_all m u hm128).1 (hsub u hu))
  have cA := fun w => all_any m hm128 w
  have cX := fun w => cut_any s (allS m) hok (okS_all _) w
  have cF := fun w hT => first_any (cutS s (allS m)) hok2 w hT
  generalize hs2 : cutS s (allS m) = s2 at hok2 hsub hcl cX cF
  generalize hf : fstS s2 = f at hcl cF
  have hwant : (f % 2 == 1) = clsAt (wideT m) s2 0 := by rw [hcl, Bool.eq_iff_iff, beq_iff_eq, decide_eq_true_iff]
  have hev : ∀ X, TNet (wideT m) m X → evalP s2 m X = clsAt (wideT m) s2 0 := fun X tn => tn.ev s2
  have hclT : classT (wideT m) s2 = clsAt (wideT m) s2 0 := (class_cls he s2).symm
  obtain ⟨b, hb⟩ : ∃ b, clsAt (wideT m) s2 0 = b := ⟨_, rfl⟩
  rw [hb] at hwant hclT hcl
  rw [hb] at hev
  have cCk : ∀ (a : Option Addr) (c : Nat) (h : Heap), SlT encN 4 a (wideT m) h → ∀ w, Holds h w → Calls Tryz.prog 21 #[.slice a (wideT m).length c, .int .i64 (m : Int)] w fun e w' => e = .returned (.int .i64 0) ∧ Below w.heap.size w w' := fun a c h hs w hw => by
    have := check_any a c (wideT m) m h hs w hw
    rw [he] at this
    exact this
  have cCl : ∀ (a : Option Addr) (c : Nat) (h : Heap), SlT encN 4 a (wideT m) h → ∀ w, Holds h w → Calls Tryz.prog 22 #[.slice a (wideT m).length c, sv s2] w fun e w' => e = .returned (.bool b) ∧ Below w.heap.size w w' := fun a c h hs w hw => by
    have := classify_any a c (wideT m) s2 hok2 h hs w hw
    rw [hclT] at this
    exact this
  have cNt := fun (a : Option Addr) (c : Nat) (h : Heap) (hs : SlT encN 4 a (wideT m) h) w hT hw => netT_ok a c (wideT m) (m : Int) h hs he w hT hw
  have hsub' : ∀ u, hasB s2 u = true → hasB (allS ((m : Int)).toNat) u = true := fun u hu => by rw [Int.toNat_natCast]; exact hsub u hu
  have cFo := fun (x : Nat) (a : Option Addr) (c : Nat) (h : Heap) (hs : SlT encN 4 a (wideT m) h) w hw => forest_one_eval x a c (wideT m) (m : Int) h hs (by rw [hlen]; omega) he s2 hok2 hsub' b hb w hw
  have hf0 : 0 ≤ f := by
    rw [← hf]
    unfold fstS
    cases h2 : memS s2 with
    | nil => exact Int.le_refl 0
    | cons v l =>
      have := has_rng ((mem_memS s2 v).1 (by rw [h2]; exact List.mem_cons_self))
      show 0 ≤ v
      omega
  clear hclT hcl hf hs2
  refine calls_of_JC (R := []) Tryz.func4 Tryz.ntmps4 rfl rfl (Holds.nil _) ?_
  repeat' first
    | (refine J.isJ ?_; first | (first | (refine J.o 6 ?_; refine J.bx (fun b3 => ?_)) | (refine J.o 2 ?_; refine J.cv _ hΓ ?_) | (refine J.o 1 ?_; refine J.rm ?_; rw [hmI])) | (first | (refine J.o 0 ?_; refine J.ev' hΓ ?_) | refine J.nil ?_ | (refine J.o 4 ?_; first | refine J.lR hΓ ?_) | (refine J.o 3 ?_; first | refine J.ev' hΓ ?_) | (refine J.o 1 ?_; first | refine J.ad ?_ | refine J.sb ?_ | refine J.mu ?_) | (refine J.o 5 ?_; first | refine J.t0 hΓ ?_ | refine J.t1 hΓ ?_) | (refine J.o 6 ?_; refine J.bx (fun _ => ?_)) | (refine J.o 7 ?_; refine J.al hΓ (fun _ => ?_)) | (refine J.o 8 ?_; refine J.bd hΓ ?_) | (refine J.o 9 ?_; refine J.bl hΓ (fun _ => ?_)) | (refine J.o 10 ?_; refine J.ev' hΓ ?_) | (refine J.o 11 ?_; refine J.ev' hΓ ?_)))
    | (first | refine JC.seq ?_ | refine JC.region ?_ | refine JC.block ?_ | refine JC.ret ?_ | refine JC.exit ?_ | refine JC.skip ?_ | refine thenK.nn ?_ | refine thenK.x ?_ | refine blockK.nn ?_ | refine blockK.hit rfl ?_ | (refine JC.cond rfl (fun hc => ?_) (fun hc => ?_) <;> ((try simp only [decide_eq_true_eq, decide_eq_false_iff_not, beq_iff_eq, beq_eq_false_iff_ne, bne_iff_ne, bne_eq_false_iff_eq, Bool.not_eq_true', Bool.not_eq_false', Bool.not_eq_true, Bool.not_eq_false] at hc) <;> first | (first | (exact absurd rfl hc) | (exfalso; omega) | (exact absurd (hc.symm.trans (by assumption : _ = false)) (by decide)) | (exact absurd (hc.symm.trans (by assumption : _ = true)) (by decide))) | skip)) | refine drawK.nn ?_ | refine loopK.x ?_)
    | (fail)
    | fail
  all_goals first | (exfalso; omega) | skip
  refine JC.nilF ?_
  refine JC.loopG (fun i => i == 6 || i == 7 || Nat.ble 16 i) (fun mm g L' => ∃ (k : Nat) (a : Option Addr) (c : Nat) (h : Heap), g 7 = .int .i64 ((k : Int) + 1) ∧ g 6 = .slice a (2 * k) c ∧ k + mm = m ∧ OwT encN 4 44 a c (wP k) h ∧ L' = [h, [(b3, setO s)]]) m ⟨0, none, 0, [], rfl, rfl, by omega, (by rw [wP_zero]; exact OwT.nil (fun _ => rfl)), rfl⟩ ?_
  rintro mm g L' ⟨k, a, c, h, e7, e6, hkm, o, rfl⟩
  refine JC.pin 7 e7 (JC.pin 6 e6 ?_)
  clear e7 e6
  unfold setO
  have hkl := wP_len k
  rcases Nat.lt_or_ge k m with hk | hk
  case inl =>
    have hstep := wP_succ k
    have hodd : oddI k = decide ((k + 1) % 2 = 1) := by unfold oddI; rw [Bool.eq_iff_iff, beq_iff_eq, decide_eq_true_iff]; omega
    rw [← hodd] at hstep
    repeat' first
      | (refine J.isJ ?_; first | (first | (refine J.o 1 ?_; first | refine J.rm ?_ | refine J.mu ?_ | refine J.sb ?_) | (refine J.o 9 ?_; first | (first | (refine J.ap1 (enc := encN) [⟨(k : Int) + 1, 2 * ((k : Int) + 1), 2 * ((k : Int) + 1) - 1, false⟩, ⟨0, 0, 0, oddI k⟩] hΓ (hlen := hkl) (fun a2 c2 h2 o2 => ?_))))) | (first | (refine J.o 0 ?_; refine J.ev' hΓ ?_) | refine J.nil ?_ | (refine J.o 4 ?_; first | refine J.lR hΓ ?_) | (refine J.o 3 ?_; first | refine J.ev' hΓ ?_) | (refine J.o 1 ?_; first | refine J.ad ?_ | refine J.sb ?_ | refine J.mu ?_) | (refine J.o 5 ?_; first | refine J.t0 hΓ ?_ | refine J.t1 hΓ ?_) | (refine J.o 6 ?_; refine J.bx (fun _ => ?_)) | (refine J.o 7 ?_; refine J.al hΓ (fun _ => ?_)) | (refine J.o 8 ?_; refine J.bd hΓ ?_) | (refine J.o 9 ?_; refine J.bl hΓ (fun _ => ?_)) | (refine J.o 10 ?_; refine J.ev' hΓ ?_) | (refine J.o 11 ?_; refine J.ev' hΓ ?_)))
      | (first | refine JC.seq ?_ | refine JC.region ?_ | refine JC.block ?_ | refine JC.ret ?_ | refine JC.exit ?_ | refine JC.skip ?_ | refine thenK.nn ?_ | refine thenK.x ?_ | refine blockK.nn ?_ | refine blockK.hit rfl ?_ | (refine JC.cond rfl (fun hc => ?_) (fun hc => ?_) <;> ((try simp only [decide_eq_true_eq, decide_eq_false_iff_not, beq_iff_eq, beq_eq_false_iff_ne, bne_iff_ne, bne_eq_false_iff_eq, Bool.not_eq_true', Bool.not_eq_false', Bool.not_eq_true, Bool.not_eq_false] at hc) <;> first | (first | (exact absurd rfl hc) | (exfalso; omega) | (exact absurd (hc.symm.trans (by assumption : _ = false)) (by decide)) | (exact absurd (hc.symm.trans (by assumption : _ = true)) (by decide))) | skip)) | refine drawK.nn ?_ | refine loopK.x ?_)
      | (fail)
      | fail
    all_goals first | (exfalso; omega) | skip
    rw [← hstep] at o2
    refine loopK.nn (mm - 1) (by omega) (by repeat (first | refine Ag.upd rfl ?_ | exact Ag.hv)) ⟨_, ⟨k + 1, a2, c2, h2, ?_, ?_, by omega, o2, rfl⟩, fun w hw => hw⟩
    · show Value.int .i64 _ = _; congr 1
    · show Value.slice _ _ _ = _
      congr 1
      rw [List.length_append, hkl]; simp; omega
  obtain rfl : k = m := by omega
  have hw1 : wideT k = wP k ++ [⟨0, 0, 0, false⟩] := by unfold wideT; rfl
  cases b
  all_goals
    repeat' first
      | (refine J.isJ ?_; first | (first | ((refine J.o 9 ?_; first | (first | (refine J.ap1 (enc := encN) [⟨0, 0, 0, false⟩] hΓ (hlen := hkl) (fun a2 c2 h2 o2 => ?_)))); rw [← hw1] at o2 ⊢) | (refine J.fc 18 ?_; refine J.call0 eAll rfl rfl (fun w hw => cA w) ?_) | (refine J.fc 17 ?_; refine J.call0 eCut rfl rfl (fun w hw => cX w) ?_) | (refine J.fc 19 ?_; refine J.call0 eFirst rfl rfl (fun w hw => cF w (hT2.below hw.below)) ?_) | (refine J.o 1 ?_; refine J.rm ?_) | (refine J.o 11 ?_; refine J.ev' hΓ ?_; rw [hwant]) | (refine J.fc 10 ?_; refine J.call1 eTNet rfl rfl (fun w hw => cNt a2 c2 h2 o2.sl w (hT.below hw.below) (hw.rdH (by first | exact RdH.hd | exact RdH.hd.tl | exact RdH.hd.tl.tl | exact RdH.hd.tl.tl.tl | exact RdH.hd.tl.tl.tl.tl | exact RdH.hd.tl.tl.tl.tl.tl | exact RdH.hd.tl.tl.tl.tl.tl.tl | exact RdH.hd.tl.tl.tl.tl.tl.tl.tl | exact RdH.old (fun _ hh => hh) | assumption))) ?_; rintro _ hN2 ⟨ao, os, co, rfl, hni, tn⟩; have hE := fun w hw => eval_any s2 hok2 (k : Int) ao co os hN2 hni w hw; rw [hev _ tn] at hE) | (refine J.o 9 ?_; refine J.bl hΓ (fun x5 => ?_)) | (refine J.fc 20 ?_; refine J.call1 eForest rfl rfl (fun w hw => cFo x5 a2 c2 h2 o2.sl w (hw.rdH (RdH.append (by first | exact RdH.hd | exact RdH.hd.tl | exact RdH.hd.tl.tl | exact RdH.hd.tl.tl.tl | exact RdH.hd.tl.tl.tl.tl | exact RdH.hd.tl.tl.tl.tl.tl | exact RdH.hd.tl.tl.tl.tl.tl.tl | exact RdH.hd.tl.tl.tl.tl.tl.tl.tl | exact RdH.old (fun _ hh => hh) | assumption) (by first | exact RdH.hd | exact RdH.hd.tl | exact RdH.hd.tl.tl | exact RdH.hd.tl.tl.tl | exact RdH.hd.tl.tl.tl.tl | exact RdH.hd.tl.tl.tl.tl.tl | exact RdH.hd.tl.tl.tl.tl.tl.tl | exact RdH.hd.tl.tl.tl.tl.tl.tl.tl | exact RdH.old (fun _ hh => hh) | assumption)))) ?_; rintro _ hF2 ⟨ac, lc, cc, rfl, cE⟩) | (refine J.fc 21 ?_; refine J.call0 eCheck rfl rfl (fun w hw => cCk _ _ _ o2.sl w (hw.rdH (by first | exact RdH.hd | exact RdH.hd.tl | exact RdH.hd.tl.tl | exact RdH.hd.tl.tl.tl | exact RdH.hd.tl.tl.tl.tl | exact RdH.hd.tl.tl.tl.tl.tl | exact RdH.hd.tl.tl.tl.tl.tl.tl | exact RdH.hd.tl.tl.tl.tl.tl.tl.tl | exact RdH.old (fun _ hh => hh) | assumption))) ?_) | (refine J.fc 22 ?_; refine J.call0 eClassify rfl rfl (fun w hw => cCl _ _ _ o2.sl w (hw.rdH (by first | exact RdH.hd | exact RdH.hd.tl | exact RdH.hd.tl.tl | exact RdH.hd.tl.tl.tl | exact RdH.hd.tl.tl.tl.tl | exact RdH.hd.tl.tl.tl.tl.tl | exact RdH.hd.tl.tl.tl.tl.tl.tl | exact RdH.hd.tl.tl.tl.tl.tl.tl.tl | exact RdH.old (fun _ hh => hh) | assumption))) ?_) | (refine J.fc 23 ?_; refine J.call0 eEvalN rfl rfl (fun w hw => hE w (hw.rdH (by first | exact RdH.hd | exact RdH.hd.tl | exact RdH.hd.tl.tl | exact RdH.hd.tl.tl.tl | exact RdH.hd.tl.tl.tl.tl | exact RdH.hd.tl.tl.tl.tl.tl | exact RdH.hd.tl.tl.tl.tl.tl.tl | exact RdH.hd.tl.tl.tl.tl.tl.tl.tl | exact RdH.old (fun _ hh => hh) | assumption))) ?_) | (refine J.fc 24 ?_; refine J.call0 eEvalC rfl rfl (fun w hw => cE w (hw.rdH (by first | exact RdH.hd | exact RdH.hd.tl | exact RdH.hd.tl.tl | exact RdH.hd.tl.tl.tl | exact RdH.hd.tl.tl.tl.tl | exact RdH.hd.tl.tl.tl.tl.tl | exact RdH.hd.tl.tl.tl.tl.tl.tl | exact RdH.hd.tl.tl.tl.tl.tl.tl.tl | exact RdH.old (fun _ hh => hh) | assumption))) ?_) | (refine J.fc 7 ?_; refine J.call0 eWorks rfl rfl (fun w hw => works_any w) ?_)) | (first | (refine J.o 0 ?_; refine J.ev' hΓ ?_) | refine J.nil ?_ | (refine J.o 4 ?_; first | refine J.lR hΓ ?_) | (refine J.o 3 ?_; first | refine J.ev' hΓ ?_) | (refine J.o 1 ?_; first | refine J.ad ?_ | refine J.sb ?_ | refine J.mu ?_) | (refine J.o 5 ?_; first | refine J.t0 hΓ ?_ | refine J.t1 hΓ ?_) | (refine J.o 6 ?_; refine J.bx (fun _ => ?_)) | (refine J.o 7 ?_; refine J.al hΓ (fun _ => ?_)) | (refine J.o 8 ?_; refine J.bd hΓ ?_) | (refine J.o 9 ?_; refine J.bl hΓ (fun _ => ?_)) | (refine J.o 10 ?_; refine J.ev' hΓ ?_) | (refine J.o 11 ?_; refine J.ev' hΓ ?_)))
      | (first | refine JC.seq ?_ | refine JC.region ?_ | refine JC.block ?_ | refine JC.ret ?_ | refine JC.exit ?_ | refine JC.skip ?_ | refine thenK.nn ?_ | refine thenK.x ?_ | refine blockK.nn ?_ | refine blockK.hit rfl ?_ | (refine JC.cond rfl (fun hc => ?_) (fun hc => ?_) <;> ((try simp only [decide_eq_true_eq, decide_eq_false_iff_not, beq_iff_eq, beq_eq_false_iff_ne, bne_iff_ne, bne_eq_false_iff_eq, Bool.not_eq_true', Bool.not_eq_false', Bool.not_eq_true, Bool.not_eq_false] at hc) <;> first | (first | (exact absurd rfl hc) | (exfalso; omega) | (exact absurd (hc.symm.trans (by assumption : _ = false)) (by decide)) | (exact absurd (hc.symm.trans (by assumption : _ = true)) (by decide))) | skip)) | refine drawK.nn ?_ | refine loopK.x ?_)
      | ((refine JC.drawO [(1,0),(0,1),(1,2),(1,3),(2,4)] (by kernel_rfl) (by kernel_rfl) ?_))
      | fail
  all_goals first | (exfalso; omega) | exact ret1f rfl rfl rfl (fun w1 hw => ⟨rfl, hw.below⟩) | trace_state
end Go.Proofs.YtdiciemlbhkilaaGreatDoor
namespace Go.Proofs.YtdiciemlbhkilaaGreatDoor
open Go Go.Cx Go.RowKit
set_option linter.unusedVariables false
set_option linter.unusedSimpArgs false
set_option maxHeartbeats 4000000
attribute [local irreducible] J JC thenK blockK loopK roundK drawK retK QW Qt pel List.set Calls
theorem tab64_of_laid {W : World} (h : laidMetH Tryz.prog Rows.treeNetsRow.laid W) : Tab64 W := by
  rw [MakeChecks.laidMetH_plain _ _ _ (by kernel_rfl)] at h
  have h2 := h.tail
  exact Lib.tabIs_of_head (rest := [("internal/strconv.uint64pow10", Rows.laid_internal_strconv_uint64pow10), ("strconv.ErrRange", Rows.laid_strconv_ErrRange), ("strconv.ErrSyntax", Rows.laid_strconv_ErrSyntax)]) (g := 0) (by kernel_rfl) (by kernel_rfl) (Tryz.underlying166) Tryz.underlying5 (by kernel_rfl) (by kernel_rfl) h2
theorem treeWide_int (n : Int) (hn : (Lit.int .u8 n).wf = true) (s : Nat × Nat) (hok : okS s) (w : World) (hT : Tab w) (hT2 : Tab64 w) :
    Calls Tryz.prog 4 #[.int .u8 n, sv s] w fun e w' => e = .returned (.bool true) ∧ Below w.heap.size w w' := by
  obtain ⟨k, rfl, hk⟩ := u8_wf hn
  exact treeWide_walk k hk s hok w hT hT2
end Go.Proofs.YtdiciemlbhkilaaGreatDoor
