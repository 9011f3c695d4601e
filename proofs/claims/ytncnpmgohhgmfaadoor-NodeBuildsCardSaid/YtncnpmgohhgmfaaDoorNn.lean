/- Reduce. -/
import Derived.Test.YtncnpmgohhgmfaaDoorNm
namespace Go.Proofs.YtncnpmgohhgmfaaDoor
open Go Go.Cx Go.RowKit
set_option linter.unusedVariables false
set_option linter.unusedSimpArgs false
set_option maxHeartbeats 4000000
attribute [local irreducible] J JC thenK blockK loopK roundK drawK retK QW Qt pel List.set Calls
attribute [local irreducible] JE Br eK0 eK2 eK3 brK
theorem Ord.put {B : List PN} (h : Ord B) {x : PN} (hx : ∀ i, i ∈ x.2.2 → 0 ≤ i ∧ i < B.length) : Ord (putP B x).2 := by
  unfold putP
  split
  · exact h
  · intro i k hk
    show 0 ≤ k ∧ k < (i : Int)
    have hk : k ∈ ((B ++ [x]).getD (i : Int).toNat default).2.2 := hk
    rw [Int.toNat_natCast, List.getD_eq_getElem?_getD] at hk
    rcases Nat.lt_trichotomy i B.length with h1 | h1 | h1
    · rw [List.getElem?_append_left h1, ← List.getD_eq_getElem?_getD] at hk
      exact h i k (by unfold inP; rw [Int.toNat_natCast]; exact hk)
    · subst h1
      rw [List.getElem?_append_right (Nat.le_refl _), Nat.sub_self] at hk
      exact hx k hk
    · rw [List.getElem?_eq_none (by simp; omega)] at hk
      exact absurd hk List.not_mem_nil
/-- what Add does: an index that is there, or a node put in -/
theorem add_cases {B : List PN} (h : OkP B) {N : Int} (hN : 0 ≤ N ∧ N ≤ 128) {x : PN} (hf : formedP x N B.length = true) : (∃ y, addP B x = (y, B) ∧ 0 ≤ y ∧ y < B.length) ∨ ∃ z, addP B x = putP B z ∧ OkX B.length z := by
  have hr := formed_rng hf
  have hc := fun hk => formed_const (m := B.length) hN hf hk
  obtain ⟨kind, lt, l⟩ := x
  simp only at hr hc
  by_cases hk : kind = 3 ∨ kind = 4
  case neg =>
    rw [add_const (x := (kind, lt, l)) ⟨fun e => hk (.inl e), fun e => hk (.inr e)⟩]
    exact .inr ⟨_, rfl, hc hk⟩
  rw [add_gate h hk _ rfl]
  generalize hs : (flatP B kind l).foldl (addS B (dropK kind) (endK kind)) ⟨[], [], true⟩ = s
  have hdk : 0 ≤ dropK kind ∧ dropK kind ≤ 1 := by unfold dropK; split <;> decide
  have hek : 0 ≤ endK kind ∧ endK kind ≤ 1 := by unfold endK; split <;> decide
  by_cases ho : s.open_ = true
  case neg => rw [if_neg ho]; exact .inr ⟨_, rfl, okX_const (by omega) (by omega)⟩
  have of := out_facts h hr s hs.symm ho
  have hln := sortS_len s.out
  rw [if_pos ho]
  split
  · exact .inr ⟨_, rfl, okX_const (by omega) (by omega)⟩
  · split
    · have hm := mem_g (sortS s.out) 0 (by omega)
      have := of.2.2 _ hm
      exact .inl ⟨_, rfl, this.1, this.2⟩
    · refine .inr ⟨_, rfl, ⟨by show 0 ≤ kind ∧ kind ≤ 4; omega, ⟨(by decide : (-128 : Int) ≤ 0), (by decide : (0 : Int) ≤ 128)⟩, fun e => ?_, of.1, of.2.2⟩⟩
      have e : kind = 2 := e
      omega
theorem Ord.add {B : List PN} (h : OkP B) (ho : Ord B) {N : Int} (hN : 0 ≤ N ∧ N ≤ 128) {x : PN} (hf : formedP x N B.length = true) : Ord (addP B x).2 := by
  rcases add_cases h hN hf with ⟨y, e, _⟩ | ⟨z, e, hz⟩
  · rw [e]; exact ho
  · rw [e]; exact ho.put hz.r
/-- one node of a net that is reduced -/
def redY (at_ : List Int) (x : PN) : PN := (x.1, x.2.1, x.2.2.map fun k => at_.getD k.toNat default)
def redS (s : List PN × List Int) (x : PN) : List PN × List Int := ((addP s.1 (redY s.2 x)).2, s.2 ++ [(addP s.1 (redY s.2 x)).1])
def redT (X : List PN) : List PN × List Int := X.foldl redS ([], [])
/-- P20.3 -/
def redP (X : List PN) : List PN := netP (redT X).1 ((redT X).2.getD (X.length - 1) default).toNat
structure RedI (s : List PN × List Int) (k : Nat) : Prop where
  ok : OkP s.1
  od : Ord s.1
  le : s.1.length ≤ k
  ln : s.2.length = k
  rg : ∀ j, j < k → 0 ≤ s.2.getD j default ∧ s.2.getD j default < s.1.length
theorem RedI.nil : RedI ([], []) 0 := ⟨fun x hx => absurd hx List.not_mem_nil, fun i k hk => absurd hk List.not_mem_nil, Nat.le_refl _, rfl, fun j hj => absurd hj (Nat.not_lt_zero _)⟩
theorem RedI.form {s : List PN × List Int} {k : Nat} (h : RedI s k) {N : Int} {x : PN} (hf : formedP x N k = true) : formedP (redY s.2 x) N s.1.length = true := by
  have hr := formed_rng hf
  unfold formedP at hf ⊢
  simp only [Bool.and_eq_true, Bool.not_eq_true'] at hf ⊢
  refine ⟨?_, ?_⟩
  · rw [List.any_eq_false]
    intro i hi
    obtain ⟨q, hq, rfl⟩ := List.mem_map.1 hi
    have := hr q hq
    have := h.rg q.toNat (by omega)
    unfold badI
    simp only [Bool.or_eq_true, decide_eq_true_eq]
    omega
  · unfold redY
    simp only [List.length_map]
    exact hf.2
theorem RedI.step {s : List PN × List Int} {k : Nat} (h : RedI s k) {N : Int} (hN : 0 ≤ N ∧ N ≤ 128) {x : PN} (hf : formedP x N k = true) : RedI (redS s x) (k + 1) := by
  have hy := h.form hf
  have ha := h.ok.add hN hy
  have hl := h.le
  have hn := h.ln
  refine ⟨ha.1, Ord.add h.ok h.od hN hy, ?_, ?_, fun j hj => ?_⟩
  · show (addP s.1 (redY s.2 x)).2.length ≤ k + 1; omega
  · show (s.2 ++ [_]).length = k + 1; rw [List.length_append, h.ln]; rfl
  · show 0 ≤ (s.2 ++ [(addP s.1 (redY s.2 x)).1]).getD j default ∧ (s.2 ++ [(addP s.1 (redY s.2 x)).1]).getD j default < ((addP s.1 (redY s.2 x)).2.length : Int)
    rw [List.getD_eq_getElem?_getD]
    by_cases hjk : j < k
    · rw [List.getElem?_append_left (by omega), ← List.getD_eq_getElem?_getD]
      have := h.rg j hjk
      omega
    · rw [List.getElem?_append_right (by omega), show j - s.2.length = 0 by omega]
      show 0 ≤ (addP s.1 (redY s.2 x)).1 ∧ (addP s.1 (redY s.2 x)).1 < _
      omega
theorem formAll_at (N : Int) : ∀ (B : List PN) (k : Int), formAll N B k = true → ∀ j, j < B.length → formedP (B.getD j default) N (k + j) = true
  | [], k, _, j, hj => absurd hj (Nat.not_lt_zero _)
  | x :: B, k, h, j, hj => by
    unfold formAll at h
    rw [Bool.and_eq_true] at h
    cases j with
    | zero => rw [Int.natCast_zero, Int.add_zero]; exact h.1
    | succ j =>
      have := formAll_at N B (k + 1) h.2 j (by rw [List.length_cons] at hj; omega)
      rw [show k + ((j + 1 : Nat) : Int) = k + 1 + (j : Int) by omega]
      exact this
theorem redI_all {N : Int} (hN : 0 ≤ N ∧ N ≤ 128) {X : List PN} (hf : formAll N X 0 = true) : ∀ k, k ≤ X.length → RedI (redT (X.take k)) k := fun k => by
  induction k with
  | zero => intro _; exact RedI.nil
  | succ k ih =>
    intro hk
    have h1 := ih (by omega)
    have h2 := formAll_at N X 0 hf k (by omega)
    rw [Int.zero_add] at h2
    unfold redT at h1 ⊢
    rw [take_g X k (by omega), List.foldl_append]
    exact h1.step hN h2
theorem check_facts {N : Int} {X : List PN} (h : checkP N X = true) : (0 ≤ N ∧ N ≤ 128) ∧ (1 ≤ X.length ∧ X.length ≤ 65536) ∧ formAll N X 0 = true := by
  unfold checkP at h
  simp only [Bool.and_eq_true, decide_eq_true_eq] at h
  exact ⟨h.1, h.2.1, h.2.2⟩
end Go.Proofs.YtncnpmgohhgmfaaDoor
