/- Add. -/
import Derived.Test.YtncnpmgohhgmfaaDoorNi
namespace Go.Proofs.YtncnpmgohhgmfaaDoor
open Go Go.Cx Go.RowKit
set_option linter.unusedVariables false
set_option linter.unusedSimpArgs false
set_option maxHeartbeats 4000000
attribute [local irreducible] J JC thenK blockK loopK roundK drawK retK QW Qt pel List.set Calls
attribute [local irreducible] JE Br eK0 eK2 eK3 brK
/-- the nodes of a builder, plainly -/
structure OkX (m : Nat) (x : PN) : Prop where
  k : 0 ≤ x.1 ∧ x.1 ≤ 4
  t : -128 ≤ x.2.1 ∧ x.2.1 ≤ 128
  z : x.1 = 2 → x.2.1 ≠ 0
  s : x.2.2.Pairwise (· < ·)
  r : ∀ i, i ∈ x.2.2 → 0 ≤ i ∧ i < m
def OkP (B : List PN) : Prop := ∀ x, x ∈ B → OkX B.length x
theorem OkX.mono {m m' : Nat} {x : PN} (h : OkX m x) (hm : m ≤ m') : OkX m' x := ⟨h.k, h.t, h.z, h.s, fun i hi => by have := h.r i hi; omega⟩
theorem asc_len : ∀ (l : List Int) (lo hi : Int), lo ≤ hi → l.Pairwise (· < ·) → (∀ i, i ∈ l → lo ≤ i ∧ i < hi) → (l.length : Int) ≤ hi - lo
  | [], lo, hi, h, _, _ => by simp only [List.length_nil]; omega
  | x :: l, lo, hi, h, hp, hr => by
    rw [List.pairwise_cons] at hp
    have hx := hr x List.mem_cons_self
    have := asc_len l (x + 1) hi (by omega) hp.2 fun i hi2 => ⟨by have := hp.1 i hi2; omega, (hr i (List.mem_cons_of_mem _ hi2)).2⟩
    rw [List.length_cons]
    omega
theorem OkX.len {m : Nat} {x : PN} (h : OkX m x) : x.2.2.length ≤ m := by
  have := asc_len x.2.2 0 m (by omega) h.s h.r
  omega
theorem OkP.okB {vs : List NV} (h : OkP (vs.map pnV)) (hl : vs.length ≤ 65536) : OkB vs := by
  constructor
  · intro v hv
    have hx := h (pnV v) (List.mem_map_of_mem hv)
    rw [List.length_map] at hx
    have hln := hx.len
    exact ⟨hx.k, hx.t, (by have : v.l.length ≤ vs.length := hln; omega), fun k hk => by have := hx.r k hk; omega⟩
  · intro v hv
    have hx := h (pnV v) (List.mem_map_of_mem hv)
    rw [List.length_map] at hx
    exact hx.r
theorem OkP.put {B : List PN} (h : OkP B) {x : PN} (hx : OkX B.length x) : OkP (putP B x).2 ∧ B.length ≤ (putP B x).2.length ∧ (putP B x).2.length ≤ B.length + 1 ∧ 0 ≤ (putP B x).1 ∧ (putP B x).1 < (putP B x).2.length := by
  unfold putP
  by_cases hm : x ∈ B
  · rw [if_pos hm]
    have := idx_nat B x hm
    exact ⟨h, Nat.le_refl _, Nat.le_succ _, this.1, this.2⟩
  · rw [if_neg hm]
    refine ⟨fun y hy => ?_, ?_, ?_, ?_, ?_⟩
    · rw [List.length_append]
      rcases List.mem_append.1 hy with hy | hy
      · exact (h y hy).mono (Nat.le_add_right _ _)
      · rw [List.mem_singleton.1 hy]; exact hx.mono (Nat.le_add_right _ _)
    all_goals (simp only [List.length_append, List.length_cons, List.length_nil]; omega)
theorem okX_const {m : Nat} {k : Int} (hk : 0 ≤ k ∧ k ≤ 4) (h2 : k ≠ 2) : OkX m (k, 0, []) := ⟨hk, ⟨(by decide : (-128 : Int) ≤ 0), (by decide : (0 : Int) ≤ 128)⟩, fun h => absurd h h2, List.Pairwise.nil, fun i hi => absurd hi List.not_mem_nil⟩
theorem sorted_lt {l : List Int} (h : l.Pairwise (· ≤ ·)) (hn : l.Nodup) : l.Pairwise (· < ·) := by
  induction l with
  | nil => exact List.Pairwise.nil
  | cons x l ih =>
    rw [List.pairwise_cons] at h
    rw [List.nodup_cons] at hn
    refine List.pairwise_cons.2 ⟨fun y hy => ?_, ih h.2 hn.2⟩
    have := h.1 y hy
    have : x ≠ y := fun e => hn.1 (e ▸ hy)
    omega
theorem flat_rng {B : List PN} (h : OkP B) (kind : Int) {l : List Int} (hl : ∀ i, i ∈ l → 0 ≤ i ∧ i < B.length) : ∀ i, i ∈ flatP B kind l → 0 ≤ i ∧ i < B.length := fun i hi => by
  unfold flatP at hi
  obtain ⟨j, hj, hi⟩ := List.mem_flatMap.1 hi
  have hjr := hl j hj
  split at hi
  · have hm := mem_g B j.toNat (by omega)
    exact (h _ hm).r i hi
  · rw [List.mem_singleton.1 hi]; exact hjr
theorem lit_ne {B : List PN} (h : OkP B) : ∀ i, kindP B i = 2 → litP B i ≠ 0 := fun i hk => by
  unfold kindP at hk
  unfold litP
  by_cases hi : i.toNat < B.length
  · exact (h _ (mem_g B _ hi)).z hk
  · rw [List.getD_eq_getElem?_getD, List.getElem?_eq_none (by omega)] at hk
    exact absurd hk (by decide)
def dropK (kind : Int) : Int := if kind = 4 then 0 else 1
def endK (kind : Int) : Int := if kind = 4 then 1 else 0
theorem add_const {B : List PN} {x : PN} (hx : x.1 ≠ 3 ∧ x.1 ≠ 4) : addP B x = putP B (x.1, x.2.1, []) := by
  unfold addP; rw [if_pos hx]
theorem add_gate {B : List PN} (h : OkP B) {kind lt : Int} {l : List Int} (hk : kind = 3 ∨ kind = 4) (s : St) (hs : s = (flatP B kind l).foldl (addS B (dropK kind) (endK kind)) ⟨[], [], true⟩) :
    addP B (kind, lt, l) = (if s.open_ = true then (if s.out.length = 0 then putP B (dropK kind, 0, []) else if s.out.length = 1 then ((sortS s.out).getD 0 default, B) else putP B (kind, 0, sortS s.out)) else putP B (endK kind, 0, [])) := by
  have ag := agree_all (B := B) (drop := dropK kind) (end_ := endK kind) (by unfold dropK endK; split <;> decide) (by unfold dropK; split <;> decide) (lit_ne h) (flatP B kind l)
  rw [← hs] at ag
  have hn : ¬ (kind ≠ 3 ∧ kind ≠ 4) := by omega
  have hA : addP B (kind, lt, l) = (if decR B (inputsR B kind (dropK kind) l) (endK kind) = true then putP B (endK kind, 0, []) else match inputsR B kind (dropK kind) l with
      | [] => putP B (dropK kind, 0, [])
      | [y] => (y, B)
      | _ => putP B (kind, 0, sortS (inputsR B kind (dropK kind) l))) := by
    unfold addP
    rw [if_neg hn]
    rfl
  rw [hA]
  have e1 : inputsR B kind (dropK kind) l = (flatP B kind l).foldl (dedS B (dropK kind)) [] := rfl
  rw [e1]
  generalize (flatP B kind l).foldl (dedS B (dropK kind)) [] = D at *
  cases hd : decR B D (endK kind) with
  | true =>
    have : s.open_ = false := by rw [ag.op, hd]; rfl
    rw [this, if_pos rfl, if_neg (by decide)]
  | false =>
    have ho : s.open_ = true := by rw [ag.op, hd]; rfl
    rw [ho, if_neg (by decide), if_pos rfl, ← ag.eq ho]
    rcases hl : s.out with _ | ⟨y, _ | ⟨z, t⟩⟩
    · rfl
    · rfl
    · rfl
theorem out_facts {B : List PN} (h : OkP B) {kind : Int} {l : List Int} (hl : ∀ i, i ∈ l → 0 ≤ i ∧ i < B.length) (s : St) (hs : s = (flatP B kind l).foldl (addS B (dropK kind) (endK kind)) ⟨[], [], true⟩) (ho : s.open_ = true) :
    (sortS s.out).Pairwise (· < ·) ∧ (∀ i, i ∈ sortS s.out ↔ i ∈ flatP B kind l ∧ kindP B i ≠ dropK kind) ∧ ∀ i, i ∈ sortS s.out → 0 ≤ i ∧ i < B.length := by
  have ag := agree_all (B := B) (drop := dropK kind) (end_ := endK kind) (by unfold dropK endK; split <;> decide) (by unfold dropK; split <;> decide) (lit_ne h) (flatP B kind l)
  rw [← hs] at ag
  have e := ag.eq ho
  have hm : ∀ i, i ∈ sortS s.out ↔ i ∈ flatP B kind l ∧ kindP B i ≠ dropK kind := fun i => by
    rw [(sortS_perm s.out).mem_iff, e]; exact ag.mem i
  refine ⟨sorted_lt (sortS_sorted _) ((sortS_perm s.out).nodup_iff.2 (e ▸ ag.nd)), hm, fun i hi => flat_rng h kind hl i ((hm i).1 hi).1⟩
theorem formed_rng {x : PN} {N m : Int} (hf : formedP x N m = true) : ∀ i, i ∈ x.2.2 → 0 ≤ i ∧ i < m := fun i hi => by
  unfold formedP at hf
  simp only [Bool.and_eq_true, Bool.not_eq_true'] at hf
  have := List.any_eq_false.1 hf.1 i hi
  unfold badI at this
  simp only [Bool.or_eq_true, decide_eq_true_eq] at this
  omega
theorem formed_const {x : PN} {N : Int} {bf : Int} {m : Nat} (hN : 0 ≤ N ∧ N ≤ 128) (hf : formedP x N bf = true) (hk : ¬ (x.1 = 3 ∨ x.1 = 4)) : OkX m (x.1, x.2.1, []) := by
  obtain ⟨kind, lt, l⟩ := x
  unfold formedP at hf
  simp only [Bool.and_eq_true, Bool.not_eq_true'] at hf
  obtain ⟨hf1, hf2⟩ := hf
  simp only at hk hf2 ⊢
  rw [if_neg hk] at hf2
  split at hf2
  · simp only [Bool.and_eq_true, decide_eq_true_eq] at hf2
    rw [hf2.1]
    exact okX_const (by omega) (by omega)
  · split at hf2
    · simp only [Bool.and_eq_true, validB, decide_eq_true_eq] at hf2
      have hl := hf2.1
      exact ⟨⟨by show 0 ≤ kind; omega, by show kind ≤ 4; omega⟩, ⟨by show -128 ≤ lt; omega, by show lt ≤ 128; omega⟩, fun _ => hl.1, List.Pairwise.nil, fun i hi => absurd hi List.not_mem_nil⟩
    · cases hf2
/-- what Add keeps -/
theorem OkP.add {B : List PN} (h : OkP B) {N : Int} (hN : 0 ≤ N ∧ N ≤ 128) {x : PN} (hf : formedP x N B.length = true) : OkP (addP B x).2 ∧ B.length ≤ (addP B x).2.length ∧ (addP B x).2.length ≤ B.length + 1 ∧ 0 ≤ (addP B x).1 ∧ (addP B x).1 < (addP B x).2.length := by
  have hr := formed_rng hf
  have hc := fun hk => formed_const (m := B.length) hN hf hk
  obtain ⟨kind, lt, l⟩ := x
  simp only at hr hc
  by_cases hk : kind = 3 ∨ kind = 4
  case neg =>
    rw [add_const (x := (kind, lt, l)) ⟨fun e => hk (.inl e), fun e => hk (.inr e)⟩]
    exact h.put (hc hk)
  rw [add_gate h hk _ rfl]
  generalize hs : (flatP B kind l).foldl (addS B (dropK kind) (endK kind)) ⟨[], [], true⟩ = s
  have hdk : 0 ≤ dropK kind ∧ dropK kind ≤ 1 := by unfold dropK; split <;> decide
  have hek : 0 ≤ endK kind ∧ endK kind ≤ 1 := by unfold endK; split <;> decide
  by_cases ho : s.open_ = true
  case neg => rw [if_neg ho]; exact h.put (okX_const (by omega) (by omega))
  have of := out_facts h hr s hs.symm ho
  have hln := sortS_len s.out
  rw [if_pos ho]
  split
  · exact h.put (okX_const (by omega) (by omega))
  · split
    · have hm := mem_g (sortS s.out) 0 (by omega)
      have := of.2.2 _ hm
      exact ⟨h, Nat.le_refl _, Nat.le_succ _, this.1, this.2⟩
    · refine h.put ⟨by show 0 ≤ kind ∧ kind ≤ 4; omega, ⟨(by decide : (-128 : Int) ≤ 0), (by decide : (0 : Int) ≤ 128)⟩, fun e => ?_, of.1, of.2.2⟩
      have e : kind = 2 := e
      omega
end Go.Proofs.YtncnpmgohhgmfaaDoor
