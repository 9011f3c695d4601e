/- Nets: plain. What builders do, on both sides. -/
import Derived.Test.YtncnpmgohhgmfaaDoorNa
namespace Go.Proofs.YtncnpmgohhgmfaaDoor
open Go Go.Cx Go.RowKit
set_option linter.unusedVariables false
set_option linter.unusedSimpArgs false
set_option maxHeartbeats 4000000
attribute [local irreducible] J JC thenK blockK loopK roundK drawK retK QW Qt pel List.set Calls
/-- a node: kind, literal, inputs -/
abbrev PN := Int × Int × List Int
/-- where an element stands -/
def idxP : List PN → PN → Int → Int
  | [], _, _ => -1
  | y :: B, x, k => if y = x then k else idxP B x (k + 1)
theorem idxP_nn (x : PN) : ∀ (B : List PN) (k : Int), 0 ≤ k → (0 ≤ idxP B x k ↔ x ∈ B)
  | [], k, h => by simp [idxP]
  | y :: B, k, h => by
    unfold idxP
    by_cases e : y = x
    · rw [if_pos e]; simp [e, h]
    · rw [if_neg e, idxP_nn x B (k + 1) (by omega)]; simp [Ne.symm e]
theorem idxP_bd (x : PN) : ∀ (B : List PN) (k : Int), x ∈ B → k ≤ idxP B x k ∧ idxP B x k < k + B.length
  | [], k, h => by cases h
  | y :: B, k, h => by
    unfold idxP
    simp only [List.length_cons]
    by_cases e : y = x
    · rw [if_pos e]; omega
    · rw [if_neg e]
      have := idxP_bd x B (k + 1) (by rcases List.mem_cons.1 h with h | h; exact absurd h.symm e; exact h)
      omega
theorem idxP_at (x : PN) : ∀ (B : List PN) (k : Int), x ∈ B → B.getD (idxP B x k - k).toNat default = x
  | [], k, h => by cases h
  | y :: B, k, h => by
    unfold idxP
    by_cases e : y = x
    · rw [if_pos e, Int.sub_self]; exact e
    · rw [if_neg e]
      have hm : x ∈ B := by rcases List.mem_cons.1 h with h | h; exact absurd h.symm e; exact h
      have hb := idxP_bd x B (k + 1) hm
      have ih := idxP_at x B (k + 1) hm
      rw [show (idxP B x (k + 1) - k).toNat = (idxP B x (k + 1) - (k + 1)).toNat + 1 by omega]
      exact ih
/-- a node put in: its index, and the nodes -/
def putP (B : List PN) (x : PN) : Int × List PN := if x ∈ B then (idxP B x 0, B) else ((B.length : Int), B ++ [x])
def kindP (B : List PN) (i : Int) : Int := (B.getD i.toNat default).1
def litP (B : List PN) (i : Int) : Int := (B.getD i.toNat default).2.1
def inP (B : List PN) (i : Int) : List Int := (B.getD i.toNat default).2.2
/-- inputs, those of the kind in their place -/
def flatP (B : List PN) (kind : Int) (l : List Int) : List Int := l.flatMap fun i => if kindP B i = kind then inP B i else [i]
/-- the program's way: what is kept, the literals, nothing decides -/
structure St where
  out : List Int
  lits : List Int
  open_ : Bool
def addS (B : List PN) (drop end_ : Int) (s : St) (i : Int) : St :=
  let bad := decide (kindP B i = end_) || (decide (kindP B i = 2) && s.lits.contains (-(litP B i)))
  ⟨if bad = false ∧ kindP B i ≠ drop ∧ i ∉ s.out then s.out ++ [i] else s.out, if kindP B i = 2 then litP B i :: s.lits else s.lits, s.open_ && !bad⟩
def inputsS (B : List PN) (kind drop end_ : Int) (l : List Int) : St := (flatP B kind l).foldl (addS B drop end_) ⟨[], [], true⟩
/-- the document's way -/
def dedS (B : List PN) (drop : Int) (out : List Int) (i : Int) : List Int := if kindP B i ≠ drop ∧ i ∉ out then out ++ [i] else out
def inputsR (B : List PN) (kind drop : Int) (l : List Int) : List Int := (flatP B kind l).foldl (dedS B drop) []
def decR (B : List PN) (l : List Int) (end_ : Int) : Bool := l.any fun i => decide (kindP B i = end_) || l.any fun k => decide (kindP B i = 2) && decide (kindP B k = 2) && decide (litP B i = -(litP B k))
theorem dec_iff (B : List PN) (l : List Int) (e : Int) : decR B l e = true ↔ ∃ i, i ∈ l ∧ (kindP B i = e ∨ ∃ k, k ∈ l ∧ kindP B i = 2 ∧ kindP B k = 2 ∧ litP B i = -(litP B k)) := by
  unfold decR
  simp only [List.any_eq_true, Bool.or_eq_true, Bool.and_eq_true, decide_eq_true_eq]
  constructor
  · rintro ⟨i, hi, h⟩
    refine ⟨i, hi, ?_⟩
    rcases h with h | ⟨k, hk, ⟨h1, h2⟩, h3⟩
    · exact .inl h
    · exact .inr ⟨k, hk, h1, h2, h3⟩
  · rintro ⟨i, hi, h⟩
    refine ⟨i, hi, ?_⟩
    rcases h with h | ⟨k, hk, h1, h2, h3⟩
    · exact .inl h
    · exact .inr ⟨k, hk, ⟨h1, h2⟩, h3⟩
theorem ded_mem {B : List PN} {drop : Int} {out : List Int} {i x : Int} : x ∈ dedS B drop out i ↔ x ∈ out ∨ (x = i ∧ kindP B i ≠ drop) := by
  unfold dedS
  by_cases h : kindP B i ≠ drop ∧ i ∉ out
  · rw [if_pos h, List.mem_append, List.mem_singleton]
    constructor
    · rintro (h1 | h1)
      · exact .inl h1
      · exact .inr ⟨h1, h.1⟩
    · rintro (h1 | h1)
      · exact .inl h1
      · exact .inr h1.1
  · rw [if_neg h]
    refine ⟨.inl, ?_⟩
    rintro (h1 | ⟨rfl, h2⟩)
    · exact h1
    · exact Decidable.byContradiction fun h3 => h ⟨h2, h3⟩
theorem ded_nodup {B : List PN} {drop : Int} {out : List Int} {i : Int} (h : out.Nodup) : (dedS B drop out i).Nodup := by
  unfold dedS
  split
  · rename_i hc
    rw [List.nodup_append]
    exact ⟨h, by simp, fun a ha b hb => by rw [List.mem_singleton.1 hb]; exact fun e => hc.2 (e ▸ ha)⟩
  · exact h
/-- both ways agree -/
structure Agree (B : List PN) (drop end_ : Int) (fl : List Int) (s : St) (out : List Int) : Prop where
  op : s.open_ = !decR B out end_
  eq : s.open_ = true → s.out = out
  lits : ∀ x, x ∈ s.lits ↔ ∃ i, i ∈ fl ∧ kindP B i = 2 ∧ litP B i = x
  mem : ∀ x, x ∈ out ↔ x ∈ fl ∧ kindP B x ≠ drop
  nd : out.Nodup
theorem Agree.nil (B : List PN) (drop end_ : Int) : Agree B drop end_ [] ⟨[], [], true⟩ [] := ⟨rfl, fun _ => rfl, by simp, by simp, List.nodup_nil⟩
theorem Agree.step {B : List PN} {drop end_ : Int} (hde : drop ≠ end_) (hd2 : drop ≠ 2) (hl : ∀ i, kindP B i = 2 → litP B i ≠ 0) {fl : List Int} {s : St} {out : List Int} (h : Agree B drop end_ fl s out) (i : Int) : Agree B drop end_ (fl ++ [i]) (addS B drop end_ s i) (dedS B drop out i) := by
  obtain ⟨h1, h2, h3, h4, h5⟩ := h
  have hmem : ∀ x, x ∈ dedS B drop out i ↔ x ∈ fl ++ [i] ∧ kindP B x ≠ drop := fun x => by
    rw [ded_mem, h4, List.mem_append, List.mem_singleton]
    constructor
    · rintro (⟨a, b⟩ | ⟨rfl, b⟩)
      · exact ⟨.inl a, b⟩
      · exact ⟨.inr rfl, b⟩
    · rintro ⟨a | rfl, b⟩
      · exact .inl ⟨a, b⟩
      · exact .inr ⟨rfl, b⟩
  have hlits : ∀ x, x ∈ (addS B drop end_ s i).lits ↔ ∃ j, j ∈ fl ++ [i] ∧ kindP B j = 2 ∧ litP B j = x := fun x => by
    show x ∈ (if kindP B i = 2 then litP B i :: s.lits else s.lits) ↔ _
    by_cases hk : kindP B i = 2
    · rw [if_pos hk, List.mem_cons, h3]
      constructor
      · rintro (rfl | ⟨j, a, b, c⟩)
        · exact ⟨i, by simp, hk, rfl⟩
        · exact ⟨j, List.mem_append_left _ a, b, c⟩
      · rintro ⟨j, a, b, c⟩
        rcases List.mem_append.1 a with a | a
        · exact .inr ⟨j, a, b, c⟩
        · rw [List.mem_singleton.1 a] at c; exact .inl c.symm
    · rw [if_neg hk, h3]
      constructor
      · rintro ⟨j, a, b, c⟩; exact ⟨j, List.mem_append_left _ a, b, c⟩
      · rintro ⟨j, a, b, c⟩
        rcases List.mem_append.1 a with a | a
        · exact ⟨j, a, b, c⟩
        · rw [List.mem_singleton.1 a] at b; exact absurd b hk
  have hbad : (decide (kindP B i = end_) || (decide (kindP B i = 2) && s.lits.contains (-(litP B i)))) = true ↔ kindP B i = end_ ∨ (kindP B i = 2 ∧ ∃ j, j ∈ fl ∧ kindP B j = 2 ∧ litP B j = -(litP B i)) := by
    simp only [Bool.or_eq_true, Bool.and_eq_true, decide_eq_true_eq, List.contains_iff_mem, h3]
  have hdec : decR B (dedS B drop out i) end_ = true ↔ decR B out end_ = true ∨ kindP B i = end_ ∨ (kindP B i = 2 ∧ ∃ j, j ∈ fl ∧ kindP B j = 2 ∧ litP B j = -(litP B i)) := by
    rw [dec_iff, dec_iff]
    constructor
    · rintro ⟨a, ha, hx⟩
      rw [ded_mem] at ha
      rcases hx with hx | ⟨k, hk, k1, k2, k3⟩
      · rcases ha with ha | ⟨rfl, _⟩
        · exact .inl ⟨a, ha, .inl hx⟩
        · exact .inr (.inl hx)
      · rw [ded_mem] at hk
        rcases ha with ha | ⟨rfl, _⟩
        · rcases hk with hk | ⟨rfl, _⟩
          · exact .inl ⟨a, ha, .inr ⟨k, hk, k1, k2, k3⟩⟩
          · exact .inr (.inr ⟨k2, a, ((h4 a).1 ha).1, k1, k3⟩)
        · rcases hk with hk | ⟨rfl, _⟩
          · exact .inr (.inr ⟨k1, k, ((h4 k).1 hk).1, k2, by omega⟩)
          · have := hl _ k1; omega
    · rintro (⟨a, ha, hx⟩ | hx | ⟨hk, j, hj, j1, j2⟩)
      · refine ⟨a, ded_mem.2 (.inl ha), ?_⟩
        rcases hx with hx | ⟨k, hk, k1, k2, k3⟩
        · exact .inl hx
        · exact .inr ⟨k, ded_mem.2 (.inl hk), k1, k2, k3⟩
      · exact ⟨i, ded_mem.2 (.inr ⟨rfl, by rw [hx]; exact fun e => hde e.symm⟩), .inl hx⟩
      · exact ⟨i, ded_mem.2 (.inr ⟨rfl, by rw [hk]; exact fun e => hd2 e.symm⟩), .inr ⟨j, ded_mem.2 (.inl ((h4 j).2 ⟨hj, by rw [j1]; exact fun e => hd2 e.symm⟩)), hk, j1, by omega⟩⟩
  have hop : (addS B drop end_ s i).open_ = (s.open_ && !(decide (kindP B i = end_) || (decide (kindP B i = 2) && s.lits.contains (-(litP B i))))) := rfl
  have hout : (addS B drop end_ s i).out = if (decide (kindP B i = end_) || (decide (kindP B i = 2) && s.lits.contains (-(litP B i)))) = false ∧ kindP B i ≠ drop ∧ i ∉ s.out then s.out ++ [i] else s.out := rfl
  generalize (decide (kindP B i = end_) || (decide (kindP B i = 2) && s.lits.contains (-(litP B i)))) = bad at *
  refine ⟨?_, fun ho => ?_, hlits, hmem, ded_nodup h5⟩
  · rw [hop, h1]
    cases hd : decR B (dedS B drop out i) end_ with
    | true =>
      rcases hdec.1 hd with h6 | h6
      · rw [h6]; rfl
      · rw [hbad.2 h6]; cases decR B out end_ <;> rfl
    | false =>
      have h6 : decR B out end_ = false := by
        cases h7 : decR B out end_ with
        | false => rfl
        | true => rw [hdec.2 (.inl h7)] at hd; cases hd
      have h7 : bad = false := by
        cases h8 : bad with
        | false => rfl
        | true => rw [hdec.2 (.inr (hbad.1 h8))] at hd; cases hd
      rw [h6, h7]; rfl
  · rw [hop, Bool.and_eq_true] at ho
    have hb : bad = false := by simpa using ho.2
    rw [hout, h2 ho.1]
    unfold dedS
    by_cases hc : kindP B i ≠ drop ∧ i ∉ out
    · rw [if_pos ⟨hb, hc⟩, if_pos hc]
    · rw [if_neg (fun h => hc h.2), if_neg hc]
theorem agree_all {B : List PN} {drop end_ : Int} (hde : drop ≠ end_) (hd2 : drop ≠ 2) (hl : ∀ i, kindP B i = 2 → litP B i ≠ 0) (fl : List Int) : Agree B drop end_ fl (fl.foldl (addS B drop end_) ⟨[], [], true⟩) (fl.foldl (dedS B drop) []) := by
  have key : ∀ (e d : List Int) (s : St) (out : List Int), Agree B drop end_ d s out → Agree B drop end_ (d ++ e) (e.foldl (addS B drop end_) s) (e.foldl (dedS B drop) out) := fun e => by
    induction e with
    | nil => intro d s out h; simpa using h
    | cons x e ih =>
      intro d s out h
      have := ih (d ++ [x]) _ _ (h.step hde hd2 hl x)
      rw [List.append_assoc] at this
      exact this
  exact key fl [] _ _ (Agree.nil B drop end_)
/-- numbers put in their place -/
def insS : List Int → Int → List Int
  | [], x => [x]
  | y :: l, x => if x < y then x :: y :: l else y :: insS l x
def sortS (l : List Int) : List Int := l.foldl insS []
/-- what a builder answers -/
def addP (B : List PN) (x : PN) : Int × List PN :=
  if x.1 ≠ 3 ∧ x.1 ≠ 4 then putP B (x.1, x.2.1, [])
  else
    let drop : Int := if x.1 = 4 then 0 else 1
    let end_ : Int := if x.1 = 4 then 1 else 0
    let l := inputsR B x.1 drop x.2.2
    if decR B l end_ = true then putP B (end_, 0, [])
    else match l with
      | [] => putP B (drop, 0, [])
      | [y] => (y, B)
      | _ => putP B (x.1, 0, sortS l)
end Go.Proofs.YtncnpmgohhgmfaaDoor
