/- The plain law of TreeChecks: what tree.Check and the document's Check compute is the same. -/
import Derived.Test.YtdiciemlbhkilaaDoorE
namespace Go.Proofs.YtdiciemlbhkilaaDoor
open Go Go.Cx
set_option linter.unusedVariables false
set_option linter.unusedSimpArgs false

/-- what one node adds to the parents of j -/
def cn1 (x : Nd) (j : Nat) : Int := if x.v = 0 then 0 else (if x.no = j then 1 else 0) + (if x.yes = j then 1 else 0)
def cn : List Nd → Nat → Int
  | [], _ => 0
  | x :: xs, j => cn1 x j + cn xs j
theorem cn_app : ∀ (xs ys : List Nd) (j : Nat), cn (xs ++ ys) j = cn xs j + cn ys j
  | [], ys, j => by simp [cn]
  | x :: xs, ys, j => by simp only [List.cons_append, cn, cn_app xs ys j]; omega
theorem cn1_nonneg (x : Nd) (j : Nat) : 0 ≤ cn1 x j := by
  unfold cn1
  split
  · omega
  · split <;> split <;> omega
theorem cn_nonneg : ∀ (xs : List Nd) (j : Nat), 0 ≤ cn xs j
  | [], j => by simp [cn]
  | x :: xs, j => by
    have := cn_nonneg xs j
    have := cn1_nonneg x j
    simp only [cn]; omega
/-- the bump of the parents of one question -/
theorem bump_get (ps : List Int) (x : Nd) (hv : x.v ≠ 0) (h0 : 0 ≤ x.no) (h1 : x.no < ps.length) (h2 : 0 ≤ x.yes) (h3 : x.yes < ps.length) (j : Nat) (hj : j < ps.length) :
    ((ps.set x.no.toNat (ps.getD x.no.toNat default + 1)).set x.yes.toNat ((ps.set x.no.toNat (ps.getD x.no.toNat default + 1)).getD x.yes.toNat default + 1)).getD j default = ps.getD j default + cn1 x j := by
  unfold cn1
  rw [if_neg hv, getD_set, getD_set, getD_set]
  simp only [List.length_set]
  by_cases e1 : x.no = j <;> by_cases e2 : x.yes = j
  · have e3 : x.no.toNat = j := by omega
    have e4 : x.yes.toNat = j := by omega
    rw [e3, e4, if_pos ⟨rfl, hj⟩, if_pos ⟨rfl, hj⟩, if_pos e1, if_pos e2]; omega
  · have e3 : x.no.toNat = j := by omega
    have e4 : ¬ (x.yes.toNat = j ∧ j < ps.length) := by omega
    rw [if_neg e4, e3, if_pos ⟨rfl, hj⟩, if_pos e1, if_neg e2]; omega
  · have e3 : ¬ (x.no.toNat = j ∧ j < ps.length) := by omega
    have e4 : x.yes.toNat = j := by omega
    rw [e4, if_pos ⟨rfl, hj⟩, if_neg e3, if_neg e1, if_pos e2]; omega
  · have e3 : ¬ (x.no.toNat = j ∧ j < ps.length) := by omega
    have e4 : ¬ (x.yes.toNat = j ∧ j < ps.length) := by omega
    rw [if_neg e4, if_neg e3, if_neg e1, if_neg e2]; omega
theorem prL_get {n size : Int} : ∀ (xs : List Nd) (k : Nat) (ps : List Int), (ps.length : Int) = size → (∀ j, j < xs.length → fmd (xs.getD j default) (k + j) n size = true) →
    ∃ ps', prL n size xs k ps = some ps' ∧ ps'.length = ps.length ∧ ∀ j, j < ps.length → ps'.getD j default = ps.getD j default + cn xs j
  | [], k, ps, hl, hf => ⟨ps, rfl, rfl, fun j _ => by simp [cn]⟩
  | x :: xs, k, ps, hl, hf => by
    have hx : fmd x k n size = true := by simpa using hf 0 (by simp)
    have hxs : ∀ j, j < xs.length → fmd (xs.getD j default) ((k + 1 : Nat) + j) n size = true := fun j hj => by
      have := hf (j + 1) (by simpa using hj)
      rw [show (((k + 1 : Nat) : Int) + j) = (k : Int) + ((j + 1 : Nat) : Int) by omega]
      simpa using this
    rw [prL, if_neg (by rw [hx]; decide)]
    by_cases hv : x.v = 0
    · rw [if_pos hv]
      obtain ⟨ps', h1, h2, h3⟩ := prL_get xs (k + 1) ps hl hxs
      exact ⟨ps', h1, h2, fun j hj => by rw [h3 j hj, cn, cn1, if_pos hv]; omega⟩
    · rw [if_neg hv]
      obtain ⟨_, _, _, a1, a2, a3, a4⟩ := fmd_q hx hv
      have hle : ((ps.set x.no.toNat (ps.getD x.no.toNat default + 1)).set x.yes.toNat ((ps.set x.no.toNat (ps.getD x.no.toNat default + 1)).getD x.yes.toNat default + 1)).length = ps.length := by simp only [List.length_set]
      obtain ⟨ps', h1, h2, h3⟩ := prL_get xs (k + 1) ((ps.set x.no.toNat (ps.getD x.no.toNat default + 1)).set x.yes.toNat ((ps.set x.no.toNat (ps.getD x.no.toNat default + 1)).getD x.yes.toNat default + 1)) (by rw [hle]; exact hl) hxs
      rw [hle] at h2 h3
      exact ⟨ps', h1, h2, fun j hj => by rw [h3 j hj, bump_get ps x hv (by omega) (by omega) (by omega) (by omega) j hj, cn]; omega⟩
theorem oneL_iff (ps : List Int) : ∀ (m k : Nat), oneL ps k m = true ↔ ∀ j, k ≤ j → j < k + m → ps.getD j default = 1
  | 0, k => by simp only [oneL, true_iff]; intro j h1 h2; omega
  | m + 1, k => by
    rw [oneL, Bool.and_eq_true, decide_eq_true_iff, oneL_iff ps m (k + 1)]
    constructor
    · rintro ⟨h1, h2⟩ j h3 h4
      rcases Nat.eq_or_lt_of_le h3 with rfl | h5
      · exact h1
      · exact h2 j h5 (by omega)
    · exact fun h => ⟨h k (Nat.le_refl _) (by omega), fun j h3 h4 => h j (by omega) (by omega)⟩
theorem tail_fmd {n size : Int} {x : Nd} {xs : List Nd} {k : Nat} (hf : ∀ j, j < (x :: xs).length → fmd ((x :: xs).getD j default) (k + j) n size = true) : ∀ j, j < xs.length → fmd (xs.getD j default) ((k + 1 : Nat) + j) n size = true := fun j hj => by
  have := hf (j + 1) (by simpa using hj)
  rw [show (((k + 1 : Nat) : Int) + j) = (k : Int) + ((j + 1 : Nat) : Int) by omega]
  simpa using this
theorem cn_zero {n size : Int} : ∀ (xs : List Nd) (k : Nat), (∀ j, j < xs.length → fmd (xs.getD j default) (k + j) n size = true) → ∀ t, t ≤ k → cn xs t = 0
  | [], k, hf, t, ht => rfl
  | x :: xs, k, hf, t, ht => by
    have hx : fmd x k n size = true := by simpa using hf 0 (by simp)
    rw [cn, cn_zero xs (k + 1) (tail_fmd hf) t (by omega), cn1]
    by_cases hv : x.v = 0
    · rw [if_pos hv]; rfl
    · obtain ⟨_, _, _, a1, a2, a3, a4⟩ := fmd_q hx hv
      rw [if_neg hv, if_neg (by omega), if_neg (by omega)]; rfl
/-- every node formed -/
def Fm (ts : List Nd) (n : Int) : Prop := ∀ j : Nat, j < ts.length → fmd (ts.getD j default) j n ts.length = true
theorem formedR_iff {ts : List Nd} {n : Int} (hf : Fm ts n) : formedR ts n = true ↔ ∀ j : Nat, 1 ≤ j → j < ts.length → cn ts j = 1 := by
  obtain ⟨ps', h1, h2, h3⟩ := prL_get (n := n) (size := ts.length) ts 0 (List.replicate ts.length 0) (by simp) (fun j hj => by simpa using hf j hj)
  unfold formedR
  rw [h1]
  simp only
  rw [oneL_iff]
  have h4 : ∀ j, j < ts.length → ps'.getD j default = cn ts j := fun j hj => by
    rw [h3 j (by simpa using hj)]
    have : (List.replicate ts.length (0 : Int)).getD j default = 0 := by
      rw [List.getD_eq_getElem?_getD, List.getElem?_replicate]
      split <;> rfl
    omega
  constructor
  · exact fun h j h5 h6 => by rw [← h4 j h6]; exact h j h5 (by omega)
  · exact fun h j h5 h6 => by rw [h4 j (by omega)]; exact h j h5 (by omega)
end Go.Proofs.YtdiciemlbhkilaaDoor

/- The plain law of TreeChecks, its paths. -/
namespace Go.Proofs.YtdiciemlbhkilaaDoor
open Go Go.Cx
set_option linter.unusedVariables false
set_option linter.unusedSimpArgs false

def Ed (ts : List Nd) (p c : Nat) : Prop := p < ts.length ∧ (ts.getD p default).v ≠ 0 ∧ ((ts.getD p default).no = c ∨ (ts.getD p default).yes = c)
/-- a path of one edge or more -/
inductive Pr (ts : List Nd) : Nat → Nat → Prop
  | one {p c : Nat} : Ed ts p c → Pr ts p c
  | cons {p q c : Nat} : Ed ts p q → Pr ts q c → Pr ts p c
theorem Pr.snoc {ts : List Nd} {p q c : Nat} (h : Pr ts p q) (e : Ed ts q c) : Pr ts p c := by
  induction h with
  | one e1 => exact .cons e1 (.one e)
  | cons e1 _ ih => exact .cons e1 (ih e)
theorem Pr.last {ts : List Nd} {p c : Nat} (h : Pr ts p c) : ∃ q, Ed ts q c ∧ (p = q ∨ Pr ts p q) := by
  induction h with
  | one e => exact ⟨_, e, .inl rfl⟩
  | cons e _ ih =>
    obtain ⟨q, h1, h2⟩ := ih
    rcases h2 with rfl | h2
    · exact ⟨_, h1, .inr (.one e)⟩
    · exact ⟨q, h1, .inr (.cons e h2)⟩
theorem Pr.start {ts : List Nd} {p c : Nat} (h : Pr ts p c) : p < ts.length ∧ (ts.getD p default).v ≠ 0 := by
  cases h with
  | one e => exact ⟨e.1, e.2.1⟩
  | cons e _ => exact ⟨e.1, e.2.1⟩
theorem Ed.lt {ts : List Nd} {n : Int} (hf : Fm ts n) {p c : Nat} (e : Ed ts p c) : p < c ∧ c < ts.length := by
  obtain ⟨h1, h2, h3⟩ := e
  obtain ⟨_, _, _, a1, a2, a3, a4⟩ := fmd_q (hf p h1) h2
  rcases h3 with h3 | h3 <;> omega
theorem Pr.lt {ts : List Nd} {n : Int} (hf : Fm ts n) {p c : Nat} (h : Pr ts p c) : p < c ∧ c < ts.length := by
  induction h with
  | one e => exact e.lt hf
  | cons e _ ih => have := e.lt hf; omega

theorem leads_iff {ts : List Nd} {n : Int} (hf : Fm ts n) (v : Int) (hv : v ≠ 0) : ∀ (f c : Nat), c < ts.length → ts.length - c ≤ f → (leadsN ts v f c = true ↔ ∃ d, (d = c ∨ Pr ts c d) ∧ (ts.getD d default).v = v)
  | 0, c, h1, h2 => by omega
  | f + 1, c, h1, h2 => by
    rw [leadsN, Int.toNat_natCast]
    by_cases hc : (ts.getD c default).v = 0
    · rw [if_pos hc]
      constructor
      · intro h; cases h
      · rintro ⟨d, rfl | hp, hd⟩
        · omega
        · exact absurd hc hp.start.2
    · rw [if_neg hc]
      obtain ⟨_, _, _, a1, a2, a3, a4⟩ := fmd_q (hf c h1) hc
      have e1 : ((ts.getD c default).no.toNat : Int) = (ts.getD c default).no := Int.toNat_of_nonneg (by omega)
      have e2 : ((ts.getD c default).yes.toNat : Int) = (ts.getD c default).yes := Int.toNat_of_nonneg (by omega)
      have i1 := leads_iff hf v hv f (ts.getD c default).no.toNat (by omega) (by omega)
      have i2 := leads_iff hf v hv f (ts.getD c default).yes.toNat (by omega) (by omega)
      rw [e1] at i1
      rw [e2] at i2
      rw [Bool.or_eq_true, Bool.or_eq_true, decide_eq_true_iff, i1, i2]
      constructor
      · rintro ((h | ⟨d, h3, h4⟩) | ⟨d, h3, h4⟩)
        · exact ⟨c, .inl rfl, h⟩
        · have e : Ed ts c (ts.getD c default).no.toNat := ⟨h1, hc, .inl e1.symm⟩
          rcases h3 with rfl | h3
          · exact ⟨_, .inr (.one e), h4⟩
          · exact ⟨d, .inr (.cons e h3), h4⟩
        · have e : Ed ts c (ts.getD c default).yes.toNat := ⟨h1, hc, .inr e2.symm⟩
          rcases h3 with rfl | h3
          · exact ⟨_, .inr (.one e), h4⟩
          · exact ⟨d, .inr (.cons e h3), h4⟩
      · rintro ⟨d, rfl | hp, hd⟩
        · exact .inl (.inl hd)
        · have key : ∀ q, Ed ts c q → (d = q ∨ Pr ts q d) → ((ts.getD c default).v = v ∨ ∃ d, (d = (ts.getD c default).no.toNat ∨ Pr ts (ts.getD c default).no.toNat d) ∧ (ts.getD d default).v = v) ∨ ∃ d, (d = (ts.getD c default).yes.toNat ∨ Pr ts (ts.getD c default).yes.toNat d) ∧ (ts.getD d default).v = v := by
            rintro q ⟨_, _, hq | hq⟩ hh
            · have : q = (ts.getD c default).no.toNat := by omega
              exact .inl (.inr ⟨d, this ▸ hh, hd⟩)
            · have : q = (ts.getD c default).yes.toNat := by omega
              exact .inr ⟨d, this ▸ hh, hd⟩
          cases hp with
          | one e => exact key d e (.inl rfl)
          | cons e h => exact key _ e (.inr h)

theorem ldL_iff {ts : List Nd} {n : Int} (hf : Fm ts n) : ∀ (m k : Nat), k + m = ts.length → (ldL ts k m = true ↔ ∀ p, k ≤ p → p < ts.length → (ts.getD p default).v ≠ 0 → ¬ ∃ d, Pr ts p d ∧ (ts.getD d default).v = (ts.getD p default).v)
  | 0, k, h => by
    simp only [ldL, true_iff]
    intro p h1 h2
    omega
  | m + 1, k, h => by
    have hk : k < ts.length := by omega
    rw [ldL, Bool.and_eq_true, ldL_iff hf m (k + 1) (by omega)]
    have hone : ((!(decide (0 < (ts.getD k default).v) && (leadsN ts (ts.getD k default).v ts.length (ts.getD k default).no || leadsN ts (ts.getD k default).v ts.length (ts.getD k default).yes))) = true) ↔ ((ts.getD k default).v ≠ 0 → ¬ ∃ d, Pr ts k d ∧ (ts.getD d default).v = (ts.getD k default).v) := by
      by_cases hv : (ts.getD k default).v = 0
      · have : decide (0 < (ts.getD k default).v) = false := decide_eq_false (by omega)
        rw [this, Bool.false_and]
        exact ⟨fun _ h => absurd hv h, fun _ => rfl⟩
      · obtain ⟨_, hp, _, a1, a2, a3, a4⟩ := fmd_q (hf k hk) hv
        have e1 : ((ts.getD k default).no.toNat : Int) = (ts.getD k default).no := Int.toNat_of_nonneg (by omega)
        have e2 : ((ts.getD k default).yes.toNat : Int) = (ts.getD k default).yes := Int.toNat_of_nonneg (by omega)
        have i1 := leads_iff hf _ hv ts.length (ts.getD k default).no.toNat (by omega) (by omega)
        have i2 := leads_iff hf _ hv ts.length (ts.getD k default).yes.toNat (by omega) (by omega)
        rw [e1] at i1
        rw [e2] at i2
        rw [decide_eq_true hp, Bool.true_and, Bool.not_eq_true', Bool.or_eq_false_iff, ← Bool.not_eq_true, ← Bool.not_eq_true, i1, i2]
        constructor
        · rintro ⟨h3, h4⟩ _ ⟨d, hd, he⟩
          have key : ∀ q, Ed ts k q → (d = q ∨ Pr ts q d) → False := by
            rintro q ⟨_, _, hq | hq⟩ hh
            · have : q = (ts.getD k default).no.toNat := by omega
              exact h3 ⟨d, this ▸ hh, he⟩
            · have : q = (ts.getD k default).yes.toNat := by omega
              exact h4 ⟨d, this ▸ hh, he⟩
          cases hd with
          | one e => exact key d e (.inl rfl)
          | cons e h => exact key _ e (.inr h)
        · intro h3
          have h4 := h3 hv
          refine ⟨?_, ?_⟩
          · rintro ⟨d, hd, he⟩
            have e : Ed ts k (ts.getD k default).no.toNat := ⟨hk, hv, .inl e1.symm⟩
            rcases hd with rfl | hd
            · exact h4 ⟨_, .one e, he⟩
            · exact h4 ⟨d, .cons e hd, he⟩
          · rintro ⟨d, hd, he⟩
            have e : Ed ts k (ts.getD k default).yes.toNat := ⟨hk, hv, .inr e2.symm⟩
            rcases hd with rfl | hd
            · exact h4 ⟨_, .one e, he⟩
            · exact h4 ⟨d, .cons e hd, he⟩
    rw [hone]
    constructor
    · rintro ⟨h1, h2⟩ p h3 h4
      rcases Nat.eq_or_lt_of_le h3 with rfl | h5
      · exact h1
      · exact h2 p h5 h4
    · exact fun h => ⟨h k (Nat.le_refl _) hk, fun p h3 h4 => h p (by omega) h4⟩
end Go.Proofs.YtdiciemlbhkilaaDoor

/- The plain law of TreeChecks: the walk of tree.Check. -/
namespace Go.Proofs.YtdiciemlbhkilaaDoor
open Go Go.Cx
set_option linter.unusedVariables false
set_option linter.unusedSimpArgs false

theorem has_with (s : Nat × Nat) (v u : Int) (hv : 1 ≤ v ∧ v ≤ 128) : hasB (withS s v) u = true ↔ (hasB s u = true ∨ u = v) := by
  unfold hasB withS
  by_cases h1 : 1 ≤ v ∧ v ≤ 64
  · rw [if_pos h1]
    by_cases h2 : 1 ≤ u ∧ u ≤ 64
    · rw [if_pos h2, if_pos h2]
      simp only [Nat.testBit_or, Nat.testBit_two_pow, Bool.or_eq_true, decide_eq_true_iff]
      constructor
      · rintro (h | h)
        · exact .inl h
        · exact .inr (by omega)
      · rintro (h | h)
        · exact .inl h
        · exact .inr (by omega)
    · rw [if_neg h2, if_neg h2]
      exact ⟨.inl, fun h => h.elim id (fun h => by omega)⟩
  · rw [if_neg h1, if_pos (show 65 ≤ v ∧ v ≤ 128 by omega)]
    by_cases h2 : 1 ≤ u ∧ u ≤ 64
    · rw [if_pos h2, if_pos h2]
      exact ⟨.inl, fun h => h.elim id (fun h => by omega)⟩
    · rw [if_neg h2, if_neg h2]
      by_cases h3 : 65 ≤ u ∧ u ≤ 128
      · rw [if_pos h3, if_pos h3]
        simp only [Nat.testBit_or, Nat.testBit_two_pow, Bool.or_eq_true, decide_eq_true_iff]
        constructor
        · rintro (h | h)
          · exact .inl h
          · exact .inr (by omega)
        · rintro (h | h)
          · exact .inl h
          · exact .inr (by omega)
      · rw [if_neg h3, if_neg h3]
        exact ⟨.inl, fun h => h.elim id (fun h => by omega)⟩

theorem cn_ge : ∀ (xs : List Nd) (i j : Nat), i < xs.length → cn1 (xs.getD i default) j ≤ cn xs j
  | x :: xs, 0, j, _ => by
    have := cn_nonneg xs j
    simp only [cn, List.getD_cons_zero]; omega
  | x :: xs, i + 1, j, h => by
    have := cn_ge xs i j (by simpa using h)
    have := cn1_nonneg x j
    simp only [cn, List.getD_cons_succ]; omega
theorem cn_at (ts : List Nd) (k j : Nat) (hk : k < ts.length) : cn ts j = cn (ts.take k) j + cn1 (ts.getD k default) j + cn (ts.drop (k + 1)) j := by
  have h1 : ts = ts.take k ++ (ts.getD k default :: ts.drop (k + 1)) := by rw [← drop_one ts k hk, List.take_append_drop]
  have h2 := congrArg (fun l => cn l j) h1
  simp only [cn_app, cn] at h2
  omega
theorem cn_take (ts : List Nd) (k j : Nat) (hk : k < ts.length) : cn (ts.take (k + 1)) j = cn (ts.take k) j + cn1 (ts.getD k default) j := by
  rw [← take_one ts k hk, cn_app]; simp [cn]
theorem cn1_ed {ts : List Nd} {p c : Nat} (e : Ed ts p c) : 1 ≤ cn1 (ts.getD p default) c := by
  obtain ⟨_, h2, h3⟩ := e
  unfold cn1
  rw [if_neg h2]
  rcases h3 with h3 | h3
  · rw [if_pos h3]; split <;> omega
  · rw [if_pos h3]; split <;> omega
/-- one parent: the edge to c comes from one node alone -/
theorem ed_one {ts : List Nd} {p q c : Nat} (hc : cn ts c = 1) (e1 : Ed ts p c) (e2 : Ed ts q c) (hlt : p < q) : False := by
  have h1 := cn_at ts q c e2.1
  have h2 := cn1_ed e2
  have h3 := cn_ge (ts.take q) p c (by rw [List.length_take]; have := e2.1; omega)
  have h4 : (ts.take q).getD p default = ts.getD p default := by
    rw [List.getD_eq_getElem?_getD, List.getElem?_take, if_pos hlt, ← List.getD_eq_getElem?_getD]
  rw [h4] at h3
  have h5 := cn1_ed e1
  have h6 := cn_nonneg (ts.drop (q + 1)) c
  omega
end Go.Proofs.YtdiciemlbhkilaaDoor

/- The plain law of TreeChecks: chkL, and the join. -/
namespace Go.Proofs.YtdiciemlbhkilaaDoor
open Go Go.Cx
set_option linter.unusedVariables false
set_option linter.unusedSimpArgs false

theorem cn_fin {ts : List Nd} {n : Int} (hf : Fm ts n) {k : Nat} (hk : k < ts.length) : cn ts k = cn (ts.take k) k := by
  have h := cn_app (ts.take k) (ts.drop k) k
  rw [List.take_append_drop] at h
  have h2 : cn (ts.drop k) k = 0 := cn_zero (n := n) (size := ts.length) (ts.drop k) k (fun j hj => by
    rw [List.length_drop] at hj
    have := hf (k + j) (by omega)
    rw [List.getD_eq_getElem?_getD, List.getElem?_drop, ← List.getD_eq_getElem?_getD]
    simpa using this) k (Nat.le_refl _)
  omega
/-- the state of Check in front of the k-th node: the counts -/
def InvP (ts : List Nd) (k : Nat) (ps : List Int) : Prop := ps.length = ts.length ∧ ∀ j, j < ts.length → ps.getD j default = cn (ts.take k) j
theorem InvP.leaf {ts : List Nd} {k : Nat} {ps : List Int} (h : InvP ts k ps) (hk : k < ts.length) (hv : (ts.getD k default).v = 0) : InvP ts (k + 1) ps :=
  ⟨h.1, fun j hj => by rw [h.2 j hj, cn_take ts k j hk, cn1, if_pos hv]; omega⟩
theorem InvP.quest {ts : List Nd} {n : Int} {k : Nat} {ps : List Int} (h : InvP ts k ps) (hk : k < ts.length) (hf : Fm ts n) (hv : (ts.getD k default).v ≠ 0) :
    InvP ts (k + 1) ((ps.set (ts.getD k default).no.toNat (ps.getD (ts.getD k default).no.toNat default + 1)).set (ts.getD k default).yes.toNat ((ps.set (ts.getD k default).no.toNat (ps.getD (ts.getD k default).no.toNat default + 1)).getD (ts.getD k default).yes.toNat default + 1)) := by
  obtain ⟨_, _, _, a1, a2, a3, a4⟩ := fmd_q (hf k hk) hv
  have hl := h.1
  refine ⟨by simp only [List.length_set]; exact hl, fun j hj => ?_⟩
  rw [bump_get ps _ hv (by omega) (by omega) (by omega) (by omega) j (by omega), h.2 j hj, cn_take ts k j hk]
theorem chk_cnt {ts : List Nd} {n : Int} (hf : Fm ts n) : ∀ (m k : Nat) (ps : List Int) (qs : List (Nat × Nat)), k + m = ts.length → InvP ts k ps → chkL n ts.length (ts.drop k) k ps qs = true → ∀ j, k ≤ j → 1 ≤ j → j < ts.length → cn ts j = 1
  | 0, k, ps, qs, h, _, _, j, h1, _, h2 => by omega
  | m + 1, k, ps, qs, h, hi, hc, j, h1, h2, h3 => by
    have hk : k < ts.length := by omega
    rw [drop_one ts k hk, chkL, if_neg (by rw [hf k hk]; decide)] at hc
    split at hc
    · cases hc
    case isFalse hp =>
      have hone : 1 ≤ k → cn ts k = 1 := fun h0 => by
        rw [cn_fin hf hk, ← hi.2 k hk]
        rcases Decidable.em (ps.getD k default = 1) with h | h
        · exact h
        · exact absurd ⟨by omega, h⟩ hp
      rcases Nat.eq_or_lt_of_le h1 with rfl | h5
      · exact hone h2
      split at hc
      case isTrue hv => exact chk_cnt hf m (k + 1) ps qs (by omega) (hi.leaf hk hv) hc j h5 h2 h3
      case isFalse hv =>
        split at hc
        · cases hc
        · exact chk_cnt hf m (k + 1) _ _ (by omega) (hi.quest hk hf hv) hc j h5 h2 h3

def Anc (ts : List Nd) (k : Nat) (u : Int) : Prop := ∃ i, Pr ts i k ∧ (ts.getD i default).v = u
/-- the state of Check in front of the k-th node: the sets -/
def InvQ (ts : List Nd) (k : Nat) (qs : List (Nat × Nat)) : Prop := qs.length = ts.length ∧ ∀ j, j < ts.length → ∀ u, hasB (qs.getD j default) u = true ↔ ∃ p, p < k ∧ Ed ts p j ∧ ((ts.getD p default).v = u ∨ Anc ts p u)
theorem InvQ.here {ts : List Nd} {n : Int} {k : Nat} {qs : List (Nat × Nat)} (h : InvQ ts k qs) (hf : Fm ts n) (hk : k < ts.length) (u : Int) : hasB (qs.getD k default) u = true ↔ Anc ts k u := by
  rw [h.2 k hk u]
  constructor
  · rintro ⟨p, _, e, hv | ⟨i, hi, hu⟩⟩
    · exact ⟨p, .one e, hv⟩
    · exact ⟨i, hi.snoc e, hu⟩
  · rintro ⟨i, hi, hu⟩
    obtain ⟨q, e, h3⟩ := hi.last
    rcases h3 with rfl | h3
    · exact ⟨i, (e.lt hf).1, e, .inl hu⟩
    · exact ⟨q, (e.lt hf).1, e, .inr ⟨i, h3, hu⟩⟩
theorem InvQ.leaf {ts : List Nd} {k : Nat} {qs : List (Nat × Nat)} (h : InvQ ts k qs) (hv : (ts.getD k default).v = 0) : InvQ ts (k + 1) qs := by
  refine ⟨h.1, fun j hj u => ?_⟩
  rw [h.2 j hj u]
  constructor
  · rintro ⟨p, h1, h2⟩; exact ⟨p, by omega, h2⟩
  · rintro ⟨p, h1, e, h2⟩
    rcases Nat.eq_or_lt_of_le (Nat.le_of_lt_succ h1) with rfl | h3
    · exact absurd hv e.2.1
    · exact ⟨p, h3, e, h2⟩
theorem InvQ.quest {ts : List Nd} {n : Int} (hn : n ≤ 128) {k : Nat} {qs : List (Nat × Nat)} (h : InvQ ts k qs) (hk : k < ts.length) (hf : Fm ts n) (hc : ∀ j, 1 ≤ j → j < ts.length → cn ts j = 1) (hv : (ts.getD k default).v ≠ 0) :
    InvQ ts (k + 1) ((qs.set (ts.getD k default).no.toNat (withS (qs.getD k default) (ts.getD k default).v)).set (ts.getD k default).yes.toNat (withS ((qs.set (ts.getD k default).no.toNat (withS (qs.getD k default) (ts.getD k default).v)).getD k default) (ts.getD k default).v)) := by
  obtain ⟨_, hp, hpn, a1, a2, a3, a4⟩ := fmd_q (hf k hk) hv
  have hl := h.1
  have hkk : (qs.set (ts.getD k default).no.toNat (withS (qs.getD k default) (ts.getD k default).v)).getD k default = qs.getD k default := by
    rw [getD_set, if_neg (by omega)]
  rw [hkk]
  refine ⟨by simp only [List.length_set]; exact hl, fun j hj u => ?_⟩
  have hget : ((qs.set (ts.getD k default).no.toNat (withS (qs.getD k default) (ts.getD k default).v)).set (ts.getD k default).yes.toNat (withS (qs.getD k default) (ts.getD k default).v)).getD j default = if (ts.getD k default).no = j ∨ (ts.getD k default).yes = j then withS (qs.getD k default) (ts.getD k default).v else qs.getD j default := by
    rw [getD_set, getD_set]
    simp only [List.length_set]
    by_cases e2 : (ts.getD k default).yes = j
    · rw [if_pos ⟨by omega, by omega⟩, if_pos (.inr e2)]
    · rw [if_neg (by omega)]
      by_cases e1 : (ts.getD k default).no = j
      · rw [if_pos ⟨by omega, by omega⟩, if_pos (.inl e1)]
      · rw [if_neg (by omega), if_neg (by omega)]
  rw [hget]
  by_cases he : (ts.getD k default).no = j ∨ (ts.getD k default).yes = j
  · rw [if_pos he, has_with _ _ _ (by omega), h.here hf hk u]
    have e : Ed ts k j := ⟨hk, hv, he⟩
    constructor
    · rintro (h1 | h1)
      · exact ⟨k, by omega, e, .inr h1⟩
      · exact ⟨k, by omega, e, .inl h1.symm⟩
    · rintro ⟨p, h1, e', h2⟩
      rcases Nat.eq_or_lt_of_le (Nat.le_of_lt_succ h1) with rfl | h3
      · exact h2.elim (fun h => .inr h.symm) .inl
      · exact (ed_one (hc j (by omega) hj) e' e h3).elim
  · rw [if_neg he, h.2 j hj u]
    constructor
    · rintro ⟨p, h1, h2⟩; exact ⟨p, by omega, h2⟩
    · rintro ⟨p, h1, e, h2⟩
      rcases Nat.eq_or_lt_of_le (Nat.le_of_lt_succ h1) with rfl | h3
      · exact absurd e.2.2 he
      · exact ⟨p, h3, e, h2⟩

theorem chk_iff {ts : List Nd} {n : Int} (hn : n ≤ 128) (hf : Fm ts n) (hc : ∀ j, 1 ≤ j → j < ts.length → cn ts j = 1) : ∀ (m k : Nat) (ps : List Int) (qs : List (Nat × Nat)), k + m = ts.length → InvP ts k ps → InvQ ts k qs →
    (chkL n ts.length (ts.drop k) k ps qs = true ↔ ∀ p, k ≤ p → p < ts.length → (ts.getD p default).v ≠ 0 → ¬ Anc ts p (ts.getD p default).v)
  | 0, k, ps, qs, h, _, _ => by
    rw [List.drop_eq_nil_of_le (by omega), chkL]
    simp only [true_iff]
    intro p h1 h2
    omega
  | m + 1, k, ps, qs, h, hi, hq => by
    have hk : k < ts.length := by omega
    have hcn : ¬ (0 < k ∧ ps.getD k default ≠ 1) := by
      rintro ⟨h1, h2⟩
      rw [hi.2 k hk, ← cn_fin hf hk] at h2
      exact h2 (hc k h1 hk)
    rw [drop_one ts k hk, chkL, if_neg (by rw [hf k hk]; decide), if_neg hcn]
    have part : ∀ (Q : Prop), ((∀ p, k + 1 ≤ p → p < ts.length → (ts.getD p default).v ≠ 0 → ¬ Anc ts p (ts.getD p default).v) ↔ Q) → ((ts.getD k default).v ≠ 0 → ¬ Anc ts k (ts.getD k default).v) → (Q ↔ ∀ p, k ≤ p → p < ts.length → (ts.getD p default).v ≠ 0 → ¬ Anc ts p (ts.getD p default).v) := fun Q hQ h0 => by
      rw [← hQ]
      constructor
      · intro h1 p h2 h3
        rcases Nat.eq_or_lt_of_le h2 with rfl | h5
        · exact h0
        · exact h1 p h5 h3
      · exact fun h1 p h2 h3 => h1 p (by omega) h3
    by_cases hv : (ts.getD k default).v = 0
    · rw [if_pos hv]
      exact part _ (chk_iff hn hf hc m (k + 1) ps qs (by omega) (hi.leaf hk hv) (hq.leaf hv)).symm (fun h => absurd hv h)
    · rw [if_neg hv]
      by_cases hh : hasB (qs.getD k default) (ts.getD k default).v = true
      · rw [if_pos hh]
        rw [hq.here hf hk] at hh
        constructor
        · intro h; cases h
        · intro h; exact absurd hh (h k (Nat.le_refl _) hk hv)
      · rw [if_neg hh]
        rw [hq.here hf hk] at hh
        exact part _ (chk_iff hn hf hc m (k + 1) _ _ (by omega) (hi.quest hk hf hv) (hq.quest hn hk hf hc hv)).symm (fun _ => hh)

theorem check_eq (ts : List Nd) (n : Int) : checkT ts n = checkR ts n := by
  unfold checkT checkR
  split
  · rfl
  case isFalse h1 =>
  split
  · rfl
  split
  · rfl
  case isFalse h3 =>
  by_cases hf : Fm ts n
  · have hp0 : InvP ts 0 (List.replicate ts.length 0) := ⟨by simp, fun j hj => by
      rw [List.take_zero, cn, List.getD_eq_getElem?_getD, List.getElem?_replicate]
      split <;> rfl⟩
    have hq0 : InvQ ts 0 (List.replicate ts.length (0, 0)) := ⟨by simp, fun j hj u => by
      have : hasB ((List.replicate ts.length ((0, 0) : Nat × Nat)).getD j default) u = false := by
        rw [List.getD_eq_getElem?_getD, List.getElem?_replicate]
        split <;> (unfold hasB; simp [default, instInhabitedProd])
      rw [this]
      constructor
      · intro h; cases h
      · rintro ⟨p, h, _⟩; omega⟩
    have hcnt := chk_cnt hf ts.length 0 _ (List.replicate ts.length (0, 0)) (by omega) hp0
    rw [List.drop_zero] at hcnt
    by_cases hc : ∀ j, 1 ≤ j → j < ts.length → cn ts j = 1
    · have h5 := chk_iff (by omega) hf hc ts.length 0 _ _ (by omega) hp0 hq0
      rw [List.drop_zero] at h5
      have h6 := ldL_iff hf ts.length 0 (by omega)
      rw [if_neg (show ¬ formedR ts n = false by rw [(formedR_iff hf).2 hc]; decide)]
      have h7 : chkL n ts.length ts 0 (List.replicate ts.length 0) (List.replicate ts.length (0, 0)) = true ↔ ldL ts 0 ts.length = true := by
        rw [h5, h6]
        constructor
        · rintro h p _ hp hv ⟨d, hd, he⟩
          exact h d (Nat.zero_le _) (hd.lt hf).2 (by rw [he]; exact hv) ⟨p, hd, he.symm⟩
        · rintro h p _ hp hv ⟨i, hi, he⟩
          exact h i (Nat.zero_le _) hi.start.1 hi.start.2 ⟨p, hi, he.symm⟩
      by_cases h8 : ldL ts 0 ts.length = true
      · rw [if_pos h8, if_pos (h7.2 h8)]
      · rw [if_neg h8, if_neg (fun h => h8 (h7.1 h))]
    · have h5 : formedR ts n = false := by
        cases h6 : formedR ts n with
        | false => rfl
        | true => exact absurd ((formedR_iff hf).1 h6) hc
      rw [if_pos h5, if_neg]
      exact fun h => hc (fun j a b => hcnt h j (Nat.zero_le _) a b)
  · have ⟨j, hj, hb⟩ : ∃ j : Nat, j < ts.length ∧ fmd (ts.getD j default) j n ts.length = false := by
      apply Classical.byContradiction
      intro h
      apply hf
      intro j hj
      cases hb : fmd (ts.getD j default) j n ts.length with
      | true => rfl
      | false => exact absurd ⟨j, hj, hb⟩ h
    have hb' : fmd (ts.getD j default) ((0 : Nat) + j) n ts.length = false := by simpa using hb
    have h5 : formedR ts n = false := by unfold formedR; rw [prL_none ts 0 _ j hj hb']
    rw [if_pos h5, chkL_false ts 0 _ _ j hj hb', if_neg (by decide)]
end Go.Proofs.YtdiciemlbhkilaaDoor
