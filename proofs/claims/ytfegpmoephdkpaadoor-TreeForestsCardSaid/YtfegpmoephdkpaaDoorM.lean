/- The plain law of TreeChecks: what tree.Check and the document's Check compute is the same. -/
import Derived.Test.YtfegpmoephdkpaaDoorE
namespace Go.Proofs.YtfegpmoephdkpaaDoor
open Go Go.Cx
set_option linter.unusedVariables false
set_option linter.unusedSimpArgs false

/-- what one node adds to the parents of j -/
def cn1 (x : Nd) (j : Nat) : Int := if x.v = 0 then 0 else (if x.no = j then 1 else 0) + (if x.yes = j then 1 else 0)
def cn : List Nd → Nat → Int
  | [], _ => 0
  | x :: xs, j => cn1 x j + cn xs j
theorem cn_app : ∀ (xs ys : List Nd) (j : Nat), cn (xs ++ ys) j = cn xs j + cn ys j
  | [], ys, j => by simp [cn]
  | x :: xs, ys, j => by simp only [List.cons_append, cn, cn_app xs ys j]; omega
theorem cn1_nonneg (x : Nd) (j : Nat) : 0 ≤ cn1 x j := by
  unfold cn1
  split
  · omega
  · split <;> split <;> omega
theorem cn_nonneg : ∀ (xs : List Nd) (j : Nat), 0 ≤ cn xs j
  | [], j => by simp [cn]
  | x :: xs, j => by
    have := cn_nonneg xs j
    have := cn1_nonneg x j
    simp only [cn]; omega
/-- the bump of the parents of one question -/
theorem bump_get (ps : List Int) (x : Nd) (hv : x.v ≠ 0) (h0 : 0 ≤ x.no) (h1 : x.no < ps.length) (h2 : 0 ≤ x.yes) (h3 : x.yes < ps.length) (j : Nat) (hj : j < ps.length) :
    ((ps.set x.no.toNat (ps.getD x.no.toNat default + 1)).set x.yes.toNat ((ps.set x.no.toNat (ps.getD x.no.toNat default + 1)).getD x.yes.toNat default + 1)).getD j default = ps.getD j default + cn1 x j := by
  unfold cn1
  rw [if_neg hv, getD_set, getD_set, getD_set]
  simp only [List.length_set]
  by_cases e1 : x.no = j <;> by_cases e2 : x.yes = j
  · have e3 : x.no.toNat = j := by omega
    have e4 : x.yes.toNat = j := by omega
    rw [e3, e4, if_pos ⟨rfl, hj⟩, if_pos ⟨rfl, hj⟩, if_pos e1, if_pos e2]; omega
  · have e3 : x.no.toNat = j := by omega
    have e4 : ¬ (x.yes.toNat = j ∧ j < ps.length) := by omega
    rw [if_neg e4, e3, if_pos ⟨rfl, hj⟩, if_pos e1, if_neg e2]; omega
  · have e3 : ¬ (x.no.toNat = j ∧ j < ps.length) := by omega
    have e4 : x.yes.toNat = j := by omega
    rw [e4, if_pos ⟨rfl, hj⟩, if_neg e3, if_neg e1, if_pos e2]; omega
  · have e3 : ¬ (x.no.toNat = j ∧ j < ps.length) := by omega
    have e4 : ¬ (x.yes.toNat = j ∧ j < ps.length) := by omega
    rw [if_neg e4, if_neg e3, if_neg e1, if_neg e2]; omega
theorem prL_get {n size : Int} : ∀ (xs : List Nd) (k : Nat) (ps : List Int), (ps.length : Int) = size → (∀ j, j < xs.length → fmd (xs.getD j default) (k + j) n size = true) →
    ∃ ps', prL n size xs k ps = some ps' ∧ ps'.length = ps.length ∧ ∀ j, j < ps.length → ps'.getD j default = ps.getD j default + cn xs j
  | [], k, ps, hl, hf => ⟨ps, rfl, rfl, fun j _ => by simp [cn]⟩
  | x :: xs, k, ps, hl, hf => by
    have hx : fmd x k n size = true := by simpa using hf 0 (by simp)
    have hxs : ∀ j, j < xs.length → fmd (xs.getD j default) ((k + 1 : Nat) + j) n size = true := fun j hj => by
      have := hf (j + 1) (by simpa using hj)
      rw [show (((k + 1 : Nat) : Int) + j) = (k : Int) + ((j + 1 : Nat) : Int) by omega]
      simpa using this
    rw [prL, if_neg (by rw [hx]; decide)]
    by_cases hv : x.v = 0
    · rw [if_pos hv]
      obtain ⟨ps', h1, h2, h3⟩ := prL_get xs (k + 1) ps hl hxs
      exact ⟨ps', h1, h2, fun j hj => by rw [h3 j hj, cn, cn1, if_pos hv]; omega⟩
    · rw [if_neg hv]
      obtain ⟨_, _, _, a1, a2, a3, a4⟩ := fmd_q hx hv
      have hle : ((ps.set x.no.toNat (ps.getD x.no.toNat default + 1)).set x.yes.toNat ((ps.set x.no.toNat (ps.getD x.no.toNat default + 1)).getD x.yes.toNat default + 1)).length = ps.length := by simp only [List.length_set]
      obtain ⟨ps', h1, h2, h3⟩ := prL_get xs (k + 1) ((ps.set x.no.toNat (ps.getD x.no.toNat default + 1)).set x.yes.toNat ((ps.set x.no.toNat (ps.getD x.no.toNat default + 1)).getD x.yes.toNat default + 1)) (by rw [hle]; exact hl) hxs
      rw [hle] at h2 h3
      exact ⟨ps', h1, h2, fun j hj => by rw [h3 j hj, bump_get ps x hv (by omega) (by omega) (by omega) (by omega) j hj, cn]; omega⟩
theorem oneL_iff (ps : List Int) : ∀ (m k : Nat), oneL ps k m = true ↔ ∀ j, k ≤ j → j < k + m → ps.getD j default = 1
  | 0, k => by simp only [oneL, true_iff]; intro j h1 h2; omega
  | m + 1, k => by
    rw [oneL, Bool.and_eq_true, decide_eq_true_iff, oneL_iff ps m (k + 1)]
    constructor
    · rintro ⟨h1, h2⟩ j h3 h4
      rcases Nat.eq_or_lt_of_le h3 with rfl | h5
      · exact h1
      · exact h2 j h5 (by omega)
    · exact fun h => ⟨h k (Nat.le_refl _) (by omega), fun j h3 h4 => h j (by omega) (by omega)⟩
theorem tail_fmd {n size : Int} {x : Nd} {xs : List Nd} {k : Nat} (hf : ∀ j, j < (x :: xs).length → fmd ((x :: xs).getD j default) (k + j) n size = true) : ∀ j, j < xs.length → fmd (xs.getD j default) ((k + 1 : Nat) + j) n size = true := fun j hj => by
  have := hf (j + 1) (by simpa using hj)
  rw [show (((k + 1 : Nat) : Int) + j) = (k : Int) + ((j + 1 : Nat) : Int) by omega]
  simpa using this
theorem cn_zero {n size : Int} : ∀ (xs : List Nd) (k : Nat), (∀ j, j < xs.length → fmd (xs.getD j default) (k + j) n size = true) → ∀ t, t ≤ k → cn xs t = 0
  | [], k, hf, t, ht => rfl
  | x :: xs, k, hf, t, ht => by
    have hx : fmd x k n size = true := by simpa using hf 0 (by simp)
    rw [cn, cn_zero xs (k + 1) (tail_fmd hf) t (by omega), cn1]
    by_cases hv : x.v = 0
    · rw [if_pos hv]; rfl
    · obtain ⟨_, _, _, a1, a2, a3, a4⟩ := fmd_q hx hv
      rw [if_neg hv, if_neg (by omega), if_neg (by omega)]; rfl
/-- every node formed -/
def Fm (ts : List Nd) (n : Int) : Prop := ∀ j : Nat, j < ts.length → fmd (ts.getD j default) j n ts.length = true
theorem formedR_iff {ts : List Nd} {n : Int} (hf : Fm ts n) : formedR ts n = true ↔ ∀ j : Nat, 1 ≤ j → j < ts.length → cn ts j = 1 := by
  obtain ⟨ps', h1, h2, h3⟩ := prL_get (n := n) (size := ts.length) ts 0 (List.replicate ts.length 0) (by simp) (fun j hj => by simpa using hf j hj)
  unfold formedR
  rw [h1]
  simp only
  rw [oneL_iff]
  have h4 : ∀ j, j < ts.length → ps'.getD j default = cn ts j := fun j hj => by
    rw [h3 j (by simpa using hj)]
    have : (List.replicate ts.length (0 : Int)).getD j default = 0 := by
      rw [List.getD_eq_getElem?_getD, List.getElem?_replicate]
      split <;> rfl
    omega
  constructor
  · exact fun h j h5 h6 => by rw [← h4 j h6]; exact h j h5 (by omega)
  · exact fun h j h5 h6 => by rw [h4 j (by omega)]; exact h j h5 (by omega)
end Go.Proofs.YtfegpmoephdkpaaDoor
