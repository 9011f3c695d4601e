/- The plain law of TreeChecks, its paths. -/
import Derived.Test.YtfegpmoephdkpaaDoorM
namespace Go.Proofs.YtfegpmoephdkpaaDoor
open Go Go.Cx
set_option linter.unusedVariables false
set_option linter.unusedSimpArgs false

def Ed (ts : List Nd) (p c : Nat) : Prop := p < ts.length ∧ (ts.getD p default).v ≠ 0 ∧ ((ts.getD p default).no = c ∨ (ts.getD p default).yes = c)
/-- a path of one edge or more -/
inductive Pr (ts : List Nd) : Nat → Nat → Prop
  | one {p c : Nat} : Ed ts p c → Pr ts p c
  | cons {p q c : Nat} : Ed ts p q → Pr ts q c → Pr ts p c
theorem Pr.snoc {ts : List Nd} {p q c : Nat} (h : Pr ts p q) (e : Ed ts q c) : Pr ts p c := by
  induction h with
  | one e1 => exact .cons e1 (.one e)
  | cons e1 _ ih => exact .cons e1 (ih e)
theorem Pr.last {ts : List Nd} {p c : Nat} (h : Pr ts p c) : ∃ q, Ed ts q c ∧ (p = q ∨ Pr ts p q) := by
  induction h with
  | one e => exact ⟨_, e, .inl rfl⟩
  | cons e _ ih =>
    obtain ⟨q, h1, h2⟩ := ih
    rcases h2 with rfl | h2
    · exact ⟨_, h1, .inr (.one e)⟩
    · exact ⟨q, h1, .inr (.cons e h2)⟩
theorem Pr.start {ts : List Nd} {p c : Nat} (h : Pr ts p c) : p < ts.length ∧ (ts.getD p default).v ≠ 0 := by
  cases h with
  | one e => exact ⟨e.1, e.2.1⟩
  | cons e _ => exact ⟨e.1, e.2.1⟩
theorem Ed.lt {ts : List Nd} {n : Int} (hf : Fm ts n) {p c : Nat} (e : Ed ts p c) : p < c ∧ c < ts.length := by
  obtain ⟨h1, h2, h3⟩ := e
  obtain ⟨_, _, _, a1, a2, a3, a4⟩ := fmd_q (hf p h1) h2
  rcases h3 with h3 | h3 <;> omega
theorem Pr.lt {ts : List Nd} {n : Int} (hf : Fm ts n) {p c : Nat} (h : Pr ts p c) : p < c ∧ c < ts.length := by
  induction h with
  | one e => exact e.lt hf
  | cons e _ ih => have := e.lt hf; omega

theorem leads_iff {ts : List Nd} {n : Int} (hf : Fm ts n) (v : Int) (hv : v ≠ 0) : ∀ (f c : Nat), c < ts.length → ts.length - c ≤ f → (leadsN ts v f c = true ↔ ∃ d, (d = c ∨ Pr ts c d) ∧ (ts.getD d default).v = v)
  | 0, c, h1, h2 => by omega
  | f + 1, c, h1, h2 => by
    rw [leadsN, Int.toNat_natCast]
    by_cases hc : (ts.getD c default).v = 0
    · rw [if_pos hc]
      constructor
      · intro h; cases h
      · rintro ⟨d, rfl | hp, hd⟩
        · omega
        · exact absurd hc hp.start.2
    · rw [if_neg hc]
      obtain ⟨_, _, _, a1, a2, a3, a4⟩ := fmd_q (hf c h1) hc
      have e1 : ((ts.getD c default).no.toNat : Int) = (ts.getD c default).no := Int.toNat_of_nonneg (by omega)
      have e2 : ((ts.getD c default).yes.toNat : Int) = (ts.getD c default).yes := Int.toNat_of_nonneg (by omega)
      have i1 := leads_iff hf v hv f (ts.getD c default).no.toNat (by omega) (by omega)
      have i2 := leads_iff hf v hv f (ts.getD c default).yes.toNat (by omega) (by omega)
      rw [e1] at i1
      rw [e2] at i2
      rw [Bool.or_eq_true, Bool.or_eq_true, decide_eq_true_iff, i1, i2]
      constructor
      · rintro ((h | ⟨d, h3, h4⟩) | ⟨d, h3, h4⟩)
        · exact ⟨c, .inl rfl, h⟩
        · have e : Ed ts c (ts.getD c default).no.toNat := ⟨h1, hc, .inl e1.symm⟩
          rcases h3 with rfl | h3
          · exact ⟨_, .inr (.one e), h4⟩
          · exact ⟨d, .inr (.cons e h3), h4⟩
        · have e : Ed ts c (ts.getD c default).yes.toNat := ⟨h1, hc, .inr e2.symm⟩
          rcases h3 with rfl | h3
          · exact ⟨_, .inr (.one e), h4⟩
          · exact ⟨d, .inr (.cons e h3), h4⟩
      · rintro ⟨d, rfl | hp, hd⟩
        · exact .inl (.inl hd)
        · have key : ∀ q, Ed ts c q → (d = q ∨ Pr ts q d) → ((ts.getD c default).v = v ∨ ∃ d, (d = (ts.getD c default).no.toNat ∨ Pr ts (ts.getD c default).no.toNat d) ∧ (ts.getD d default).v = v) ∨ ∃ d, (d = (ts.getD c default).yes.toNat ∨ Pr ts (ts.getD c default).yes.toNat d) ∧ (ts.getD d default).v = v := by
            rintro q ⟨_, _, hq | hq⟩ hh
            · have : q = (ts.getD c default).no.toNat := by omega
              exact .inl (.inr ⟨d, this ▸ hh, hd⟩)
            · have : q = (ts.getD c default).yes.toNat := by omega
              exact .inr ⟨d, this ▸ hh, hd⟩
          cases hp with
          | one e => exact key d e (.inl rfl)
          | cons e h => exact key _ e (.inr h)

theorem ldL_iff {ts : List Nd} {n : Int} (hf : Fm ts n) : ∀ (m k : Nat), k + m = ts.length → (ldL ts k m = true ↔ ∀ p, k ≤ p → p < ts.length → (ts.getD p default).v ≠ 0 → ¬ ∃ d, Pr ts p d ∧ (ts.getD d default).v = (ts.getD p default).v)
  | 0, k, h => by
    simp only [ldL, true_iff]
    intro p h1 h2
    omega
  | m + 1, k, h => by
    have hk : k < ts.length := by omega
    rw [ldL, Bool.and_eq_true, ldL_iff hf m (k + 1) (by omega)]
    have hone : ((!(decide (0 < (ts.getD k default).v) && (leadsN ts (ts.getD k default).v ts.length (ts.getD k default).no || leadsN ts (ts.getD k default).v ts.length (ts.getD k default).yes))) = true) ↔ ((ts.getD k default).v ≠ 0 → ¬ ∃ d, Pr ts k d ∧ (ts.getD d default).v = (ts.getD k default).v) := by
      by_cases hv : (ts.getD k default).v = 0
      · have : decide (0 < (ts.getD k default).v) = false := decide_eq_false (by omega)
        rw [this, Bool.false_and]
        exact ⟨fun _ h => absurd hv h, fun _ => rfl⟩
      · obtain ⟨_, hp, _, a1, a2, a3, a4⟩ := fmd_q (hf k hk) hv
        have e1 : ((ts.getD k default).no.toNat : Int) = (ts.getD k default).no := Int.toNat_of_nonneg (by omega)
        have e2 : ((ts.getD k default).yes.toNat : Int) = (ts.getD k default).yes := Int.toNat_of_nonneg (by omega)
        have i1 := leads_iff hf _ hv ts.length (ts.getD k default).no.toNat (by omega) (by omega)
        have i2 := leads_iff hf _ hv ts.length (ts.getD k default).yes.toNat (by omega) (by omega)
        rw [e1] at i1
        rw [e2] at i2
        rw [decide_eq_true hp, Bool.true_and, Bool.not_eq_true', Bool.or_eq_false_iff, ← Bool.not_eq_true, ← Bool.not_eq_true, i1, i2]
        constructor
        · rintro ⟨h3, h4⟩ _ ⟨d, hd, he⟩
          have key : ∀ q, Ed ts k q → (d = q ∨ Pr ts q d) → False := by
            rintro q ⟨_, _, hq | hq⟩ hh
            · have : q = (ts.getD k default).no.toNat := by omega
              exact h3 ⟨d, this ▸ hh, he⟩
            · have : q = (ts.getD k default).yes.toNat := by omega
              exact h4 ⟨d, this ▸ hh, he⟩
          cases hd with
          | one e => exact key d e (.inl rfl)
          | cons e h => exact key _ e (.inr h)
        · intro h3
          have h4 := h3 hv
          refine ⟨?_, ?_⟩
          · rintro ⟨d, hd, he⟩
            have e : Ed ts k (ts.getD k default).no.toNat := ⟨hk, hv, .inl e1.symm⟩
            rcases hd with rfl | hd
            · exact h4 ⟨_, .one e, he⟩
            · exact h4 ⟨d, .cons e hd, he⟩
          · rintro ⟨d, hd, he⟩
            have e : Ed ts k (ts.getD k default).yes.toNat := ⟨hk, hv, .inr e2.symm⟩
            rcases hd with rfl | hd
            · exact h4 ⟨_, .one e, he⟩
            · exact h4 ⟨d, .cons e hd, he⟩
    rw [hone]
    constructor
    · rintro ⟨h1, h2⟩ p h3 h4
      rcases Nat.eq_or_lt_of_le h3 with rfl | h5
      · exact h1
      · exact h2 p h5 h4
    · exact fun h => ⟨h k (Nat.le_refl _) hk, fun p h3 h4 => h p (by omega) h4⟩
end Go.Proofs.YtfegpmoephdkpaaDoor
