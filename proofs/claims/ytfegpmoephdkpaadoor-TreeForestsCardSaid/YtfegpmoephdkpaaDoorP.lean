/- The plain law of TreeChecks: chkL, and the join. -/
import Derived.Test.YtfegpmoephdkpaaDoorO
namespace Go.Proofs.YtfegpmoephdkpaaDoor
open Go Go.Cx
set_option linter.unusedVariables false
set_option linter.unusedSimpArgs false

theorem cn_fin {ts : List Nd} {n : Int} (hf : Fm ts n) {k : Nat} (hk : k < ts.length) : cn ts k = cn (ts.take k) k := by
  have h := cn_app (ts.take k) (ts.drop k) k
  rw [List.take_append_drop] at h
  have h2 : cn (ts.drop k) k = 0 := cn_zero (n := n) (size := ts.length) (ts.drop k) k (fun j hj => by
    rw [List.length_drop] at hj
    have := hf (k + j) (by omega)
    rw [List.getD_eq_getElem?_getD, List.getElem?_drop, ← List.getD_eq_getElem?_getD]
    simpa using this) k (Nat.le_refl _)
  omega
/-- the state of Check in front of the k-th node: the counts -/
def InvP (ts : List Nd) (k : Nat) (ps : List Int) : Prop := ps.length = ts.length ∧ ∀ j, j < ts.length → ps.getD j default = cn (ts.take k) j
theorem InvP.leaf {ts : List Nd} {k : Nat} {ps : List Int} (h : InvP ts k ps) (hk : k < ts.length) (hv : (ts.getD k default).v = 0) : InvP ts (k + 1) ps :=
  ⟨h.1, fun j hj => by rw [h.2 j hj, cn_take ts k j hk, cn1, if_pos hv]; omega⟩
theorem InvP.quest {ts : List Nd} {n : Int} {k : Nat} {ps : List Int} (h : InvP ts k ps) (hk : k < ts.length) (hf : Fm ts n) (hv : (ts.getD k default).v ≠ 0) :
    InvP ts (k + 1) ((ps.set (ts.getD k default).no.toNat (ps.getD (ts.getD k default).no.toNat default + 1)).set (ts.getD k default).yes.toNat ((ps.set (ts.getD k default).no.toNat (ps.getD (ts.getD k default).no.toNat default + 1)).getD (ts.getD k default).yes.toNat default + 1)) := by
  obtain ⟨_, _, _, a1, a2, a3, a4⟩ := fmd_q (hf k hk) hv
  have hl := h.1
  refine ⟨by simp only [List.length_set]; exact hl, fun j hj => ?_⟩
  rw [bump_get ps _ hv (by omega) (by omega) (by omega) (by omega) j (by omega), h.2 j hj, cn_take ts k j hk]
theorem chk_cnt {ts : List Nd} {n : Int} (hf : Fm ts n) : ∀ (m k : Nat) (ps : List Int) (qs : List (Nat × Nat)), k + m = ts.length → InvP ts k ps → chkL n ts.length (ts.drop k) k ps qs = true → ∀ j, k ≤ j → 1 ≤ j → j < ts.length → cn ts j = 1
  | 0, k, ps, qs, h, _, _, j, h1, _, h2 => by omega
  | m + 1, k, ps, qs, h, hi, hc, j, h1, h2, h3 => by
    have hk : k < ts.length := by omega
    rw [drop_one ts k hk, chkL, if_neg (by rw [hf k hk]; decide)] at hc
    split at hc
    · cases hc
    case isFalse hp =>
      have hone : 1 ≤ k → cn ts k = 1 := fun h0 => by
        rw [cn_fin hf hk, ← hi.2 k hk]
        rcases Decidable.em (ps.getD k default = 1) with h | h
        · exact h
        · exact absurd ⟨by omega, h⟩ hp
      rcases Nat.eq_or_lt_of_le h1 with rfl | h5
      · exact hone h2
      split at hc
      case isTrue hv => exact chk_cnt hf m (k + 1) ps qs (by omega) (hi.leaf hk hv) hc j h5 h2 h3
      case isFalse hv =>
        split at hc
        · cases hc
        · exact chk_cnt hf m (k + 1) _ _ (by omega) (hi.quest hk hf hv) hc j h5 h2 h3

def Anc (ts : List Nd) (k : Nat) (u : Int) : Prop := ∃ i, Pr ts i k ∧ (ts.getD i default).v = u
/-- the state of Check in front of the k-th node: the sets -/
def InvQ (ts : List Nd) (k : Nat) (qs : List (Nat × Nat)) : Prop := qs.length = ts.length ∧ ∀ j, j < ts.length → ∀ u, hasB (qs.getD j default) u = true ↔ ∃ p, p < k ∧ Ed ts p j ∧ ((ts.getD p default).v = u ∨ Anc ts p u)
theorem InvQ.here {ts : List Nd} {n : Int} {k : Nat} {qs : List (Nat × Nat)} (h : InvQ ts k qs) (hf : Fm ts n) (hk : k < ts.length) (u : Int) : hasB (qs.getD k default) u = true ↔ Anc ts k u := by
  rw [h.2 k hk u]
  constructor
  · rintro ⟨p, _, e, hv | ⟨i, hi, hu⟩⟩
    · exact ⟨p, .one e, hv⟩
    · exact ⟨i, hi.snoc e, hu⟩
  · rintro ⟨i, hi, hu⟩
    obtain ⟨q, e, h3⟩ := hi.last
    rcases h3 with rfl | h3
    · exact ⟨i, (e.lt hf).1, e, .inl hu⟩
    · exact ⟨q, (e.lt hf).1, e, .inr ⟨i, h3, hu⟩⟩
theorem InvQ.leaf {ts : List Nd} {k : Nat} {qs : List (Nat × Nat)} (h : InvQ ts k qs) (hv : (ts.getD k default).v = 0) : InvQ ts (k + 1) qs := by
  refine ⟨h.1, fun j hj u => ?_⟩
  rw [h.2 j hj u]
  constructor
  · rintro ⟨p, h1, h2⟩; exact ⟨p, by omega, h2⟩
  · rintro ⟨p, h1, e, h2⟩
    rcases Nat.eq_or_lt_of_le (Nat.le_of_lt_succ h1) with rfl | h3
    · exact absurd hv e.2.1
    · exact ⟨p, h3, e, h2⟩
theorem InvQ.quest {ts : List Nd} {n : Int} (hn : n ≤ 128) {k : Nat} {qs : List (Nat × Nat)} (h : InvQ ts k qs) (hk : k < ts.length) (hf : Fm ts n) (hc : ∀ j, 1 ≤ j → j < ts.length → cn ts j = 1) (hv : (ts.getD k default).v ≠ 0) :
    InvQ ts (k + 1) ((qs.set (ts.getD k default).no.toNat (withS (qs.getD k default) (ts.getD k default).v)).set (ts.getD k default).yes.toNat (withS ((qs.set (ts.getD k default).no.toNat (withS (qs.getD k default) (ts.getD k default).v)).getD k default) (ts.getD k default).v)) := by
  obtain ⟨_, hp, hpn, a1, a2, a3, a4⟩ := fmd_q (hf k hk) hv
  have hl := h.1
  have hkk : (qs.set (ts.getD k default).no.toNat (withS (qs.getD k default) (ts.getD k default).v)).getD k default = qs.getD k default := by
    rw [getD_set, if_neg (by omega)]
  rw [hkk]
  refine ⟨by simp only [List.length_set]; exact hl, fun j hj u => ?_⟩
  have hget : ((qs.set (ts.getD k default).no.toNat (withS (qs.getD k default) (ts.getD k default).v)).set (ts.getD k default).yes.toNat (withS (qs.getD k default) (ts.getD k default).v)).getD j default = if (ts.getD k default).no = j ∨ (ts.getD k default).yes = j then withS (qs.getD k default) (ts.getD k default).v else qs.getD j default := by
    rw [getD_set, getD_set]
    simp only [List.length_set]
    by_cases e2 : (ts.getD k default).yes = j
    · rw [if_pos ⟨by omega, by omega⟩, if_pos (.inr e2)]
    · rw [if_neg (by omega)]
      by_cases e1 : (ts.getD k default).no = j
      · rw [if_pos ⟨by omega, by omega⟩, if_pos (.inl e1)]
      · rw [if_neg (by omega), if_neg (by omega)]
  rw [hget]
  by_cases he : (ts.getD k default).no = j ∨ (ts.getD k default).yes = j
  · rw [if_pos he, has_with _ _ _ (by omega), h.here hf hk u]
    have e : Ed ts k j := ⟨hk, hv, he⟩
    constructor
    · rintro (h1 | h1)
      · exact ⟨k, by omega, e, .inr h1⟩
      · exact ⟨k, by omega, e, .inl h1.symm⟩
    · rintro ⟨p, h1, e', h2⟩
      rcases Nat.eq_or_lt_of_le (Nat.le_of_lt_succ h1) with rfl | h3
      · exact h2.elim (fun h => .inr h.symm) .inl
      · exact (ed_one (hc j (by omega) hj) e' e h3).elim
  · rw [if_neg he, h.2 j hj u]
    constructor
    · rintro ⟨p, h1, h2⟩; exact ⟨p, by omega, h2⟩
    · rintro ⟨p, h1, e, h2⟩
      rcases Nat.eq_or_lt_of_le (Nat.le_of_lt_succ h1) with rfl | h3
      · exact absurd e.2.2 he
      · exact ⟨p, h3, e, h2⟩

theorem chk_iff {ts : List Nd} {n : Int} (hn : n ≤ 128) (hf : Fm ts n) (hc : ∀ j, 1 ≤ j → j < ts.length → cn ts j = 1) : ∀ (m k : Nat) (ps : List Int) (qs : List (Nat × Nat)), k + m = ts.length → InvP ts k ps → InvQ ts k qs →
    (chkL n ts.length (ts.drop k) k ps qs = true ↔ ∀ p, k ≤ p → p < ts.length → (ts.getD p default).v ≠ 0 → ¬ Anc ts p (ts.getD p default).v)
  | 0, k, ps, qs, h, _, _ => by
    rw [List.drop_eq_nil_of_le (by omega), chkL]
    simp only [true_iff]
    intro p h1 h2
    omega
  | m + 1, k, ps, qs, h, hi, hq => by
    have hk : k < ts.length := by omega
    have hcn : ¬ (0 < k ∧ ps.getD k default ≠ 1) := by
      rintro ⟨h1, h2⟩
      rw [hi.2 k hk, ← cn_fin hf hk] at h2
      exact h2 (hc k h1 hk)
    rw [drop_one ts k hk, chkL, if_neg (by rw [hf k hk]; decide), if_neg hcn]
    have part : ∀ (Q : Prop), ((∀ p, k + 1 ≤ p → p < ts.length → (ts.getD p default).v ≠ 0 → ¬ Anc ts p (ts.getD p default).v) ↔ Q) → ((ts.getD k default).v ≠ 0 → ¬ Anc ts k (ts.getD k default).v) → (Q ↔ ∀ p, k ≤ p → p < ts.length → (ts.getD p default).v ≠ 0 → ¬ Anc ts p (ts.getD p default).v) := fun Q hQ h0 => by
      rw [← hQ]
      constructor
      · intro h1 p h2 h3
        rcases Nat.eq_or_lt_of_le h2 with rfl | h5
        · exact h0
        · exact h1 p h5 h3
      · exact fun h1 p h2 h3 => h1 p (by omega) h3
    by_cases hv : (ts.getD k default).v = 0
    · rw [if_pos hv]
      exact part _ (chk_iff hn hf hc m (k + 1) ps qs (by omega) (hi.leaf hk hv) (hq.leaf hv)).symm (fun h => absurd hv h)
    · rw [if_neg hv]
      by_cases hh : hasB (qs.getD k default) (ts.getD k default).v = true
      · rw [if_pos hh]
        rw [hq.here hf hk] at hh
        constructor
        · intro h; cases h
        · intro h; exact absurd hh (h k (Nat.le_refl _) hk hv)
      · rw [if_neg hh]
        rw [hq.here hf hk] at hh
        exact part _ (chk_iff hn hf hc m (k + 1) _ _ (by omega) (hi.quest hk hf hv) (hq.quest hn hk hf hc hv)).symm (fun _ => hh)

theorem check_eq (ts : List Nd) (n : Int) : checkT ts n = checkR ts n := by
  unfold checkT checkR
  split
  · rfl
  case isFalse h1 =>
  split
  · rfl
  split
  · rfl
  case isFalse h3 =>
  by_cases hf : Fm ts n
  · have hp0 : InvP ts 0 (List.replicate ts.length 0) := ⟨by simp, fun j hj => by
      rw [List.take_zero, cn, List.getD_eq_getElem?_getD, List.getElem?_replicate]
      split <;> rfl⟩
    have hq0 : InvQ ts 0 (List.replicate ts.length (0, 0)) := ⟨by simp, fun j hj u => by
      have : hasB ((List.replicate ts.length ((0, 0) : Nat × Nat)).getD j default) u = false := by
        rw [List.getD_eq_getElem?_getD, List.getElem?_replicate]
        split <;> (unfold hasB; simp [default, instInhabitedProd])
      rw [this]
      constructor
      · intro h; cases h
      · rintro ⟨p, h, _⟩; omega⟩
    have hcnt := chk_cnt hf ts.length 0 _ (List.replicate ts.length (0, 0)) (by omega) hp0
    rw [List.drop_zero] at hcnt
    by_cases hc : ∀ j, 1 ≤ j → j < ts.length → cn ts j = 1
    · have h5 := chk_iff (by omega) hf hc ts.length 0 _ _ (by omega) hp0 hq0
      rw [List.drop_zero] at h5
      have h6 := ldL_iff hf ts.length 0 (by omega)
      rw [if_neg (show ¬ formedR ts n = false by rw [(formedR_iff hf).2 hc]; decide)]
      have h7 : chkL n ts.length ts 0 (List.replicate ts.length 0) (List.replicate ts.length (0, 0)) = true ↔ ldL ts 0 ts.length = true := by
        rw [h5, h6]
        constructor
        · rintro h p _ hp hv ⟨d, hd, he⟩
          exact h d (Nat.zero_le _) (hd.lt hf).2 (by rw [he]; exact hv) ⟨p, hd, he.symm⟩
        · rintro h p _ hp hv ⟨i, hi, he⟩
          exact h i (Nat.zero_le _) hi.start.1 hi.start.2 ⟨p, hi, he.symm⟩
      by_cases h8 : ldL ts 0 ts.length = true
      · rw [if_pos h8, if_pos (h7.2 h8)]
      · rw [if_neg h8, if_neg (fun h => h8 (h7.1 h))]
    · have h5 : formedR ts n = false := by
        cases h6 : formedR ts n with
        | false => rfl
        | true => exact absurd ((formedR_iff hf).1 h6) hc
      rw [if_pos h5, if_neg]
      exact fun h => hc (fun j a b => hcnt h j (Nat.zero_le _) a b)
  · have ⟨j, hj, hb⟩ : ∃ j : Nat, j < ts.length ∧ fmd (ts.getD j default) j n ts.length = false := by
      apply Classical.byContradiction
      intro h
      apply hf
      intro j hj
      cases hb : fmd (ts.getD j default) j n ts.length with
      | true => rfl
      | false => exact absurd ⟨j, hj, hb⟩ h
    have hb' : fmd (ts.getD j default) ((0 : Nat) + j) n ts.length = false := by simpa using hb
    have h5 : formedR ts n = false := by unfold formedR; rw [prL_none ts 0 _ j hj hb']
    rw [if_pos h5, chkL_false ts 0 _ _ j hj hb', if_neg (by decide)]
end Go.Proofs.YtfegpmoephdkpaaDoor
