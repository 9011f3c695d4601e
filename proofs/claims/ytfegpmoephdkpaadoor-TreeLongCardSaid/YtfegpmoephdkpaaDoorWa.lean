/- TreeTurns: good, vars.Without, and the plain law. -/
import Derived.Test.YtfegpmoephdkpaaDoorVb
namespace Go.Proofs.YtfegpmoephdkpaaDoor
open Go Go.Cx Go.RowKit
set_option linter.unusedVariables false
set_option linter.unusedSimpArgs false
set_option maxHeartbeats 4000000
attribute [local irreducible] J JC thenK blockK loopK roundK drawK retK QW Qt pel List.set Calls

theorem andnot_bit (a k : Nat) (hk : k < 64) (ha : a < 2 ^ 64) (j : Nat) : (a &&& (2 ^ 64 - 1 - 2 ^ k)).testBit j = (a.testBit j && decide (j ≠ k)) := by
  rw [Nat.testBit_and]
  by_cases hj : j < 64
  · have : 2 ^ 64 - 1 - 2 ^ k = 2 ^ 64 - (2 ^ k + 1) := by omega
    rw [this, Nat.testBit_two_pow_sub_succ (pow64 hk), Nat.testBit_two_pow]
    simp [hj, eq_comm]
  · have : a.testBit j = false := Nat.testBit_lt_two_pow (Nat.lt_of_lt_of_le ha (Nat.pow_le_pow_right (by omega) (by omega)))
    rw [this]; simp
theorem okS_without {s : Nat × Nat} (h : okS s) (v : Int) : okS (withoutS s v) := by
  unfold withoutS
  split
  · exact ⟨Nat.lt_of_le_of_lt Nat.and_le_left h.1, h.2⟩
  · split
    · exact ⟨h.1, Nat.lt_of_le_of_lt Nat.and_le_left h.2⟩
    · exact h
theorem without_any (s : Nat × Nat) (hs : okS s) (v : Int) (w : World) :
    Calls Tryd.prog 26 #[sv s, .int .i64 v] w fun e w' => e = .returned (sv (withoutS s v)) ∧ Below w.heap.size w w' := by
  obtain ⟨h1, h2⟩ := hs
  unfold withoutS
  by_cases hl : 1 ≤ v ∧ v ≤ 64
  · have hp := pow64 (j := (v - 1).toNat) (by omega)
    rw [if_pos hl]
    refine calls_of_JC (R := []) Tryd.func26 Tryd.ntmps26 rfl rfl (Holds.nil _) ?_
    repeat' first
      | (refine J.isJ ?_; first | (first | (refine J.o 0 ?_; refine J.ev' hΓ ?_) | refine J.nil ?_ | refine J.kd ?_ | (refine J.o 4 ?_; first | refine J.e0 hΓ ?_ | refine J.lT default hΓ ?_ | refine J.e1 hΓ ?_ | refine J.e2 hΓ ?_ | refine J.lR hΓ ?_) | (refine J.o 3 ?_; first | refine J.iA hΓ ?_ | refine J.iJ hΓ ?_ | refine J.fP hΓ ?_ | refine J.iC hΓ ?_ | refine J.ev' hΓ ?_) | (refine J.o 1 ?_; first | refine J.ad ?_ | refine J.ct ?_ | refine J.sb ?_ | refine J.mu ?_ | refine J.ng ?_ | refine J.qu ?_ | refine J.rm ?_ | refine J.s1 ?_ | refine J.sr ?_ | refine J.aW ?_ | refine J.oW ?_ | refine J.nW ?_) | (refine J.o 2 ?_; refine J.cv _ hΓ ?_) | (refine J.o 5 ?_; first | refine J.t0 hΓ ?_ | refine J.t1 hΓ ?_ | refine J.t2 hΓ ?_ | refine J.tT _ default hΓ (fun _ _ => ?_) | refine J.tT1 _ default hΓ (fun _ _ => ?_) | refine J.tT2 _ default hΓ (fun _ _ => ?_) | refine J.tT3 _ default hΓ (fun _ _ => ?_)) | (refine J.o 6 ?_; refine J.bx (fun _ => ?_)) | (refine J.o 7 ?_; refine J.al hΓ (fun _ => ?_)) | (refine J.o 8 ?_; refine J.bd hΓ ?_) | (refine J.o 9 ?_; refine J.bl hΓ (fun _ => ?_)) | (refine J.o 10 ?_; first | refine J.ls hΓ ?_ | refine J.ev' hΓ ?_) | (refine J.o 11 ?_; first | refine J.eS ?_ | refine J.xS ?_ | refine J.ev' hΓ ?_ | refine J.nT hΓ ?_) | (refine J.o 12 ?_; refine J.ix hΓ ?_) | (refine J.o 13 ?_; first | refine J.sL hΓ ?_ | refine J.sH hΓ ?_) | (refine J.o 14 ?_; refine J.mf hΓ ?_) | refine J.kn ?_) | (refine J.call0 ePlace rfl rfl (fun w hw => place_low v hl w) ?_) | ((fail_if_success refine J.wt ?_); refine J.gc rfl rfl (fun hc => ?_) (fun hc => ?_) <;> ((try simp only [decide_eq_true_eq, decide_eq_false_iff_not, beq_iff_eq, beq_eq_false_iff_ne, bne_iff_ne, bne_eq_false_iff_eq, Bool.not_eq_true', Bool.not_eq_false', Bool.not_eq_true, Bool.not_eq_false] at hc) <;> first | (first | (exact absurd rfl hc) | (exfalso; omega) | (exact absurd (hc.symm.trans (by assumption : _ = false)) (by decide)) | (exact absurd (hc.symm.trans (by assumption : _ = true)) (by decide))) | skip)))
      | (first | refine JC.seq ?_ | refine JC.region ?_ | refine JC.block ?_ | refine JC.ret ?_ | refine JC.exit ?_ | refine JC.skip ?_ | refine thenK.nn ?_ | refine thenK.r ?_ | refine thenK.x ?_ | refine blockK.nn ?_ | refine blockK.r ?_ | refine blockK.hit rfl ?_ | refine blockK.miss rfl ?_ | refine JC.condT rfl ?_ | refine JC.condF rfl ?_ | (refine JC.cond rfl (fun hc => ?_) (fun hc => ?_) <;> ((try simp only [decide_eq_true_eq, decide_eq_false_iff_not, beq_iff_eq, beq_eq_false_iff_ne, bne_iff_ne, bne_eq_false_iff_eq, Bool.not_eq_true', Bool.not_eq_false', Bool.not_eq_true, Bool.not_eq_false] at hc) <;> first | (first | (exact absurd rfl hc) | (exfalso; omega) | (exact absurd (hc.symm.trans (by assumption : _ = false)) (by decide)) | (exact absurd (hc.symm.trans (by assumption : _ = true)) (by decide))) | skip)) | (refine JC.drawA [] (by kernel_rfl) (by kernel_rfl) ?_) | refine drawK.nn ?_ | refine roundK.nn ?_ | refine roundK.r ?_ | refine roundK.x ?_ | refine loopK.r ?_ | refine loopK.x ?_)
      | fail
    all_goals (refine retC hΓ rfl rfl rfl Rd.hd rfl (fun w1 hw => ⟨rfl, hw.below⟩))
  by_cases hh : 65 ≤ v ∧ v ≤ 128
  · have hp := pow64 (j := (v - 65).toNat) (by omega)
    rw [if_neg hl, if_pos hh]
    refine calls_of_JC (R := []) Tryd.func26 Tryd.ntmps26 rfl rfl (Holds.nil _) ?_
    repeat' first
      | (refine J.isJ ?_; first | (first | (refine J.o 0 ?_; refine J.ev' hΓ ?_) | refine J.nil ?_ | refine J.kd ?_ | (refine J.o 4 ?_; first | refine J.e0 hΓ ?_ | refine J.lT default hΓ ?_ | refine J.e1 hΓ ?_ | refine J.e2 hΓ ?_ | refine J.lR hΓ ?_) | (refine J.o 3 ?_; first | refine J.iA hΓ ?_ | refine J.iJ hΓ ?_ | refine J.fP hΓ ?_ | refine J.iC hΓ ?_ | refine J.ev' hΓ ?_) | (refine J.o 1 ?_; first | refine J.ad ?_ | refine J.ct ?_ | refine J.sb ?_ | refine J.mu ?_ | refine J.ng ?_ | refine J.qu ?_ | refine J.rm ?_ | refine J.s1 ?_ | refine J.sr ?_ | refine J.aW ?_ | refine J.oW ?_ | refine J.nW ?_) | (refine J.o 2 ?_; refine J.cv _ hΓ ?_) | (refine J.o 5 ?_; first | refine J.t0 hΓ ?_ | refine J.t1 hΓ ?_ | refine J.t2 hΓ ?_ | refine J.tT _ default hΓ (fun _ _ => ?_) | refine J.tT1 _ default hΓ (fun _ _ => ?_) | refine J.tT2 _ default hΓ (fun _ _ => ?_) | refine J.tT3 _ default hΓ (fun _ _ => ?_)) | (refine J.o 6 ?_; refine J.bx (fun _ => ?_)) | (refine J.o 7 ?_; refine J.al hΓ (fun _ => ?_)) | (refine J.o 8 ?_; refine J.bd hΓ ?_) | (refine J.o 9 ?_; refine J.bl hΓ (fun _ => ?_)) | (refine J.o 10 ?_; first | refine J.ls hΓ ?_ | refine J.ev' hΓ ?_) | (refine J.o 11 ?_; first | refine J.eS ?_ | refine J.xS ?_ | refine J.ev' hΓ ?_ | refine J.nT hΓ ?_) | (refine J.o 12 ?_; refine J.ix hΓ ?_) | (refine J.o 13 ?_; first | refine J.sL hΓ ?_ | refine J.sH hΓ ?_) | (refine J.o 14 ?_; refine J.mf hΓ ?_) | refine J.kn ?_) | (refine J.call0 ePlace rfl rfl (fun w hw => place_high v hh w) ?_) | ((fail_if_success refine J.wt ?_); refine J.gc rfl rfl (fun hc => ?_) (fun hc => ?_) <;> ((try simp only [decide_eq_true_eq, decide_eq_false_iff_not, beq_iff_eq, beq_eq_false_iff_ne, bne_iff_ne, bne_eq_false_iff_eq, Bool.not_eq_true', Bool.not_eq_false', Bool.not_eq_true, Bool.not_eq_false] at hc) <;> first | (first | (exact absurd rfl hc) | (exfalso; omega) | (exact absurd (hc.symm.trans (by assumption : _ = false)) (by decide)) | (exact absurd (hc.symm.trans (by assumption : _ = true)) (by decide))) | skip)))
      | (first | refine JC.seq ?_ | refine JC.region ?_ | refine JC.block ?_ | refine JC.ret ?_ | refine JC.exit ?_ | refine JC.skip ?_ | refine thenK.nn ?_ | refine thenK.r ?_ | refine thenK.x ?_ | refine blockK.nn ?_ | refine blockK.r ?_ | refine blockK.hit rfl ?_ | refine blockK.miss rfl ?_ | refine JC.condT rfl ?_ | refine JC.condF rfl ?_ | (refine JC.cond rfl (fun hc => ?_) (fun hc => ?_) <;> ((try simp only [decide_eq_true_eq, decide_eq_false_iff_not, beq_iff_eq, beq_eq_false_iff_ne, bne_iff_ne, bne_eq_false_iff_eq, Bool.not_eq_true', Bool.not_eq_false', Bool.not_eq_true, Bool.not_eq_false] at hc) <;> first | (first | (exact absurd rfl hc) | (exfalso; omega) | (exact absurd (hc.symm.trans (by assumption : _ = false)) (by decide)) | (exact absurd (hc.symm.trans (by assumption : _ = true)) (by decide))) | skip)) | (refine JC.drawA [] (by kernel_rfl) (by kernel_rfl) ?_) | refine drawK.nn ?_ | refine roundK.nn ?_ | refine roundK.r ?_ | refine roundK.x ?_ | refine loopK.r ?_ | refine loopK.x ?_)
      | fail
    all_goals (refine retC hΓ rfl rfl rfl Rd.hd rfl (fun w1 hw => ⟨rfl, hw.below⟩))
  · rw [if_neg hl, if_neg hh]
    refine calls_of_JC (R := []) Tryd.func26 Tryd.ntmps26 rfl rfl (Holds.nil _) ?_
    repeat' first
      | (refine J.isJ ?_; first | (first | (refine J.o 0 ?_; refine J.ev' hΓ ?_) | refine J.nil ?_ | refine J.kd ?_ | (refine J.o 4 ?_; first | refine J.e0 hΓ ?_ | refine J.lT default hΓ ?_ | refine J.e1 hΓ ?_ | refine J.e2 hΓ ?_ | refine J.lR hΓ ?_) | (refine J.o 3 ?_; first | refine J.iA hΓ ?_ | refine J.iJ hΓ ?_ | refine J.fP hΓ ?_ | refine J.iC hΓ ?_ | refine J.ev' hΓ ?_) | (refine J.o 1 ?_; first | refine J.ad ?_ | refine J.ct ?_ | refine J.sb ?_ | refine J.mu ?_ | refine J.ng ?_ | refine J.qu ?_ | refine J.rm ?_ | refine J.s1 ?_ | refine J.sr ?_ | refine J.aW ?_ | refine J.oW ?_ | refine J.nW ?_) | (refine J.o 2 ?_; refine J.cv _ hΓ ?_) | (refine J.o 5 ?_; first | refine J.t0 hΓ ?_ | refine J.t1 hΓ ?_ | refine J.t2 hΓ ?_ | refine J.tT _ default hΓ (fun _ _ => ?_) | refine J.tT1 _ default hΓ (fun _ _ => ?_) | refine J.tT2 _ default hΓ (fun _ _ => ?_) | refine J.tT3 _ default hΓ (fun _ _ => ?_)) | (refine J.o 6 ?_; refine J.bx (fun _ => ?_)) | (refine J.o 7 ?_; refine J.al hΓ (fun _ => ?_)) | (refine J.o 8 ?_; refine J.bd hΓ ?_) | (refine J.o 9 ?_; refine J.bl hΓ (fun _ => ?_)) | (refine J.o 10 ?_; first | refine J.ls hΓ ?_ | refine J.ev' hΓ ?_) | (refine J.o 11 ?_; first | refine J.eS ?_ | refine J.xS ?_ | refine J.ev' hΓ ?_ | refine J.nT hΓ ?_) | (refine J.o 12 ?_; refine J.ix hΓ ?_) | (refine J.o 13 ?_; first | refine J.sL hΓ ?_ | refine J.sH hΓ ?_) | (refine J.o 14 ?_; refine J.mf hΓ ?_) | refine J.kn ?_) | (refine J.call0 ePlace rfl rfl (fun w hw => place_out v (by omega) w) ?_) | ((fail_if_success refine J.wt ?_); refine J.gc rfl rfl (fun hc => ?_) (fun hc => ?_) <;> ((try simp only [decide_eq_true_eq, decide_eq_false_iff_not, beq_iff_eq, beq_eq_false_iff_ne, bne_iff_ne, bne_eq_false_iff_eq, Bool.not_eq_true', Bool.not_eq_false', Bool.not_eq_true, Bool.not_eq_false] at hc) <;> first | (first | (exact absurd rfl hc) | (exfalso; omega) | (exact absurd (hc.symm.trans (by assumption : _ = false)) (by decide)) | (exact absurd (hc.symm.trans (by assumption : _ = true)) (by decide))) | skip)))
      | (first | refine JC.seq ?_ | refine JC.region ?_ | refine JC.block ?_ | refine JC.ret ?_ | refine JC.exit ?_ | refine JC.skip ?_ | refine thenK.nn ?_ | refine thenK.r ?_ | refine thenK.x ?_ | refine blockK.nn ?_ | refine blockK.r ?_ | refine blockK.hit rfl ?_ | refine blockK.miss rfl ?_ | refine JC.condT rfl ?_ | refine JC.condF rfl ?_ | (refine JC.cond rfl (fun hc => ?_) (fun hc => ?_) <;> ((try simp only [decide_eq_true_eq, decide_eq_false_iff_not, beq_iff_eq, beq_eq_false_iff_ne, bne_iff_ne, bne_eq_false_iff_eq, Bool.not_eq_true', Bool.not_eq_false', Bool.not_eq_true, Bool.not_eq_false] at hc) <;> first | (first | (exact absurd rfl hc) | (exfalso; omega) | (exact absurd (hc.symm.trans (by assumption : _ = false)) (by decide)) | (exact absurd (hc.symm.trans (by assumption : _ = true)) (by decide))) | skip)) | (refine JC.drawA [] (by kernel_rfl) (by kernel_rfl) ?_) | refine drawK.nn ?_ | refine roundK.nn ?_ | refine roundK.r ?_ | refine roundK.x ?_ | refine loopK.r ?_ | refine loopK.x ?_)
      | fail
    all_goals (refine retC hΓ rfl rfl rfl Rd.hd rfl (fun w1 hw => ⟨rfl, hw.below⟩))
theorem has_without (s : Nat × Nat) (hs : okS s) (v u : Int) (hv : 1 ≤ v ∧ v ≤ 128) : hasB (withoutS s v) u = true ↔ (hasB s u = true ∧ u ≠ v) := by
  obtain ⟨h1, h2⟩ := hs
  unfold withoutS
  by_cases hl : 1 ≤ v ∧ v ≤ 64
  · rw [if_pos hl]
    unfold hasB
    by_cases hu : 1 ≤ u ∧ u ≤ 64
    · rw [if_pos hu, if_pos hu, andnot_bit _ _ (by omega) h1]
      simp only [Bool.and_eq_true, decide_eq_true_eq]
      constructor
      · rintro ⟨a, b⟩; exact ⟨a, fun h => b (by rw [h])⟩
      · rintro ⟨a, b⟩; exact ⟨a, fun h => b (by omega)⟩
    · rw [if_neg hu, if_neg hu]
      constructor
      · intro h; exact ⟨h, fun he => hu (by omega)⟩
      · exact fun h => h.1
  · have hh : 65 ≤ v ∧ v ≤ 128 := by omega
    rw [if_neg hl, if_pos hh]
    unfold hasB
    by_cases hu : 1 ≤ u ∧ u ≤ 64
    · rw [if_pos hu, if_pos hu]
      constructor
      · intro h; exact ⟨h, fun he => by omega⟩
      · exact fun h => h.1
    · rw [if_neg hu, if_neg hu]
      by_cases hu2 : 65 ≤ u ∧ u ≤ 128
      · rw [if_pos hu2, if_pos hu2, andnot_bit _ _ (by omega) h2]
        simp only [Bool.and_eq_true, decide_eq_true_eq]
        constructor
        · rintro ⟨a, b⟩; exact ⟨a, fun h => b (by rw [h])⟩
        · rintro ⟨a, b⟩; exact ⟨a, fun h => b (by omega)⟩
      · rw [if_neg hu2, if_neg hu2]
        simp

/-- the answers to questions for x exchanged -/
def sw1 (x : Int) (t : Nd) : Nd := if t.v = x then ⟨t.v, t.yes, t.no, t.c⟩ else t
def turnB (s : Nat × Nat) (x : Int) : Nat × Nat := if hasB s x then withoutS s x else withS s x
theorem turnB_ok {s : Nat × Nat} (h : okS s) (x : Int) : okS (turnB s x) := by
  unfold turnB; split
  · exact okS_without h x
  · exact ok_with h x
theorem has_turn (s : Nat × Nat) (hs : okS s) (x u : Int) (hx : 1 ≤ x ∧ x ≤ 128) : hasB (turnB s x) u = if u = x then !hasB s x else hasB s u := by
  unfold turnB
  by_cases h : hasB s x = true
  · rw [if_pos h, h]
    have := has_without s hs x u hx
    by_cases hu : u = x
    · rw [if_pos hu]
      cases hb : hasB (withoutS s x) u with
      | false => rfl
      | true => exact absurd hu (this.1 hb).2
    · rw [if_neg hu]
      cases hb : hasB (withoutS s x) u <;> cases hc : hasB s u <;> simp_all
  · rw [if_neg h]
    have h' : hasB s x = false := by simpa using h
    rw [h']
    have := has_with s x u hx
    by_cases hu : u = x
    · rw [if_pos hu, this.2 (.inr hu)]; rfl
    · rw [if_neg hu]
      cases hb : hasB (withS s x) u <;> cases hc : hasB s u <;> simp_all
theorem sw_get (x : Int) (ts : List Nd) (hx : x ≠ 0) (j : Nat) : (ts.map (sw1 x)).getD j default = sw1 x (ts.getD j default) := by
  rw [List.getD_eq_getElem?_getD, List.getD_eq_getElem?_getD, List.getElem?_map]
  cases ts[j]? with
  | none => unfold sw1; rw [Option.map_none]; simp [default]
  | some y => rfl
theorem sw_fmd (x : Int) (t : Nd) (i n size : Int) : fmd (sw1 x t) i n size = fmd t i n size := by
  unfold sw1
  split
  · unfold fmd formedB
    dsimp only
    rw [Int.min_comm, Int.max_comm]
    split
    · congr 1; exact propext And.comm
    · rfl
  · rfl
theorem sw_cn (x : Int) : ∀ (ts : List Nd) (j : Nat), cn (ts.map (sw1 x)) j = cn ts j
  | [], j => rfl
  | t :: ts, j => by
    rw [List.map_cons, cn, cn, sw_cn x ts j]
    congr 1
    unfold sw1
    split
    · unfold cn1; dsimp only; split
      · rfl
      · exact Int.add_comm _ _
    · rfl
theorem sw_ed {x : Int} {ts : List Nd} (hx : x ≠ 0) {p c : Nat} : Ed (ts.map (sw1 x)) p c ↔ Ed ts p c := by
  unfold Ed
  rw [sw_get x ts hx, List.length_map]
  unfold sw1
  split
  · dsimp only
    constructor <;> rintro ⟨a, b, c⟩ <;> exact ⟨a, b, c.symm⟩
  · rfl
theorem sw_pr {x : Int} {ts : List Nd} (hx : x ≠ 0) {p c : Nat} (h : Pr (ts.map (sw1 x)) p c) : Pr ts p c := by
  induction h with
  | one e => exact .one ((sw_ed hx).1 e)
  | cons e _ ih => exact .cons ((sw_ed hx).1 e) ih
theorem sw_var (x : Int) (t : Nd) : (sw1 x t).v = t.v := by unfold sw1; split <;> rfl
theorem sw_valid {x : Int} {ts : List Nd} {n : Int} (hx : x ≠ 0) (h : Valid ts n) : Valid (ts.map (sw1 x)) n := by
  refine ⟨h.rng, by rw [List.length_map]; exact h.pos, by rw [List.length_map]; exact h.le, fun j hj => ?_, fun j h1 h2 => ?_, fun p hp hv => ?_⟩
  · rw [List.length_map] at hj ⊢
    rw [sw_get x ts hx, sw_fmd]; exact h.fm j hj
  · rw [List.length_map] at h2
    rw [sw_cn]; exact h.one j h1 h2
  · rw [List.length_map] at hp
    rw [sw_get x ts hx, sw_var] at hv ⊢
    rintro ⟨d, h1, h2⟩
    rw [sw_get x ts hx, sw_var] at h2
    exact h.fresh p hp hv ⟨d, sw_pr hx h1, h2⟩
theorem Valid.mono {ts : List Nd} {n m : Int} (h : Valid ts n) (hm : n ≤ m) (hm2 : m ≤ 128) : Valid ts m := by
  refine ⟨by have := h.rng; omega, h.pos, h.le, fun j hj => ?_, h.one, h.fresh⟩
  have h1 := h.fm j hj
  by_cases hv : (ts.getD j default).v = 0
  · rw [fmd_0 hv] at h1 ⊢; exact h1
  · obtain ⟨a, b, c, d, e, f, g⟩ := fmd_q h1 hv
    unfold fmd formedB
    rw [if_neg hv, a]
    simp only [Bool.and_eq_true, decide_eq_true_eq, Bool.not_false]
    refine ⟨⟨⟨⟨trivial, b⟩, by omega⟩, ?_⟩, ?_⟩
    · rw [Int.min_def]; split <;> omega
    · rw [Int.max_def]; split <;> omega
theorem sw_class {x : Int} {ts : List Nd} (hx : 1 ≤ x ∧ x ≤ 128) (s : Nat × Nat) (hs : okS s) : ∀ (f : Nat) (i : Int), classN (ts.map (sw1 x)) s f i = classN ts (turnB s x) f i
  | 0, i => rfl
  | f + 1, i => by
    rw [classN, classN, sw_get x ts (by omega), sw_var]
    by_cases hv : (ts.getD i.toNat default).v = 0
    · rw [if_pos hv, if_pos hv]
      unfold sw1; split <;> rfl
    · rw [if_neg hv, if_neg hv, sw_class hx s hs f, sw_class hx s hs f, has_turn s hs x _ hx]
      unfold sw1
      by_cases he : (ts.getD i.toNat default).v = x
      · rw [if_pos he, if_pos he, he]
        cases hasB s x <;> rfl
      · rw [if_neg he, if_neg he]
theorem turns_law {ts : List Nd} {n x : Int} (h : Valid ts n) (hn : n ≤ 20) (hx : 1 ≤ x ∧ x ≤ 128) (s : Nat × Nat) (hs : okS s) : classT (ts.map (sw1 x)) s = classT ts (turnB s x) := by
  have hr := h.rng
  have h1 := h.mono (m := 128) (by omega) (by omega)
  unfold classT
  rw [if_pos ((valid_iff _ _).2 h1), if_pos ((valid_iff _ _).2 (sw_valid (by omega) h1)), List.length_map]
  exact sw_class hx s hs _ 0

def goodB (ts : List Nd) (n : Int) : Bool := decide (ts.length ≤ 80) && decide (n ≤ 20) && decide (checkT ts n = 0)
theorem eGood : Entr Tryd.prog 25 := Entr.of Tryd.func25 rfl rfl
theorem good_any (a : Option Addr) (cap : Nat) (ts : List Nd) (n : Int) (h : Heap) (hs : SlT encN 4 a ts h) (w : World) (hw : Holds h w) :
    Calls Tryd.prog 25 #[.slice a ts.length cap, .int .i64 n] w fun e w' => e = .returned (.bool (goodB ts n)) ∧ Below w.heap.size w w' := by
  refine calls_of_JC (R := h) Tryd.func25 Tryd.ntmps25 rfl rfl (hw) ?_
  unfold goodB
  by_cases h1 : ts.length ≤ 80
  · by_cases h2 : n ≤ 20
    · by_cases h3 : checkT ts n = 0
      · have cR := fun (a2 : Option Addr) (cap2 : Nat) (h2 : Heap) (hs2 : SlT encN 4 a2 ts h2) w hw2 => refCheck_eq a2 cap2 ts n h2 hs2 w hw2
        rw [h3] at cR
        rw [decide_eq_true h1, decide_eq_true h2, decide_eq_true h3]
        repeat' first
          | (refine J.isJ ?_; first | (first | (refine J.o 0 ?_; refine J.ev' hΓ ?_) | refine J.nil ?_ | refine J.kd ?_ | (refine J.o 4 ?_; first | refine J.e0 hΓ ?_ | refine J.lT default hΓ ?_ | refine J.e1 hΓ ?_ | refine J.e2 hΓ ?_ | refine J.lR hΓ ?_) | (refine J.o 3 ?_; first | refine J.iA hΓ ?_ | refine J.iJ hΓ ?_ | refine J.fP hΓ ?_ | refine J.iC hΓ ?_ | refine J.ev' hΓ ?_) | (refine J.o 1 ?_; first | refine J.ad ?_ | refine J.ct ?_ | refine J.sb ?_ | refine J.mu ?_ | refine J.ng ?_ | refine J.qu ?_ | refine J.rm ?_ | refine J.s1 ?_ | refine J.sr ?_ | refine J.aW ?_ | refine J.oW ?_ | refine J.nW ?_) | (refine J.o 2 ?_; refine J.cv _ hΓ ?_) | (refine J.o 5 ?_; first | refine J.t0 hΓ ?_ | refine J.t1 hΓ ?_ | refine J.t2 hΓ ?_ | refine J.tT _ default hΓ (fun _ _ => ?_) | refine J.tT1 _ default hΓ (fun _ _ => ?_) | refine J.tT2 _ default hΓ (fun _ _ => ?_) | refine J.tT3 _ default hΓ (fun _ _ => ?_)) | (refine J.o 6 ?_; refine J.bx (fun _ => ?_)) | (refine J.o 7 ?_; refine J.al hΓ (fun _ => ?_)) | (refine J.o 8 ?_; refine J.bd hΓ ?_) | (refine J.o 9 ?_; refine J.bl hΓ (fun _ => ?_)) | (refine J.o 10 ?_; first | refine J.ls hΓ ?_ | refine J.ev' hΓ ?_) | (refine J.o 11 ?_; first | refine J.eS ?_ | refine J.xS ?_ | refine J.ev' hΓ ?_ | refine J.nT hΓ ?_) | (refine J.o 12 ?_; refine J.ix hΓ ?_) | (refine J.o 13 ?_; first | refine J.sL hΓ ?_ | refine J.sH hΓ ?_) | (refine J.o 14 ?_; refine J.mf hΓ ?_) | refine J.kn ?_) | (first | (refine J.fc 14 ?_; refine J.call1 eGiven rfl rfl (fun w hw => given_any a cap ts h hs (by omega) w (hw.rdH (by first | exact RdH.hd | exact RdH.hd.tl | exact RdH.hd.tl.tl | exact RdH.hd.tl.tl.tl | exact RdH.hd.tl.tl.tl.tl | exact RdH.hd.tl.tl.tl.tl.tl | exact RdH.hd.tl.tl.tl.tl.tl.tl | exact RdH.hd.tl.tl.tl.tl.tl.tl.tl | exact RdH.old (fun _ hh => hh) | assumption))) ?_; rintro _ hg ⟨ag, cg, rfl, og⟩) | (refine J.fc 13 ?_; refine J.call0 eCheckR rfl rfl (fun w hw => cR _ _ _ og.sl w (hw.rdH (by first | exact RdH.hd | exact RdH.hd.tl | exact RdH.hd.tl.tl | exact RdH.hd.tl.tl.tl | exact RdH.hd.tl.tl.tl.tl | exact RdH.hd.tl.tl.tl.tl.tl | exact RdH.hd.tl.tl.tl.tl.tl.tl | exact RdH.hd.tl.tl.tl.tl.tl.tl.tl | exact RdH.old (fun _ hh => hh) | assumption))) ?_)) | ((fail_if_success refine J.wt ?_); refine J.gc rfl rfl (fun hc => ?_) (fun hc => ?_) <;> ((try simp only [decide_eq_true_eq, decide_eq_false_iff_not, beq_iff_eq, beq_eq_false_iff_ne, bne_iff_ne, bne_eq_false_iff_eq, Bool.not_eq_true', Bool.not_eq_false', Bool.not_eq_true, Bool.not_eq_false] at hc) <;> first | (first | (exact absurd rfl hc) | (exfalso; omega) | (exact absurd (hc.symm.trans (by assumption : _ = false)) (by decide)) | (exact absurd (hc.symm.trans (by assumption : _ = true)) (by decide))) | skip)))
          | (first | refine JC.seq ?_ | refine JC.region ?_ | refine JC.block ?_ | refine JC.ret ?_ | refine JC.exit ?_ | refine JC.skip ?_ | refine thenK.nn ?_ | refine thenK.r ?_ | refine thenK.x ?_ | refine blockK.nn ?_ | refine blockK.r ?_ | refine blockK.hit rfl ?_ | refine blockK.miss rfl ?_ | refine JC.condT rfl ?_ | refine JC.condF rfl ?_ | (refine JC.cond rfl (fun hc => ?_) (fun hc => ?_) <;> ((try simp only [decide_eq_true_eq, decide_eq_false_iff_not, beq_iff_eq, beq_eq_false_iff_ne, bne_iff_ne, bne_eq_false_iff_eq, Bool.not_eq_true', Bool.not_eq_false', Bool.not_eq_true, Bool.not_eq_false] at hc) <;> first | (first | (exact absurd rfl hc) | (exfalso; omega) | (exact absurd (hc.symm.trans (by assumption : _ = false)) (by decide)) | (exact absurd (hc.symm.trans (by assumption : _ = true)) (by decide))) | skip)) | (refine JC.drawA [] (by kernel_rfl) (by kernel_rfl) ?_) | refine drawK.nn ?_ | refine roundK.nn ?_ | refine roundK.r ?_ | refine roundK.x ?_ | refine loopK.r ?_ | refine loopK.x ?_)
          | fail
        all_goals first | (exfalso; omega) | exact ret1f rfl rfl rfl (fun w1 hw => ⟨rfl, hw.below⟩)
      · rw [decide_eq_true h1, decide_eq_true h2, decide_eq_false h3]
        repeat' first
          | (refine J.isJ ?_; first | (first | (refine J.o 0 ?_; refine J.ev' hΓ ?_) | refine J.nil ?_ | refine J.kd ?_ | (refine J.o 4 ?_; first | refine J.e0 hΓ ?_ | refine J.lT default hΓ ?_ | refine J.e1 hΓ ?_ | refine J.e2 hΓ ?_ | refine J.lR hΓ ?_) | (refine J.o 3 ?_; first | refine J.iA hΓ ?_ | refine J.iJ hΓ ?_ | refine J.fP hΓ ?_ | refine J.iC hΓ ?_ | refine J.ev' hΓ ?_) | (refine J.o 1 ?_; first | refine J.ad ?_ | refine J.ct ?_ | refine J.sb ?_ | refine J.mu ?_ | refine J.ng ?_ | refine J.qu ?_ | refine J.rm ?_ | refine J.s1 ?_ | refine J.sr ?_ | refine J.aW ?_ | refine J.oW ?_ | refine J.nW ?_) | (refine J.o 2 ?_; refine J.cv _ hΓ ?_) | (refine J.o 5 ?_; first | refine J.t0 hΓ ?_ | refine J.t1 hΓ ?_ | refine J.t2 hΓ ?_ | refine J.tT _ default hΓ (fun _ _ => ?_) | refine J.tT1 _ default hΓ (fun _ _ => ?_) | refine J.tT2 _ default hΓ (fun _ _ => ?_) | refine J.tT3 _ default hΓ (fun _ _ => ?_)) | (refine J.o 6 ?_; refine J.bx (fun _ => ?_)) | (refine J.o 7 ?_; refine J.al hΓ (fun _ => ?_)) | (refine J.o 8 ?_; refine J.bd hΓ ?_) | (refine J.o 9 ?_; refine J.bl hΓ (fun _ => ?_)) | (refine J.o 10 ?_; first | refine J.ls hΓ ?_ | refine J.ev' hΓ ?_) | (refine J.o 11 ?_; first | refine J.eS ?_ | refine J.xS ?_ | refine J.ev' hΓ ?_ | refine J.nT hΓ ?_) | (refine J.o 12 ?_; refine J.ix hΓ ?_) | (refine J.o 13 ?_; first | refine J.sL hΓ ?_ | refine J.sH hΓ ?_) | (refine J.o 14 ?_; refine J.mf hΓ ?_) | refine J.kn ?_) | (first | (refine J.fc 14 ?_; refine J.call1 eGiven rfl rfl (fun w hw => given_any a cap ts h hs (by omega) w (hw.rdH (by first | exact RdH.hd | exact RdH.hd.tl | exact RdH.hd.tl.tl | exact RdH.hd.tl.tl.tl | exact RdH.hd.tl.tl.tl.tl | exact RdH.hd.tl.tl.tl.tl.tl | exact RdH.hd.tl.tl.tl.tl.tl.tl | exact RdH.hd.tl.tl.tl.tl.tl.tl.tl | exact RdH.old (fun _ hh => hh) | assumption))) ?_; rintro _ hg ⟨ag, cg, rfl, og⟩) | (refine J.fc 13 ?_; refine J.call0 eCheckR rfl rfl (fun w hw => refCheck_eq _ _ ts n _ og.sl w (hw.rdH (by first | exact RdH.hd | exact RdH.hd.tl | exact RdH.hd.tl.tl | exact RdH.hd.tl.tl.tl | exact RdH.hd.tl.tl.tl.tl | exact RdH.hd.tl.tl.tl.tl.tl | exact RdH.hd.tl.tl.tl.tl.tl.tl | exact RdH.hd.tl.tl.tl.tl.tl.tl.tl | exact RdH.old (fun _ hh => hh) | assumption))) ?_)) | ((fail_if_success refine J.wt ?_); refine J.gc rfl rfl (fun hc => ?_) (fun hc => ?_) <;> ((try simp only [decide_eq_true_eq, decide_eq_false_iff_not, beq_iff_eq, beq_eq_false_iff_ne, bne_iff_ne, bne_eq_false_iff_eq, Bool.not_eq_true', Bool.not_eq_false', Bool.not_eq_true, Bool.not_eq_false] at hc) <;> first | (first | (exact absurd rfl hc) | (exfalso; omega) | (exact absurd (hc.symm.trans (by assumption : _ = false)) (by decide)) | (exact absurd (hc.symm.trans (by assumption : _ = true)) (by decide))) | skip)))
          | (first | refine JC.seq ?_ | refine JC.region ?_ | refine JC.block ?_ | refine JC.ret ?_ | refine JC.exit ?_ | refine JC.skip ?_ | refine thenK.nn ?_ | refine thenK.r ?_ | refine thenK.x ?_ | refine blockK.nn ?_ | refine blockK.r ?_ | refine blockK.hit rfl ?_ | refine blockK.miss rfl ?_ | refine JC.condT rfl ?_ | refine JC.condF rfl ?_ | (refine JC.cond rfl (fun hc => ?_) (fun hc => ?_) <;> ((try simp only [decide_eq_true_eq, decide_eq_false_iff_not, beq_iff_eq, beq_eq_false_iff_ne, bne_iff_ne, bne_eq_false_iff_eq, Bool.not_eq_true', Bool.not_eq_false', Bool.not_eq_true, Bool.not_eq_false] at hc) <;> first | (first | (exact absurd rfl hc) | (exfalso; omega) | (exact absurd (hc.symm.trans (by assumption : _ = false)) (by decide)) | (exact absurd (hc.symm.trans (by assumption : _ = true)) (by decide))) | skip)) | (refine JC.drawA [] (by kernel_rfl) (by kernel_rfl) ?_) | refine drawK.nn ?_ | refine roundK.nn ?_ | refine roundK.r ?_ | refine roundK.x ?_ | refine loopK.r ?_ | refine loopK.x ?_)
          | fail
        all_goals first | (exfalso; omega) | exact ret1f rfl rfl rfl (fun w1 hw => ⟨rfl, hw.below⟩) | exact ret1f rfl rfl rfl (fun w1 hw => ⟨retB (by simp [h3]), hw.below⟩)
    · rw [decide_eq_false h2, Bool.and_false, Bool.false_and]
      repeat' first
        | (refine J.isJ ?_; (first | (first | (refine J.o 0 ?_; refine J.ev' hΓ ?_) | refine J.nil ?_ | refine J.kd ?_ | (refine J.o 4 ?_; first | refine J.e0 hΓ ?_ | refine J.lT default hΓ ?_ | refine J.e1 hΓ ?_ | refine J.e2 hΓ ?_ | refine J.lR hΓ ?_) | (refine J.o 3 ?_; first | refine J.iA hΓ ?_ | refine J.iJ hΓ ?_ | refine J.fP hΓ ?_ | refine J.iC hΓ ?_ | refine J.ev' hΓ ?_) | (refine J.o 1 ?_; first | refine J.ad ?_ | refine J.ct ?_ | refine J.sb ?_ | refine J.mu ?_ | refine J.ng ?_ | refine J.qu ?_ | refine J.rm ?_ | refine J.s1 ?_ | refine J.sr ?_ | refine J.aW ?_ | refine J.oW ?_ | refine J.nW ?_) | (refine J.o 2 ?_; refine J.cv _ hΓ ?_) | (refine J.o 5 ?_; first | refine J.t0 hΓ ?_ | refine J.t1 hΓ ?_ | refine J.t2 hΓ ?_ | refine J.tT _ default hΓ (fun _ _ => ?_) | refine J.tT1 _ default hΓ (fun _ _ => ?_) | refine J.tT2 _ default hΓ (fun _ _ => ?_) | refine J.tT3 _ default hΓ (fun _ _ => ?_)) | (refine J.o 6 ?_; refine J.bx (fun _ => ?_)) | (refine J.o 7 ?_; refine J.al hΓ (fun _ => ?_)) | (refine J.o 8 ?_; refine J.bd hΓ ?_) | (refine J.o 9 ?_; refine J.bl hΓ (fun _ => ?_)) | (refine J.o 10 ?_; first | refine J.ls hΓ ?_ | refine J.ev' hΓ ?_) | (refine J.o 11 ?_; first | refine J.eS ?_ | refine J.xS ?_ | refine J.ev' hΓ ?_ | refine J.nT hΓ ?_) | (refine J.o 12 ?_; refine J.ix hΓ ?_) | (refine J.o 13 ?_; first | refine J.sL hΓ ?_ | refine J.sH hΓ ?_) | (refine J.o 14 ?_; refine J.mf hΓ ?_) | refine J.kn ?_) | ((fail_if_success refine J.wt ?_); refine J.gc rfl rfl (fun hc => ?_) (fun hc => ?_) <;> ((try simp only [decide_eq_true_eq, decide_eq_false_iff_not, beq_iff_eq, beq_eq_false_iff_ne, bne_iff_ne, bne_eq_false_iff_eq, Bool.not_eq_true', Bool.not_eq_false', Bool.not_eq_true, Bool.not_eq_false] at hc) <;> first | (first | (exact absurd rfl hc) | (exfalso; omega) | (exact absurd (hc.symm.trans (by assumption : _ = false)) (by decide)) | (exact absurd (hc.symm.trans (by assumption : _ = true)) (by decide))) | skip))))
        | (first | refine JC.seq ?_ | refine JC.region ?_ | refine JC.block ?_ | refine JC.ret ?_ | refine JC.exit ?_ | refine JC.skip ?_ | refine thenK.nn ?_ | refine thenK.r ?_ | refine thenK.x ?_ | refine blockK.nn ?_ | refine blockK.r ?_ | refine blockK.hit rfl ?_ | refine blockK.miss rfl ?_ | refine JC.condT rfl ?_ | refine JC.condF rfl ?_ | (refine JC.cond rfl (fun hc => ?_) (fun hc => ?_) <;> ((try simp only [decide_eq_true_eq, decide_eq_false_iff_not, beq_iff_eq, beq_eq_false_iff_ne, bne_iff_ne, bne_eq_false_iff_eq, Bool.not_eq_true', Bool.not_eq_false', Bool.not_eq_true, Bool.not_eq_false] at hc) <;> first | (first | (exact absurd rfl hc) | (exfalso; omega) | (exact absurd (hc.symm.trans (by assumption : _ = false)) (by decide)) | (exact absurd (hc.symm.trans (by assumption : _ = true)) (by decide))) | skip)) | (refine JC.drawA [] (by kernel_rfl) (by kernel_rfl) ?_) | refine drawK.nn ?_ | refine roundK.nn ?_ | refine roundK.r ?_ | refine roundK.x ?_ | refine loopK.r ?_ | refine loopK.x ?_)
        | fail
      all_goals first | (exfalso; omega) | exact ret1f rfl rfl rfl (fun w1 hw => ⟨rfl, hw.below⟩)
  · rw [decide_eq_false h1, Bool.false_and, Bool.false_and]
    repeat' first
      | (refine J.isJ ?_; (first | (first | (refine J.o 0 ?_; refine J.ev' hΓ ?_) | refine J.nil ?_ | refine J.kd ?_ | (refine J.o 4 ?_; first | refine J.e0 hΓ ?_ | refine J.lT default hΓ ?_ | refine J.e1 hΓ ?_ | refine J.e2 hΓ ?_ | refine J.lR hΓ ?_) | (refine J.o 3 ?_; first | refine J.iA hΓ ?_ | refine J.iJ hΓ ?_ | refine J.fP hΓ ?_ | refine J.iC hΓ ?_ | refine J.ev' hΓ ?_) | (refine J.o 1 ?_; first | refine J.ad ?_ | refine J.ct ?_ | refine J.sb ?_ | refine J.mu ?_ | refine J.ng ?_ | refine J.qu ?_ | refine J.rm ?_ | refine J.s1 ?_ | refine J.sr ?_ | refine J.aW ?_ | refine J.oW ?_ | refine J.nW ?_) | (refine J.o 2 ?_; refine J.cv _ hΓ ?_) | (refine J.o 5 ?_; first | refine J.t0 hΓ ?_ | refine J.t1 hΓ ?_ | refine J.t2 hΓ ?_ | refine J.tT _ default hΓ (fun _ _ => ?_) | refine J.tT1 _ default hΓ (fun _ _ => ?_) | refine J.tT2 _ default hΓ (fun _ _ => ?_) | refine J.tT3 _ default hΓ (fun _ _ => ?_)) | (refine J.o 6 ?_; refine J.bx (fun _ => ?_)) | (refine J.o 7 ?_; refine J.al hΓ (fun _ => ?_)) | (refine J.o 8 ?_; refine J.bd hΓ ?_) | (refine J.o 9 ?_; refine J.bl hΓ (fun _ => ?_)) | (refine J.o 10 ?_; first | refine J.ls hΓ ?_ | refine J.ev' hΓ ?_) | (refine J.o 11 ?_; first | refine J.eS ?_ | refine J.xS ?_ | refine J.ev' hΓ ?_ | refine J.nT hΓ ?_) | (refine J.o 12 ?_; refine J.ix hΓ ?_) | (refine J.o 13 ?_; first | refine J.sL hΓ ?_ | refine J.sH hΓ ?_) | (refine J.o 14 ?_; refine J.mf hΓ ?_) | refine J.kn ?_) | ((fail_if_success refine J.wt ?_); refine J.gc rfl rfl (fun hc => ?_) (fun hc => ?_) <;> ((try simp only [decide_eq_true_eq, decide_eq_false_iff_not, beq_iff_eq, beq_eq_false_iff_ne, bne_iff_ne, bne_eq_false_iff_eq, Bool.not_eq_true', Bool.not_eq_false', Bool.not_eq_true, Bool.not_eq_false] at hc) <;> first | (first | (exact absurd rfl hc) | (exfalso; omega) | (exact absurd (hc.symm.trans (by assumption : _ = false)) (by decide)) | (exact absurd (hc.symm.trans (by assumption : _ = true)) (by decide))) | skip))))
      | (first | refine JC.seq ?_ | refine JC.region ?_ | refine JC.block ?_ | refine JC.ret ?_ | refine JC.exit ?_ | refine JC.skip ?_ | refine thenK.nn ?_ | refine thenK.r ?_ | refine thenK.x ?_ | refine blockK.nn ?_ | refine blockK.r ?_ | refine blockK.hit rfl ?_ | refine blockK.miss rfl ?_ | refine JC.condT rfl ?_ | refine JC.condF rfl ?_ | (refine JC.cond rfl (fun hc => ?_) (fun hc => ?_) <;> ((try simp only [decide_eq_true_eq, decide_eq_false_iff_not, beq_iff_eq, beq_eq_false_iff_ne, bne_iff_ne, bne_eq_false_iff_eq, Bool.not_eq_true', Bool.not_eq_false', Bool.not_eq_true, Bool.not_eq_false] at hc) <;> first | (first | (exact absurd rfl hc) | (exfalso; omega) | (exact absurd (hc.symm.trans (by assumption : _ = false)) (by decide)) | (exact absurd (hc.symm.trans (by assumption : _ = true)) (by decide))) | skip)) | (refine JC.drawA [] (by kernel_rfl) (by kernel_rfl) ?_) | refine drawK.nn ?_ | refine roundK.nn ?_ | refine roundK.r ?_ | refine roundK.x ?_ | refine loopK.r ?_ | refine loopK.x ?_)
      | fail
    all_goals first | (exfalso; omega) | exact ret1f rfl rfl rfl (fun w1 hw => ⟨rfl, hw.below⟩)
end Go.Proofs.YtfegpmoephdkpaaDoor
