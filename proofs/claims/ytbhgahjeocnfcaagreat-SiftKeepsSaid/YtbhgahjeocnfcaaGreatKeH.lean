/- SiftKeeps: part 8. -/
import Derived.Test.YtbhgahjeocnfcaaGreatKeG
import Derived.RangeFuncNested
import Derived.RangeFuncBound
import Derived.RangeFuncCalls
import Derived.RangeFuncLeaves
import Derived.TacticsIn
import Derived.OrdersIn
import Derived.LoopNIn
namespace Go.Proofs.YtbhgahjeocnfcaaGreat
open Go Go.Cx Go.RowKit
set_option linter.unusedVariables false
set_option linter.unusedSimpArgs false
set_option maxHeartbeats 4000000
attribute [local irreducible] J JC thenK blockK loopK roundK drawK retK QW Qt pel List.set Calls
open Go.Maps Go.Lib
set_option maxRecDepth 8000
attribute [local irreducible] JE Br eK0 eK3 brK pc
theorem eValidR : Entr Tryz.prog 54 := Entr.of Tryz.func54 rfl rfl
theorem eCheck05 : Entr Tryz.prog 22 := Entr.of Tryz.func22 rfl rfl
theorem validR_any (l n : Int) (hn : 0 ≤ n ∧ n ≤ 128) (w : World) : Calls Tryz.prog 54 #[.int .i64 l, .int .i64 n] w fun e w' => e = .returned (.bool (validB l n)) ∧ Below w.heap.size w w' := by
  unfold validB
  refine calls_of_JC (R := []) Tryz.func54 Tryz.ntmps54 rfl rfl (Holds.nil _) ?_
  repeat' first
    | (refine J.isJ ?_; first | (fail) | (first | (refine J.o 0 ?_; refine J.ev' hΓ ?_) | refine J.nil ?_ | refine J.kd ?_ | (refine J.o 3 ?_; first | refine J.ev' hΓ ?_) | (refine J.o 1 ?_; first | refine J.ng ?_) | (refine J.o 10 ?_; refine J.ev' hΓ ?_) | (refine J.o 11 ?_; refine J.ev' hΓ ?_)) | ((fail_if_success refine J.wt ?_); refine J.gc rfl rfl (fun hc => ?_) (fun hc => ?_) <;> ((try simp only [decide_eq_true_eq, decide_eq_false_iff_not, beq_iff_eq, beq_eq_false_iff_ne, bne_iff_ne, bne_eq_false_iff_eq, Bool.not_eq_true', Bool.not_eq_false', Bool.not_eq_true, Bool.not_eq_false] at hc) <;> first | (first | (exact absurd rfl hc) | (exfalso; omega) | (exact absurd (hc.symm.trans (by assumption : _ = false)) (by decide)) | (exact absurd (hc.symm.trans (by assumption : _ = true)) (by decide))) | skip)))
    | (first | refine JC.seq ?_ | refine JC.region ?_ | refine JC.ret ?_ | refine thenK.nn ?_)
    | (fail)
    | fail
  all_goals first | (exfalso; omega) | skip
  all_goals (refine ret1f rfl rfl rfl (fun w1 hw => ⟨?_, hw.below⟩))
  all_goals (refine congrArg (fun b => Ending.returned (.bool b)) ?_)
  all_goals first | (symm; rw [decide_eq_false_iff_not]; omega) | (rw [decide_eq_decide]; omega) | (symm; rw [decide_eq_true_iff]; omega)
theorem check05_any (N : Int) (a : Option Addr) (cap : Nat) (vs : List HV) (h : Heap) (hr : LLR a vs h) (w : World) (hw : Holds h w) :
    Calls Tryz.prog 22 #[.agg ⟨[.int .i64 N, .slice a vs.length cap]⟩] w fun e w' => e = .returned (.int .i64 (thE N (vs.map (·.l)))) ∧ Below w.heap.size w w' := by
  have q0 : ∀ L, RdH h L h := fun L => RdH.old fun _ hh => hh
  obtain ⟨ho, hi⟩ := hr
  have hlen : (vs.map (·.l)).length = vs.length := List.length_map _
  by_cases hN : N < 0 ∨ 128 < N
  ·
    have e0 : thE N (vs.map (·.l)) = 6 := by unfold thE; rw [if_pos hN]
    rw [e0]
    refine calls_of_JC (R := h) Tryz.func22 Tryz.ntmps22 rfl rfl (hw) ?_
    repeat' first
      | (refine J.isJ ?_; first | ((refine J.o 6 ?_; refine J.bx (fun b1 => ?_))) | (first | (refine J.o 0 ?_; refine J.ev' hΓ ?_) | refine J.nil ?_ | refine J.kd ?_ | (refine J.o 4 ?_; first | refine J.lT default hΓ ?_ | refine J.lR hΓ ?_) | (refine J.o 3 ?_; first | refine J.iJ hΓ ?_ | refine J.ev' hΓ ?_) | (refine J.o 1 ?_; first | refine J.ad ?_) | (refine J.o 6 ?_; refine J.bx (fun _ => ?_)) | (refine J.o 10 ?_; refine J.ev' hΓ ?_) | (refine J.o 11 ?_; refine J.ev' hΓ ?_)) | ((fail_if_success refine J.wt ?_); refine J.gc rfl rfl (fun hc => ?_) (fun hc => ?_) <;> ((try simp only [decide_eq_true_eq, decide_eq_false_iff_not, beq_iff_eq, beq_eq_false_iff_ne, bne_iff_ne, bne_eq_false_iff_eq, Bool.not_eq_true', Bool.not_eq_false', Bool.not_eq_true, Bool.not_eq_false] at hc) <;> first | (first | (exact absurd rfl hc) | (exfalso; omega) | (exact absurd (hc.symm.trans (by assumption : _ = false)) (by decide)) | (exact absurd (hc.symm.trans (by assumption : _ = true)) (by decide))) | skip)))
      | (first | refine JC.seq ?_ | refine JC.region ?_ | refine JC.block ?_ | refine JC.ret ?_ | refine JC.exit ?_ | refine JC.skip ?_ | refine thenK.nn ?_ | refine thenK.r ?_ | refine thenK.x ?_ | refine blockK.nn ?_ | refine blockK.r ?_ | refine blockK.hit rfl ?_ | refine JC.condT rfl ?_ | refine JC.condF rfl ?_ | (refine JC.cond rfl (fun hc => ?_) (fun hc => ?_) <;> ((try simp only [decide_eq_true_eq, decide_eq_false_iff_not, beq_iff_eq, beq_eq_false_iff_ne, bne_iff_ne, bne_eq_false_iff_eq, Bool.not_eq_true', Bool.not_eq_false', Bool.not_eq_true, Bool.not_eq_false] at hc) <;> first | (first | (exact absurd rfl hc) | (exfalso; omega) | (exact absurd (hc.symm.trans (by assumption : _ = false)) (by decide)) | (exact absurd (hc.symm.trans (by assumption : _ = true)) (by decide))) | skip)) | refine drawK.nn ?_ | refine loopK.r ?_ | refine loopK.x ?_)
      | (fail)
      | fail
    all_goals first | (exfalso; omega) | skip
    all_goals (refine ret1f rfl rfl rfl (fun w1 hw => ⟨rfl, hw.below⟩))
  by_cases hT : 4096 < vs.length
  ·
    have e0 : thE N (vs.map (·.l)) = 2 := by unfold thE; rw [if_neg hN, if_pos (by omega)]
    rw [e0]
    refine calls_of_JC (R := h) Tryz.func22 Tryz.ntmps22 rfl rfl (hw) ?_
    repeat' first
      | (refine J.isJ ?_; first | ((refine J.o 6 ?_; refine J.bx (fun b1 => ?_))) | (first | (refine J.o 0 ?_; refine J.ev' hΓ ?_) | refine J.nil ?_ | refine J.kd ?_ | (refine J.o 4 ?_; first | refine J.lT default hΓ ?_ | refine J.lR hΓ ?_) | (refine J.o 3 ?_; first | refine J.iJ hΓ ?_ | refine J.ev' hΓ ?_) | (refine J.o 1 ?_; first | refine J.ad ?_) | (refine J.o 6 ?_; refine J.bx (fun _ => ?_)) | (refine J.o 10 ?_; refine J.ev' hΓ ?_) | (refine J.o 11 ?_; refine J.ev' hΓ ?_)) | ((fail_if_success refine J.wt ?_); refine J.gc rfl rfl (fun hc => ?_) (fun hc => ?_) <;> ((try simp only [decide_eq_true_eq, decide_eq_false_iff_not, beq_iff_eq, beq_eq_false_iff_ne, bne_iff_ne, bne_eq_false_iff_eq, Bool.not_eq_true', Bool.not_eq_false', Bool.not_eq_true, Bool.not_eq_false] at hc) <;> first | (first | (exact absurd rfl hc) | (exfalso; omega) | (exact absurd (hc.symm.trans (by assumption : _ = false)) (by decide)) | (exact absurd (hc.symm.trans (by assumption : _ = true)) (by decide))) | skip)))
      | (first | refine JC.seq ?_ | refine JC.region ?_ | refine JC.block ?_ | refine JC.ret ?_ | refine JC.exit ?_ | refine JC.skip ?_ | refine thenK.nn ?_ | refine thenK.r ?_ | refine thenK.x ?_ | refine blockK.nn ?_ | refine blockK.r ?_ | refine blockK.hit rfl ?_ | refine JC.condT rfl ?_ | refine JC.condF rfl ?_ | (refine JC.cond rfl (fun hc => ?_) (fun hc => ?_) <;> ((try simp only [decide_eq_true_eq, decide_eq_false_iff_not, beq_iff_eq, beq_eq_false_iff_ne, bne_iff_ne, bne_eq_false_iff_eq, Bool.not_eq_true', Bool.not_eq_false', Bool.not_eq_true, Bool.not_eq_false] at hc) <;> first | (first | (exact absurd rfl hc) | (exfalso; omega) | (exact absurd (hc.symm.trans (by assumption : _ = false)) (by decide)) | (exact absurd (hc.symm.trans (by assumption : _ = true)) (by decide))) | skip)) | refine drawK.nn ?_ | refine loopK.r ?_ | refine loopK.x ?_)
      | (fail)
      | fail
    all_goals first | (exfalso; omega) | skip
    all_goals (refine ret1f rfl rfl rfl (fun w1 hw => ⟨rfl, hw.below⟩))
  have e0 : thE N (vs.map (·.l)) = clsE N ((vs.drop 0).map (·.l)) := by unfold thE; rw [if_neg hN, if_neg (by omega)]; rfl
  obtain ⟨R0, hR0⟩ : ∃ R0, clsE N ((vs.drop 0).map (·.l)) = R0 := ⟨_, rfl⟩
  rw [e0, hR0]
  refine calls_of_JC (R := h) Tryz.func22 Tryz.ntmps22 rfl rfl (hw) ?_
  repeat' first
    | (refine J.isJ ?_; first | ((refine J.o 6 ?_; refine J.bx (fun b1 => ?_))) | (first | (refine J.o 0 ?_; refine J.ev' hΓ ?_) | refine J.nil ?_ | refine J.kd ?_ | (refine J.o 4 ?_; first | refine J.lT default hΓ ?_ | refine J.lR hΓ ?_) | (refine J.o 3 ?_; first | refine J.iJ hΓ ?_ | refine J.ev' hΓ ?_) | (refine J.o 1 ?_; first | refine J.ad ?_) | (refine J.o 6 ?_; refine J.bx (fun _ => ?_)) | (refine J.o 10 ?_; refine J.ev' hΓ ?_) | (refine J.o 11 ?_; refine J.ev' hΓ ?_)) | ((fail_if_success refine J.wt ?_); refine J.gc rfl rfl (fun hc => ?_) (fun hc => ?_) <;> ((try simp only [decide_eq_true_eq, decide_eq_false_iff_not, beq_iff_eq, beq_eq_false_iff_ne, bne_iff_ne, bne_eq_false_iff_eq, Bool.not_eq_true', Bool.not_eq_false', Bool.not_eq_true, Bool.not_eq_false] at hc) <;> first | (first | (exact absurd rfl hc) | (exfalso; omega) | (exact absurd (hc.symm.trans (by assumption : _ = false)) (by decide)) | (exact absurd (hc.symm.trans (by assumption : _ = true)) (by decide))) | skip)))
    | (first | refine JC.seq ?_ | refine JC.region ?_ | refine JC.block ?_ | refine JC.ret ?_ | refine JC.exit ?_ | refine JC.skip ?_ | refine thenK.nn ?_ | refine thenK.r ?_ | refine thenK.x ?_ | refine blockK.nn ?_ | refine blockK.r ?_ | refine blockK.hit rfl ?_ | refine JC.condT rfl ?_ | refine JC.condF rfl ?_ | (refine JC.cond rfl (fun hc => ?_) (fun hc => ?_) <;> ((try simp only [decide_eq_true_eq, decide_eq_false_iff_not, beq_iff_eq, beq_eq_false_iff_ne, bne_iff_ne, bne_eq_false_iff_eq, Bool.not_eq_true', Bool.not_eq_false', Bool.not_eq_true, Bool.not_eq_false] at hc) <;> first | (first | (exact absurd rfl hc) | (exfalso; omega) | (exact absurd (hc.symm.trans (by assumption : _ = false)) (by decide)) | (exact absurd (hc.symm.trans (by assumption : _ = true)) (by decide))) | skip)) | refine drawK.nn ?_ | refine loopK.r ?_ | refine loopK.x ?_)
    | (fail)
    | fail
  all_goals first | (exfalso; omega) | skip
  refine JC.loop (fun i => i == 2 || i == 3 || i == 4 || Nat.ble 17 i) (fun m g L => ∃ (k : Nat), g 3 = .int .i64 (k : Int) ∧ k + m = vs.length ∧ clsE N ((vs.drop k).map (·.l)) = R0 ∧ L = _) vs.length ⟨0, rfl, by omega, hR0, rfl⟩ ?_
  rintro m g L ⟨k, e3, hkm, hRk, rfl⟩
  refine JC.pin 3 e3 ?_
  rcases Nat.lt_or_ge k vs.length with hk | hk
  ·
    rw [drop_g vs k hk, List.map_cons] at hRk
    have hik := hi _ (mem_g vs k hk)
    by_cases hlc : 128 < (vs.getD k default).l.length
    ·
      unfold clsE at hRk
      rw [if_pos hlc] at hRk
      repeat' first
        | (refine J.isJ ?_; first | (first | (refine J.o 3 ?_; refine J.iJ hΓ ?_ (hs := ho)) | (refine J.o 4 ?_; first | refine J.lT default hΓ ?_ (hs := ho) (hr := q0 _))) | (first | (refine J.o 0 ?_; refine J.ev' hΓ ?_) | refine J.nil ?_ | refine J.kd ?_ | (refine J.o 4 ?_; first | refine J.lT default hΓ ?_ | refine J.lR hΓ ?_) | (refine J.o 3 ?_; first | refine J.iJ hΓ ?_ | refine J.ev' hΓ ?_) | (refine J.o 1 ?_; first | refine J.ad ?_) | (refine J.o 6 ?_; refine J.bx (fun _ => ?_)) | (refine J.o 10 ?_; refine J.ev' hΓ ?_) | (refine J.o 11 ?_; refine J.ev' hΓ ?_)) | ((fail_if_success refine J.wt ?_); refine J.gc rfl rfl (fun hc => ?_) (fun hc => ?_) <;> ((try simp only [decide_eq_true_eq, decide_eq_false_iff_not, beq_iff_eq, beq_eq_false_iff_ne, bne_iff_ne, bne_eq_false_iff_eq, Bool.not_eq_true', Bool.not_eq_false', Bool.not_eq_true, Bool.not_eq_false] at hc) <;> first | (first | (exact absurd rfl hc) | (exfalso; omega) | (exact absurd (hc.symm.trans (by assumption : _ = false)) (by decide)) | (exact absurd (hc.symm.trans (by assumption : _ = true)) (by decide))) | skip)))
        | (first | refine JC.seq ?_ | refine JC.region ?_ | refine JC.block ?_ | refine JC.ret ?_ | refine JC.exit ?_ | refine JC.skip ?_ | refine thenK.nn ?_ | refine thenK.r ?_ | refine thenK.x ?_ | refine blockK.nn ?_ | refine blockK.r ?_ | refine blockK.hit rfl ?_ | refine JC.condT rfl ?_ | refine JC.condF rfl ?_ | (refine JC.cond rfl (fun hc => ?_) (fun hc => ?_) <;> ((try simp only [decide_eq_true_eq, decide_eq_false_iff_not, beq_iff_eq, beq_eq_false_iff_ne, bne_iff_ne, bne_eq_false_iff_eq, Bool.not_eq_true', Bool.not_eq_false', Bool.not_eq_true, Bool.not_eq_false] at hc) <;> first | (first | (exact absurd rfl hc) | (exfalso; omega) | (exact absurd (hc.symm.trans (by assumption : _ = false)) (by decide)) | (exact absurd (hc.symm.trans (by assumption : _ = true)) (by decide))) | skip)) | refine drawK.nn ?_ | refine loopK.r ?_ | refine loopK.x ?_)
        | (fail)
        | fail
      all_goals first | (exfalso; omega) | skip
      all_goals (refine ret1f rfl rfl rfl (fun w1 hw => ⟨?_, hw.below⟩))
      rw [hRk]
    unfold clsE at hRk
    rw [if_neg hlc] at hRk
    repeat' first
      | (refine J.isJ ?_; first | (first | (refine J.o 3 ?_; refine J.iJ hΓ ?_ (hs := ho)) | (refine J.o 4 ?_; first | refine J.lT default hΓ ?_ (hs := ho) (hr := q0 _))) | (first | (refine J.o 0 ?_; refine J.ev' hΓ ?_) | refine J.nil ?_ | refine J.kd ?_ | (refine J.o 4 ?_; first | refine J.lT default hΓ ?_ | refine J.lR hΓ ?_) | (refine J.o 3 ?_; first | refine J.iJ hΓ ?_ | refine J.ev' hΓ ?_) | (refine J.o 1 ?_; first | refine J.ad ?_) | (refine J.o 6 ?_; refine J.bx (fun _ => ?_)) | (refine J.o 10 ?_; refine J.ev' hΓ ?_) | (refine J.o 11 ?_; refine J.ev' hΓ ?_)) | ((fail_if_success refine J.wt ?_); refine J.gc rfl rfl (fun hc => ?_) (fun hc => ?_) <;> ((try simp only [decide_eq_true_eq, decide_eq_false_iff_not, beq_iff_eq, beq_eq_false_iff_ne, bne_iff_ne, bne_eq_false_iff_eq, Bool.not_eq_true', Bool.not_eq_false', Bool.not_eq_true, Bool.not_eq_false] at hc) <;> first | (first | (exact absurd rfl hc) | (exfalso; omega) | (exact absurd (hc.symm.trans (by assumption : _ = false)) (by decide)) | (exact absurd (hc.symm.trans (by assumption : _ = true)) (by decide))) | skip)))
      | (first | refine JC.seq ?_ | refine JC.region ?_ | refine JC.block ?_ | refine JC.ret ?_ | refine JC.exit ?_ | refine JC.skip ?_ | refine thenK.nn ?_ | refine thenK.r ?_ | refine thenK.x ?_ | refine blockK.nn ?_ | refine blockK.r ?_ | refine blockK.hit rfl ?_ | refine JC.condT rfl ?_ | refine JC.condF rfl ?_ | (refine JC.cond rfl (fun hc => ?_) (fun hc => ?_) <;> ((try simp only [decide_eq_true_eq, decide_eq_false_iff_not, beq_iff_eq, beq_eq_false_iff_ne, bne_iff_ne, bne_eq_false_iff_eq, Bool.not_eq_true', Bool.not_eq_false', Bool.not_eq_true, Bool.not_eq_false] at hc) <;> first | (first | (exact absurd rfl hc) | (exfalso; omega) | (exact absurd (hc.symm.trans (by assumption : _ = false)) (by decide)) | (exact absurd (hc.symm.trans (by assumption : _ = true)) (by decide))) | skip)) | refine drawK.nn ?_ | refine loopK.r ?_ | refine loopK.x ?_)
      | (fail)
      | fail
    all_goals first | (exfalso; omega) | skip
    refine JC.loop (fun i => i == 2 || i == 4 || Nat.ble 31 i) (fun m g L => ∃ (j : Nat), g 4 = .int .i64 (j : Int) ∧ j + m = (vs.getD k default).l.length ∧ litsE N ((vs.getD k default).l.drop j) = litsE N (vs.getD k default).l ∧ L = _) (vs.getD k default).l.length ⟨0, rfl, by omega, rfl, rfl⟩ ?_
    rintro m3 g3 L3 ⟨j, e4, hjm, hLj, rfl⟩
    refine JC.pin 4 e4 ?_
    rcases Nat.lt_or_ge j (vs.getD k default).l.length with hj | hj
    ·
      rw [drop_g _ j hj, litsE_cons] at hLj
      have cV := fun w => validR_any ((vs.getD k default).l.getD j default) N (by omega) w
      cases hv : validB ((vs.getD k default).l.getD j default) N with
      | true =>
        rw [hv] at cV
        rw [hv, if_pos rfl] at hLj
        repeat' first
          | (refine J.isJ ?_; first | (first | (refine J.o 3 ?_; first | refine J.iJ hΓ ?_ (hs := ho) | refine J.iJ hΓ ?_ (hs := hik)) | (refine J.o 4 ?_; first | refine J.lT default hΓ ?_ (hs := hik) (hr := q0 _) | refine J.lT default hΓ ?_ (hs := ho) (hr := q0 _)) | (refine J.fc 54 ?_; refine J.call0 eValidR rfl rfl (fun w hw => cV w) ?_)) | (first | (refine J.o 0 ?_; refine J.ev' hΓ ?_) | refine J.nil ?_ | refine J.kd ?_ | (refine J.o 4 ?_; first | refine J.lT default hΓ ?_ | refine J.lR hΓ ?_) | (refine J.o 3 ?_; first | refine J.iJ hΓ ?_ | refine J.ev' hΓ ?_) | (refine J.o 1 ?_; first | refine J.ad ?_) | (refine J.o 6 ?_; refine J.bx (fun _ => ?_)) | (refine J.o 10 ?_; refine J.ev' hΓ ?_) | (refine J.o 11 ?_; refine J.ev' hΓ ?_)) | ((fail_if_success refine J.wt ?_); refine J.gc rfl rfl (fun hc => ?_) (fun hc => ?_) <;> ((try simp only [decide_eq_true_eq, decide_eq_false_iff_not, beq_iff_eq, beq_eq_false_iff_ne, bne_iff_ne, bne_eq_false_iff_eq, Bool.not_eq_true', Bool.not_eq_false', Bool.not_eq_true, Bool.not_eq_false] at hc) <;> first | (first | (exact absurd rfl hc) | (exfalso; omega) | (exact absurd (hc.symm.trans (by assumption : _ = false)) (by decide)) | (exact absurd (hc.symm.trans (by assumption : _ = true)) (by decide))) | skip)))
          | (first | refine JC.seq ?_ | refine JC.region ?_ | refine JC.block ?_ | refine JC.ret ?_ | refine JC.exit ?_ | refine JC.skip ?_ | refine thenK.nn ?_ | refine thenK.r ?_ | refine thenK.x ?_ | refine blockK.nn ?_ | refine blockK.r ?_ | refine blockK.hit rfl ?_ | refine JC.condT rfl ?_ | refine JC.condF rfl ?_ | (refine JC.cond rfl (fun hc => ?_) (fun hc => ?_) <;> ((try simp only [decide_eq_true_eq, decide_eq_false_iff_not, beq_iff_eq, beq_eq_false_iff_ne, bne_iff_ne, bne_eq_false_iff_eq, Bool.not_eq_true', Bool.not_eq_false', Bool.not_eq_true, Bool.not_eq_false] at hc) <;> first | (first | (exact absurd rfl hc) | (exfalso; omega) | (exact absurd (hc.symm.trans (by assumption : _ = false)) (by decide)) | (exact absurd (hc.symm.trans (by assumption : _ = true)) (by decide))) | skip)) | refine drawK.nn ?_ | refine loopK.r ?_ | refine loopK.x ?_)
          | ((refine JC.drawW [] [] (by kernel_rfl) (by kernel_rfl) ?_))
          | fail
        all_goals first | (exfalso; omega) | skip
        all_goals refine loopK.nn (m3 - 1) (by omega) (by repeat (first | refine Ag.upd rfl ?_ | exact Ag.hv | refine Ag.hv2 (fun i hi => by simp at hi ⊢; omega) ?_)) ⟨j + 1, ?_, by omega, hLj, rfl⟩
        all_goals (show Value.int .i64 _ = _; congr 1)
      | false =>
        rw [hv] at cV
        rw [hv, if_neg (by decide)] at hLj
        rw [if_neg (by rw [← hLj]; decide)] at hRk
        repeat' first
          | (refine J.isJ ?_; first | (first | (refine J.o 3 ?_; first | refine J.iJ hΓ ?_ (hs := ho) | refine J.iJ hΓ ?_ (hs := hik)) | (refine J.o 4 ?_; first | refine J.lT default hΓ ?_ (hs := hik) (hr := q0 _) | refine J.lT default hΓ ?_ (hs := ho) (hr := q0 _)) | (refine J.fc 54 ?_; refine J.call0 eValidR rfl rfl (fun w hw => cV w) ?_)) | (first | (refine J.o 0 ?_; refine J.ev' hΓ ?_) | refine J.nil ?_ | refine J.kd ?_ | (refine J.o 4 ?_; first | refine J.lT default hΓ ?_ | refine J.lR hΓ ?_) | (refine J.o 3 ?_; first | refine J.iJ hΓ ?_ | refine J.ev' hΓ ?_) | (refine J.o 1 ?_; first | refine J.ad ?_) | (refine J.o 6 ?_; refine J.bx (fun _ => ?_)) | (refine J.o 10 ?_; refine J.ev' hΓ ?_) | (refine J.o 11 ?_; refine J.ev' hΓ ?_)) | ((fail_if_success refine J.wt ?_); refine J.gc rfl rfl (fun hc => ?_) (fun hc => ?_) <;> ((try simp only [decide_eq_true_eq, decide_eq_false_iff_not, beq_iff_eq, beq_eq_false_iff_ne, bne_iff_ne, bne_eq_false_iff_eq, Bool.not_eq_true', Bool.not_eq_false', Bool.not_eq_true, Bool.not_eq_false] at hc) <;> first | (first | (exact absurd rfl hc) | (exfalso; omega) | (exact absurd (hc.symm.trans (by assumption : _ = false)) (by decide)) | (exact absurd (hc.symm.trans (by assumption : _ = true)) (by decide))) | skip)))
          | (first | refine JC.seq ?_ | refine JC.region ?_ | refine JC.block ?_ | refine JC.ret ?_ | refine JC.exit ?_ | refine JC.skip ?_ | refine thenK.nn ?_ | refine thenK.r ?_ | refine thenK.x ?_ | refine blockK.nn ?_ | refine blockK.r ?_ | refine blockK.hit rfl ?_ | refine JC.condT rfl ?_ | refine JC.condF rfl ?_ | (refine JC.cond rfl (fun hc => ?_) (fun hc => ?_) <;> ((try simp only [decide_eq_true_eq, decide_eq_false_iff_not, beq_iff_eq, beq_eq_false_iff_ne, bne_iff_ne, bne_eq_false_iff_eq, Bool.not_eq_true', Bool.not_eq_false', Bool.not_eq_true, Bool.not_eq_false] at hc) <;> first | (first | (exact absurd rfl hc) | (exfalso; omega) | (exact absurd (hc.symm.trans (by assumption : _ = false)) (by decide)) | (exact absurd (hc.symm.trans (by assumption : _ = true)) (by decide))) | skip)) | refine drawK.nn ?_ | refine loopK.r ?_ | refine loopK.x ?_)
          | ((refine JC.drawW [] [] (by kernel_rfl) (by kernel_rfl) ?_))
          | fail
        all_goals first | (exfalso; omega) | skip
        all_goals (refine ret1f rfl rfl rfl (fun w1 hw => ⟨?_, hw.below⟩))
        rw [hRk]
    ·
      rw [List.drop_of_length_le hj] at hLj
      have hz : litsE N (vs.getD k default).l = 0 := hLj.symm
      rw [if_pos hz] at hRk
      repeat' first
        | (refine J.isJ ?_; first | (first | (refine J.o 3 ?_; first | refine J.iJ hΓ ?_ (hs := ho)) | (refine J.o 4 ?_; first | refine J.lT default hΓ ?_ (hs := ho) (hr := q0 _))) | (first | (refine J.o 0 ?_; refine J.ev' hΓ ?_) | refine J.nil ?_ | refine J.kd ?_ | (refine J.o 4 ?_; first | refine J.lT default hΓ ?_ | refine J.lR hΓ ?_) | (refine J.o 3 ?_; first | refine J.iJ hΓ ?_ | refine J.ev' hΓ ?_) | (refine J.o 1 ?_; first | refine J.ad ?_) | (refine J.o 6 ?_; refine J.bx (fun _ => ?_)) | (refine J.o 10 ?_; refine J.ev' hΓ ?_) | (refine J.o 11 ?_; refine J.ev' hΓ ?_)) | ((fail_if_success refine J.wt ?_); refine J.gc rfl rfl (fun hc => ?_) (fun hc => ?_) <;> ((try simp only [decide_eq_true_eq, decide_eq_false_iff_not, beq_iff_eq, beq_eq_false_iff_ne, bne_iff_ne, bne_eq_false_iff_eq, Bool.not_eq_true', Bool.not_eq_false', Bool.not_eq_true, Bool.not_eq_false] at hc) <;> first | (first | (exact absurd rfl hc) | (exfalso; omega) | (exact absurd (hc.symm.trans (by assumption : _ = false)) (by decide)) | (exact absurd (hc.symm.trans (by assumption : _ = true)) (by decide))) | skip)))
        | (first | refine JC.seq ?_ | refine JC.region ?_ | refine JC.block ?_ | refine JC.ret ?_ | refine JC.exit ?_ | refine JC.skip ?_ | refine thenK.nn ?_ | refine thenK.r ?_ | refine thenK.x ?_ | refine blockK.nn ?_ | refine blockK.r ?_ | refine blockK.hit rfl ?_ | refine JC.condT rfl ?_ | refine JC.condF rfl ?_ | (refine JC.cond rfl (fun hc => ?_) (fun hc => ?_) <;> ((try simp only [decide_eq_true_eq, decide_eq_false_iff_not, beq_iff_eq, beq_eq_false_iff_ne, bne_iff_ne, bne_eq_false_iff_eq, Bool.not_eq_true', Bool.not_eq_false', Bool.not_eq_true, Bool.not_eq_false] at hc) <;> first | (first | (exact absurd rfl hc) | (exfalso; omega) | (exact absurd (hc.symm.trans (by assumption : _ = false)) (by decide)) | (exact absurd (hc.symm.trans (by assumption : _ = true)) (by decide))) | skip)) | refine drawK.nn ?_ | refine loopK.r ?_ | refine loopK.x ?_)
        | ((refine JC.drawW [] [] (by kernel_rfl) (by kernel_rfl) ?_))
        | fail
      all_goals first | (exfalso; omega) | skip
      all_goals refine loopK.nn (m - 1) (by omega) (by repeat (first | refine Ag.upd rfl ?_ | exact Ag.hv | refine Ag.hv2 (fun i hi => by simp at hi ⊢; omega) ?_)) ⟨k + 1, ?_, by omega, hRk, rfl⟩
      all_goals (show Value.int .i64 _ = _; congr 1)
  ·
    rw [List.drop_of_length_le hk] at hRk
    repeat' first
      | (refine J.isJ ?_; first | (fail) | (first | (refine J.o 0 ?_; refine J.ev' hΓ ?_) | refine J.nil ?_ | refine J.kd ?_ | (refine J.o 4 ?_; first | refine J.lT default hΓ ?_ | refine J.lR hΓ ?_) | (refine J.o 3 ?_; first | refine J.iJ hΓ ?_ | refine J.ev' hΓ ?_) | (refine J.o 1 ?_; first | refine J.ad ?_) | (refine J.o 6 ?_; refine J.bx (fun _ => ?_)) | (refine J.o 10 ?_; refine J.ev' hΓ ?_) | (refine J.o 11 ?_; refine J.ev' hΓ ?_)) | ((fail_if_success refine J.wt ?_); refine J.gc rfl rfl (fun hc => ?_) (fun hc => ?_) <;> ((try simp only [decide_eq_true_eq, decide_eq_false_iff_not, beq_iff_eq, beq_eq_false_iff_ne, bne_iff_ne, bne_eq_false_iff_eq, Bool.not_eq_true', Bool.not_eq_false', Bool.not_eq_true, Bool.not_eq_false] at hc) <;> first | (first | (exact absurd rfl hc) | (exfalso; omega) | (exact absurd (hc.symm.trans (by assumption : _ = false)) (by decide)) | (exact absurd (hc.symm.trans (by assumption : _ = true)) (by decide))) | skip)))
      | (first | refine JC.seq ?_ | refine JC.region ?_ | refine JC.block ?_ | refine JC.ret ?_ | refine JC.exit ?_ | refine JC.skip ?_ | refine thenK.nn ?_ | refine thenK.r ?_ | refine thenK.x ?_ | refine blockK.nn ?_ | refine blockK.r ?_ | refine blockK.hit rfl ?_ | refine JC.condT rfl ?_ | refine JC.condF rfl ?_ | (refine JC.cond rfl (fun hc => ?_) (fun hc => ?_) <;> ((try simp only [decide_eq_true_eq, decide_eq_false_iff_not, beq_iff_eq, beq_eq_false_iff_ne, bne_iff_ne, bne_eq_false_iff_eq, Bool.not_eq_true', Bool.not_eq_false', Bool.not_eq_true, Bool.not_eq_false] at hc) <;> first | (first | (exact absurd rfl hc) | (exfalso; omega) | (exact absurd (hc.symm.trans (by assumption : _ = false)) (by decide)) | (exact absurd (hc.symm.trans (by assumption : _ = true)) (by decide))) | skip)) | refine drawK.nn ?_ | refine loopK.r ?_ | refine loopK.x ?_)
      | (fail)
      | fail
    all_goals first | (exfalso; omega) | skip
    all_goals (refine ret1f rfl rfl rfl (fun w1 hw => ⟨?_, hw.below⟩))
    rw [← hRk]; rfl
end Go.Proofs.YtbhgahjeocnfcaaGreat
namespace Go.Proofs.YtbhgahjeocnfcaaGreat
open Go Go.Cx Go.RowKit
set_option linter.unusedVariables false
set_option linter.unusedSimpArgs false
set_option maxHeartbeats 4000000
attribute [local irreducible] J JC thenK blockK loopK roundK drawK retK QW Qt pel List.set Calls
set_option maxRecDepth 8000
attribute [local irreducible] JE Br eK0 eK3 brK pc
def ints : Nat → List Int
  | 0 => []
  | k + 1 => ints k ++ [(k : Int) + 1]
theorem ints_mem : ∀ (k : Nat) (u : Int), u ∈ ints k ↔ 1 ≤ u ∧ u ≤ k
  | 0, u => by simp [ints]; omega
  | k + 1, u => by
    rw [ints, List.mem_append, ints_mem k u, List.mem_singleton]
    constructor
    · rintro (h | h) <;> omega
    · intro h; by_cases hu : u = k + 1
      · exact .inr hu
      · exact .inl ⟨h.1, by omega⟩
theorem ints_succ (k : Nat) : ints (k + 1) = ints k ++ [(k : Int) + 1] := rfl
attribute [local irreducible] ints
end Go.Proofs.YtbhgahjeocnfcaaGreat
namespace Go.Proofs.YtbhgahjeocnfcaaGreat
open Go Go.Cx Go.RowKit
set_option linter.unusedVariables false
set_option linter.unusedSimpArgs false
set_option maxHeartbeats 4000000
attribute [local irreducible] J JC thenK blockK loopK roundK drawK retK QW Qt pel List.set Calls
open Go.Maps Go.Lib
set_option maxRecDepth 8000
attribute [local irreducible] JE Br eK0 eK3 brK pc
theorem eUpTo : Entr Tryz.prog 24 := Entr.of Tryz.func24 rfl rfl
theorem eSmall : Entr Tryz.prog 5 := Entr.of Tryz.func5 rfl rfl
theorem eOrder31 : Entr Tryz.prog 7 := Entr.of Tryz.func7 rfl rfl
theorem eSame3 : Entr Tryz.prog 25 := Entr.of Tryz.func25 rfl rfl
theorem ints_len : ∀ n, (ints n).length = n
  | 0 => by unfold ints; rfl
  | n + 1 => by rw [ints_succ, List.length_append, ints_len n]; rfl
theorem upTo_any (n : Nat) (hn : n ≤ 1000) (w : World) : Calls Tryz.prog 24 #[.int .i64 (n : Int)] w (Gives (Sls encI 1 3 (ints n)) w) := by
  refine calls_of_JC (R := []) Tryz.func24 Tryz.ntmps24 rfl rfl (Holds.nil _) ?_
  repeat' first
    | (refine J.isJ ?_; first | (fail) | (first | (refine J.o 0 ?_; refine J.ev' hΓ ?_) | refine J.nil ?_ | (refine J.o 3 ?_; first | refine J.ev' hΓ ?_) | (refine J.o 1 ?_; first | refine J.ad ?_) | (refine J.o 9 ?_; refine J.bl hΓ (fun _ => ?_)) | (refine J.o 10 ?_; refine J.ev' hΓ ?_) | (refine J.o 11 ?_; refine J.ev' hΓ ?_)))
    | (first | refine JC.seq ?_ | refine JC.region ?_ | refine JC.block ?_ | refine JC.ret ?_ | refine JC.exit ?_ | refine JC.skip ?_ | refine thenK.nn ?_ | refine thenK.x ?_ | refine blockK.nn ?_ | refine blockK.hit rfl ?_ | (refine JC.cond rfl (fun hc => ?_) (fun hc => ?_) <;> ((try simp only [decide_eq_true_eq, decide_eq_false_iff_not, beq_iff_eq, beq_eq_false_iff_ne, bne_iff_ne, bne_eq_false_iff_eq, Bool.not_eq_true', Bool.not_eq_false', Bool.not_eq_true, Bool.not_eq_false] at hc) <;> first | (first | (exact absurd rfl hc) | (exfalso; omega) | (exact absurd (hc.symm.trans (by assumption : _ = false)) (by decide)) | (exact absurd (hc.symm.trans (by assumption : _ = true)) (by decide))) | skip)) | refine loopK.x ?_)
    | (fail)
    | fail
  all_goals first | (exfalso; omega) | skip
  refine JC.nilF ?_
  refine JC.loop (fun i => i == 3 || i == 4 || Nat.ble 5 i) (fun m g L => ∃ (k : Nat) (a : Option Addr) (c : Nat) (h : Heap), g 4 = .int .i64 ((k + 1 : Nat) : Int) ∧ g 3 = .slice a (ints k).length c ∧ k + m = n ∧ OwT encI 1 3 a c (ints k) h ∧ L = [h]) n ⟨0, none, 0, [], rfl, by unfold ints; rfl, by omega, by unfold ints; exact OwT.nil (fun _ => rfl), rfl⟩ ?_
  rintro m g L ⟨k, a, c, h, e4, e3, hkm, oo, rfl⟩
  refine JC.pin 4 e4 (JC.pin 3 e3 ?_)
  have hil := ints_len k
  rcases Nat.lt_or_ge k n with hk | hk
  ·
    have hs := ints_succ k
    repeat' first
      | (refine J.isJ ?_; first | ((refine J.o 9 ?_; first | (first | (refine J.ap1 (enc := encI) [((k + 1 : Nat) : Int)] hΓ (fun a2 c2 h2 o2 => ?_))))) | (first | (refine J.o 0 ?_; refine J.ev' hΓ ?_) | refine J.nil ?_ | (refine J.o 3 ?_; first | refine J.ev' hΓ ?_) | (refine J.o 1 ?_; first | refine J.ad ?_) | (refine J.o 9 ?_; refine J.bl hΓ (fun _ => ?_)) | (refine J.o 10 ?_; refine J.ev' hΓ ?_) | (refine J.o 11 ?_; refine J.ev' hΓ ?_)))
      | (first | refine JC.seq ?_ | refine JC.region ?_ | refine JC.block ?_ | refine JC.ret ?_ | refine JC.exit ?_ | refine JC.skip ?_ | refine thenK.nn ?_ | refine thenK.x ?_ | refine blockK.nn ?_ | refine blockK.hit rfl ?_ | (refine JC.cond rfl (fun hc => ?_) (fun hc => ?_) <;> ((try simp only [decide_eq_true_eq, decide_eq_false_iff_not, beq_iff_eq, beq_eq_false_iff_ne, bne_iff_ne, bne_eq_false_iff_eq, Bool.not_eq_true', Bool.not_eq_false', Bool.not_eq_true, Bool.not_eq_false] at hc) <;> first | (first | (exact absurd rfl hc) | (exfalso; omega) | (exact absurd (hc.symm.trans (by assumption : _ = false)) (by decide)) | (exact absurd (hc.symm.trans (by assumption : _ = true)) (by decide))) | skip)) | refine loopK.x ?_)
      | (fail)
      | fail
    all_goals first | (exfalso; omega) | skip
    have e : ints k ++ [((k + 1 : Nat) : Int)] = ints (k + 1) := hs.symm
    rw [e] at o2
    refine loopK.nn (m - 1) (by omega) (by repeat (first | refine Ag.upd rfl ?_ | exact Ag.hv)) ⟨k + 1, a2, c2, h2, ?_, ?_, by omega, o2, rfl⟩
    · show Value.int .i64 _ = _; congr 1
    · show Value.slice _ _ _ = _; rw [e]
  ·
    obtain rfl : k = n := by omega
    repeat' first
      | (refine J.isJ ?_; first | (fail) | (first | (refine J.o 0 ?_; refine J.ev' hΓ ?_) | refine J.nil ?_ | (refine J.o 3 ?_; first | refine J.ev' hΓ ?_) | (refine J.o 1 ?_; first | refine J.ad ?_) | (refine J.o 9 ?_; refine J.bl hΓ (fun _ => ?_)) | (refine J.o 10 ?_; refine J.ev' hΓ ?_) | (refine J.o 11 ?_; refine J.ev' hΓ ?_)))
      | (first | refine JC.seq ?_ | refine JC.region ?_ | refine JC.block ?_ | refine JC.ret ?_ | refine JC.exit ?_ | refine JC.skip ?_ | refine thenK.nn ?_ | refine thenK.x ?_ | refine blockK.nn ?_ | refine blockK.hit rfl ?_ | (refine JC.cond rfl (fun hc => ?_) (fun hc => ?_) <;> ((try simp only [decide_eq_true_eq, decide_eq_false_iff_not, beq_iff_eq, beq_eq_false_iff_ne, bne_iff_ne, bne_eq_false_iff_eq, Bool.not_eq_true', Bool.not_eq_false', Bool.not_eq_true, Bool.not_eq_false] at hc) <;> first | (first | (exact absurd rfl hc) | (exfalso; omega) | (exact absurd (hc.symm.trans (by assumption : _ = false)) (by decide)) | (exact absurd (hc.symm.trans (by assumption : _ = true)) (by decide))) | skip)) | refine loopK.x ?_)
      | (fail)
      | fail
    all_goals first | (exfalso; omega) | skip
    exact ret1f rfl rfl rfl (fun w1 hw => Gives.of hw ⟨_, _, rfl, oo⟩)
def smallP (n : Int) (N : Int) (T : List (List Int)) : Prop := 0 ≤ N ∧ N ≤ n ∧ T.length ≤ 30 ∧ (∀ c ∈ T, c.length ≤ 10) ∧ thE N T = 0
instance (n N : Int) (T : List (List Int)) : Decidable (smallP n N T) := by unfold smallP; exact inferInstance
theorem small_any (n : Int) (hn : n ≤ 128) (N : Int) (a : Option Addr) (cap : Nat) (vs : List HV) (h : Heap) (hr : LLR a vs h) (w : World) (hw : Holds h w) :
    Calls Tryz.prog 5 #[.agg ⟨[.int .i64 N, .slice a vs.length cap]⟩, .int .i64 n] w fun e w' => e = .returned (.bool (decide (smallP n N (vs.map (·.l))))) ∧ Below w.heap.size w w' := by
  have q0 : ∀ L, RdH h L h := fun L => RdH.old fun _ hh => hh
  have cC := fun w hw => check05_any N a cap vs h hr w hw
  have hlen : (vs.map (·.l)).length = vs.length := List.length_map _
  obtain ⟨ho, hi⟩ := hr
  have hno : ∀ x : Prop, (smallP n N (vs.map (·.l)) → x) → ¬ x → Value.bool (decide (smallP n N (vs.map (·.l)))) = .bool false := fun x h1 h2 => by rw [decide_eq_false (fun g => h2 (h1 g))]
  by_cases hb : 0 ≤ N ∧ N ≤ n ∧ vs.length ≤ 30
  case neg =>
    rw [hno _ (fun g => ⟨g.1, g.2.1, by have := g.2.2.1; omega⟩) hb]
    refine calls_of_JC (R := h) Tryz.func5 Tryz.ntmps5 rfl rfl (hw) ?_
    repeat' first
      | (refine J.isJ ?_; first | (first | (refine J.o 6 ?_; refine J.bx (fun b2 => ?_))) | (first | (refine J.o 0 ?_; refine J.ev' hΓ ?_) | refine J.nil ?_ | refine J.kd ?_ | (refine J.o 4 ?_; first | refine J.lT default hΓ ?_ | refine J.lR hΓ ?_) | (refine J.o 3 ?_; first | refine J.iJ hΓ ?_ | refine J.ev' hΓ ?_) | (refine J.o 1 ?_; first | refine J.ad ?_) | (refine J.o 6 ?_; refine J.bx (fun _ => ?_)) | (refine J.o 10 ?_; refine J.ev' hΓ ?_) | (refine J.o 11 ?_; refine J.ev' hΓ ?_)) | ((fail_if_success refine J.wt ?_); refine J.gc rfl rfl (fun hc => ?_) (fun hc => ?_) <;> ((try simp only [decide_eq_true_eq, decide_eq_false_iff_not, beq_iff_eq, beq_eq_false_iff_ne, bne_iff_ne, bne_eq_false_iff_eq, Bool.not_eq_true', Bool.not_eq_false', Bool.not_eq_true, Bool.not_eq_false] at hc) <;> first | (first | (exact absurd rfl hc) | (exfalso; omega) | (exact absurd (hc.symm.trans (by assumption : _ = false)) (by decide)) | (exact absurd (hc.symm.trans (by assumption : _ = true)) (by decide))) | skip)))
      | (first | refine JC.seq ?_ | refine JC.region ?_ | refine JC.block ?_ | refine JC.ret ?_ | refine JC.exit ?_ | refine JC.skip ?_ | refine thenK.nn ?_ | refine thenK.r ?_ | refine thenK.x ?_ | refine blockK.nn ?_ | refine blockK.r ?_ | refine blockK.hit rfl ?_ | refine JC.condT rfl ?_ | (refine JC.cond rfl (fun hc => ?_) (fun hc => ?_) <;> ((try simp only [decide_eq_true_eq, decide_eq_false_iff_not, beq_iff_eq, beq_eq_false_iff_ne, bne_iff_ne, bne_eq_false_iff_eq, Bool.not_eq_true', Bool.not_eq_false', Bool.not_eq_true, Bool.not_eq_false] at hc) <;> first | (first | (exact absurd rfl hc) | (exfalso; omega) | (exact absurd (hc.symm.trans (by assumption : _ = false)) (by decide)) | (exact absurd (hc.symm.trans (by assumption : _ = true)) (by decide))) | skip)) | refine loopK.r ?_ | refine loopK.x ?_)
      | (fail)
      | fail
    all_goals first | (exfalso; omega) | skip
    all_goals (refine ret1f rfl rfl rfl (fun w1 hw => ⟨rfl, hw.below⟩))
  obtain ⟨h1, h2, h3⟩ := hb
  refine calls_of_JC (R := h) Tryz.func5 Tryz.ntmps5 rfl rfl (hw) ?_
  repeat' first
    | (refine J.isJ ?_; first | (first | (refine J.o 6 ?_; refine J.bx (fun b2 => ?_))) | (first | (refine J.o 0 ?_; refine J.ev' hΓ ?_) | refine J.nil ?_ | refine J.kd ?_ | (refine J.o 4 ?_; first | refine J.lT default hΓ ?_ | refine J.lR hΓ ?_) | (refine J.o 3 ?_; first | refine J.iJ hΓ ?_ | refine J.ev' hΓ ?_) | (refine J.o 1 ?_; first | refine J.ad ?_) | (refine J.o 6 ?_; refine J.bx (fun _ => ?_)) | (refine J.o 10 ?_; refine J.ev' hΓ ?_) | (refine J.o 11 ?_; refine J.ev' hΓ ?_)) | ((fail_if_success refine J.wt ?_); refine J.gc rfl rfl (fun hc => ?_) (fun hc => ?_) <;> ((try simp only [decide_eq_true_eq, decide_eq_false_iff_not, beq_iff_eq, beq_eq_false_iff_ne, bne_iff_ne, bne_eq_false_iff_eq, Bool.not_eq_true', Bool.not_eq_false', Bool.not_eq_true, Bool.not_eq_false] at hc) <;> first | (first | (exact absurd rfl hc) | (exfalso; omega) | (exact absurd (hc.symm.trans (by assumption : _ = false)) (by decide)) | (exact absurd (hc.symm.trans (by assumption : _ = true)) (by decide))) | skip)))
    | (first | refine JC.seq ?_ | refine JC.region ?_ | refine JC.block ?_ | refine JC.ret ?_ | refine JC.exit ?_ | refine JC.skip ?_ | refine thenK.nn ?_ | refine thenK.r ?_ | refine thenK.x ?_ | refine blockK.nn ?_ | refine blockK.r ?_ | refine blockK.hit rfl ?_ | refine JC.condT rfl ?_ | (refine JC.cond rfl (fun hc => ?_) (fun hc => ?_) <;> ((try simp only [decide_eq_true_eq, decide_eq_false_iff_not, beq_iff_eq, beq_eq_false_iff_ne, bne_iff_ne, bne_eq_false_iff_eq, Bool.not_eq_true', Bool.not_eq_false', Bool.not_eq_true, Bool.not_eq_false] at hc) <;> first | (first | (exact absurd rfl hc) | (exfalso; omega) | (exact absurd (hc.symm.trans (by assumption : _ = false)) (by decide)) | (exact absurd (hc.symm.trans (by assumption : _ = true)) (by decide))) | skip)) | refine loopK.r ?_ | refine loopK.x ?_)
    | (fail)
    | fail
  all_goals first | (exfalso; omega) | skip
  refine JC.loop (fun i => i == 4 || i == 6 || Nat.ble 25 i) (fun m g L => ∃ (k : Nat), g 25 = .int .i64 (k : Int) ∧ k + m = vs.length ∧ (∀ j, j < k → (vs.getD j default).l.length ≤ 10) ∧ L = _) vs.length ⟨0, rfl, by omega, fun j hj => absurd hj (Nat.not_lt_zero _), rfl⟩ ?_
  rintro m g L ⟨k, e25, hkm, hall, rfl⟩
  refine JC.pin 25 e25 ?_
  rcases Nat.lt_or_ge k vs.length with hk | hk
  ·
    have hm := mem_g vs k hk
    by_cases hc10 : (vs.getD k default).l.length ≤ 10
    ·
      repeat' first
        | (refine J.isJ ?_; first | (first | (refine J.o 3 ?_; refine J.iJ hΓ ?_ (hs := ho)) | (refine J.o 4 ?_; first | refine J.lT default hΓ ?_ (hs := ho) (hr := q0 _))) | (first | (refine J.o 0 ?_; refine J.ev' hΓ ?_) | refine J.nil ?_ | refine J.kd ?_ | (refine J.o 4 ?_; first | refine J.lT default hΓ ?_ | refine J.lR hΓ ?_) | (refine J.o 3 ?_; first | refine J.iJ hΓ ?_ | refine J.ev' hΓ ?_) | (refine J.o 1 ?_; first | refine J.ad ?_) | (refine J.o 6 ?_; refine J.bx (fun _ => ?_)) | (refine J.o 10 ?_; refine J.ev' hΓ ?_) | (refine J.o 11 ?_; refine J.ev' hΓ ?_)) | ((fail_if_success refine J.wt ?_); refine J.gc rfl rfl (fun hc => ?_) (fun hc => ?_) <;> ((try simp only [decide_eq_true_eq, decide_eq_false_iff_not, beq_iff_eq, beq_eq_false_iff_ne, bne_iff_ne, bne_eq_false_iff_eq, Bool.not_eq_true', Bool.not_eq_false', Bool.not_eq_true, Bool.not_eq_false] at hc) <;> first | (first | (exact absurd rfl hc) | (exfalso; omega) | (exact absurd (hc.symm.trans (by assumption : _ = false)) (by decide)) | (exact absurd (hc.symm.trans (by assumption : _ = true)) (by decide))) | skip)))
        | (first | refine JC.seq ?_ | refine JC.region ?_ | refine JC.block ?_ | refine JC.ret ?_ | refine JC.exit ?_ | refine JC.skip ?_ | refine thenK.nn ?_ | refine thenK.r ?_ | refine thenK.x ?_ | refine blockK.nn ?_ | refine blockK.r ?_ | refine blockK.hit rfl ?_ | refine JC.condT rfl ?_ | (refine JC.cond rfl (fun hc => ?_) (fun hc => ?_) <;> ((try simp only [decide_eq_true_eq, decide_eq_false_iff_not, beq_iff_eq, beq_eq_false_iff_ne, bne_iff_ne, bne_eq_false_iff_eq, Bool.not_eq_true', Bool.not_eq_false', Bool.not_eq_true, Bool.not_eq_false] at hc) <;> first | (first | (exact absurd rfl hc) | (exfalso; omega) | (exact absurd (hc.symm.trans (by assumption : _ = false)) (by decide)) | (exact absurd (hc.symm.trans (by assumption : _ = true)) (by decide))) | skip)) | refine loopK.r ?_ | refine loopK.x ?_)
        | (fail)
        | fail
      all_goals first | (exfalso; omega) | skip
      refine loopK.nn (m - 1) (by omega) (by repeat (first | refine Ag.upd rfl ?_ | exact Ag.hv)) ⟨k + 1, ?_, by omega, fun j hj => ?_, rfl⟩
      · show Value.int .i64 _ = _; congr 1
      · rcases Nat.lt_or_ge j k with g | g
        · exact hall j g
        · obtain rfl : j = k := by omega
          exact hc10
    ·
      rw [hno _ (fun g => g.2.2.2.1 _ (List.mem_map_of_mem (f := (·.l)) hm)) hc10]
      repeat' first
        | (refine J.isJ ?_; first | (first | (refine J.o 3 ?_; refine J.iJ hΓ ?_ (hs := ho)) | (refine J.o 4 ?_; first | refine J.lT default hΓ ?_ (hs := ho) (hr := q0 _))) | (first | (refine J.o 0 ?_; refine J.ev' hΓ ?_) | refine J.nil ?_ | refine J.kd ?_ | (refine J.o 4 ?_; first | refine J.lT default hΓ ?_ | refine J.lR hΓ ?_) | (refine J.o 3 ?_; first | refine J.iJ hΓ ?_ | refine J.ev' hΓ ?_) | (refine J.o 1 ?_; first | refine J.ad ?_) | (refine J.o 6 ?_; refine J.bx (fun _ => ?_)) | (refine J.o 10 ?_; refine J.ev' hΓ ?_) | (refine J.o 11 ?_; refine J.ev' hΓ ?_)) | ((fail_if_success refine J.wt ?_); refine J.gc rfl rfl (fun hc => ?_) (fun hc => ?_) <;> ((try simp only [decide_eq_true_eq, decide_eq_false_iff_not, beq_iff_eq, beq_eq_false_iff_ne, bne_iff_ne, bne_eq_false_iff_eq, Bool.not_eq_true', Bool.not_eq_false', Bool.not_eq_true, Bool.not_eq_false] at hc) <;> first | (first | (exact absurd rfl hc) | (exfalso; omega) | (exact absurd (hc.symm.trans (by assumption : _ = false)) (by decide)) | (exact absurd (hc.symm.trans (by assumption : _ = true)) (by decide))) | skip)))
        | (first | refine JC.seq ?_ | refine JC.region ?_ | refine JC.block ?_ | refine JC.ret ?_ | refine JC.exit ?_ | refine JC.skip ?_ | refine thenK.nn ?_ | refine thenK.r ?_ | refine thenK.x ?_ | refine blockK.nn ?_ | refine blockK.r ?_ | refine blockK.hit rfl ?_ | refine JC.condT rfl ?_ | (refine JC.cond rfl (fun hc => ?_) (fun hc => ?_) <;> ((try simp only [decide_eq_true_eq, decide_eq_false_iff_not, beq_iff_eq, beq_eq_false_iff_ne, bne_iff_ne, bne_eq_false_iff_eq, Bool.not_eq_true', Bool.not_eq_false', Bool.not_eq_true, Bool.not_eq_false] at hc) <;> first | (first | (exact absurd rfl hc) | (exfalso; omega) | (exact absurd (hc.symm.trans (by assumption : _ = false)) (by decide)) | (exact absurd (hc.symm.trans (by assumption : _ = true)) (by decide))) | skip)) | refine loopK.r ?_ | refine loopK.x ?_)
        | (fail)
        | fail
      all_goals first | (exfalso; omega) | skip
      all_goals (refine ret1f rfl rfl rfl (fun w1 hw => ⟨rfl, hw.below⟩))
  ·
    have hiff : smallP n N (vs.map (·.l)) ↔ thE N (vs.map (·.l)) = 0 := ⟨fun g => g.2.2.2.2, fun g => ⟨h1, h2, by omega, fun c hc => by
      obtain ⟨v, hv, rfl⟩ := List.mem_map.1 hc
      obtain ⟨j, hj, rfl⟩ := List.mem_iff_getElem.1 hv
      have := hall j (by omega)
      rw [List.getD_eq_getElem?_getD, List.getElem?_eq_getElem hj] at this
      exact this, g⟩⟩
    rw [show decide (smallP n N (vs.map (·.l))) = decide (thE N (vs.map (·.l)) = 0) from decide_eq_decide.2 hiff]
    repeat' first
      | (refine J.isJ ?_; first | (first | (refine J.o 4 ?_; refine J.lR hΓ ?_ (hr := Rd.hd)) | (refine J.fc 22 ?_; refine J.call0 eCheck05 rfl rfl (fun w hw => cC w (hw.rdH (q0 _))) ?_)) | (first | (refine J.o 0 ?_; refine J.ev' hΓ ?_) | refine J.nil ?_ | refine J.kd ?_ | (refine J.o 4 ?_; first | refine J.lT default hΓ ?_ | refine J.lR hΓ ?_) | (refine J.o 3 ?_; first | refine J.iJ hΓ ?_ | refine J.ev' hΓ ?_) | (refine J.o 1 ?_; first | refine J.ad ?_) | (refine J.o 6 ?_; refine J.bx (fun _ => ?_)) | (refine J.o 10 ?_; refine J.ev' hΓ ?_) | (refine J.o 11 ?_; refine J.ev' hΓ ?_)) | ((fail_if_success refine J.wt ?_); refine J.gc rfl rfl (fun hc => ?_) (fun hc => ?_) <;> ((try simp only [decide_eq_true_eq, decide_eq_false_iff_not, beq_iff_eq, beq_eq_false_iff_ne, bne_iff_ne, bne_eq_false_iff_eq, Bool.not_eq_true', Bool.not_eq_false', Bool.not_eq_true, Bool.not_eq_false] at hc) <;> first | (first | (exact absurd rfl hc) | (exfalso; omega) | (exact absurd (hc.symm.trans (by assumption : _ = false)) (by decide)) | (exact absurd (hc.symm.trans (by assumption : _ = true)) (by decide))) | skip)))
      | (first | refine JC.seq ?_ | refine JC.region ?_ | refine JC.block ?_ | refine JC.ret ?_ | refine JC.exit ?_ | refine JC.skip ?_ | refine thenK.nn ?_ | refine thenK.r ?_ | refine thenK.x ?_ | refine blockK.nn ?_ | refine blockK.r ?_ | refine blockK.hit rfl ?_ | refine JC.condT rfl ?_ | (refine JC.cond rfl (fun hc => ?_) (fun hc => ?_) <;> ((try simp only [decide_eq_true_eq, decide_eq_false_iff_not, beq_iff_eq, beq_eq_false_iff_ne, bne_iff_ne, bne_eq_false_iff_eq, Bool.not_eq_true', Bool.not_eq_false', Bool.not_eq_true, Bool.not_eq_false] at hc) <;> first | (first | (exact absurd rfl hc) | (exfalso; omega) | (exact absurd (hc.symm.trans (by assumption : _ = false)) (by decide)) | (exact absurd (hc.symm.trans (by assumption : _ = true)) (by decide))) | skip)) | refine loopK.r ?_ | refine loopK.x ?_)
      | (fail)
      | fail
    all_goals first | (exfalso; omega) | skip
    all_goals (refine ret1f rfl rfl rfl (fun w1 hw => ⟨?_, hw.below⟩))
    all_goals (refine congrArg (fun b => Ending.returned (.bool b)) ?_)
    all_goals rfl
theorem same3_any (f g : List Int) (af ag : Option Addr) (cf cg : Nat) (h : Heap) (sf : SlT encI 1 af f h) (sg : SlT encI 1 ag g h) (hl : f.length ≤ 100000) (hl2 : g.length ≤ 100000) (w : World) (hw1 : Holds h w) :
    Calls Tryz.prog 25 #[.slice af f.length cf, .slice ag g.length cg] w fun e w' => e = .returned (.bool (decide (f = g))) ∧ Below w.heap.size w w' := by
  have q0 : ∀ L, RdH h L h := fun L => RdH.old fun _ hh => hh
  by_cases hlen : f.length = g.length
  case neg =>
    rw [decide_eq_false (fun e => hlen (by rw [e]))]
    refine calls_of_JC (R := h) Tryz.func25 Tryz.ntmps25 rfl rfl (hw1) ?_
    repeat' first
      | (refine J.isJ ?_; first | (fail) | (first | (refine J.o 0 ?_; refine J.ev' hΓ ?_) | refine J.nil ?_ | (refine J.o 4 ?_; first | refine J.lT default hΓ ?_) | (refine J.o 3 ?_; first | refine J.iJ hΓ ?_ | refine J.ev' hΓ ?_) | (refine J.o 1 ?_; first | refine J.ad ?_) | (refine J.o 10 ?_; refine J.ev' hΓ ?_) | (refine J.o 11 ?_; refine J.ev' hΓ ?_)))
      | (first | refine JC.seq ?_ | refine JC.region ?_ | refine JC.block ?_ | refine JC.ret ?_ | refine JC.exit ?_ | refine JC.skip ?_ | refine thenK.nn ?_ | refine thenK.r ?_ | refine thenK.x ?_ | refine blockK.nn ?_ | refine blockK.r ?_ | refine blockK.hit rfl ?_ | refine JC.condT rfl ?_ | refine JC.condF rfl ?_ | (refine JC.cond rfl (fun hc => ?_) (fun hc => ?_) <;> ((try simp only [decide_eq_true_eq, decide_eq_false_iff_not, beq_iff_eq, beq_eq_false_iff_ne, bne_iff_ne, bne_eq_false_iff_eq, Bool.not_eq_true', Bool.not_eq_false', Bool.not_eq_true, Bool.not_eq_false] at hc) <;> first | (first | (exact absurd rfl hc) | (exfalso; omega) | (exact absurd (hc.symm.trans (by assumption : _ = false)) (by decide)) | (exact absurd (hc.symm.trans (by assumption : _ = true)) (by decide))) | skip)) | refine drawK.nn ?_ | refine loopK.r ?_ | refine loopK.x ?_)
      | (fail)
      | fail
    all_goals first | (exfalso; omega) | skip
    all_goals (refine ret1f rfl rfl rfl (fun w1 hw => ⟨rfl, hw.below⟩))
  refine calls_of_JC (R := h) Tryz.func25 Tryz.ntmps25 rfl rfl (hw1) ?_
  repeat' first
    | (refine J.isJ ?_; first | (fail) | (first | (refine J.o 0 ?_; refine J.ev' hΓ ?_) | refine J.nil ?_ | (refine J.o 4 ?_; first | refine J.lT default hΓ ?_) | (refine J.o 3 ?_; first | refine J.iJ hΓ ?_ | refine J.ev' hΓ ?_) | (refine J.o 1 ?_; first | refine J.ad ?_) | (refine J.o 10 ?_; refine J.ev' hΓ ?_) | (refine J.o 11 ?_; refine J.ev' hΓ ?_)))
    | (first | refine JC.seq ?_ | refine JC.region ?_ | refine JC.block ?_ | refine JC.ret ?_ | refine JC.exit ?_ | refine JC.skip ?_ | refine thenK.nn ?_ | refine thenK.r ?_ | refine thenK.x ?_ | refine blockK.nn ?_ | refine blockK.r ?_ | refine blockK.hit rfl ?_ | refine JC.condT rfl ?_ | refine JC.condF rfl ?_ | (refine JC.cond rfl (fun hc => ?_) (fun hc => ?_) <;> ((try simp only [decide_eq_true_eq, decide_eq_false_iff_not, beq_iff_eq, beq_eq_false_iff_ne, bne_iff_ne, bne_eq_false_iff_eq, Bool.not_eq_true', Bool.not_eq_false', Bool.not_eq_true, Bool.not_eq_false] at hc) <;> first | (first | (exact absurd rfl hc) | (exfalso; omega) | (exact absurd (hc.symm.trans (by assumption : _ = false)) (by decide)) | (exact absurd (hc.symm.trans (by assumption : _ = true)) (by decide))) | skip)) | refine drawK.nn ?_ | refine loopK.r ?_ | refine loopK.x ?_)
    | (fail)
    | fail
  all_goals first | (exfalso; omega) | skip
  refine JC.loop (fun i => i == 4 || i == 5 || Nat.ble 11 i) (fun m gg L => ∃ q : Nat, gg 5 = .int .i64 (q : Int) ∧ q + m = f.length ∧ (∀ j, j < q → f.getD j default = g.getD j default) ∧ L = []) f.length ⟨0, rfl, by omega, fun j hj => absurd hj (Nat.not_lt_zero _), rfl⟩ ?_
  rintro m gg L ⟨q, e5, hqm, heq, rfl⟩
  refine JC.pin 5 e5 ?_
  rcases Nat.lt_or_ge q f.length with hq | hq
  ·
    by_cases hx : f.getD q default = g.getD q default
    ·
      have hd : (f.getD q default != g.getD q default) = false := by rw [hx]; simp
      repeat' first
        | (refine J.isJ ?_; first | (first | (refine J.o 3 ?_; first | refine J.iJ hΓ ?_ (hs := sf) | refine J.iJ hΓ ?_ (hs := sg)) | (refine J.o 4 ?_; first | refine J.lT default hΓ ?_ (hs := sf) (hr := q0 _) | refine J.lT default hΓ ?_ (hs := sg) (hr := q0 _)) | (refine J.o 11 ?_; refine J.ev' hΓ ?_; rw [hd])) | (first | (refine J.o 0 ?_; refine J.ev' hΓ ?_) | refine J.nil ?_ | (refine J.o 4 ?_; first | refine J.lT default hΓ ?_) | (refine J.o 3 ?_; first | refine J.iJ hΓ ?_ | refine J.ev' hΓ ?_) | (refine J.o 1 ?_; first | refine J.ad ?_) | (refine J.o 10 ?_; refine J.ev' hΓ ?_) | (refine J.o 11 ?_; refine J.ev' hΓ ?_)))
        | (first | refine JC.seq ?_ | refine JC.region ?_ | refine JC.block ?_ | refine JC.ret ?_ | refine JC.exit ?_ | refine JC.skip ?_ | refine thenK.nn ?_ | refine thenK.r ?_ | refine thenK.x ?_ | refine blockK.nn ?_ | refine blockK.r ?_ | refine blockK.hit rfl ?_ | refine JC.condT rfl ?_ | refine JC.condF rfl ?_ | (refine JC.cond rfl (fun hc => ?_) (fun hc => ?_) <;> ((try simp only [decide_eq_true_eq, decide_eq_false_iff_not, beq_iff_eq, beq_eq_false_iff_ne, bne_iff_ne, bne_eq_false_iff_eq, Bool.not_eq_true', Bool.not_eq_false', Bool.not_eq_true, Bool.not_eq_false] at hc) <;> first | (first | (exact absurd rfl hc) | (exfalso; omega) | (exact absurd (hc.symm.trans (by assumption : _ = false)) (by decide)) | (exact absurd (hc.symm.trans (by assumption : _ = true)) (by decide))) | skip)) | refine drawK.nn ?_ | refine loopK.r ?_ | refine loopK.x ?_)
        | ((refine JC.drawW [] [] (by kernel_rfl) (by kernel_rfl) ?_))
        | fail
      all_goals first | (exfalso; omega) | skip
      refine loopK.nn (m - 1) (by omega) (by repeat (first | refine Ag.upd rfl ?_ | exact Ag.hv)) ⟨q + 1, ?_, by omega, fun j hj => ?_, rfl⟩
      · show Value.int .i64 _ = _; congr 1
      · rcases Nat.lt_or_ge j q with g1 | g1
        · exact heq j g1
        · obtain rfl : j = q := by omega
          exact hx
    ·
      have hd : (f.getD q default != g.getD q default) = true := by simpa using hx
      rw [decide_eq_false (fun e => hx (by rw [e]))]
      repeat' first
        | (refine J.isJ ?_; first | (first | (refine J.o 3 ?_; first | refine J.iJ hΓ ?_ (hs := sf) | refine J.iJ hΓ ?_ (hs := sg)) | (refine J.o 4 ?_; first | refine J.lT default hΓ ?_ (hs := sf) (hr := q0 _) | refine J.lT default hΓ ?_ (hs := sg) (hr := q0 _)) | (refine J.o 11 ?_; refine J.ev' hΓ ?_; rw [hd])) | (first | (refine J.o 0 ?_; refine J.ev' hΓ ?_) | refine J.nil ?_ | (refine J.o 4 ?_; first | refine J.lT default hΓ ?_) | (refine J.o 3 ?_; first | refine J.iJ hΓ ?_ | refine J.ev' hΓ ?_) | (refine J.o 1 ?_; first | refine J.ad ?_) | (refine J.o 10 ?_; refine J.ev' hΓ ?_) | (refine J.o 11 ?_; refine J.ev' hΓ ?_)))
        | (first | refine JC.seq ?_ | refine JC.region ?_ | refine JC.block ?_ | refine JC.ret ?_ | refine JC.exit ?_ | refine JC.skip ?_ | refine thenK.nn ?_ | refine thenK.r ?_ | refine thenK.x ?_ | refine blockK.nn ?_ | refine blockK.r ?_ | refine blockK.hit rfl ?_ | refine JC.condT rfl ?_ | refine JC.condF rfl ?_ | (refine JC.cond rfl (fun hc => ?_) (fun hc => ?_) <;> ((try simp only [decide_eq_true_eq, decide_eq_false_iff_not, beq_iff_eq, beq_eq_false_iff_ne, bne_iff_ne, bne_eq_false_iff_eq, Bool.not_eq_true', Bool.not_eq_false', Bool.not_eq_true, Bool.not_eq_false] at hc) <;> first | (first | (exact absurd rfl hc) | (exfalso; omega) | (exact absurd (hc.symm.trans (by assumption : _ = false)) (by decide)) | (exact absurd (hc.symm.trans (by assumption : _ = true)) (by decide))) | skip)) | refine drawK.nn ?_ | refine loopK.r ?_ | refine loopK.x ?_)
        | ((refine JC.drawW [] [] (by kernel_rfl) (by kernel_rfl) ?_))
        | fail
      all_goals first | (exfalso; omega) | skip
      all_goals (refine ret1f rfl rfl rfl (fun w1 hw => ⟨rfl, hw.below⟩))
  ·
    have he : f = g := by
      refine List.ext_getElem hlen fun i h1 h2 => ?_
      have := heq i (by omega)
      rw [List.getD_eq_getElem?_getD, List.getD_eq_getElem?_getD, List.getElem?_eq_getElem h1, List.getElem?_eq_getElem h2] at this
      exact this
    rw [decide_eq_true he]
    repeat' first
      | (refine J.isJ ?_; first | (fail) | (first | (refine J.o 0 ?_; refine J.ev' hΓ ?_) | refine J.nil ?_ | (refine J.o 4 ?_; first | refine J.lT default hΓ ?_) | (refine J.o 3 ?_; first | refine J.iJ hΓ ?_ | refine J.ev' hΓ ?_) | (refine J.o 1 ?_; first | refine J.ad ?_) | (refine J.o 10 ?_; refine J.ev' hΓ ?_) | (refine J.o 11 ?_; refine J.ev' hΓ ?_)))
      | (first | refine JC.seq ?_ | refine JC.region ?_ | refine JC.block ?_ | refine JC.ret ?_ | refine JC.exit ?_ | refine JC.skip ?_ | refine thenK.nn ?_ | refine thenK.r ?_ | refine thenK.x ?_ | refine blockK.nn ?_ | refine blockK.r ?_ | refine blockK.hit rfl ?_ | refine JC.condT rfl ?_ | refine JC.condF rfl ?_ | (refine JC.cond rfl (fun hc => ?_) (fun hc => ?_) <;> ((try simp only [decide_eq_true_eq, decide_eq_false_iff_not, beq_iff_eq, beq_eq_false_iff_ne, bne_iff_ne, bne_eq_false_iff_eq, Bool.not_eq_true', Bool.not_eq_false', Bool.not_eq_true, Bool.not_eq_false] at hc) <;> first | (first | (exact absurd rfl hc) | (exfalso; omega) | (exact absurd (hc.symm.trans (by assumption : _ = false)) (by decide)) | (exact absurd (hc.symm.trans (by assumption : _ = true)) (by decide))) | skip)) | refine drawK.nn ?_ | refine loopK.r ?_ | refine loopK.x ?_)
      | (fail)
      | fail
    all_goals first | (exfalso; omega) | skip
    all_goals (refine ret1f rfl rfl rfl (fun w1 hw => ⟨rfl, hw.below⟩))
end Go.Proofs.YtbhgahjeocnfcaaGreat
namespace Go.Proofs.YtbhgahjeocnfcaaGreat
open Go Go.Cx Go.RowKit
set_option linter.unusedVariables false
set_option linter.unusedSimpArgs false
set_option maxHeartbeats 4000000
attribute [local irreducible] J JC thenK blockK loopK roundK drawK retK QW Qt pel List.set Calls
open Go.Maps Go.Lib
set_option maxRecDepth 8000
attribute [local irreducible] JE Br eK0 eK3 brK pc
def mapD (b : Nat) : Obj := .cells ⟨[.map (some b)]⟩ 67 (0, 0)
end Go.Proofs.YtbhgahjeocnfcaaGreat
namespace Go.Proofs.YtbhgahjeocnfcaaGreat
open Go Go.Cx Go.RowKit
set_option linter.unusedVariables false
set_option linter.unusedSimpArgs false
set_option maxHeartbeats 4000000
attribute [local irreducible] J JC thenK blockK loopK roundK drawK retK QW Qt pel List.set Calls
open Go.Maps Go.Lib
set_option maxRecDepth 8000
attribute [local irreducible] JE Br eK0 eK3 brK pc
abbrev BF := (Nat → Bool) → Bool
def cntF (n : Nat) (g : BF) : Nat := ((List.range (2 ^ n)).map fun r => g (asg n r)).count true
end Go.Proofs.YtbhgahjeocnfcaaGreat
namespace Go.Proofs.YtbhgahjeocnfcaaGreat
open Go Go.Cx Go.RowKit
set_option linter.unusedVariables false
set_option linter.unusedSimpArgs false
set_option maxHeartbeats 4000000
attribute [local irreducible] J JC thenK blockK loopK roundK drawK retK QW Qt pel List.set Calls
open Go.Maps Go.Lib
set_option maxRecDepth 8000
attribute [local irreducible] JE Br eK0 eK3 brK pc
theorem natI_len (l : List Nat) : (natI l).length = l.length := List.length_map _
theorem lvls_len (n : Nat) (ns : List N3) (i : Nat) : ∀ m, ((List.range m).flatMap (lvl n ns i)).length = 2 ^ m - 1
  | 0 => rfl
  | m + 1 => by
    have := Nat.one_le_two_pow (n := m)
    rw [List.range_succ, List.flatMap_append, List.length_append, lvls_len n ns i m, List.flatMap_cons, List.flatMap_nil, List.append_nil, lvl_len, Nat.pow_succ]; omega
theorem rch_len {n : Nat} {ns : List N3} (w : WF n ns) {i : Nat} (hi : i < ns.length) {A : List Nat} (hn : A.Nodup) (h : ∀ x ∈ A, Rch ns i x) : A.length ≤ 2 ^ n + 1 := by
  have hs : ∀ x ∈ A, x ∈ 0 :: 1 :: (List.range n).flatMap (lvl n ns i) := fun x hx => by
    rcases Nat.lt_or_ge x 2 with h2 | h2
    · have : x = 0 ∨ x = 1 := by omega
      rcases this with rfl | rfl <;> simp
    · have hr := h x hx
      have hp := w.pl x h2 (hr.lt w hi)
      refine List.mem_cons_of_mem _ (List.mem_cons_of_mem _ (List.mem_flatMap.2 ⟨(nd ns x).p, List.mem_range.2 hp, ?_⟩))
      exact ((lvl_iff w hi hp).2 ⟨hr, h2, rfl⟩).1
  have := nodup_sub _ _ hn hs
  have h1 := Nat.one_le_two_pow (n := n)
  rw [List.length_cons, List.length_cons, lvls_len] at this
  omega
end Go.Proofs.YtbhgahjeocnfcaaGreat
namespace Go.Proofs.YtbhgahjeocnfcaaGreat
open Go Go.Cx Go.RowKit
set_option linter.unusedVariables false
set_option linter.unusedSimpArgs false
set_option maxHeartbeats 4000000
attribute [local irreducible] J JC thenK blockK loopK roundK drawK retK QW Qt pel List.set Calls
open Go.Maps Go.Lib
set_option maxRecDepth 8000
attribute [local irreducible] JE Br eK0 eK3 brK pc
def tabF (n : Nat) (g : BF) : List Bool := (List.range (2 ^ n)).map fun r => g (asg n r)
end Go.Proofs.YtbhgahjeocnfcaaGreat
namespace Go.Proofs.YtbhgahjeocnfcaaGreat
open Go Go.Cx Go.RowKit
set_option linter.unusedVariables false
set_option linter.unusedSimpArgs false
set_option maxHeartbeats 4000000
attribute [local irreducible] J JC thenK blockK loopK roundK drawK retK QW Qt pel List.set Calls
open Go.Maps Go.Lib
set_option maxRecDepth 8000
attribute [local irreducible] JE Br eK0 eK3 brK pc
theorem and_pw (q m : Nat) : q &&& 2 ^ m = (q / 2 ^ m % 2) * 2 ^ m := by
  apply Nat.eq_of_testBit_eq
  intro i
  rw [Nat.testBit_and, Nat.testBit_two_pow, Nat.mul_comm, show 2 ^ m * (q / 2 ^ m % 2) = 2 ^ m * (q / 2 ^ m % 2) + 0 from rfl, Nat.testBit_two_pow_mul_add _ (Nat.two_pow_pos m)]
  rcases Nat.lt_trichotomy i m with h | h | h
  · simp [h]; omega
  · subst h; simp [Nat.testBit_eq_decide_div_mod_eq]
  · rw [if_neg (by omega)]
    have : m ≠ i := by omega
    simp [this]
    have h2 : q / 2 ^ m % 2 < 2 := Nat.mod_lt _ (by decide)
    apply Nat.testBit_lt_two_pow
    exact Nat.lt_of_lt_of_le h2 (by rw [show 2 = 2 ^ 1 from rfl]; exact Nat.pow_le_pow_right (by decide) (by omega))
def gi (m : Nat) (b : Bool) (q : Nat) : Nat := q - (q &&& 2 ^ m) + (if b then 2 ^ m else 0)
theorem q_split (q m : Nat) : q = 2 ^ m * (2 * (q / 2 ^ (m + 1)) + q / 2 ^ m % 2) + q % 2 ^ m := by
  have h1 := Nat.div_add_mod q (2 ^ m)
  have h2 := Nat.div_add_mod (q / 2 ^ m) 2
  have h3 : q / 2 ^ m / 2 = q / 2 ^ (m + 1) := by rw [Nat.div_div_eq_div_mul, Nat.pow_succ]
  rw [h3] at h2
  rw [h2, h1]
theorem gi_eq (m : Nat) (b : Bool) (q : Nat) : gi m b q = 2 ^ m * (2 * (q / 2 ^ (m + 1)) + (if b then 1 else 0)) + q % 2 ^ m := by
  have h := q_split q m
  unfold gi
  rw [and_pw]
  have e : q - q / 2 ^ m % 2 * 2 ^ m = 2 ^ m * (2 * (q / 2 ^ (m + 1))) + q % 2 ^ m := by
    rw [Nat.mul_add] at h
    have : q / 2 ^ m % 2 * 2 ^ m = 2 ^ m * (q / 2 ^ m % 2) := Nat.mul_comm _ _
    omega
  rw [e]
  cases b
  · simp
  · simp only [if_true]; rw [Nat.mul_add]; omega
theorem gi_bit (m : Nat) (b : Bool) (q j : Nat) : (gi m b q).testBit j = if j = m then b else q.testBit j := by
  have hlo : q % 2 ^ m < 2 ^ m := Nat.mod_lt _ (Nat.two_pow_pos m)
  rw [gi_eq, Nat.testBit_two_pow_mul_add _ hlo]
  have hq : q.testBit j = (2 ^ m * (2 * (q / 2 ^ (m + 1)) + q / 2 ^ m % 2) + q % 2 ^ m).testBit j := by rw [← q_split]
  rw [hq, Nat.testBit_two_pow_mul_add _ hlo]
  by_cases h : j < m
  · rw [if_pos h, if_pos h, if_neg (by omega)]
  · rw [if_neg h, if_neg h]
    by_cases he : j = m
    · subst he
      rw [if_pos rfl, Nat.sub_self, Nat.testBit_zero]
      cases b <;> simp <;> omega
    · rw [if_neg he]
      obtain ⟨i, hi⟩ : ∃ i, j - m = i + 1 := ⟨j - m - 1, by omega⟩
      rw [hi, Nat.testBit_succ, Nat.testBit_succ]
      congr 1
      cases b <;> simp <;> omega
theorem gi_lt {n m : Nat} (hm : m < n) (b : Bool) {q : Nat} (hq : q < 2 ^ n) : gi m b q < 2 ^ n := by
  apply Nat.lt_pow_two_of_testBit
  intro i hi
  rw [gi_bit, if_neg (by omega)]
  exact Nat.testBit_lt_two_pow (Nat.lt_of_lt_of_le hq (Nat.pow_le_pow_right (by decide) hi))
end Go.Proofs.YtbhgahjeocnfcaaGreat
namespace Go.Proofs.YtbhgahjeocnfcaaGreat
open Go Go.Cx Go.RowKit
set_option linter.unusedVariables false
set_option linter.unusedSimpArgs false
set_option maxHeartbeats 4000000
attribute [local irreducible] J JC thenK blockK loopK roundK drawK retK QW Qt pel List.set Calls
open Go.Maps Go.Lib
set_option maxRecDepth 8000
attribute [local irreducible] JE Br eK0 eK3 brK pc
theorem and_bit (q m : Nat) : decide (q &&& 2 ^ m = 0) = !(q.testBit m) := by
  rw [and_pw, Nat.testBit_eq_decide_div_mod_eq]
  have h2 : q / 2 ^ m % 2 < 2 := Nat.mod_lt _ (by decide)
  have hp := Nat.two_pow_pos m
  rcases (show q / 2 ^ m % 2 = 0 ∨ q / 2 ^ m % 2 = 1 by omega) with h | h
  · rw [h]; simp
  · rw [h]; simp
end Go.Proofs.YtbhgahjeocnfcaaGreat
namespace Go.Proofs.YtbhgahjeocnfcaaGreat
open Go Go.Cx Go.RowKit
set_option linter.unusedVariables false
set_option linter.unusedSimpArgs false
set_option maxHeartbeats 4000000
attribute [local irreducible] J JC thenK blockK loopK roundK drawK retK QW Qt pel List.set Calls
open Go.Maps Go.Lib
set_option maxRecDepth 8000
attribute [local irreducible] JE Br eK0 eK3 brK pc
theorem Order_any {n : Nat} {K : KS} {s : SS} (so : SOk n K s) {order : List Int} {hO hP : Heap} (po : POk K order hO hP) (b : Nat) (w : World) (hw : Holds (stR K b s hO) w) :
    Calls Tryz.prog 21 #[.pointer (some ⟨b, 0, none⟩)] w (Gives (fun v g => ∃ a' c', v = .slice a' order.length c' ∧ OwT encI 1 3 a' c' order g) w) := by
  have hpl := po.len
  have hn := ord_le order po.ok
  have hso : SlT encI 1 K.ao order (stR K b s hO) := po.ow.sl.sub fun y hy => List.mem_cons_of_mem _ (List.mem_append_right _ hy)
  have rb : ∀ L, Rd (stR K b s hO) L b (stO K s.an s.ns.length s.cn) := fun L => Rd.old List.mem_cons_self
  have q0 : ∀ L, RdH (stR K b s hO) L (stR K b s hO) := fun L => RdH.old fun _ hh => hh
  have cC := fun w hw => clone_any K.ao K.co order (stR K b s hO) hso (by omega) w hw
  rw [← hpl] at cC ⊢
  unfold stO at rb
  refine calls_of_JC (R := (stR K b s hO)) Tryz.func21 Tryz.ntmps21 rfl rfl (hw) ?_
  repeat' first
    | (refine J.isJ ?_; first | (first | (refine J.o 11 ?_; refine J.pN hΓ ?_) | (refine J.o 4 ?_; refine J.lR hΓ ?_ (hr := rb _)) | (refine J.fc 53 ?_; refine J.call1 eClone rfl rfl (fun w hw => cC w (hw.rdH (q0 _))) ?_; rintro _ hg ⟨a1, c1, rfl, o1⟩)) | (first | (refine J.o 0 ?_; refine J.ev' hΓ ?_) | refine J.nil ?_ | (refine J.o 4 ?_; first | refine J.lR hΓ ?_) | (refine J.o 3 ?_; first | refine J.ev' hΓ ?_) | (refine J.o 10 ?_; refine J.ev' hΓ ?_) | (refine J.o 11 ?_; refine J.ev' hΓ ?_)))
    | (first | refine JC.seq ?_ | refine JC.region ?_ | refine JC.ret ?_ | refine JC.skip ?_ | refine thenK.nn ?_ | refine JC.condF rfl ?_)
    | (fail)
    | fail
  all_goals first | (exfalso; omega) | skip
  all_goals exact ret1f rfl rfl rfl (fun w1 hw => Gives.of hw ⟨a1, c1, rfl, o1⟩)
end Go.Proofs.YtbhgahjeocnfcaaGreat
namespace Go.Proofs.YtbhgahjeocnfcaaGreat
open Go Go.Cx Go.RowKit
set_option linter.unusedVariables false
set_option linter.unusedSimpArgs false
set_option maxHeartbeats 4000000
attribute [local irreducible] J JC thenK blockK loopK roundK drawK retK QW Qt pel List.set Calls
open Go.Maps Go.Lib
set_option maxRecDepth 8000
attribute [local irreducible] JE Br eK0 eK3 brK pc
structure TV where
  a : Option Addr
  c : Nat
  g : BF
instance : Inhabited TV := ⟨⟨none, 0, fun _ => false⟩⟩
theorem own_le {α : Type} {enc : α → List Value} {size : Nat} {e : TypeId} {a : Option Addr} {cap : Nat} {ts : List α} {h : Heap} (o : OwT enc size e a cap ts h) : ts.length ≤ cap := by
  rcases o.row with ⟨_, rfl, rfl, _⟩ | ⟨_, _, _, _, _, h, _⟩
  · exact Nat.le_refl _
  · exact h
end Go.Proofs.YtbhgahjeocnfcaaGreat
namespace Go.Proofs.YtbhgahjeocnfcaaGreat
open Go Go.Cx Go.RowKit
set_option linter.unusedVariables false
set_option linter.unusedSimpArgs false
set_option maxHeartbeats 4000000
attribute [local irreducible] J JC thenK blockK loopK roundK drawK retK QW Qt pel List.set Calls
open Go.Maps Go.Lib
set_option maxRecDepth 8000
attribute [local irreducible] JE Br eK0 eK3 brK pc
def idxQ (b : Nat → Bool) (n : Nat) : Nat → Nat
  | 0 => 0
  | k + 1 => idxQ b n k + (if b k then 2 ^ (n - 1 - k) else 0)
theorem idxQ_ok (b : Nat → Bool) (n : Nat) : ∀ k, k ≤ n → idxQ b n k < 2 ^ n ∧ ∀ j, j < n → (idxQ b n k).testBit (n - 1 - j) = (decide (j < k) && b j)
  | 0, _ => ⟨Nat.two_pow_pos n, fun j hj => by simp [idxQ]⟩
  | k + 1, hk => by
    obtain ⟨h1, h2⟩ := idxQ_ok b n k (by omega)
    have hz : idxQ b n k &&& 2 ^ (n - 1 - k) = 0 := by
      have := and_bit (idxQ b n k) (n - 1 - k)
      rw [h2 k (by omega)] at this
      simpa using this
    have e : idxQ b n (k + 1) = gi (n - 1 - k) (b k) (idxQ b n k) := by unfold gi; rw [hz]; rfl
    rw [e]
    refine ⟨gi_lt (by omega) _ h1, fun j hj => ?_⟩
    rw [gi_bit]
    by_cases hjk : j = k
    · subst hjk; rw [if_pos rfl]; simp
    · rw [if_neg (by omega), h2 j hj]
      have : decide (j < k) = decide (j < k + 1) := decide_eq_decide.2 (by omega)
      rw [this]
end Go.Proofs.YtbhgahjeocnfcaaGreat
namespace Go.Proofs.YtbhgahjeocnfcaaGreat
open Go Go.Cx Go.RowKit
set_option linter.unusedVariables false
set_option linter.unusedSimpArgs false
set_option maxHeartbeats 4000000
attribute [local irreducible] J JC thenK blockK loopK roundK drawK retK QW Qt pel List.set Calls
open Go.Maps Go.Lib
set_option maxRecDepth 8000
attribute [local irreducible] JE Br eK0 eK3 brK pc
section
variable {P : Program} {n : Nat} {w0 : World} {R : Heap} {l0 : List Oper} {K : Exit → Fr → List Heap → Prop} {f : Fr} {L : List Heap} {rest : List (Nat × Oper)} {κ : Nat}
variable {Γ : List (Nat × TI)} {d : Nat} {ty : TypeId} {pos : String} {aft : Array Edge} {g : Option (Nat × Bool)} {t e : TypeId} {x y : Operand} {a : Option Addr} {len cap : Nat}
theorem J.slG {ki : IntKind} {i : Int} (m sz : Nat) {s1 b1 : Nat} {z1 : Option Value} {te : TI} (hΓ : Fits P Γ)
    (kk : J P n w0 R l0 K rest (upd f d (.slice (if cap = m then a else a.map (·.add (m * sz))) (len - m) (cap - m))) L)
    (hg : wantB n f l0 ⟨some d, .slice t x (some y) none none, ty, pos, aft, g⟩ = true := by exact rfl) (hx : Cx.ev n f x = .slice a len cap := by exact rfl) (hy : Cx.ev n f y = .int ki i := by exact rfl) (ht : Go.Cx.look Γ t = some ⟨.slice e, s1, z1, b1⟩ := by exact rfl) (hte : Go.Cx.look Γ e = some te := by exact rfl) (hsz : te.size = sz := by exact rfl) (hm : i = (m : Int) := by omega) (h1 : m ≤ len := by omega) (h2 : len ≤ cap := by omega) :
    J P n w0 R l0 K ((κ, ⟨some d, .slice t x (some y) none none, ty, pos, aft, g⟩) :: rest) f L :=
  J.p hg (fun w => by
    subst hm
    subst hsz
    have hu : P.underlying t = some (.slice e) := (hΓ t _ ht).1
    have he : P.elem t = e := by unfold Program.elem; rw [hu]
    have hu' : P.underlying t = some (.slice (P.elem t)) := by rw [he]; exact hu
    have : (Instr.sliceAt t (.slice a len cap) (some (.int ki (m : Int))) none none).run P w = .ok (.slice (if cap = m then a else a.map (·.add (m * te.size))) (len - m) (cap - m)) w := by
      rw [run_sliceAt_slice w t _ _ _ _ hu', run_slice_l w t a len cap hu' ki (m : Int) (by omega) (by omega), he, sizeOf_run hΓ hte w]
      simp [sliced, Result.andThen]
    simp only [execOp, hx, hy, Sem.run_bind, Option.map_some, Option.map_none]
    rw [this]
    rfl) kk
end
structure BW where
  a : Option Addr
  c : Nat
  l : List Bool
instance : Inhabited BW := ⟨⟨none, 0, []⟩⟩
end Go.Proofs.YtbhgahjeocnfcaaGreat
namespace Go.Proofs.YtbhgahjeocnfcaaGreat
open Go Go.Cx Go.RowKit
set_option linter.unusedVariables false
set_option linter.unusedSimpArgs false
set_option maxHeartbeats 4000000
attribute [local irreducible] J JC thenK blockK loopK roundK drawK retK QW Qt pel List.set Calls
open Go.Maps Go.Lib
set_option maxRecDepth 8000
attribute [local irreducible] JE Br eK0 eK3 brK pc
theorem fn_lt {n : Nat} {ns : List N3} (w : WF n ns) {a b : Nat → Bool} : ∀ (m i : Nat), n - (nd ns i).p ≤ m → i < ns.length → (∀ k, k < n → a k = b k) → fn n ns i a = fn n ns i b
  | m, i, hm, hi, hab => by
    rcases Nat.lt_or_ge i 2 with h2 | h2
    · unfold fn; rw [ev_const _ _ _ h2, ev_const _ _ _ h2]
    · have hp := w.pl i h2 hi
      have hl := w.lp i h2 hi
      have hh := w.hp i h2 hi
      obtain ⟨m', rfl⟩ : ∃ m', m = m' + 1 := ⟨m - 1, by omega⟩
      rw [fn_node w a h2 hi, fn_node w b h2 hi, hab _ hp, fn_lt w m' _ (by omega) (w.ll i h2 hi) hab, fn_lt w m' _ (by omega) (w.hl i h2 hi) hab]
theorem asg_of (n : Nat) (α : Nat → Bool) {k : Nat} (hk : k < n) : asg n (idxQ α n n) k = α k := by
  unfold asg
  rw [(idxQ_ok _ _ _ (Nat.le_refl _)).2 k hk, decide_eq_true hk]; rfl
theorem Bel.size {n : Nat} {ns : List N3} (w : WF n ns) {a : Nat} (ha : a < ns.length) {l : List Int} (b : Bel ns a l) {g : BF} (hg : ∀ α, fn n ns a α = g α) : l.length = sizeT n (tabF n g) := by
  have : tab n ns a = tabF n g := by
    unfold tab blk tabF
    exact List.map_congr_left fun r _ => hg _
  rw [← this]
  exact size_eq w ha b.nodup b.mem
end Go.Proofs.YtbhgahjeocnfcaaGreat
namespace Go.Proofs.YtbhgahjeocnfcaaGreat
open Go Go.Cx Go.RowKit
set_option linter.unusedVariables false
set_option linter.unusedSimpArgs false
set_option maxHeartbeats 4000000
attribute [local irreducible] J JC thenK blockK loopK roundK drawK retK QW Qt pel List.set Calls
open Go.Maps Go.Lib
set_option maxRecDepth 8000
attribute [local irreducible] JE Br eK0 eK3 brK pc
abbrev VF := (Int → Bool) → Bool
def asgV (l : List Int) (β : Int → Bool) : Nat → Bool := fun k => β (l.getD k default)
def betaV (l : List Int) (α : Nat → Bool) : Int → Bool := fun v => match rk l v 0 with
  | some k => α k
  | none => false
theorem beta_at {l : List Int} (hn : l.Nodup) (α : Nat → Bool) {k : Nat} (hk : k < l.length) : betaV l α (l.getD k default) = α k := by
  unfold betaV; rw [rk_at hn hk]
theorem beta_out {l : List Int} (α : Nat → Bool) {v : Int} (hv : v ∉ l) : betaV l α v = false := by
  unfold betaV; rw [rk_none.2 hv]
theorem mem_at {l : List Int} {v : Int} (h : v ∈ l) : ∃ k, k < l.length ∧ l.getD k default = v := by
  obtain ⟨k, hk, e⟩ := List.mem_iff_getElem.1 h
  exact ⟨k, hk, by rw [List.getD_eq_getElem?_getD, List.getElem?_eq_getElem hk]; exact e⟩
def Says (ns : List N3) (l : List Int) (y : Nat) (F : VF) : Prop := y < ns.length ∧ ∀ β, fn l.length ns y (asgV l β) = F β
def gF (l : List Int) (F : VF) : BF := fun α => F (betaV l α)
theorem Says.fn {ns : List N3} {l : List Int} (hn : l.Nodup) (w : WF l.length ns) {y : Nat} {F : VF} (h : Says ns l y F) (α : Nat → Bool) : fn l.length ns y α = gF l F α := by
  unfold gF
  rw [← h.2]
  exact fn_lt w _ y (Nat.le_refl _) h.1 fun k hk => (beta_at hn α hk).symm
theorem getD_inj {l : List Int} (hn : l.Nodup) {i k : Nat} (hi : i < l.length) (hk : k < l.length) (e : l.getD i default = l.getD k default) : i = k := by
  have h1 := rk_at hn hi
  rw [e, rk_at hn hk] at h1
  injection h1 with h1
  exact h1.symm
end Go.Proofs.YtbhgahjeocnfcaaGreat
namespace Go.Proofs.YtbhgahjeocnfcaaGreat
open Go Go.Cx Go.RowKit
set_option linter.unusedVariables false
set_option linter.unusedSimpArgs false
set_option maxHeartbeats 4000000
attribute [local irreducible] J JC thenK blockK loopK roundK drawK retK QW Qt pel List.set Calls
open Go.Maps Go.Lib
set_option maxRecDepth 8000
attribute [local irreducible] JE Br eK0 eK3 brK pc
def encK (k : Nat) : List Value := [.int .u8 (k : Int)]
def OrdV (n : Nat) (v : Value) (h : Heap) : Prop := ∃ a l c, v = .slice a l.length c ∧ l.Perm (ints n) ∧ OwT encI 1 3 a c l h
theorem pickP {l : List Int} {k : Nat} (hk : k < l.length) : (l.getD k default :: (l.take k ++ l.drop (k + 1))).Perm l := by
  have h1 := (List.take_append_drop k l).symm
  rw [drop_g l k hk] at h1
  conv => rhs; rw [h1]
  exact List.perm_middle.symm
theorem order31_any (n : Nat) (hn : n ≤ 128) (ks : List Nat) (ak : Option Addr) (ck : Nat) (hk : Heap) (hs : SlT encK 1 ak ks hk) (hkl : ks.length ≤ 9223372036854775807) (hkb : ∀ k ∈ ks, k < 256) (w : World) (hw1 : Holds hk w) :
    Calls Tryz.prog 7 #[.int .i64 (n : Int), .slice ak ks.length ck] w (Gives (OrdV n) w) := by
  have q0 : ∀ L, RdH hk L hk := fun L => RdH.old fun _ hh => hh
  have hil := ints_len n
  refine calls_of_JC (R := hk) Tryz.func7 Tryz.ntmps7 rfl rfl (hw1) ?_
  repeat' first
    | (refine J.isJ ?_; first | ((refine J.fc 24 ?_; refine J.call1 eUpTo rfl rfl (fun w hw => upTo_any n (by omega) w) ?_; rintro _ hR ⟨aR, cR, rfl, oR⟩)) | (first | (refine J.o 0 ?_; refine J.ev' hΓ ?_) | refine J.nil ?_ | (refine J.o 4 ?_; first | refine J.lT default hΓ ?_) | (refine J.o 3 ?_; first | refine J.iJ hΓ ?_ | refine J.ev' hΓ ?_) | (refine J.o 1 ?_; first | refine J.ad ?_) | (refine J.o 9 ?_; refine J.bl hΓ (fun _ => ?_)) | (refine J.o 10 ?_; refine J.ev' hΓ ?_) | (refine J.o 11 ?_; refine J.ev' hΓ ?_)))
    | (first | refine JC.seq ?_ | refine JC.region ?_ | refine JC.block ?_ | refine JC.ret ?_ | refine JC.exit ?_ | refine JC.skip ?_ | refine thenK.nn ?_ | refine thenK.x ?_ | refine blockK.nn ?_ | refine blockK.hit rfl ?_ | (refine JC.cond rfl (fun hc => ?_) (fun hc => ?_) <;> ((try simp only [decide_eq_true_eq, decide_eq_false_iff_not, beq_iff_eq, beq_eq_false_iff_ne, bne_iff_ne, bne_eq_false_iff_eq, Bool.not_eq_true', Bool.not_eq_false', Bool.not_eq_true, Bool.not_eq_false] at hc) <;> first | (first | (exact absurd rfl hc) | (exfalso; omega) | (exact absurd (hc.symm.trans (by assumption : _ = false)) (by decide)) | (exact absurd (hc.symm.trans (by assumption : _ = true)) (by decide))) | skip)) | refine drawK.nn ?_ | refine loopK.x ?_)
    | (fail)
    | fail
  all_goals first | (exfalso; omega) | skip
  refine JC.nilF ?_
  refine JC.loop (fun i => i == 5 || i == 6 || i == 7 || i == 8 || Nat.ble 11 i) (fun m g L => ∃ (i : Nat) (out rest : List Int) (aO : Option Addr) (cO : Nat) (hO : Heap) (aR : Option Addr) (cR : Nat) (hR : Heap), g 7 = .int .i64 (i : Int) ∧ g 6 = .slice aO out.length cO ∧ g 5 = .slice aR rest.length cR ∧ rest.length = m ∧ i + m = n ∧ (out ++ rest).Perm (ints n) ∧ OwT encI 1 3 aO cO out hO ∧ OwT encI 1 3 aR cR rest hR ∧ L = [hO, hR]) n ⟨0, [], ints n, none, 0, [], aR, cR, hR, rfl, rfl, rfl, hil, by omega, by rw [List.nil_append], OwT.nil (fun _ => rfl), oR, rfl⟩ ?_
  clear oR
  rintro m g L ⟨i, out, rest, aO, cO, hO, aR, cR, hR, e7, e6, e5, hrm, him, hpm, oO, oR, rfl⟩
  refine JC.pin 7 e7 (JC.pin 6 e6 (JC.pin 5 e5 ?_))
  have hol : out.length + rest.length = n := by have := hpm.length_eq; rw [List.length_append, hil] at this; exact this
  have hcR := own_le oR
  rcases Nat.eq_zero_or_pos rest.length with h0 | h0
  ·
    repeat' first
      | (refine J.isJ ?_; first | (fail) | (first | (refine J.o 0 ?_; refine J.ev' hΓ ?_) | refine J.nil ?_ | (refine J.o 4 ?_; first | refine J.lT default hΓ ?_) | (refine J.o 3 ?_; first | refine J.iJ hΓ ?_ | refine J.ev' hΓ ?_) | (refine J.o 1 ?_; first | refine J.ad ?_) | (refine J.o 9 ?_; refine J.bl hΓ (fun _ => ?_)) | (refine J.o 10 ?_; refine J.ev' hΓ ?_) | (refine J.o 11 ?_; refine J.ev' hΓ ?_)))
      | (first | refine JC.seq ?_ | refine JC.region ?_ | refine JC.block ?_ | refine JC.ret ?_ | refine JC.exit ?_ | refine JC.skip ?_ | refine thenK.nn ?_ | refine thenK.x ?_ | refine blockK.nn ?_ | refine blockK.hit rfl ?_ | (refine JC.cond rfl (fun hc => ?_) (fun hc => ?_) <;> ((try simp only [decide_eq_true_eq, decide_eq_false_iff_not, beq_iff_eq, beq_eq_false_iff_ne, bne_iff_ne, bne_eq_false_iff_eq, Bool.not_eq_true', Bool.not_eq_false', Bool.not_eq_true, Bool.not_eq_false] at hc) <;> first | (first | (exact absurd rfl hc) | (exfalso; omega) | (exact absurd (hc.symm.trans (by assumption : _ = false)) (by decide)) | (exact absurd (hc.symm.trans (by assumption : _ = true)) (by decide))) | skip)) | refine drawK.nn ?_ | refine loopK.x ?_)
      | (fail)
      | fail
    all_goals first | (exfalso; omega) | skip
    have hr : rest = [] := List.eq_nil_of_length_eq_zero h0
    rw [hr, List.append_nil] at hpm
    exact ret1f rfl rfl rfl (fun w1 hw => Gives.of (H.sel (l := [_, _]) (M := []) hw [0]) ⟨_, _, _, rfl, hpm, oO⟩)
  ·
    obtain ⟨q, hq⟩ : ∃ q, q = if i < ks.length then ks.getD i default % rest.length else 0 := ⟨_, rfl⟩
    have hqr : q < rest.length := by rw [hq]; split; exact Nat.mod_lt _ h0; exact h0
    have hpk := pickP hqr
    have hnew : ((out ++ [rest.getD q default]) ++ (rest.take q ++ rest.drop (q + 1))).Perm (ints n) := by
      refine List.Perm.trans ?_ hpm
      rw [List.append_assoc]
      exact List.Perm.append_left _ hpk
    have hnl : (rest.take q ++ rest.drop (q + 1)).length = m - 1 := by rw [List.length_append, List.length_take, List.length_drop]; omega
    have hsT := slT_take oR.sl q
    have hsD := slT_drop oR.sl (q + 1) cR hcR
    have htl : (rest.take q).length = q := by rw [List.length_take]; omega
    have hdl : (rest.drop (q + 1)).length = rest.length - (q + 1) := List.length_drop
    by_cases hi : i < ks.length
    ·
      rw [if_pos hi] at hq
      have hkm := hkb _ (mem_g ks i hi)
      have hq2 : Value.int .i64 ((ks.getD i default % rest.length : Nat) : Int) = .int .i64 (q : Int) := by rw [hq]
      repeat' first
        | (refine J.isJ ?_; first | (first | (refine J.o 3 ?_; first | refine J.iJ hΓ ?_ (hs := hs) | refine J.iJ hΓ ?_ (hs := oR.sl)) | (refine J.o 4 ?_; first | refine J.lT default hΓ ?_ (hs := hs) (hr := q0 _) | refine J.lT default hΓ ?_ (hs := oR.sl) (hr := RdH.hd.tl) | refine J.lT default hΓ ?_ (hs := oR.sl) (hr := RdH.hd)) | (refine J.o 2 ?_; refine J.gcv hΓ ?_ (hk := wI64 (by omega))) | (refine J.o 1 ?_; refine J.grem (a := ks.getD i default) (b := rest.length) ?_; rw [hq2]) | (refine J.o 13 ?_; first | refine J.slF (m := q) hΓ ?_ | refine J.slG (q + 1) 1 hΓ ?_) | (refine J.o 9 ?_; first | (refine J.apA hΓ (lit_nil _ _) (us := rest.take q) hsT RdH.hd.tl.tl (fun a3 c3 h3 o3 => ?_); rw [List.nil_append] at o3; rw [List.nil_append]) | refine J.apA hΓ o3 (us := rest.drop (q + 1)) hsD RdH.hd.tl.tl (fun a4 c4 h4 o4 => ?_)) | (refine J.o 9 ?_; first | (first | (refine J.ap1 (enc := encI) [rest.getD q default] hΓ (fun a2 c2 h2 o2 => ?_))))) | (first | (refine J.o 0 ?_; refine J.ev' hΓ ?_) | refine J.nil ?_ | (refine J.o 4 ?_; first | refine J.lT default hΓ ?_) | (refine J.o 3 ?_; first | refine J.iJ hΓ ?_ | refine J.ev' hΓ ?_) | (refine J.o 1 ?_; first | refine J.ad ?_) | (refine J.o 9 ?_; refine J.bl hΓ (fun _ => ?_)) | (refine J.o 10 ?_; refine J.ev' hΓ ?_) | (refine J.o 11 ?_; refine J.ev' hΓ ?_)))
        | (first | refine JC.seq ?_ | refine JC.region ?_ | refine JC.block ?_ | refine JC.ret ?_ | refine JC.exit ?_ | refine JC.skip ?_ | refine thenK.nn ?_ | refine thenK.x ?_ | refine blockK.nn ?_ | refine blockK.hit rfl ?_ | (refine JC.cond rfl (fun hc => ?_) (fun hc => ?_) <;> ((try simp only [decide_eq_true_eq, decide_eq_false_iff_not, beq_iff_eq, beq_eq_false_iff_ne, bne_iff_ne, bne_eq_false_iff_eq, Bool.not_eq_true', Bool.not_eq_false', Bool.not_eq_true, Bool.not_eq_false] at hc) <;> first | (first | (exact absurd rfl hc) | (exfalso; omega) | (exact absurd (hc.symm.trans (by assumption : _ = false)) (by decide)) | (exact absurd (hc.symm.trans (by assumption : _ = true)) (by decide))) | skip)) | refine drawK.nn ?_ | refine loopK.x ?_)
        | ((first | refine JC.drawO [(0,1),(0,2),(0,3),(0,5),(0,6),(0,7),(0,8),(3,0),(2,4),(2,9),(0,10)] (by decide +kernel) (by decide +kernel) ?_ | refine JC.drawO [(0,1),(0,2),(0,3),(0,5),(0,6),(0,7),(0,8),(2,0),(2,4),(2,9),(0,10)] (by decide +kernel) (by decide +kernel) ?_ | refine JC.drawO [(0,1),(0,2),(0,3),(0,5),(0,6),(0,7),(0,8),(3,0),(3,4),(3,9),(0,10)] (by decide +kernel) (by decide +kernel) ?_))
        | fail
      all_goals first | (exfalso; omega) | skip
      refine loopK.np (m - 1) [hR] [h2, h4] (by omega) (by repeat (first | refine Ag.upd rfl ?_ | exact Ag.hv)) (List.reverse_perm [hR, h2, h4]) ⟨i + 1, out ++ [rest.getD q default], rest.take q ++ rest.drop (q + 1), a2, c2, h2, a4, c4, h4, ?_, rfl, rfl, hnl, by omega, hnew, o2, o4, rfl⟩
      show Value.int .i64 _ = _; congr 1
    ·
      rw [if_neg hi] at hq
      have hq2 : Value.int .i64 0 = .int .i64 (q : Int) := by rw [hq]; rfl
      subst hq
      repeat' first
        | (refine J.isJ ?_; first | (first | (refine J.o 3 ?_; first | refine J.iJ hΓ ?_ (hs := oR.sl)) | (refine J.o 4 ?_; first | refine J.lT default hΓ ?_ (hs := oR.sl) (hr := RdH.hd.tl) | refine J.lT default hΓ ?_ (hs := oR.sl) (hr := RdH.hd)) | (refine J.o 13 ?_; first | refine J.slF (m := 0) hΓ ?_ | refine J.slG (0 + 1) 1 hΓ ?_) | (refine J.o 9 ?_; first | (refine J.apA hΓ (lit_nil _ _) (us := rest.take 0) hsT RdH.hd.tl.tl (fun a3 c3 h3 o3 => ?_); rw [List.nil_append] at o3; rw [List.nil_append]) | refine J.apA hΓ o3 (us := rest.drop (0 + 1)) hsD RdH.hd.tl.tl (fun a4 c4 h4 o4 => ?_)) | (refine J.o 9 ?_; first | (first | (refine J.ap1 (enc := encI) [rest.getD 0 default] hΓ (fun a2 c2 h2 o2 => ?_))))) | (first | (refine J.o 0 ?_; refine J.ev' hΓ ?_) | refine J.nil ?_ | (refine J.o 4 ?_; first | refine J.lT default hΓ ?_) | (refine J.o 3 ?_; first | refine J.iJ hΓ ?_ | refine J.ev' hΓ ?_) | (refine J.o 1 ?_; first | refine J.ad ?_) | (refine J.o 9 ?_; refine J.bl hΓ (fun _ => ?_)) | (refine J.o 10 ?_; refine J.ev' hΓ ?_) | (refine J.o 11 ?_; refine J.ev' hΓ ?_)))
        | (first | refine JC.seq ?_ | refine JC.region ?_ | refine JC.block ?_ | refine JC.ret ?_ | refine JC.exit ?_ | refine JC.skip ?_ | refine thenK.nn ?_ | refine thenK.x ?_ | refine blockK.nn ?_ | refine blockK.hit rfl ?_ | (refine JC.cond rfl (fun hc => ?_) (fun hc => ?_) <;> ((try simp only [decide_eq_true_eq, decide_eq_false_iff_not, beq_iff_eq, beq_eq_false_iff_ne, bne_iff_ne, bne_eq_false_iff_eq, Bool.not_eq_true', Bool.not_eq_false', Bool.not_eq_true, Bool.not_eq_false] at hc) <;> first | (first | (exact absurd rfl hc) | (exfalso; omega) | (exact absurd (hc.symm.trans (by assumption : _ = false)) (by decide)) | (exact absurd (hc.symm.trans (by assumption : _ = true)) (by decide))) | skip)) | refine drawK.nn ?_ | refine loopK.x ?_)
        | ((first | refine JC.drawO [(0,1),(0,2),(0,3),(0,5),(0,6),(0,7),(0,8),(3,0),(2,4),(2,9),(0,10)] (by decide +kernel) (by decide +kernel) ?_ | refine JC.drawO [(0,1),(0,2),(0,3),(0,5),(0,6),(0,7),(0,8),(2,0),(2,4),(2,9),(0,10)] (by decide +kernel) (by decide +kernel) ?_ | refine JC.drawO [(0,1),(0,2),(0,3),(0,5),(0,6),(0,7),(0,8),(3,0),(3,4),(3,9),(0,10)] (by decide +kernel) (by decide +kernel) ?_))
        | fail
      all_goals first | (exfalso; omega) | skip
      refine loopK.np (m - 1) [hR] [h2, h4] (by omega) (by repeat (first | refine Ag.upd rfl ?_ | exact Ag.hv)) (List.reverse_perm [hR, h2, h4]) ⟨i + 1, out ++ [rest.getD 0 default], rest.take 0 ++ rest.drop (0 + 1), a2, c2, h2, a4, c4, h4, ?_, rfl, rfl, hnl, by omega, hnew, o2, o4, rfl⟩
      show Value.int .i64 _ = _; congr 1
end Go.Proofs.YtbhgahjeocnfcaaGreat
namespace Go.Proofs.YtbhgahjeocnfcaaGreat
open Go Go.Cx Go.RowKit
set_option linter.unusedVariables false
set_option linter.unusedSimpArgs false
set_option maxHeartbeats 4000000
attribute [local irreducible] J JC thenK blockK loopK roundK drawK retK QW Qt pel List.set Calls
theorem c_u8 : Tryz.prog.cellsOf 5 = 1 := by kernel_rfl
theorem c_ints : Tryz.prog.cellsOf 28 = 1 := by kernel_rfl
theorem c_intss : Tryz.prog.cellsOf 22 = 1 := by kernel_rfl
theorem c_th : Tryz.prog.cellsOf 24 = 2 := by kernel_rfl
theorem reads_u8 (W : World) : Reads Tryz.prog W 5 encK (fun k => k < 256) := by
  intro A ec base spare held fuel cs x h
  obtain ⟨k, e0, g0⟩ := reads_int Tryz.underlying5 A ec base spare held fuel cs x h
  obtain ⟨k', rfl, hk⟩ := u8_wf g0
  exact ⟨k', e0, hk⟩
theorem reads_u8s (W : World) : Reads Tryz.prog W 25 (encSl (α := Nat)) (GoodSl W encK 1 (fun k => k < 256)) :=
  reads_slice Tryz.underlying25 c_u8 (by decide) (fun _ => rfl) (reads_u8 W)
def toHV (s : Sl Int) : HV := ⟨s.a, s.cap, s.ts⟩
theorem slT_hv {a : Option Addr} {ts : List (Sl Int)} {h : Heap} (hs : SlT encSl 1 a ts h) : SlT encHV 1 a (ts.map toHV) h := by
  refine ⟨fun _ => rfl, fun i hi => ?_⟩
  obtain ⟨b, off, cs, e, fr, h1, h2, h3, h4⟩ := hs.at_ i (by simpa using hi)
  exact ⟨b, off, cs, e, fr, h1, h2, h3, by rw [h4, List.getElem_map]; rfl⟩
structure ThI where
  n : Int
  a : Option Addr
  c : Nat
  vs : List HV
def encTh (v : ThI) : List Value := [.int .i64 v.n, .slice v.a v.vs.length v.c]
structure ThIn (W : World) (v : ThI) : Prop where
  l : LLR v.a v.vs (heapOf W)
  n : -9223372036854775808 ≤ v.n ∧ v.n ≤ 9223372036854775807
  m : v.vs.length ≤ 9223372036854775807
theorem reads_th (W : World) : Reads Tryz.prog W 24 encTh (ThIn W) := by
  intro A ec base spare held fuel cs x h
  obtain ⟨hl, hp⟩ := reads_parts Tryz.underlying24 h
  rw [c_th] at hl
  obtain ⟨k, e0, g0⟩ := hp 0 0 rfl c_int (reads_int Tryz.underlying3)
  obtain ⟨l, e1, g1⟩ := hp 1 1 rfl c_intss (reads_slice Tryz.underlying22 c_ints (by decide) (fun _ => rfl) (reads_ints W))
  clear h hp
  match cs, hl with
  | [c0, c1], _ =>
    simp [encSl] at e0 e1
    subst e0; subst e1
    have hm : l.ts.length ≤ 9223372036854775807 := by have := g1.cap; unfold maxLen at this; omega
    refine ⟨⟨k, l.a, l.cap, l.ts.map toHV⟩, by unfold encTh; rw [List.length_map], ⟨slT_hv g1.sl, fun v hv => ?_⟩, i64_wf g0, by show (l.ts.map toHV).length ≤ _; rw [List.length_map]; exact hm⟩
    obtain ⟨s, hs, rfl⟩ := List.mem_map.1 hv
    exact (g1.all s hs).sl
end Go.Proofs.YtbhgahjeocnfcaaGreat
namespace Go.Proofs.YtbhgahjeocnfcaaGreat
open Go Go.Cx Go.RowKit
set_option linter.unusedVariables false
set_option linter.unusedSimpArgs false
set_option maxHeartbeats 4000000
attribute [local irreducible] J JC thenK blockK loopK roundK drawK retK QW Qt pel List.set Calls
open Go.Maps Go.Lib
set_option maxRecDepth 8000
attribute [local irreducible] JE Br eK0 eK3 brK pc
def litT (b : Int → Bool) (l : Int) : Bool := if l < 0 then !b (-l) else b l
def evT (b : Int → Bool) (T : List (List Int)) : Bool := T.all fun c => c.any (litT b)
def okTh (N : Nat) (T : List (List Int)) : Prop := N ≤ 128 ∧ T.length ≤ 4096 ∧ ∀ c ∈ T, c.length ≤ 128 ∧ ∀ x ∈ c, x ≠ 0 ∧ -(N : Int) ≤ x ∧ x ≤ N
theorem okTh_iff {N : Nat} {T : List (List Int)} : thE (N : Int) T = 0 ↔ okTh N T := by
  rw [thE_ok]
  unfold okTh
  constructor
  · rintro ⟨h1, h2, h3⟩; exact ⟨by omega, h2, h3⟩
  · rintro ⟨h1, h2, h3⟩; exact ⟨⟨by omega, by omega⟩, h2, h3⟩
end Go.Proofs.YtbhgahjeocnfcaaGreat
namespace Go.Proofs.YtbhgahjeocnfcaaGreat
open Go Go.Cx Go.RowKit
set_option linter.unusedVariables false
set_option linter.unusedSimpArgs false
set_option maxHeartbeats 4000000
attribute [local irreducible] J JC thenK blockK loopK roundK drawK retK QW Qt pel List.set Calls
open Go.Maps Go.Lib
set_option maxRecDepth 8000
attribute [local irreducible] JE Br eK0 eK3 brK pc
def cutS (s t : Nat × Nat) : Nat × Nat := (s.1 &&& t.1, s.2 &&& t.2)
theorem okS_cut {s t : Nat × Nat} (hs : okS s) : okS (cutS s t) := ⟨Nat.lt_of_le_of_lt Nat.and_le_left hs.1, Nat.lt_of_le_of_lt Nat.and_le_left hs.2⟩
theorem has_cut (s t : Nat × Nat) (u : Int) : hasB (cutS s t) u = (hasB s u && hasB t u) := by
  unfold hasB cutS
  split
  · exact Nat.testBit_and _ _ _
  · split
    · exact Nat.testBit_and _ _ _
    · rfl
theorem eCut : Entr Tryz.prog 13 := Entr.of Tryz.func13 rfl rfl
theorem eMinus : Entr Tryz.prog 78 := Entr.of Tryz.func78 rfl rfl
theorem eSub : Entr Tryz.prog 49 := Entr.of Tryz.func49 rfl rfl
theorem cut_any (s t : Nat × Nat) (hs : okS s) (ht : okS t) (w : World) : Calls Tryz.prog 13 #[sv s, sv t] w fun e w' => e = .returned (sv (cutS s t)) ∧ Below w.heap.size w w' := by
  obtain ⟨h1, h2⟩ := hs
  obtain ⟨h3, h4⟩ := ht
  have l1 : s.1 &&& t.1 ≤ s.1 := Nat.and_le_left
  have l2 : s.2 &&& t.2 ≤ s.2 := Nat.and_le_left
  refine calls_of_JC (R := []) Tryz.func13 Tryz.ntmps13 rfl rfl (Holds.nil _) ?_
  repeat' first
    | (refine J.isJ ?_; first | (first | refine J.nil ?_ | (refine J.o 4 ?_; first | refine J.lR hΓ ?_) | (refine J.o 3 ?_; first | refine J.iA hΓ ?_) | (refine J.o 5 ?_; first | refine J.t0 hΓ ?_) | (refine J.o 6 ?_; refine J.bx (fun _ => ?_)) | (refine J.o 7 ?_; refine J.al hΓ (fun _ => ?_)) | (refine J.o 8 ?_; refine J.bd hΓ ?_)) | ((refine J.o 1 ?_; first | refine J.aW ?_)))
    | (first | refine JC.seq ?_ | refine JC.region ?_ | refine JC.ret ?_ | refine thenK.nn ?_)
    | fail
  all_goals first | (exfalso; omega) | skip
  all_goals (refine retC hΓ rfl rfl rfl Rd.hd rfl (fun w1 hw => ⟨rfl, hw.below⟩))
def minS (s t : Nat × Nat) : Nat × Nat := (s.1 &&& (2 ^ 64 - 1 - t.1), s.2 &&& (2 ^ 64 - 1 - t.2))
theorem minus_any (s t : Nat × Nat) (hs : okS s) (ht : okS t) (w : World) : Calls Tryz.prog 78 #[sv s, sv t] w fun e w' => e = .returned (sv (minS s t)) ∧ Below w.heap.size w w' := by
  obtain ⟨h1, h2⟩ := hs
  obtain ⟨h3, h4⟩ := ht
  refine calls_of_JC (R := []) Tryz.func78 Tryz.ntmps78 rfl rfl (Holds.nil _) ?_
  repeat' first
    | (refine J.isJ ?_; first | (first | refine J.nil ?_ | (refine J.o 4 ?_; first | refine J.lR hΓ ?_) | (refine J.o 3 ?_; first | refine J.iA hΓ ?_) | (refine J.o 5 ?_; first | refine J.t0 hΓ ?_) | (refine J.o 6 ?_; refine J.bx (fun _ => ?_)) | (refine J.o 7 ?_; refine J.al hΓ (fun _ => ?_)) | (refine J.o 8 ?_; refine J.bd hΓ ?_)) | ((refine J.o 1 ?_; first | refine J.nW ?_)))
    | (first | refine JC.seq ?_ | refine JC.region ?_ | refine JC.ret ?_ | refine thenK.nn ?_)
    | fail
  all_goals first | (exfalso; omega) | skip
  all_goals (refine retC hΓ rfl rfl rfl Rd.hd rfl (fun w1 hw => ⟨rfl, hw.below⟩))
theorem and_minus {a b : Nat} (ha : a < 2 ^ 64) (hb : b < 2 ^ 64) (h : ∀ i, a.testBit i = true → b.testBit i = true) : a &&& (2 ^ 64 - 1 - b) = 0 := by
  apply Nat.eq_of_testBit_eq
  intro i
  rw [Nat.testBit_and, Nat.zero_testBit]
  cases hi : a.testBit i with
  | false => rfl
  | true =>
    have hbi := h i hi
    have hil : i < 64 := Nat.lt_of_not_le fun hge => by
      rw [Nat.testBit_lt_two_pow (Nat.lt_of_lt_of_le ha (Nat.pow_le_pow_right (by omega) hge))] at hi
      cases hi
    rw [show 2 ^ 64 - 1 - b = 2 ^ 64 - (b + 1) by omega, Nat.testBit_two_pow_sub_succ hb]
    simp [hbi]
theorem min_zero {s t : Nat × Nat} (hs : okS s) (ht : okS t) (h : ∀ u, hasB s u = true → hasB t u = true) : minS s t = (0, 0) := by
  have e1 : s.1 &&& (2 ^ 64 - 1 - t.1) = 0 := and_minus hs.1 ht.1 fun i hi => by
    have hil : i < 64 := Nat.lt_of_not_le fun hge => by
      rw [Nat.testBit_lt_two_pow (Nat.lt_of_lt_of_le hs.1 (Nat.pow_le_pow_right (by omega) hge))] at hi
      cases hi
    have := h ((i : Int) + 1)
    unfold hasB at this
    rw [if_pos (by omega), if_pos (by omega), show ((i : Int) + 1 - 1).toNat = i by omega] at this
    exact this hi
  have e2 : s.2 &&& (2 ^ 64 - 1 - t.2) = 0 := and_minus hs.2 ht.2 fun i hi => by
    have hil : i < 64 := Nat.lt_of_not_le fun hge => by
      rw [Nat.testBit_lt_two_pow (Nat.lt_of_lt_of_le hs.2 (Nat.pow_le_pow_right (by omega) hge))] at hi
      cases hi
    have := h ((i : Int) + 65)
    unfold hasB at this
    rw [if_neg (by omega), if_pos (by omega), if_neg (by omega), if_pos (by omega), show ((i : Int) + 65 - 65).toNat = i by omega] at this
    exact this hi
  unfold minS
  rw [e1, e2]
theorem sub_any (s t : Nat × Nat) (hs : okS s) (ht : okS t) (h : ∀ u, hasB s u = true → hasB t u = true) (w : World) : Calls Tryz.prog 49 #[sv s, sv t] w fun e w' => e = .returned (.bool true) ∧ Below w.heap.size w w' := by
  have cM := fun w => minus_any s t hs ht w
  rw [min_zero hs ht h] at cM
  refine calls_of_JC (R := []) Tryz.func49 Tryz.ntmps49 rfl rfl (Holds.nil _) ?_
  repeat' first
    | (refine J.isJ ?_; first | (first | (refine J.o 0 ?_; refine J.ev' hΓ ?_) | refine J.nil ?_ | (refine J.o 4 ?_; first | refine J.lR hΓ ?_) | (refine J.o 3 ?_; first | refine J.ev' hΓ ?_) | (refine J.o 6 ?_; refine J.bx (fun _ => ?_)) | (refine J.o 8 ?_; refine J.bd hΓ ?_) | (refine J.o 10 ?_; refine J.ev' hΓ ?_) | (refine J.o 11 ?_; refine J.ev' hΓ ?_)) | (first | (refine J.fc 78 ?_; refine J.call0 eMinus rfl rfl (fun w hw => cM w) ?_) | (refine J.o 11 ?_; refine J.eA (a := (0, 0)) (b := (0, 0)) hΓ ?_)))
    | (first | refine JC.seq ?_ | refine JC.region ?_ | refine JC.ret ?_ | refine thenK.nn ?_)
    | fail
  all_goals first | (exfalso; omega) | skip
  all_goals exact ret1f rfl rfl rfl (fun w1 hw => ⟨rfl, hw.below⟩)
theorem eHoldsL : Entr Tryz.prog 81 := Entr.of Tryz.func81 rfl rfl
theorem holdsL_any (s : Nat × Nat) (hs : okS s) (l : Int) (hl : l ≠ 0 ∧ -128 ≤ l ∧ l ≤ 128) (w : World) : Calls Tryz.prog 81 #[sv s, .int .i64 l] w fun e w' => e = .returned (.bool (litT (hasB s) l)) ∧ Below w.heap.size w w' := by
  have cV := fun w => varL_any l w
  by_cases h : l < 0
  · have hv : varI l = -l := by unfold varI; rw [if_neg (by omega), if_pos (by omega)]
    have hd : decide (0 < l) = false := decide_eq_false (by omega)
    rw [hv] at cV
    unfold litT
    rw [if_pos h]
    refine calls_of_JC (R := []) Tryz.func81 Tryz.ntmps81 rfl rfl (Holds.nil _) ?_
    repeat' first
      | (refine J.isJ ?_; first | (first | (refine J.o 0 ?_; refine J.ev' hΓ ?_) | refine J.nil ?_ | (refine J.o 4 ?_; first | refine J.lR hΓ ?_) | (refine J.o 3 ?_; first | refine J.ev' hΓ ?_) | (refine J.o 6 ?_; refine J.bx (fun _ => ?_)) | (refine J.o 10 ?_; refine J.ev' hΓ ?_) | (refine J.o 11 ?_; refine J.ev' hΓ ?_)) | (first | (refine J.fc 31 ?_; refine J.call0 eVarL rfl rfl (fun w hw => cV w) ?_) | (refine J.fc 52 ?_; refine J.call0 eHas rfl rfl (fun w hw => has_any s hs (-l) w) ?_)) | ((fail_if_success refine J.wt ?_); refine J.gc rfl rfl (fun hc => ?_) (fun hc => ?_) <;> ((try simp only [decide_eq_true_eq, decide_eq_false_iff_not, beq_iff_eq, beq_eq_false_iff_ne, bne_iff_ne, bne_eq_false_iff_eq, Bool.not_eq_true', Bool.not_eq_false', Bool.not_eq_true, Bool.not_eq_false] at hc) <;> first | (first | (exact absurd rfl hc) | (exfalso; omega) | (exact absurd (hc.symm.trans (by assumption : _ = false)) (by decide)) | (exact absurd (hc.symm.trans (by assumption : _ = true)) (by decide))) | skip)))
      | (first | refine JC.seq ?_ | refine JC.region ?_ | refine JC.ret ?_ | refine thenK.nn ?_ | (refine JC.drawA [] (by kernel_rfl) (by kernel_rfl) ?_) | refine drawK.nn ?_)
      | fail
    all_goals first | (exfalso; omega) | skip
    all_goals exact ret1f rfl rfl rfl (fun w1 hw => ⟨retB (by rw [hd]; cases hasB s (-l) <;> rfl), hw.below⟩)
  · have hv : varI l = l := by unfold varI; rw [if_pos (by omega)]
    have hd : decide (0 < l) = true := decide_eq_true (by omega)
    rw [hv] at cV
    unfold litT
    rw [if_neg h]
    refine calls_of_JC (R := []) Tryz.func81 Tryz.ntmps81 rfl rfl (Holds.nil _) ?_
    repeat' first
      | (refine J.isJ ?_; first | (first | (refine J.o 0 ?_; refine J.ev' hΓ ?_) | refine J.nil ?_ | (refine J.o 4 ?_; first | refine J.lR hΓ ?_) | (refine J.o 3 ?_; first | refine J.ev' hΓ ?_) | (refine J.o 6 ?_; refine J.bx (fun _ => ?_)) | (refine J.o 10 ?_; refine J.ev' hΓ ?_) | (refine J.o 11 ?_; refine J.ev' hΓ ?_)) | (first | (refine J.fc 31 ?_; refine J.call0 eVarL rfl rfl (fun w hw => cV w) ?_) | (refine J.fc 52 ?_; refine J.call0 eHas rfl rfl (fun w hw => has_any s hs l w) ?_)) | ((fail_if_success refine J.wt ?_); refine J.gc rfl rfl (fun hc => ?_) (fun hc => ?_) <;> ((try simp only [decide_eq_true_eq, decide_eq_false_iff_not, beq_iff_eq, beq_eq_false_iff_ne, bne_iff_ne, bne_eq_false_iff_eq, Bool.not_eq_true', Bool.not_eq_false', Bool.not_eq_true, Bool.not_eq_false] at hc) <;> first | (first | (exact absurd rfl hc) | (exfalso; omega) | (exact absurd (hc.symm.trans (by assumption : _ = false)) (by decide)) | (exact absurd (hc.symm.trans (by assumption : _ = true)) (by decide))) | skip)))
      | (first | refine JC.seq ?_ | refine JC.region ?_ | refine JC.ret ?_ | refine thenK.nn ?_ | (refine JC.drawA [] (by kernel_rfl) (by kernel_rfl) ?_) | refine drawK.nn ?_)
      | fail
    all_goals first | (exfalso; omega) | skip
    all_goals exact ret1f rfl rfl rfl (fun w1 hw => ⟨retB (by rw [hd]; cases hasB s l <;> rfl), hw.below⟩)
theorem eAny1 : Entr Tryz.prog 80 := Entr.of Tryz.func80 rfl rfl
theorem eAny : Entr Tryz.prog 50 := Entr.of Tryz.func50 rfl rfl
theorem eConF : Entr Tryz.prog 79 := Entr.of Tryz.func79 rfl rfl
theorem eIdxF : Entr Tryz.prog 105 := Entr.of Tryz.func105 rfl rfl
theorem eEvalT : Entr Tryz.prog 18 := Entr.of Tryz.func18 rfl rfl
theorem any1_any (s : Nat × Nat) (hs : okS s) (l : Int) (hl : l ≠ 0 ∧ -128 ≤ l ∧ l ≤ 128) (b : Nat) (w : World) (hw : Holds [(b, setO s)] w) :
    Calls Tryz.prog 80 #[.int .i64 l, .pointer (some ⟨b, 0, none⟩)] w fun e w' => e = .returned (.bool (litT (hasB s) l)) ∧ Below w.heap.size w w' := by
  have cH := fun w => holdsL_any s hs l hl w
  have rb : ∀ L, Rd [(b, setO s)] L b (setO s) := fun L => Rd.old List.mem_cons_self
  unfold setO at rb
  refine calls_of_JC (R := [(b, setO s)]) Tryz.func80 Tryz.ntmps80 rfl rfl (hw) ?_
  repeat' first
    | (refine J.isJ ?_; first | (first | (refine J.o 4 ?_; refine J.lR hΓ ?_ (hr := rb _)) | (refine J.fc 81 ?_; refine J.call0 eHoldsL rfl rfl (fun w hw => cH w) ?_)) | (first | (refine J.o 0 ?_; refine J.ev' hΓ ?_) | refine J.nil ?_ | (refine J.o 4 ?_; first | refine J.lR hΓ ?_) | (refine J.o 3 ?_; first | refine J.ev' hΓ ?_) | (refine J.o 10 ?_; refine J.ev' hΓ ?_) | (refine J.o 11 ?_; refine J.ev' hΓ ?_)))
    | (first | refine JC.seq ?_ | refine JC.region ?_ | refine JC.ret ?_ | refine thenK.nn ?_)
    | (fail)
    | fail
  all_goals first | (exfalso; omega) | exact ret1f rfl rfl rfl (fun w1 hw => ⟨rfl, hw.below⟩)
def idxT (b : Int → Bool) : List Int → Int → Int
  | [], _ => -1
  | x :: l, k => if litT b x = true then k else idxT b l (k + 1)
theorem idxT_nn (b : Int → Bool) : ∀ (l : List Int) (k : Int), 0 ≤ k → decide (0 ≤ idxT b l k) = l.any (litT b)
  | [], k, _ => rfl
  | y :: l, k, h => by
    unfold idxT
    rw [List.any_cons]
    split
    · rename_i e; rw [e]; simpa using h
    · rename_i e; rw [Bool.not_eq_true] at e; rw [e, idxT_nn b l (k + 1) (by omega), Bool.false_or]
theorem idxA_any (s : Nat × Nat) (hs : okS s) (b : Nat) (a : Option Addr) (cap : Nat) (l : List Int) (h : Heap) (hh : SlT encI 1 a l h) (hl : l.length ≤ 1000000) (hv : ∀ x, x ∈ l → x ≠ 0 ∧ -128 ≤ x ∧ x ≤ 128) (w : World) (hw : Holds ((b, setO s) :: h) w) :
    Calls Tryz.prog 105 #[.slice a l.length cap, .func (.func 80) ⟨[]⟩ ⟨[.pointer (some ⟨b, 0, none⟩)]⟩] w fun e w' => e = .returned (.int .i64 (idxT (hasB s) l 0)) ∧ Below w.heap.size w w' := by
  have q0 : ∀ L, RdH ((b, setO s) :: h) L h := fun L => RdH.old fun _ hx => List.mem_cons_of_mem _ hx
  have qb : ∀ L, RdH ((b, setO s) :: h) L [(b, setO s)] := fun L => RdH.old fun x hx => by rw [List.mem_singleton.1 hx]; exact List.mem_cons_self
  refine calls_of_JC (R := ((b, setO s) :: h)) Tryz.func105 Tryz.ntmps105 rfl rfl (hw) ?_
  repeat' first
    | (refine J.isJ ?_; (first | (first | (refine J.o 0 ?_; refine J.ev' hΓ ?_) | refine J.nil ?_ | (refine J.o 4 ?_; first | refine J.lT default hΓ ?_) | (refine J.o 3 ?_; first | refine J.iJ hΓ ?_ | refine J.ev' hΓ ?_) | (refine J.o 1 ?_; first | refine J.ad ?_) | (refine J.o 10 ?_; refine J.ev' hΓ ?_) | (refine J.o 11 ?_; refine J.ev' hΓ ?_))))
    | (first | refine JC.seq ?_ | refine JC.region ?_ | refine JC.block ?_ | refine JC.ret ?_ | refine JC.exit ?_ | refine JC.skip ?_ | refine thenK.nn ?_ | refine thenK.r ?_ | refine thenK.x ?_ | refine blockK.nn ?_ | refine blockK.r ?_ | refine blockK.hit rfl ?_ | refine JC.condT rfl ?_ | refine JC.condF rfl ?_ | (refine JC.cond rfl (fun hc => ?_) (fun hc => ?_) <;> ((try simp only [decide_eq_true_eq, decide_eq_false_iff_not, beq_iff_eq, beq_eq_false_iff_ne, bne_iff_ne, bne_eq_false_iff_eq, Bool.not_eq_true', Bool.not_eq_false', Bool.not_eq_true, Bool.not_eq_false] at hc) <;> first | (first | (exact absurd rfl hc) | (exfalso; omega) | (exact absurd (hc.symm.trans (by assumption : _ = false)) (by decide)) | (exact absurd (hc.symm.trans (by assumption : _ = true)) (by decide))) | skip)) | refine loopK.r ?_ | refine loopK.x ?_)
    | fail
  all_goals first | (exfalso; omega) | skip
  refine JC.loop (fun i => i == 4 || i == 5 || Nat.ble 8 i) (fun m g L => ∃ (k : Nat), g 8 = .int .i64 (k : Int) ∧ k + m = l.length ∧ idxT (hasB s) l 0 = idxT (hasB s) (l.drop k) k ∧ L = _) l.length ⟨0, rfl, by omega, rfl, rfl⟩ ?_
  rintro m g L ⟨k, e8, hkm, hi, rfl⟩
  refine JC.pin 8 e8 ?_
  clear e8
  rcases Nat.lt_or_ge k l.length with hk | hk
  case inr =>
    rw [List.drop_eq_nil_of_le hk] at hi
    repeat' first
      | (refine J.isJ ?_; (first | (first | (refine J.o 0 ?_; refine J.ev' hΓ ?_) | refine J.nil ?_ | (refine J.o 4 ?_; first | refine J.lT default hΓ ?_) | (refine J.o 3 ?_; first | refine J.iJ hΓ ?_ | refine J.ev' hΓ ?_) | (refine J.o 1 ?_; first | refine J.ad ?_) | (refine J.o 10 ?_; refine J.ev' hΓ ?_) | (refine J.o 11 ?_; refine J.ev' hΓ ?_))))
      | (first | refine JC.seq ?_ | refine JC.region ?_ | refine JC.block ?_ | refine JC.ret ?_ | refine JC.exit ?_ | refine JC.skip ?_ | refine thenK.nn ?_ | refine thenK.r ?_ | refine thenK.x ?_ | refine blockK.nn ?_ | refine blockK.r ?_ | refine blockK.hit rfl ?_ | refine JC.condT rfl ?_ | refine JC.condF rfl ?_ | (refine JC.cond rfl (fun hc => ?_) (fun hc => ?_) <;> ((try simp only [decide_eq_true_eq, decide_eq_false_iff_not, beq_iff_eq, beq_eq_false_iff_ne, bne_iff_ne, bne_eq_false_iff_eq, Bool.not_eq_true', Bool.not_eq_false', Bool.not_eq_true, Bool.not_eq_false] at hc) <;> first | (first | (exact absurd rfl hc) | (exfalso; omega) | (exact absurd (hc.symm.trans (by assumption : _ = false)) (by decide)) | (exact absurd (hc.symm.trans (by assumption : _ = true)) (by decide))) | skip)) | refine loopK.r ?_ | refine loopK.x ?_)
      | fail
    all_goals first | (exfalso; omega) | exact ret1f rfl rfl rfl (fun w1 hw => ⟨retI hi.symm, hw.below⟩)
  have hvk := hv _ (mem_g l k hk)
  rw [drop_g l k hk, idxT] at hi
  have cA := fun w hw => any1_any s hs (l.getD k default) hvk b w hw
  cases hb : litT (hasB s) (l.getD k default) with
  | true =>
    rw [hb] at cA
    rw [if_pos hb] at hi
    repeat' first
      | (refine J.isJ ?_; first | (first | (refine J.o 4 ?_; refine J.lT default hΓ ?_ (hs := hh) (hr := q0 _)) | (refine J.o 9 ?_; refine J.callv0 eAny1 rfl rfl rfl (fun w hw => cA w (hw.rdH (qb _))) ?_)) | (first | (refine J.o 0 ?_; refine J.ev' hΓ ?_) | refine J.nil ?_ | (refine J.o 4 ?_; first | refine J.lT default hΓ ?_) | (refine J.o 3 ?_; first | refine J.iJ hΓ ?_ | refine J.ev' hΓ ?_) | (refine J.o 1 ?_; first | refine J.ad ?_) | (refine J.o 10 ?_; refine J.ev' hΓ ?_) | (refine J.o 11 ?_; refine J.ev' hΓ ?_)))
      | (first | refine JC.seq ?_ | refine JC.region ?_ | refine JC.block ?_ | refine JC.ret ?_ | refine JC.exit ?_ | refine JC.skip ?_ | refine thenK.nn ?_ | refine thenK.r ?_ | refine thenK.x ?_ | refine blockK.nn ?_ | refine blockK.r ?_ | refine blockK.hit rfl ?_ | refine JC.condT rfl ?_ | refine JC.condF rfl ?_ | (refine JC.cond rfl (fun hc => ?_) (fun hc => ?_) <;> ((try simp only [decide_eq_true_eq, decide_eq_false_iff_not, beq_iff_eq, beq_eq_false_iff_ne, bne_iff_ne, bne_eq_false_iff_eq, Bool.not_eq_true', Bool.not_eq_false', Bool.not_eq_true, Bool.not_eq_false] at hc) <;> first | (first | (exact absurd rfl hc) | (exfalso; omega) | (exact absurd (hc.symm.trans (by assumption : _ = false)) (by decide)) | (exact absurd (hc.symm.trans (by assumption : _ = true)) (by decide))) | skip)) | refine loopK.r ?_ | refine loopK.x ?_)
      | (fail)
      | fail
    all_goals first | (exfalso; omega) | exact ret1f rfl rfl rfl (fun w1 hw => ⟨retI hi.symm, hw.below⟩)
  | false =>
    rw [hb] at cA
    rw [if_neg (by rw [hb]; decide)] at hi
    repeat' first
      | (refine J.isJ ?_; first | (first | (refine J.o 4 ?_; refine J.lT default hΓ ?_ (hs := hh) (hr := q0 _)) | (refine J.o 9 ?_; refine J.callv0 eAny1 rfl rfl rfl (fun w hw => cA w (hw.rdH (qb _))) ?_)) | (first | (refine J.o 0 ?_; refine J.ev' hΓ ?_) | refine J.nil ?_ | (refine J.o 4 ?_; first | refine J.lT default hΓ ?_) | (refine J.o 3 ?_; first | refine J.iJ hΓ ?_ | refine J.ev' hΓ ?_) | (refine J.o 1 ?_; first | refine J.ad ?_) | (refine J.o 10 ?_; refine J.ev' hΓ ?_) | (refine J.o 11 ?_; refine J.ev' hΓ ?_)))
      | (first | refine JC.seq ?_ | refine JC.region ?_ | refine JC.block ?_ | refine JC.ret ?_ | refine JC.exit ?_ | refine JC.skip ?_ | refine thenK.nn ?_ | refine thenK.r ?_ | refine thenK.x ?_ | refine blockK.nn ?_ | refine blockK.r ?_ | refine blockK.hit rfl ?_ | refine JC.condT rfl ?_ | refine JC.condF rfl ?_ | (refine JC.cond rfl (fun hc => ?_) (fun hc => ?_) <;> ((try simp only [decide_eq_true_eq, decide_eq_false_iff_not, beq_iff_eq, beq_eq_false_iff_ne, bne_iff_ne, bne_eq_false_iff_eq, Bool.not_eq_true', Bool.not_eq_false', Bool.not_eq_true, Bool.not_eq_false] at hc) <;> first | (first | (exact absurd rfl hc) | (exfalso; omega) | (exact absurd (hc.symm.trans (by assumption : _ = false)) (by decide)) | (exact absurd (hc.symm.trans (by assumption : _ = true)) (by decide))) | skip)) | refine loopK.r ?_ | refine loopK.x ?_)
      | (fail)
      | fail
    all_goals first | (exfalso; omega) | skip
    all_goals refine loopK.nn (m - 1) (by omega) (by repeat (first | refine Ag.upd rfl ?_ | exact Ag.hv)) ⟨k + 1, ?_, by omega, hi, rfl⟩
    all_goals (show Value.int .i64 _ = _; congr 1)
theorem conA_any (s : Nat × Nat) (hs : okS s) (b : Nat) (a : Option Addr) (cap : Nat) (l : List Int) (h : Heap) (hh : SlT encI 1 a l h) (hl : l.length ≤ 1000000) (hv : ∀ x, x ∈ l → x ≠ 0 ∧ -128 ≤ x ∧ x ≤ 128) (w : World) (hw : Holds ((b, setO s) :: h) w) :
    Calls Tryz.prog 79 #[.slice a l.length cap, .func (.func 80) ⟨[]⟩ ⟨[.pointer (some ⟨b, 0, none⟩)]⟩] w fun e w' => e = .returned (.bool (l.any (litT (hasB s)))) ∧ Below w.heap.size w w' := by
  have hn := idxT_nn (hasB s) l 0 (by omega)
  refine calls_of_JC (R := ((b, setO s) :: h)) Tryz.func79 Tryz.ntmps79 rfl rfl (hw) ?_
  repeat' first
    | (refine J.isJ ?_; first | (first | (refine J.o 0 ?_; refine J.ev' hΓ ?_) | refine J.nil ?_ | (refine J.o 3 ?_; first | refine J.ev' hΓ ?_) | (refine J.o 10 ?_; refine J.ev' hΓ ?_) | (refine J.o 11 ?_; refine J.ev' hΓ ?_)) | ((refine J.fc 105 ?_; refine J.call0 eIdxF rfl rfl (fun w hw => idxA_any s hs b a cap l h hh hl hv w (hw.rdH (RdH.old fun _ hh => hh))) ?_)))
    | (first | refine JC.seq ?_ | refine JC.region ?_ | refine JC.ret ?_ | refine thenK.nn ?_)
    | fail
  all_goals first | (exfalso; omega) | exact ret1f rfl rfl rfl (fun w1 hw => ⟨retB hn, hw.below⟩)
theorem anyL_any (s : Nat × Nat) (hs : okS s) (a : Option Addr) (cap : Nat) (l : List Int) (h : Heap) (hh : SlT encI 1 a l h) (hl : l.length ≤ 1000000) (hv : ∀ x, x ∈ l → x ≠ 0 ∧ -128 ≤ x ∧ x ≤ 128) (w : World) (hw : Holds h w) :
    Calls Tryz.prog 50 #[sv s, .slice a l.length cap] w fun e w' => e = .returned (.bool (l.any (litT (hasB s)))) ∧ Below w.heap.size w w' := by
  refine calls_of_JC (R := h) Tryz.func50 Tryz.ntmps50 rfl rfl (hw) ?_
  repeat' first
    | (refine J.isJ ?_; first | (first | (refine J.o 14 ?_; refine J.mf hΓ ?_) | (refine J.fc 79 ?_; refine J.call0 eConF rfl rfl (fun w hw => conA_any s hs _ a cap l h hh hl hv w (fun x hx => (List.mem_cons.1 hx).elim (fun e => e ▸ hw.rd Rd.hd) (fun hx => hw.rd (Rd.old hx)))) ?_)) | (first | (refine J.o 0 ?_; refine J.ev' hΓ ?_) | refine J.nil ?_ | (refine J.o 3 ?_; first | refine J.ev' hΓ ?_) | (refine J.o 6 ?_; refine J.bx (fun _ => ?_)) | (refine J.o 10 ?_; refine J.ev' hΓ ?_) | (refine J.o 11 ?_; refine J.ev' hΓ ?_) | (refine J.o 14 ?_; refine J.mf hΓ ?_)))
    | (first | refine JC.seq ?_ | refine JC.region ?_ | refine JC.ret ?_ | refine thenK.nn ?_)
    | (fail)
    | fail
  all_goals first | (exfalso; omega) | exact ret1f rfl rfl rfl (fun w1 hw => ⟨rfl, hw.below⟩)
set_option maxHeartbeats 8000000 in
theorem evalT_any (N : Nat) (a : Option Addr) (cap : Nat) (vs : List HV) (s : Nat × Nat) (hs : okS s) (h : Heap) (hr : LLR a vs h) (hok : okTh N (vs.map (·.l))) (hsub : ∀ u, hasB s u = true → u ≤ N) (w : World) (hw : Holds h w) :
    Calls Tryz.prog 18 #[.agg ⟨[.int .i64 (N : Int), .slice a vs.length cap]⟩, sv s] w fun e w' => e = .returned (.bool (evT (hasB s) (vs.map (·.l)))) ∧ Below w.heap.size w w' := by
  have q0 : ∀ L, RdH h L h := fun L => RdH.old fun _ hh => hh
  have cC := fun w hw => tcheck_any (N : Int) a cap vs h hr w hw
  rw [okTh_iff.2 hok] at cC
  obtain ⟨hN, hTl, hv⟩ := hok
  have hlen : (vs.map (·.l)).length = vs.length := List.length_map _
  have cS := fun w => sub_any s (allS N) hs (okS_all N) (fun u hu => (has_all N u hN).2 ⟨(has_rng hu).1, hsub u hu⟩) w
  have cA := fun w => all_any N hN w
  obtain ⟨ho, hi⟩ := hr
  refine calls_of_JC (R := h) Tryz.func18 Tryz.ntmps18 rfl rfl (hw) ?_
  repeat' first
    | (refine J.isJ ?_; first | (first | (refine J.o 6 ?_; first | refine J.bx (t := 24) (fun b2 => ?_) | refine J.bx (t := 44) (fun b3 => ?_)) | (refine J.fc 26 ?_; refine J.call0 eTCheck rfl rfl (fun w hw => cC w (hw.rdH (q0 _))) ?_) | (refine J.fc 14 ?_; refine J.call0 eAllV rfl rfl (fun w hw => cA w) ?_) | (refine J.fc 49 ?_; refine J.call0 eSub rfl rfl (fun w hw => cS w) ?_) | (refine J.o 4 ?_; first | refine J.e0 hΓ ?_ | refine J.e1 hΓ ?_)) | (first | (refine J.o 0 ?_; refine J.ev' hΓ ?_) | refine J.nil ?_ | (refine J.o 4 ?_; first | refine J.lT default hΓ ?_) | (refine J.o 3 ?_; first | refine J.iJ hΓ ?_ | refine J.ev' hΓ ?_) | (refine J.o 1 ?_; first | refine J.ad ?_) | (refine J.o 6 ?_; refine J.bx (fun _ => ?_)) | (refine J.o 10 ?_; refine J.ev' hΓ ?_) | (refine J.o 11 ?_; refine J.ev' hΓ ?_)))
    | (first | refine JC.seq ?_ | refine JC.region ?_ | refine JC.block ?_ | refine JC.ret ?_ | refine JC.exit ?_ | refine JC.skip ?_ | refine thenK.nn ?_ | refine thenK.r ?_ | refine thenK.x ?_ | refine blockK.nn ?_ | refine blockK.r ?_ | refine blockK.hit rfl ?_ | refine JC.condT rfl ?_ | refine JC.condF rfl ?_ | (refine JC.cond rfl (fun hc => ?_) (fun hc => ?_) <;> ((try simp only [decide_eq_true_eq, decide_eq_false_iff_not, beq_iff_eq, beq_eq_false_iff_ne, bne_iff_ne, bne_eq_false_iff_eq, Bool.not_eq_true', Bool.not_eq_false', Bool.not_eq_true, Bool.not_eq_false] at hc) <;> first | (first | (exact absurd rfl hc) | (exfalso; omega) | (exact absurd (hc.symm.trans (by assumption : _ = false)) (by decide)) | (exact absurd (hc.symm.trans (by assumption : _ = true)) (by decide))) | skip)) | (refine JC.drawA [] (by kernel_rfl) (by kernel_rfl) ?_) | refine drawK.nn ?_ | refine loopK.r ?_ | refine loopK.x ?_)
    | (fail)
    | fail
  all_goals first | (exfalso; omega) | skip
  refine JC.loop (fun i => i == 4 || i == 5 || i == 6 || Nat.ble 21 i) (fun m g L => ∃ (k : Nat), g 21 = .int .i64 (k : Int) ∧ k + m = vs.length ∧ (((vs.map (·.l)).take k).all fun c => c.any (litT (hasB s))) = true ∧ L = _) vs.length ⟨0, rfl, by omega, rfl, rfl⟩ ?_
  rintro m g L ⟨k, e21, hkm, hall, rfl⟩
  refine JC.pin 21 e21 ?_
  clear e21
  rcases Nat.lt_or_ge k vs.length with hk | hk
  case inr =>
    rw [List.take_of_length_le (by rw [List.length_map]; exact hk)] at hall
    repeat' first
      | (refine J.isJ ?_; first | (fail) | (first | (refine J.o 0 ?_; refine J.ev' hΓ ?_) | refine J.nil ?_ | (refine J.o 4 ?_; first | refine J.lT default hΓ ?_) | (refine J.o 3 ?_; first | refine J.iJ hΓ ?_ | refine J.ev' hΓ ?_) | (refine J.o 1 ?_; first | refine J.ad ?_) | (refine J.o 6 ?_; refine J.bx (fun _ => ?_)) | (refine J.o 10 ?_; refine J.ev' hΓ ?_) | (refine J.o 11 ?_; refine J.ev' hΓ ?_)))
      | (first | refine JC.seq ?_ | refine JC.region ?_ | refine JC.block ?_ | refine JC.ret ?_ | refine JC.exit ?_ | refine JC.skip ?_ | refine thenK.nn ?_ | refine thenK.r ?_ | refine thenK.x ?_ | refine blockK.nn ?_ | refine blockK.r ?_ | refine blockK.hit rfl ?_ | refine JC.condT rfl ?_ | refine JC.condF rfl ?_ | (refine JC.cond rfl (fun hc => ?_) (fun hc => ?_) <;> ((try simp only [decide_eq_true_eq, decide_eq_false_iff_not, beq_iff_eq, beq_eq_false_iff_ne, bne_iff_ne, bne_eq_false_iff_eq, Bool.not_eq_true', Bool.not_eq_false', Bool.not_eq_true, Bool.not_eq_false] at hc) <;> first | (first | (exact absurd rfl hc) | (exfalso; omega) | (exact absurd (hc.symm.trans (by assumption : _ = false)) (by decide)) | (exact absurd (hc.symm.trans (by assumption : _ = true)) (by decide))) | skip)) | refine drawK.nn ?_ | refine loopK.r ?_ | refine loopK.x ?_)
      | (fail)
      | fail
    all_goals first | (exfalso; omega) | exact ret1f rfl rfl rfl (fun w1 hw => ⟨by rw [show evT (hasB s) (vs.map (·.l)) = true from hall], hw.below⟩)
  have hm := mem_g vs k hk
  have hik := hi _ hm
  have hml : (vs.getD k default).l ∈ vs.map (·.l) := List.mem_map_of_mem (f := (·.l)) hm
  have hck := hv _ hml
  have hcn := hck.1
  have cY := fun w hw => anyL_any s hs (vs.getD k default).a (vs.getD k default).c (vs.getD k default).l h hik (by omega) (fun x hx => by have := hck.2 x hx; omega) w hw
  cases hb : (vs.getD k default).l.any (litT (hasB s)) with
  | true =>
    rw [hb] at cY
    repeat' first
      | (refine J.isJ ?_; first | (first | (refine J.o 3 ?_; refine J.iJ hΓ ?_ (hs := ho)) | (refine J.o 4 ?_; first | refine J.lT default hΓ ?_ (hs := ho) (hr := q0 _) | refine J.e0 hΓ ?_ | refine J.e1 hΓ ?_) | (refine J.fc 50 ?_; refine J.call0 eAny rfl rfl (fun w hw => cY w (hw.rdH (q0 _))) ?_)) | (first | (refine J.o 0 ?_; refine J.ev' hΓ ?_) | refine J.nil ?_ | (refine J.o 4 ?_; first | refine J.lT default hΓ ?_) | (refine J.o 3 ?_; first | refine J.iJ hΓ ?_ | refine J.ev' hΓ ?_) | (refine J.o 1 ?_; first | refine J.ad ?_) | (refine J.o 6 ?_; refine J.bx (fun _ => ?_)) | (refine J.o 10 ?_; refine J.ev' hΓ ?_) | (refine J.o 11 ?_; refine J.ev' hΓ ?_)))
      | (first | refine JC.seq ?_ | refine JC.region ?_ | refine JC.block ?_ | refine JC.ret ?_ | refine JC.exit ?_ | refine JC.skip ?_ | refine thenK.nn ?_ | refine thenK.r ?_ | refine thenK.x ?_ | refine blockK.nn ?_ | refine blockK.r ?_ | refine blockK.hit rfl ?_ | refine JC.condT rfl ?_ | refine JC.condF rfl ?_ | (refine JC.cond rfl (fun hc => ?_) (fun hc => ?_) <;> ((try simp only [decide_eq_true_eq, decide_eq_false_iff_not, beq_iff_eq, beq_eq_false_iff_ne, bne_iff_ne, bne_eq_false_iff_eq, Bool.not_eq_true', Bool.not_eq_false', Bool.not_eq_true, Bool.not_eq_false] at hc) <;> first | (first | (exact absurd rfl hc) | (exfalso; omega) | (exact absurd (hc.symm.trans (by assumption : _ = false)) (by decide)) | (exact absurd (hc.symm.trans (by assumption : _ = true)) (by decide))) | skip)) | refine drawK.nn ?_ | refine loopK.r ?_ | refine loopK.x ?_)
      | (fail)
      | fail
    all_goals first | (exfalso; omega) | skip
    refine loopK.nn (m - 1) (by omega) (by repeat (first | refine Ag.upd rfl ?_ | exact Ag.hv)) ⟨k + 1, ?_, by omega, ?_, rfl⟩
    · show Value.int .i64 _ = _; congr 1
    · rw [List.take_succ_eq_append_getElem (by rw [List.length_map]; exact hk), List.all_append, hall, List.all_cons, List.all_nil, Bool.and_true, Bool.true_and, List.getElem_map]
      rw [List.getD_eq_getElem?_getD, List.getElem?_eq_getElem hk] at hb
      exact hb
  | false =>
    rw [hb] at cY
    have hev : evT (hasB s) (vs.map (·.l)) = false := by
      unfold evT
      rw [List.all_eq_false]
      exact ⟨_, hml, by rw [hb]; decide⟩
    repeat' first
      | (refine J.isJ ?_; first | (first | (refine J.o 3 ?_; refine J.iJ hΓ ?_ (hs := ho)) | (refine J.o 4 ?_; first | refine J.lT default hΓ ?_ (hs := ho) (hr := q0 _) | refine J.e0 hΓ ?_ | refine J.e1 hΓ ?_) | (refine J.fc 50 ?_; refine J.call0 eAny rfl rfl (fun w hw => cY w (hw.rdH (q0 _))) ?_)) | (first | (refine J.o 0 ?_; refine J.ev' hΓ ?_) | refine J.nil ?_ | (refine J.o 4 ?_; first | refine J.lT default hΓ ?_) | (refine J.o 3 ?_; first | refine J.iJ hΓ ?_ | refine J.ev' hΓ ?_) | (refine J.o 1 ?_; first | refine J.ad ?_) | (refine J.o 6 ?_; refine J.bx (fun _ => ?_)) | (refine J.o 10 ?_; refine J.ev' hΓ ?_) | (refine J.o 11 ?_; refine J.ev' hΓ ?_)))
      | (first | refine JC.seq ?_ | refine JC.region ?_ | refine JC.block ?_ | refine JC.ret ?_ | refine JC.exit ?_ | refine JC.skip ?_ | refine thenK.nn ?_ | refine thenK.r ?_ | refine thenK.x ?_ | refine blockK.nn ?_ | refine blockK.r ?_ | refine blockK.hit rfl ?_ | refine JC.condT rfl ?_ | refine JC.condF rfl ?_ | (refine JC.cond rfl (fun hc => ?_) (fun hc => ?_) <;> ((try simp only [decide_eq_true_eq, decide_eq_false_iff_not, beq_iff_eq, beq_eq_false_iff_ne, bne_iff_ne, bne_eq_false_iff_eq, Bool.not_eq_true', Bool.not_eq_false', Bool.not_eq_true, Bool.not_eq_false] at hc) <;> first | (first | (exact absurd rfl hc) | (exfalso; omega) | (exact absurd (hc.symm.trans (by assumption : _ = false)) (by decide)) | (exact absurd (hc.symm.trans (by assumption : _ = true)) (by decide))) | skip)) | refine drawK.nn ?_ | refine loopK.r ?_ | refine loopK.x ?_)
      | (fail)
      | fail
    all_goals first | (exfalso; omega) | exact ret1f rfl rfl rfl (fun w1 hw => ⟨by rw [hev], hw.below⟩)
end Go.Proofs.YtbhgahjeocnfcaaGreat
namespace Go.Cx
open Go Go.RowKit
set_option linter.unusedVariables false
set_option linter.unusedSimpArgs false
def FR (r : Option Nat) : Fence := { Fence.wide with round := r }
theorem oper_in {P : Program} {r : Option Nat} {m : Nat} {o : Oper} {a : Act} {w : World} {next : Act → World → Prop} {Q : Exit → Act → World → Prop} (hd : ∀ c, o.op ≠ .defer c) (h : o.wp P a w next Q) : o.wpIn (FR r) m P a w next Q := by
  refine ⟨fun _ _ => trivial, ?_⟩
  rw [Oper.semAt_eq _ _ _ hd]
  unfold Oper.wp at h
  cases hr : (execOp a.eval o).run P w with
  | ok x w' =>
    rw [hr] at h
    cases x with
    | value v => exact h
    | skip => exact h
    | defer d => exact h
    | enter f args =>
      refine ⟨fun h => (by cases h), ?_⟩
      have h1 : CallsIn Fence.wide (m - 1) P f args w' _ := callsIn_wide.2 h
      have h2 : CallsIn (FR r) (m - 1) P f args w' _ := h1
      refine h2.mono fun e w'' hh => ?_
      cases e <;> exact hh
    | row row args =>
      refine ⟨fun h => (by cases h), ?_⟩
      intro c cs _
      obtain ⟨v, w'', r1, s1⟩ := h c cs
      exact ⟨v, w'', r1, stepsIn_wide.2 s1⟩
    | _ => exact h.elim
  | halt x w' =>
    rw [hr] at h
    cases x <;> exact h
theorem LX.plainIn {P : Program} {r : Option Nat} {m : Nat} {ops : Array Oper} {Q : Exit → Act → World → Prop} : ∀ {l : List Oper} {a : Act} {C : World → Prop}, (∀ o ∈ l, ∀ c, o.op ≠ .defer c) → LX P ops Q (zipK [] l) a C → ∀ w, C w → wpListIn (FR r) m P ops Q l a w
  | [], a, C, _, h, w, hw => h w hw
  | o :: l, a, C, hd, h, w, hw => by
    have h1 : lop P ops Q o (fun a' w' => ∃ C' : World → Prop, ((0 : Nat) ≠ 0 → ∀ w, C' w → C w) ∧ C' w' ∧ LX P ops Q (zipK [] l) a' C') a w := h w hw
    have hd2 : ∀ x ∈ l, ∀ c, x.op ≠ .defer c := fun x hx => hd x (List.mem_cons_of_mem _ hx)
    unfold lop at h1
    unfold wpListIn
    split
    · rename_i hg
      rw [if_pos hg] at h1
      exact oper_in (hd o List.mem_cons_self) (Oper.wp_mono (fun a' w' ⟨C', _, hC, hl⟩ => LX.plainIn hd2 hl w' hC) h1)
    · rename_i hg
      rw [if_neg hg] at h1
      obtain ⟨C', _, hC, hl⟩ := h1
      exact ⟨fun _ _ => trivial, LX.plainIn hd2 hl w hC⟩
def noDefer (l : List Oper) : Bool := l.all fun o => match o.op with | .defer _ => false | _ => true
theorem noDefer_ok {l : List Oper} (h : noDefer l = true) : ∀ o ∈ l, ∀ c, o.op ≠ .defer c := fun o ho c e => by
  have := List.all_eq_true.1 h o ho
  rw [e] at this
  cases this
def JR (rd : Option Nat) (m : Nat) (P : Program) (n : Nat) (w0 : World) (R : Heap) (c : Code) (K : Exit → Fr → List Heap → Prop) (f : Fr) (L : List Heap) : Prop :=
  ∀ a w, Rep n f a → H w0 R L w → c.wpIn (FR rd) m P (QW n w0 R K) a w
section
variable {rd : Option Nat} {m : Nat} {P : Program} {n : Nat} {w0 : World} {R : Heap} {l0 : List Oper} {K : Exit → Fr → List Heap → Prop} {f : Fr} {L : List Heap} {o : Oper} {rest : List (Nat × Oper)} {κ : Nat}
def thenR (rd : Option Nat) (m : Nat) (P : Program) (n : Nat) (w0 : World) (R : Heap) (y : Code) (K : Exit → Fr → List Heap → Prop) : Exit → Fr → List Heap → Prop
  | .normal, f, L => JR rd m P n w0 R y K f L
  | e, f, L => K e f L
theorem JR.seq {x y : Code} (h : JR rd m P n w0 R x (thenR rd m P n w0 R y K) f L) : JR rd m P n w0 R (.seq x y) K f L := fun a w ha hw => by
  refine wpIn_seq (wpIn_mono (h a w ha hw) ?_)
  intro e a' w' q
  cases e <;> first | exact q | (obtain ⟨f', L', ha', hw', hk⟩ := q; first | exact hk a' w' ha' hw' | exact ⟨f', L', ha', hw', hk⟩)
theorem JR.skip (h : K .normal f L) : JR rd m P n w0 R .skip K f L := fun _ _ ha hw => wpIn_skip ⟨f, L, ha, hw, h⟩
theorem JR.exit {id : Nat} (h : K (.exit id) f L) : JR rd m P n w0 R (.exit id) K f L := fun _ _ ha hw => wpIn_exit ⟨f, L, ha, hw, h⟩
theorem JR.region {id : Nat} {l : List Oper} (hd : noDefer l = true) (h : J P n w0 R l K (zipK [] l) f L) : JR rd m P n w0 R (.region id l.toArray false) K f L := fun a w ha hw => wpIn_region_lit (LX.plainIn (noDefer_ok hd) (h a ha) w hw)
theorem JR.condT {c : Operand} {x y : Code} (hc : ev n f c = .bool true) (ht : JR rd m P n w0 R x K f L) : JR rd m P n w0 R (.cond c x y) K f L := fun a w ha hw =>
  wpIn_cond_true (by rw [ha.eval]; exact hc) (ht a w ha hw)
theorem JR.condF {c : Operand} {x y : Code} (hc : ev n f c = .bool false) (ht : JR rd m P n w0 R y K f L) : JR rd m P n w0 R (.cond c x y) K f L := fun a w ha hw =>
  wpIn_cond_false (by rw [ha.eval]; exact hc) (ht a w ha hw)
theorem JR.cond {c : Operand} {x y : Code} {b : Bool} (hc : ev n f c = .bool b) (ht : b = true → JR rd m P n w0 R x K f L) (hf : b = false → JR rd m P n w0 R y K f L) : JR rd m P n w0 R (.cond c x y) K f L := fun a w ha hw =>
  wpIn_cond_split (by rw [ha.eval]; exact hc) (fun hb => ht hb a w ha hw) (fun hb => hf hb a w ha hw)
theorem JR.block {id : Nat} {c : Code} (h : JR rd m P n w0 R c (blockK id K) f L) : JR rd m P n w0 R (.block id c) K f L := fun a w ha hw => by
  refine wpIn_block (wpIn_mono (h a w ha hw) ?_)
  intro e a' w' q
  cases e with
  | exit i =>
    obtain ⟨f', L', ha', hw', hk⟩ := q
    simp only [Exit.inBlock]
    by_cases hi : i = id
    · subst hi
      rw [if_pos rfl]
      have : Nat.beq i i = true := by simp
      simp only [blockK, this, cond_true] at hk
      exact ⟨f', L', ha', hw', hk⟩
    · rw [if_neg hi]
      have : Nat.beq i id = false := by
        cases hb : Nat.beq i id
        · rfl
        · exact absurd (Nat.eq_of_beq_eq_true hb) hi
      simp only [blockK, this, cond_false] at hk
      exact ⟨f', L', ha', hw', hk⟩
  | _ => exact q
theorem thenR.nn {y : Code} (h : JR rd m P n w0 R y K f L) : thenR rd m P n w0 R y K .normal f L := h
theorem thenR.x {y : Code} {id : Nat} (h : K (.exit id) f L) : thenR rd m P n w0 R y K (.exit id) f L := h
theorem JR.pin {c : Code} (i : Nat) {v : Value} (e : f i = v) (k : JR rd m P n w0 R c K (upd f i v) L) : JR rd m P n w0 R c K f L := by
  have : upd f i v = f := funext fun j => by
    by_cases h : j = i
    · subst h; rw [upd_same, e]
    · exact upd_ne f v h
  rw [this] at k
  exact k
end
end Go.Cx
namespace Go.Cx
open Go Go.RowKit
set_option linter.unusedVariables false
set_option linter.unusedSimpArgs false
def dfr (ds : List Deferred) (a : Act) : Act := { a with defers := a.defers ++ ds }
theorem dfr_nil (a : Act) : dfr [] a = a := by unfold dfr; rw [List.append_nil]
theorem dfr_put (ds : List Deferred) (a : Act) (d : Option Tmp) (v : Value) : (dfr ds a).put d v = dfr ds (a.put d v) := by cases d <;> rfl
theorem oper_dfr {P : Program} {ds : List Deferred} {o : Oper} {a : Act} {w : World} {next next' : Act → World → Prop} {Q Q' : Exit → Act → World → Prop} (hn : ∀ a w, next a w → next' (dfr ds a) w) (hp : ∀ c a w, ¬ Q (.panic c) a w) (hl : ∀ a w, ¬ Q .outgrown a w) (h : o.wp P a w next Q) : o.wp P (dfr ds a) w next' Q' := by
  unfold Oper.wp at *
  have he : (dfr ds a).eval = a.eval := rfl
  rw [he]
  generalize (execOp a.eval o).run P w = r at *
  cases r with
  | ok x w' =>
    cases x <;> simp only [Oper.upon] at h ⊢ <;>
      first
        | (rw [dfr_put]; exact hn _ _ h)
        | exact (by have := hn _ _ h; rw [← dfr_put] at this; exact this)
        | exact Calls.mono h (fun e w'' he => by cases e <;> first | (have := hn _ _ he; rw [← dfr_put] at this; exact this) | exact absurd he (hp _ _ _) | (obtain ⟨a, w, h⟩ := he; exact absurd h (hl _ _)))
        | exact Rows.mono h (fun _ _ he => by have := hn _ _ he; rw [← dfr_put] at this; exact this)
        | exact h.elim
  | halt x w' => cases x <;> simp only [Oper.upon] at h ⊢ <;> first | exact absurd h (hp _ _ _) | exact h.elim
section
variable {ds : List Deferred} {m : Nat} {P : Program} {n : Nat} {w0 : World} {R : Heap} {l0 : List Oper} {K : Exit → Fr → List Heap → Prop} {f : Fr} {L : List Heap} {o : Oper} {fuel : Nat} {listed : Array Bool} {Q : Exit → Act → World → Prop}
def JA (ds : List Deferred) (m : Nat) (P : Program) (n : Nat) (w0 : World) (R : Heap) (l0 : List Oper) (Q : Exit → Act → World → Prop) (fuel : Nat) (listed : Array Bool) (f : Fr) (L : List Heap) : Prop :=
  ∀ a w, Rep n f a → H w0 R L w → wpAnyIn (FR none) m P .any l0.toArray Q fuel listed (dfr ds a) w
theorem JA.start {id : Nat} (hm : P.follows .mixedOrders = true) (h : JA ds m P n w0 R l0 Q l0.length (Array.replicate l0.length false) f L) {a : Act} {w : World} (ha : Rep n f a) (hw : H w0 R L w) : (Code.region id l0.toArray true).wpIn (FR none) m P Q (dfr ds a) w := by
  refine wpIn_region_any hm ?_
  have := h a _ ha (hw.drew (w.drawn + 1))
  simpa using this
theorem JA.done (hr : Region.ready .any l0.toArray listed = []) (h : ∀ a w, Rep n f a → H w0 R L w → Q .normal (dfr ds a) w) : JA ds m P n w0 R l0 Q fuel listed f L := fun a w ha hw => wpAnyIn_done hr (h a w ha hw) fuel
def JO (ds : List Deferred) (m : Nat) (P : Program) (n : Nat) (w0 : World) (R : Heap) (l0 : List Oper) (Q : Exit → Act → World → Prop) (fuel : Nat) (listed : Array Bool) (f : Fr) (L : List Heap) (i : Nat) : Prop :=
  ∀ a w, Rep n f a → H w0 R L w → wpOpIn (FR none) m P l0.toArray Q i (wpAnyIn (FR none) m P .any l0.toArray Q fuel (listed.setIfInBounds i true)) (dfr ds a) w
theorem JA.all {rs : List Nat} (hr : Region.ready .any l0.toArray listed = rs) (hne : rs ≠ []) (h : ∀ i ∈ rs, JO ds m P n w0 R l0 Q fuel listed f L i) : JA ds m P n w0 R l0 Q (fuel + 1) listed f L := fun a w ha hw => wpAnyIn_all hr hne fun i hi => h i hi a w ha hw
theorem JA.one {i : Nat} (hr : Region.ready .any l0.toArray listed = [i]) (h : JO ds m P n w0 R l0 Q fuel listed f L i) : JA ds m P n w0 R l0 Q (fuel + 1) listed f L := JA.all hr (by simp) fun j hj => by rw [List.mem_singleton.1 hj]; exact h
theorem JA.two {i j : Nat} (hr : Region.ready .any l0.toArray listed = [i, j]) (h : JO ds m P n w0 R l0 Q fuel listed f L i) (k : JO ds m P n w0 R l0 Q fuel listed f L j) : JA ds m P n w0 R l0 Q (fuel + 1) listed f L := JA.all hr (by simp) fun x hx => by
  rcases List.mem_cons.1 hx with rfl | hx
  · exact h
  · rw [List.mem_singleton.1 hx]; exact k
def nextK (ds : List Deferred) (m : Nat) (P : Program) (n : Nat) (w0 : World) (R : Heap) (l0 : List Oper) (Q : Exit → Act → World → Prop) (fuel : Nat) (listed : Array Bool) : Exit → Fr → List Heap → Prop
  | .normal, f, L => JA ds m P n w0 R l0 Q fuel listed f L
  | _, _, _ => False
theorem nextK.nn (h : JA ds m P n w0 R l0 Q fuel listed f L) : nextK ds m P n w0 R l0 Q fuel listed .normal f L := h
theorem JO.of {i : Nat} (hi : l0.toArray[i]? = some o) (hd : ∀ c, o.op ≠ .defer c) (h : J P n w0 R l0 (nextK ds m P n w0 R l0 Q fuel (listed.setIfInBounds i true)) [(2, o)] f L) : JO ds m P n w0 R l0 Q fuel listed f L i := fun a w ha hw => by
  have h1 := h a ha w hw
  have hnext : ∀ a' w', (∃ C' : World → Prop, ((0 : Nat) ≠ 0 → ∀ w, C' w → H w0 R L w) ∧ C' w' ∧ LX P l0.toArray (QW n w0 R (nextK ds m P n w0 R l0 Q fuel (listed.setIfInBounds i true))) [] a' C') → wpAnyIn (FR none) m P .any l0.toArray Q fuel (listed.setIfInBounds i true) (dfr ds a') w' := fun a' w' ⟨C', _, hC, hl⟩ => by
    obtain ⟨f', L', ha', hw', hk⟩ := hl w' hC
    exact hk a' w' ha' hw'
  unfold wpOpIn
  rw [hi]
  unfold lop at h1
  dsimp only
  have hwa : Region.wanted o (yielded l0.toArray (dfr ds a).tmps) = Region.wanted o (yielded l0.toArray a.tmps) := rfl
  rw [hwa]
  split
  · rename_i hg
    rw [if_pos hg] at h1
    exact oper_in hd (oper_dfr hnext (fun c a w q => by obtain ⟨_, _, _, _, q⟩ := q; exact q.elim) (fun a w q => q) h1)
  · rename_i hg
    rw [if_neg hg] at h1
    refine ⟨fun _ _ => trivial, ?_⟩
    rw [dfr_put]
    exact hnext _ _ h1
theorem JA.quiet {i : Nat} (hi : l0.toArray[i]? = some o) (hs : Region.noSelect l0.toArray = true) (hf : Region.free .any l0.toArray listed i = true) (hr : (Region.ready .any l0.toArray listed).contains i = true) (hab : ∀ (w : World) (a : Act), o.about P w a.eval = none) (hQ : ∀ c a w, ¬ Q (.panic c) a w) (h : J P n w0 R l0 (nextK ds m P n w0 R l0 Q fuel (listed.setIfInBounds i true)) [(0, o)] f L) : JA ds m P n w0 R l0 Q (fuel + 1) listed f L := fun a w ha hw => by
  obtain ⟨v, hy, hl⟩ := h a ha
  obtain ⟨f', L', ha', hw', hk⟩ := hl w hw
  refine wpAnyIn_take rfl hi hs hf hr (fun c a w q => absurd q (hQ _ _ _)) (v := v) ⟨hy, fun w => hab w (dfr ds a)⟩ ?_
  rw [dfr_put]
  exact hk _ _ ha' hw'
theorem yield_run {l : Nat} {x : Operand} {xs : List Operand} {ats : Array TypeId} {vs : List Value} {dst : Option Tmp} {ty : TypeId} {pos : String} {aft : Array Edge} {g : Option (Nat × Bool)} (hx : Cx.ev n f x = .func (.yield l) ⟨[]⟩ ⟨[]⟩) (ha : argsEv (Cx.ev n f) xs = some vs) (w : World) :
    (execOp (Cx.ev n f) ⟨dst, .call ⟨.value x, ⟨xs⟩, ats⟩, ty, pos, aft, g⟩).run P w = (Instr.yield l ⟨vs⟩).run P w := by
  have h1 : (⟨xs⟩ : Array Operand).map (Cx.ev n f) = ⟨vs⟩ := by rw [← argsEv_eq ha]; simp
  simp only [execOp, resolve, h1, hx, Deferred.ofValue, Sem.run_bind, Sem.run_pure, Result.andThen_ok, invoke]
  simp
theorem JO.yield {i l d : Nat} {x : Operand} {xs : List Operand} {ats : Array TypeId} {vs : List Value} {ty : TypeId} {pos : String} {aft : Array Edge} {g : Option (Nat × Bool)} {Φ : Value → List Heap → Prop} (hi : l0.toArray[i]? = some ⟨some d, .call ⟨.value x, ⟨xs⟩, ats⟩, ty, pos, aft, g⟩) (hg : wantB n f l0 ⟨some d, .call ⟨.value x, ⟨xs⟩, ats⟩, ty, pos, aft, g⟩ = true) (hx : Cx.ev n f x = .func (.yield l) ⟨[]⟩ ⟨[]⟩) (ha : argsEv (Cx.ev n f) xs = some vs)
    (hy : ∀ w, H w0 R L w → ∃ fn tmps assign body, (Instr.yield l ⟨vs⟩).run P w = .ok (.round l fn tmps assign body) w ∧ RoundIn (FR none) (m - 1) P l fn tmps assign body w fun e w' => ∃ v L', e = .returned v ∧ H w0 R L' w' ∧ Φ v L')
    (k : ∀ v L', Φ v L' → JA ds m P n w0 R l0 Q fuel (listed.setIfInBounds i true) (upd f d v) L') : JO ds m P n w0 R l0 Q fuel listed f L i := fun a w hra hw => by
  unfold wpOpIn
  rw [hi]
  dsimp only
  have hwa : (dfr ds a).tmps = a.tmps := rfl
  rw [hwa, if_pos ((hra.wanted l0 ⟨some d, .call ⟨.value x, ⟨xs⟩, ats⟩, ty, pos, aft, g⟩).trans hg)]
  refine ⟨fun _ _ => trivial, ?_⟩
  have he : (dfr ds a).eval = a.eval := rfl
  rw [Oper.semAt_eq _ _ _ (fun c => by intro h; cases h), he, hra.eval, yield_run hx ha]
  obtain ⟨fn, tmps, assign, body, hr, hround⟩ := hy w hw
  rw [hr]
  refine ⟨fun h => (by cases h), hround.mono ?_⟩
  rintro e w' ⟨v, L', rfl, hw', hP⟩
  show wpAnyIn _ _ _ _ _ _ _ _ _ _
  rw [dfr_put]
  exact k v L' hP _ _ (hra.put (some d) v) hw'
theorem JA.meet {fuel' : Nat} {listed' : Array Bool} (M : Fr → Fr → List Heap → Prop) (fin : ∀ g Lx, M f g Lx → JA ds m P n w0 R l0 Q fuel' listed' g Lx) (h : (∀ g Lx, M f g Lx → JA ds m P n w0 R l0 Q fuel' listed' g Lx) → JA ds m P n w0 R l0 Q fuel listed f L) : JA ds m P n w0 R l0 Q fuel listed f L := h fin
theorem JA.perm {L' : List Heap} (hp : L.Perm L') (k : JA ds m P n w0 R l0 Q fuel listed f L') : JA ds m P n w0 R l0 Q fuel listed f L := fun a w ha hw => k a w ha (hw.perm hp)
theorem JA.pin (i : Nat) {v : Value} (e : f i = v) (k : JA ds m P n w0 R l0 Q fuel listed (upd f i v) L) : JA ds m P n w0 R l0 Q fuel listed f L := by
  have : upd f i v = f := funext fun j => by
    by_cases h : j = i
    · subst h; rw [upd_same, e]
    · exact upd_ne f v h
  rw [this] at k
  exact k
theorem JA.at {listed' : Array Bool} (hl : listed = listed') (k : JA ds m P n w0 R l0 Q fuel listed' f L) : JA ds m P n w0 R l0 Q fuel listed f L := hl ▸ k
theorem JA.fin (hr : Region.ready .any l0.toArray listed = []) (hk : K .normal f L) : JA [] m P n w0 R l0 (QW n w0 R K) fuel listed f L := JA.done hr fun a w ha hw => by
  rw [dfr_nil]
  exact ⟨f, L, ha, hw, hk⟩
end
end Go.Cx
namespace Go.Cx
open Go Go.RowKit
set_option linter.unusedVariables false
set_option linter.unusedSimpArgs false
theorem H.turn {w0 w : World} {R : Heap} {L : List Heap} {b : Nat} {o : Obj} (o' : Obj) (h : H w0 R ([(b, o)] :: L) w) : H w0 R ([(b, o')] :: L) (w.putObj b o') := by
  have hb := h.rd (Rd.hd (R := R) (L := L) (g := b) (o := o))
  exact h.grew (grownBy_putObj' w b o') (World.putObj_heap_same (Array.getElem?_eq_some_iff.1 hb).1)
section
variable {m : Nat} {P : Program} {n : Nat} {w0 : World} {R : Heap} {f : Fr} {L : List Heap} {l : Nat} {r : Loop}
def rndK (w0 : World) (R : Heap) (l : Nat) (r : Loop) (Φ : Value → List Heap → Prop) : Exit → Fr → List Heap → Prop
  | .normal, _, L => ∃ L2, (∀ w, H w0 R L w → H w0 R ([(l, .loop { r with state := .busy })] :: L2) w) ∧ Φ (.bool true) ([(l, .loop { r with state := .ready, pending := none })] :: L2)
  | .ret, _, L => ∃ L2, (∀ w, H w0 R L w → H w0 R ([(l, .loop { r with state := .busy })] :: L2) w) ∧ Φ (.bool false) ([(l, .loop { r with state := .done, pending := some .ret })] :: L2)
  | .exit id, _, L => ∃ L2, (∀ w, H w0 R L w → H w0 R ([(l, .loop { r with state := .busy })] :: L2) w) ∧ Φ (.bool false) ([(l, .loop { r with state := .done, pending := some (.exit id) })] :: L2)
  | _, _, _ => False
def asgK (m : Nat) (P : Program) (n : Nat) (w0 : World) (R : Heap) (l : Nat) (r : Loop) (Φ : Value → List Heap → Prop) : Exit → Fr → List Heap → Prop
  | .normal, f, L => ∃ L2, (∀ w, H w0 R L w → H w0 R ([(l, .loop r)] :: L2) w) ∧ JR (some l) m P n w0 R r.body (rndK w0 R l r Φ) f ([(l, .loop { r with state := .busy })] :: L2)
  | _, _, _ => False
theorem round_any {vs : List Value} {Φ : Value → List Heap → Prop} (hst : r.state = .ready) (hsz : vs.length = r.params.size) (ha0 : Rep n f { tmps := (r.params.zip ⟨vs⟩).foldl (fun tmps (t, a) => tmps.setIfInBounds t a) r.tmps, defers := [] })
    (hasg : JR (some l) m P n w0 R r.assign (asgK m P n w0 R l r Φ) f ([(l, .loop r)] :: L)) {w : World} (hw : H w0 R ([(l, .loop r)] :: L) w) :
    ∃ fn tmps assign body, (Instr.yield l ⟨vs⟩).run P w = .ok (.round l fn tmps assign body) w ∧ RoundIn (FR none) m P l fn tmps assign body w fun e w' => ∃ v L', e = .returned v ∧ H w0 R L' w' ∧ Φ v L' := by
  have hl := hw.rd (Rd.hd (R := R) (L := L) (g := l) (o := .loop r))
  refine ⟨_, _, _, _, run_yield (P := P) (args := ⟨vs⟩) hl hsz, roundIn_of_wpIn (F := FR none) trivial ?_⟩
  refine wpIn_mono (hasg _ w ha0 hw) ?_
  intro e a1 w1 q
  cases e with
  | normal =>
    obtain ⟨f1, L1, ha1, hw1, L2, hto, hbody⟩ := q
    have hw2 := hto w1 hw1
    have hl2 := hw2.rd (Rd.hd (R := R) (L := L2) (g := l) (o := .loop r))
    refine ⟨_, run_beginRound hl2 hst, ?_⟩
    have hw3 := H.turn (.loop { r with state := .busy }) hw2
    refine wpIn_mono (hbody a1 _ ha1 hw3) ?_
    intro e a3 w3 q
    have fin : ∀ (jump : Option Code) (L4 : List Heap), H w0 R ([(l, .loop { r with state := .busy })] :: L4) w3 →
        (Instr.endRound l jump).run P w3 = .ok (.bool jump.isNone) (w3.putObj l (.loop { r with state := if jump.isNone then .ready else .done, pending := jump })) ∧ H w0 R ([(l, .loop { r with state := if jump.isNone then .ready else .done, pending := jump })] :: L4) (w3.putObj l (.loop { r with state := if jump.isNone then .ready else .done, pending := jump })) := fun jump L4 h4 =>
      ⟨run_endRound (r := { r with state := .busy }) jump (h4.rd (Rd.hd (R := R) (L := L4) (g := l) (o := .loop { r with state := .busy }))), H.turn _ h4⟩
    cases e with
    | normal =>
      obtain ⟨f3, L3, ha3, hw3, L4, hto, hP⟩ := q
      obtain ⟨h1, h2⟩ := fin none L4 (hto _ hw3)
      exact ⟨_, _, h1, _, _, rfl, h2, hP⟩
    | ret =>
      obtain ⟨f3, L3, ha3, hw3, L4, hto, hP⟩ := q
      obtain ⟨h1, h2⟩ := fin (some .ret) L4 (hto _ hw3)
      exact ⟨_, _, h1, _, _, rfl, h2, hP⟩
    | exit id =>
      obtain ⟨f3, L3, ha3, hw3, L4, hto, hP⟩ := q
      obtain ⟨h1, h2⟩ := fin (some (.exit id)) L4 (hto _ hw3)
      exact ⟨_, _, h1, _, _, rfl, h2, hP⟩
    | goto t => obtain ⟨_, _, _, _, q⟩ := q; exact q.elim
    | panic c => obtain ⟨_, _, _, _, q⟩ := q; exact q.elim
    | outgrown => exact q.elim
  | ret => obtain ⟨_, _, _, _, q⟩ := q; exact q.elim
  | exit id => obtain ⟨_, _, _, _, q⟩ := q; exact q.elim
  | goto t => obtain ⟨_, _, _, _, q⟩ := q; exact q.elim
  | panic c => obtain ⟨_, _, _, _, q⟩ := q; exact q.elim
  | outgrown => exact q.elim
def recL (fn : FuncId) (tmps : Array Value) (ps : Array Tmp) (assign body : Code) (D : Nat) : Loop := { state := .ready, pending := none, fn, tmps, params := ps, assign, body, defers := D }
theorem rangeF_any {g : Operand} {ps : Array Tmp} {assign body : Code} {gf : FuncId} {lb : List Value} {Q : Exit → Act → World → Prop} {Ψ : List Heap → Prop} (hg : Cx.ev n f g = .func (.func gf) ⟨[]⟩ ⟨lb⟩) (he : Entr P gf)
    (hit : ∀ (fn D : Nat) (tmps : Array Value) (w1 : World), Rep n f { tmps := tmps, defers := [] } → H w0 R ([(D + 1, .loop (recL fn tmps ps assign body D))] :: [(D, .deferred (some []))] :: L) w1 →
      CallsIn (FR none) (m - 1) P gf ⟨.func (.yield (D + 1)) ⟨[]⟩ ⟨[]⟩ :: lb⟩ w1 fun e w' => ∃ v L', e = .returned v ∧ H w0 R ([(D + 1, .loop (recL fn tmps ps assign body D))] :: [(D, .deferred (some []))] :: L') w' ∧ Ψ L')
    (hk : ∀ (D : Nat) L', Ψ L' → ∀ a w, Rep n f a → H w0 R ([(D, .deferred (some []))] :: L') w → Q .normal (dfr [{ target := .collected D, args := #[] }] a) w)
    {a : Act} {w : World} (ha : Rep n f a) (hw : H w0 R L w) : (Code.rangeFunc g ps assign body).wpIn (FR none) m P Q a w := by
  refine wpIn_rangeFunc fun fn _ => ?_
  have h1 := hw.alloc (.deferred (some []))
  have h2 := h1.alloc (.loop (recL fn a.tmps ps assign body w.heap.size))
  rw [World.size_alloc] at h2
  have ha2 : Rep n f { tmps := a.tmps, defers := [] } := ⟨ha.1, rfl, ha.2.2⟩
  have hda : a.defers = [] := ha.2.1
  have hga : a.eval g = .func (.func gf) ⟨[]⟩ ⟨lb⟩ := by rw [ha.eval]; exact hg
  obtain ⟨W1, hW1⟩ : ∃ W1, (w.alloc (.deferred (some []))).alloc (.loop (recL fn a.tmps ps assign body w.heap.size)) = W1 := ⟨_, rfl⟩
  rw [hW1] at h2
  refine ⟨w.heap.size + 1, [{ target := .collected w.heap.size, args := #[] }], W1, { target := .fn (.func gf) ⟨lb⟩, args := #[.func (.yield (w.heap.size + 1)) #[] #[]] }, W1, gf, ⟨.func (.yield (w.heap.size + 1)) ⟨[]⟩ ⟨[]⟩ :: lb⟩, W1, ?_, ?_, fun _ _ => trivial, ?_, fun h => (by cases h), ?_⟩
  · rw [← hW1]; exact run_enterLoop_outer fn a.tmps ps assign body
  · simp only [resolve, hga]
    simp [go_sem]
  · have := he ⟨.func (.yield (w.heap.size + 1)) ⟨[]⟩ ⟨[]⟩ :: lb⟩ W1
    simpa [invoke, go_sem] using this
  · refine (hit fn w.heap.size a.tmps W1 ha2 h2).mono ?_
    rintro e w' ⟨v, L', rfl, hw', hP⟩
    have hl := hw'.rd (Rd.hd (R := R) (L := [(w.heap.size, .deferred (some []))] :: L') (g := w.heap.size + 1) (o := .loop (recL fn a.tmps ps assign body w.heap.size)))
    refine ⟨none, _, run_endLoop (r := recL fn a.tmps ps assign body w.heap.size) hl (by intro h; cases h), ?_⟩
    have h3 := (H.turn (.loop { recL fn a.tmps ps assign body w.heap.size with state := .exhausted }) hw').drop
    have hd : ({ a with defers := [{ target := .collected w.heap.size, args := #[] }] ++ a.defers } : Act) = dfr [{ target := .collected w.heap.size, args := #[] }] a := by unfold dfr; rw [hda]; rfl
    show Q .normal _ _
    rw [hd]
    exact hk _ _ hP a _ ha h3
theorem leaves_D {fn : Func} {Post : Ending → World → Prop} {D : Nat} {a : Act} {w : World} (ha : Rep n f a) (hw : H w0 R ([(D, .deferred (some []))] :: L) w) (hr : retK P fn n w0 R Post .ret f ([(D, .deferred none)] :: L)) : bodyPostM (FR none) m P fn Post .ret (dfr [{ target := .collected D, args := #[] }] a) w := by
  have hk := hw.rd (Rd.hd (R := R) (L := L) (g := D) (o := .deferred (some [])))
  have hda : (dfr [{ target := .collected D, args := #[] }] a).defers = [{ target := .collected D, args := #[] }] := by
    show a.defers ++ _ = _
    rw [ha.2.1]; rfl
  show LeavesInM (FR none) m P fn _ Post _ .returning w
  rw [hda]
  obtain ⟨v, h1, h2⟩ := hr a _ ha (H.turn (.deferred none) hw)
  exact ⟨(by intro h; cases h), .inl ⟨D, _, rfl, run_takeDeferred hk, ⟨v, h1, h2⟩⟩⟩
theorem calls_of_D {fid : FuncId} {fn : Func} {c : Code} {args : List Value} {Post : Ending → World → Prop} {w : World} (hf : P.funcs[fid]? = some fn) (hn : fn.ntmps = n) (hb : fn.body = some c) (hsz : Nat.ble args.length n = true) (hw : H w0 R L w)
    (h : ∀ a, Rep n (fr0 args) a → c.wpIn (FR none) m P (bodyPostM (FR none) m P fn Post) a w) : Calls P fid args.toArray w Post := by
  have h1 : CallsIn Fence.wide m P fid args.toArray w Post := callsIn_of_wp_marks (F := Fence.wide) hf hb trivial (by
    rw [hn]
    exact h _ (fr0_rep (Nat.le_of_ble_eq_true hsz)))
  exact callsIn_wide.1 h1
def JW (ds : List Deferred) (m : Nat) (P : Program) (n : Nat) (w0 : World) (R : Heap) (c : Code) (Q : Exit → Act → World → Prop) (f : Fr) (L : List Heap) : Prop :=
  ∀ a w, Rep n f a → H w0 R L w → c.wpIn (FR none) m P Q (dfr ds a) w
def toW (m : Nat) (P : Program) (n : Nat) (w0 : World) (R : Heap) (y : Code) (Q : Exit → Act → World → Prop) : Exit → Fr → List Heap → Prop
  | .normal, f, L => JW [] m P n w0 R y Q f L
  | _, _, _ => False
theorem toW.nn {y : Code} {Q : Exit → Act → World → Prop} (h : JW [] m P n w0 R y Q f L) : toW m P n w0 R y Q .normal f L := h
theorem JW.seqC {x y : Code} {Q : Exit → Act → World → Prop} (h : JC P n w0 R x (toW m P n w0 R y Q) f L) : JW [] m P n w0 R (.seq x y) Q f L := fun a w ha hw => by
  rw [dfr_nil]
  refine wpIn_seq (wpIn_mono (wpIn_wide.2 (h a w ha hw) : x.wpIn (FR none) m P _ a w) ?_)
  intro e a' w' q
  cases e with
  | normal =>
    obtain ⟨f', L', ha', hw', hk⟩ := q
    have := hk a' w' ha' hw'
    rw [dfr_nil] at this
    exact this
  | ret => obtain ⟨_, _, _, _, q⟩ := q; exact q.elim
  | exit id => obtain ⟨_, _, _, _, q⟩ := q; exact q.elim
  | goto t => obtain ⟨_, _, _, _, q⟩ := q; exact q.elim
  | panic c => obtain ⟨_, _, _, _, q⟩ := q; exact q.elim
  | outgrown => exact q.elim
end
end Go.Cx
namespace Go.Cx
open Go Go.RowKit
set_option linter.unusedVariables false
set_option linter.unusedSimpArgs false
section
variable {rd : Option Nat} {m : Nat} {P : Program} {n : Nat} {w0 : World} {R : Heap} {K : Exit → Fr → List Heap → Prop} {f : Fr} {L : List Heap}
theorem JR.draw {id : Nat} {l0 : List Oper} (hm : P.follows .mixedOrders = true) (h : JA [] m P n w0 R l0 (QW n w0 R K) l0.length (Array.replicate l0.length false) f L) : JR none m P n w0 R (.region id l0.toArray true) K f L := fun a w ha hw => by
  have := JA.start (id := id) hm h ha hw
  rwa [dfr_nil] at this
theorem roundsR {c : Code} (ws : Nat → Bool) (I : Nat → Fr → List Heap → Prop) (f0 : Fr) (round : ∀ k g L', I k g L' → JR rd m P n w0 R c (loopK ws f0 I k K) (havoc ws f0 g) L') : ∀ k j, j ≤ k → ∀ g L', Ag ws f0 g → I j g L' → ∀ a w, Rep n g a → H w0 R L' w → Code.roundsIn (FR rd) m P c (QW n w0 R K) (k + 1) a w
  | k, j, hj, g, L', hag, hI, a, w, ha, hw => by
    have hr := round j g L' hI
    rw [hag.eq] at hr
    show c.wpIn _ _ _ _ _ _
    refine wpIn_mono (hr a w ha hw) ?_
    intro e a' w' q
    cases e with
    | normal =>
      obtain ⟨f', L'', ha', hw', h1, m', h2, J, L3, hp, h3⟩ := q
      cases k with
      | zero => omega
      | succ k => exact roundsR ws I f0 round k m' (by omega) f' L3 h1 h3 a' w' ha' (hw'.perm hp).drops
    | ret => exact q
    | exit id => exact q
    | goto t => exact q
    | panic c => exact q
    | outgrown => exact q
theorem JR.loop {c : Code} (ws : Nat → Bool) (I : Nat → Fr → List Heap → Prop) (m0 : Nat) (h0 : I m0 f L)
    (round : ∀ k g L', I k g L' → JR rd m P n w0 R c (loopK ws f I k K) (havoc ws f g) L') : JR rd m P n w0 R (.loop c) K f L := fun a w ha hw =>
  wpIn_loop_rounds (m0 + 1) (roundsR ws I f round m0 m0 (Nat.le_refl _) f L Ag.rfl' h0 a w ha hw)
theorem calls_inR {fid : FuncId} {fn : Func} {c : Code} {args : List Value} {Post : Ending → World → Prop} {w : World}
    (hf : P.funcs[fid]? = some fn) (hn : fn.ntmps = n) (hb : fn.body = some c) (hsz : Nat.ble args.length n = true) (hH : H w0 R L w) (h : JR none m P n w0 R c (retK P fn n w0 R Post) (fr0 args) L) : CallsIn (FR none) m P fid args.toArray w Post := by
  refine callsIn_of_wp hf hb trivial ?_
  rw [hn]
  refine wpIn_mono (h _ w (fr0_rep (Nat.le_of_ble_eq_true hsz)) hH) ?_
  intro e a' w' q
  cases e with
  | normal =>
    obtain ⟨f', L', ha', hw', hk⟩ := q
    obtain ⟨v, h1, h2⟩ := hk a' w' ha' hw'
    exact ⟨ha'.2.1, v, h1, h2⟩
  | ret =>
    obtain ⟨f', L', ha', hw', hk⟩ := q
    obtain ⟨v, h1, h2⟩ := hk a' w' ha' hw'
    exact ⟨ha'.2.1, v, h1, h2⟩
  | exit i => obtain ⟨_, _, _, _, hk⟩ := q; exact hk.elim
  | goto i => obtain ⟨_, _, _, _, hk⟩ := q; exact hk.elim
  | panic i => obtain ⟨_, _, _, _, hk⟩ := q; exact hk.elim
  | outgrown => exact q.elim
def noP (K : Exit → Fr → List Heap → Prop) : Prop := ∀ c f L, ¬ K (.panic c) f L
theorem noP.thenR {y : Code} (h : noP K) : noP (thenR rd m P n w0 R y K) := h
theorem noP.blockK {id : Nat} (h : noP K) : noP (Cx.blockK id K) := h
theorem noP.loopK {ws : Nat → Bool} {f0 : Fr} {I : Nat → Fr → List Heap → Prop} {k : Nat} (h : noP K) : noP (Cx.loopK ws f0 I k K) := h
theorem noP.retK {fn : Func} {Post : Ending → World → Prop} : noP (Cx.retK P fn n w0 R Post) := fun _ _ _ h => h
theorem noP.qw (h : noP K) : ∀ c a w, ¬ QW n w0 R K (.panic c) a w := fun c a w ⟨f, L, _, _, q⟩ => h c f L q
end
end Go.Cx
