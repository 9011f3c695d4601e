/- SiftSwaps: part 8. -/
import Derived.Test.YtbhgahjeocnfcaaSwG
namespace Go.Proofs.Ytbhgahjeocnfcaa
open Go Go.Cx Go.RowKit
set_option linter.unusedVariables false
set_option linter.unusedSimpArgs false
set_option maxHeartbeats 4000000
attribute [local irreducible] J JC thenK blockK loopK drawK retK QW Qt pel List.set Calls
open Go.Maps Go.Lib
set_option maxRecDepth 8000
attribute [local irreducible] JE Br eK0 eK3 brK pc
theorem same31_any (f g : List Bool) (af ag : Option Addr) (cf cg : Nat) (h : Heap) (sf : SlT encBo 1 af f h) (sg : SlT encBo 1 ag g h) (hlen : f.length = g.length) (hl : f.length ≤ 100000) (w : World) (hw1 : Holds h w) :
    Calls Try.prog 149 #[.slice af f.length cf, .slice ag g.length cg] w fun e w' => e = .returned (.bool (decide (f = g))) ∧ Below w.heap.size w w' := by
  have q0 : ∀ L, RdH h L h := fun L => RdH.old fun _ hh => hh
  refine calls_of_JC (R := h) Try.func149 Try.ntmps149 rfl rfl (hw1) ?_
  repeat' first
    | (refine J.isJ ?_; first | (fail) | (first | (refine J.o 0 ?_; refine J.ev' hΓ ?_) | refine J.nil ?_ | (refine J.o 4 ?_; first | refine J.lT default hΓ ?_) | (refine J.o 3 ?_; first | refine J.iJ hΓ ?_ | refine J.ev' hΓ ?_) | (refine J.o 1 ?_; first | refine J.ad ?_) | (refine J.o 10 ?_; refine J.ev' hΓ ?_) | (refine J.o 11 ?_; refine J.ev' hΓ ?_)))
    | (first | refine JC.seq ?_ | refine JC.region ?_ | refine JC.block ?_ | refine JC.ret ?_ | refine JC.exit ?_ | refine JC.skip ?_ | refine thenK.nn ?_ | refine thenK.r ?_ | refine thenK.x ?_ | refine blockK.nn ?_ | refine blockK.r ?_ | refine blockK.hit rfl ?_ | (refine JC.cond rfl (fun hc => ?_) (fun hc => ?_) <;> ((try simp only [decide_eq_true_eq, decide_eq_false_iff_not, beq_iff_eq, beq_eq_false_iff_ne, bne_iff_ne, bne_eq_false_iff_eq, Bool.not_eq_true', Bool.not_eq_false', Bool.not_eq_true, Bool.not_eq_false] at hc) <;> first | (first | (exact absurd rfl hc) | (exfalso; omega) | (exact absurd (hc.symm.trans (by assumption : _ = false)) (by decide)) | (exact absurd (hc.symm.trans (by assumption : _ = true)) (by decide))) | skip)) | refine drawK.nn ?_ | refine loopK.r ?_ | refine loopK.x ?_)
    | (fail)
    | fail
  all_goals first | (exfalso; omega) | skip
  refine JC.loop (fun i => i == 4 || i == 5 || Nat.ble 6 i) (fun m gg L => ∃ q : Nat, gg 5 = .int .i64 (q : Int) ∧ q + m = f.length ∧ (∀ j, j < q → f.getD j default = g.getD j default) ∧ L = []) f.length ⟨0, rfl, by omega, fun j hj => absurd hj (Nat.not_lt_zero _), rfl⟩ ?_
  rintro m gg L ⟨q, e5, hqm, heq, rfl⟩
  refine JC.pin 5 e5 ?_
  rcases Nat.lt_or_ge q f.length with hq | hq
  ·
    by_cases hx : f.getD q default = g.getD q default
    ·
      have hd : (f.getD q default != g.getD q default) = false := by rw [hx]; simp
      repeat' first
        | (refine J.isJ ?_; first | (first | (refine J.o 3 ?_; first | refine J.iJ hΓ ?_ (hs := sf) | refine J.iJ hΓ ?_ (hs := sg)) | (refine J.o 4 ?_; first | refine J.lT default hΓ ?_ (hs := sf) (hr := q0 _) | refine J.lT default hΓ ?_ (hs := sg) (hr := q0 _)) | (refine J.o 11 ?_; refine J.ev' hΓ ?_; rw [hd])) | (first | (refine J.o 0 ?_; refine J.ev' hΓ ?_) | refine J.nil ?_ | (refine J.o 4 ?_; first | refine J.lT default hΓ ?_) | (refine J.o 3 ?_; first | refine J.iJ hΓ ?_ | refine J.ev' hΓ ?_) | (refine J.o 1 ?_; first | refine J.ad ?_) | (refine J.o 10 ?_; refine J.ev' hΓ ?_) | (refine J.o 11 ?_; refine J.ev' hΓ ?_)))
        | (first | refine JC.seq ?_ | refine JC.region ?_ | refine JC.block ?_ | refine JC.ret ?_ | refine JC.exit ?_ | refine JC.skip ?_ | refine thenK.nn ?_ | refine thenK.r ?_ | refine thenK.x ?_ | refine blockK.nn ?_ | refine blockK.r ?_ | refine blockK.hit rfl ?_ | (refine JC.cond rfl (fun hc => ?_) (fun hc => ?_) <;> ((try simp only [decide_eq_true_eq, decide_eq_false_iff_not, beq_iff_eq, beq_eq_false_iff_ne, bne_iff_ne, bne_eq_false_iff_eq, Bool.not_eq_true', Bool.not_eq_false', Bool.not_eq_true, Bool.not_eq_false] at hc) <;> first | (first | (exact absurd rfl hc) | (exfalso; omega) | (exact absurd (hc.symm.trans (by assumption : _ = false)) (by decide)) | (exact absurd (hc.symm.trans (by assumption : _ = true)) (by decide))) | skip)) | refine drawK.nn ?_ | refine loopK.r ?_ | refine loopK.x ?_)
        | ((refine JC.drawW [] [] (by kernel_rfl) (by kernel_rfl) ?_))
        | fail
      all_goals first | (exfalso; omega) | (exact absurd hx ‹_›) | (exact absurd ‹_› hx) | skip
      refine loopK.nn (m - 1) (by omega) (by repeat (first | refine Ag.upd rfl ?_ | exact Ag.hv)) ⟨q + 1, ?_, by omega, fun j hj => ?_, rfl⟩
      · show Value.int .i64 _ = _; congr 1
      · rcases Nat.lt_or_ge j q with g1 | g1
        · exact heq j g1
        · obtain rfl : j = q := by omega
          exact hx
    ·
      have hd : (f.getD q default != g.getD q default) = true := by simpa using hx
      rw [decide_eq_false (fun e => hx (by rw [e]))]
      repeat' first
        | (refine J.isJ ?_; first | (first | (refine J.o 3 ?_; first | refine J.iJ hΓ ?_ (hs := sf) | refine J.iJ hΓ ?_ (hs := sg)) | (refine J.o 4 ?_; first | refine J.lT default hΓ ?_ (hs := sf) (hr := q0 _) | refine J.lT default hΓ ?_ (hs := sg) (hr := q0 _)) | (refine J.o 11 ?_; refine J.ev' hΓ ?_; rw [hd])) | (first | (refine J.o 0 ?_; refine J.ev' hΓ ?_) | refine J.nil ?_ | (refine J.o 4 ?_; first | refine J.lT default hΓ ?_) | (refine J.o 3 ?_; first | refine J.iJ hΓ ?_ | refine J.ev' hΓ ?_) | (refine J.o 1 ?_; first | refine J.ad ?_) | (refine J.o 10 ?_; refine J.ev' hΓ ?_) | (refine J.o 11 ?_; refine J.ev' hΓ ?_)))
        | (first | refine JC.seq ?_ | refine JC.region ?_ | refine JC.block ?_ | refine JC.ret ?_ | refine JC.exit ?_ | refine JC.skip ?_ | refine thenK.nn ?_ | refine thenK.r ?_ | refine thenK.x ?_ | refine blockK.nn ?_ | refine blockK.r ?_ | refine blockK.hit rfl ?_ | (refine JC.cond rfl (fun hc => ?_) (fun hc => ?_) <;> ((try simp only [decide_eq_true_eq, decide_eq_false_iff_not, beq_iff_eq, beq_eq_false_iff_ne, bne_iff_ne, bne_eq_false_iff_eq, Bool.not_eq_true', Bool.not_eq_false', Bool.not_eq_true, Bool.not_eq_false] at hc) <;> first | (first | (exact absurd rfl hc) | (exfalso; omega) | (exact absurd (hc.symm.trans (by assumption : _ = false)) (by decide)) | (exact absurd (hc.symm.trans (by assumption : _ = true)) (by decide))) | skip)) | refine drawK.nn ?_ | refine loopK.r ?_ | refine loopK.x ?_)
        | ((refine JC.drawW [] [] (by kernel_rfl) (by kernel_rfl) ?_))
        | fail
      all_goals first | (exfalso; omega) | (exact absurd hx ‹_›) | (exact absurd ‹_› hx) | skip
      all_goals (refine ret1f rfl rfl rfl (fun w1 hw => ⟨rfl, hw.below⟩))
  ·
    have he : f = g := by
      refine list_eq hlen fun i hi => heq i (by omega)
    rw [decide_eq_true he]
    repeat' first
      | (refine J.isJ ?_; first | (fail) | (first | (refine J.o 0 ?_; refine J.ev' hΓ ?_) | refine J.nil ?_ | (refine J.o 4 ?_; first | refine J.lT default hΓ ?_) | (refine J.o 3 ?_; first | refine J.iJ hΓ ?_ | refine J.ev' hΓ ?_) | (refine J.o 1 ?_; first | refine J.ad ?_) | (refine J.o 10 ?_; refine J.ev' hΓ ?_) | (refine J.o 11 ?_; refine J.ev' hΓ ?_)))
      | (first | refine JC.seq ?_ | refine JC.region ?_ | refine JC.block ?_ | refine JC.ret ?_ | refine JC.exit ?_ | refine JC.skip ?_ | refine thenK.nn ?_ | refine thenK.r ?_ | refine thenK.x ?_ | refine blockK.nn ?_ | refine blockK.r ?_ | refine blockK.hit rfl ?_ | (refine JC.cond rfl (fun hc => ?_) (fun hc => ?_) <;> ((try simp only [decide_eq_true_eq, decide_eq_false_iff_not, beq_iff_eq, beq_eq_false_iff_ne, bne_iff_ne, bne_eq_false_iff_eq, Bool.not_eq_true', Bool.not_eq_false', Bool.not_eq_true, Bool.not_eq_false] at hc) <;> first | (first | (exact absurd rfl hc) | (exfalso; omega) | (exact absurd (hc.symm.trans (by assumption : _ = false)) (by decide)) | (exact absurd (hc.symm.trans (by assumption : _ = true)) (by decide))) | skip)) | refine drawK.nn ?_ | refine loopK.r ?_ | refine loopK.x ?_)
      | (fail)
      | fail
    all_goals first | (exfalso; omega) | skip
    all_goals (refine ret1f rfl rfl rfl (fun w1 hw => ⟨rfl, hw.below⟩))
theorem const31_any (f : List Bool) (af : Option Addr) (cf : Nat) (h : Heap) (sf : SlT encBo 1 af f h) (hl : f.length ≤ 100000) (w : World) (hw1 : Holds h w) :
    Calls Try.prog 148 #[.slice af f.length cf] w fun e w' => e = .returned (.bool (decide (cstT f))) ∧ Below w.heap.size w w' := by
  have q0 : ∀ L, RdH h L h := fun L => RdH.old fun _ hh => hh
  refine calls_of_JC (R := h) Try.func148 Try.ntmps148 rfl rfl (hw1) ?_
  repeat' first
    | (refine J.isJ ?_; first | (fail) | (first | (refine J.o 0 ?_; refine J.ev' hΓ ?_) | refine J.nil ?_ | (refine J.o 4 ?_; first | refine J.lT default hΓ ?_) | (refine J.o 3 ?_; first | refine J.iJ hΓ ?_ | refine J.ev' hΓ ?_) | (refine J.o 1 ?_; first | refine J.ad ?_) | (refine J.o 10 ?_; refine J.ev' hΓ ?_) | (refine J.o 11 ?_; refine J.ev' hΓ ?_)))
    | (first | refine JC.seq ?_ | refine JC.region ?_ | refine JC.block ?_ | refine JC.ret ?_ | refine JC.exit ?_ | refine JC.skip ?_ | refine thenK.nn ?_ | refine thenK.r ?_ | refine thenK.x ?_ | refine blockK.nn ?_ | refine blockK.r ?_ | refine blockK.hit rfl ?_ | (refine JC.cond rfl (fun hc => ?_) (fun hc => ?_) <;> ((try simp only [decide_eq_true_eq, decide_eq_false_iff_not, beq_iff_eq, beq_eq_false_iff_ne, bne_iff_ne, bne_eq_false_iff_eq, Bool.not_eq_true', Bool.not_eq_false', Bool.not_eq_true, Bool.not_eq_false] at hc) <;> first | (first | (exact absurd rfl hc) | (exfalso; omega) | (exact absurd (hc.symm.trans (by assumption : _ = false)) (by decide)) | (exact absurd (hc.symm.trans (by assumption : _ = true)) (by decide))) | skip)) | refine drawK.nn ?_ | refine loopK.r ?_ | refine loopK.x ?_)
    | (fail)
    | fail
  all_goals first | (exfalso; omega) | skip
  refine JC.loop (fun i => i == 2 || i == 3 || Nat.ble 4 i) (fun m gg L => ∃ q : Nat, gg 3 = .int .i64 (q : Int) ∧ q + m = f.length ∧ (∀ j, j < q → f.getD j default = f.getD 0 default) ∧ L = []) f.length ⟨0, rfl, by omega, fun j hj => absurd hj (Nat.not_lt_zero _), rfl⟩ ?_
  rintro m gg L ⟨q, e5, hqm, heq, rfl⟩
  refine JC.pin 3 e5 ?_
  rcases Nat.lt_or_ge q f.length with hq | hq
  ·
    by_cases hx : f.getD q default = f.getD 0 default
    ·
      have hd : (f.getD q default != f.getD 0 default) = false := by rw [hx]; simp
      repeat' first
        | (refine J.isJ ?_; first | (first | (refine J.o 3 ?_; refine J.iJ hΓ ?_ (hs := sf)) | (refine J.o 4 ?_; refine J.lT default hΓ ?_ (hs := sf) (hr := q0 _)) | (refine J.o 11 ?_; refine J.ev' hΓ ?_; rw [hd])) | (first | (refine J.o 0 ?_; refine J.ev' hΓ ?_) | refine J.nil ?_ | (refine J.o 4 ?_; first | refine J.lT default hΓ ?_) | (refine J.o 3 ?_; first | refine J.iJ hΓ ?_ | refine J.ev' hΓ ?_) | (refine J.o 1 ?_; first | refine J.ad ?_) | (refine J.o 10 ?_; refine J.ev' hΓ ?_) | (refine J.o 11 ?_; refine J.ev' hΓ ?_)))
        | (first | refine JC.seq ?_ | refine JC.region ?_ | refine JC.block ?_ | refine JC.ret ?_ | refine JC.exit ?_ | refine JC.skip ?_ | refine thenK.nn ?_ | refine thenK.r ?_ | refine thenK.x ?_ | refine blockK.nn ?_ | refine blockK.r ?_ | refine blockK.hit rfl ?_ | (refine JC.cond rfl (fun hc => ?_) (fun hc => ?_) <;> ((try simp only [decide_eq_true_eq, decide_eq_false_iff_not, beq_iff_eq, beq_eq_false_iff_ne, bne_iff_ne, bne_eq_false_iff_eq, Bool.not_eq_true', Bool.not_eq_false', Bool.not_eq_true, Bool.not_eq_false] at hc) <;> first | (first | (exact absurd rfl hc) | (exfalso; omega) | (exact absurd (hc.symm.trans (by assumption : _ = false)) (by decide)) | (exact absurd (hc.symm.trans (by assumption : _ = true)) (by decide))) | skip)) | refine drawK.nn ?_ | refine loopK.r ?_ | refine loopK.x ?_)
        | ((refine JC.drawW [] [] (by kernel_rfl) (by kernel_rfl) ?_))
        | fail
      all_goals first | (exfalso; omega) | (exact absurd hx ‹_›) | (exact absurd ‹_› hx) | skip
      refine loopK.nn (m - 1) (by omega) (by repeat (first | refine Ag.upd rfl ?_ | exact Ag.hv)) ⟨q + 1, ?_, by omega, fun j hj => ?_, rfl⟩
      · show Value.int .i64 _ = _; congr 1
      · rcases Nat.lt_or_ge j q with g1 | g1
        · exact heq j g1
        · obtain rfl : j = q := by omega
          exact hx
    ·
      have hd : (f.getD q default != f.getD 0 default) = true := by simpa using hx
      rw [decide_eq_false (fun e => hx (e q hq))]
      repeat' first
        | (refine J.isJ ?_; first | (first | (refine J.o 3 ?_; refine J.iJ hΓ ?_ (hs := sf)) | (refine J.o 4 ?_; refine J.lT default hΓ ?_ (hs := sf) (hr := q0 _)) | (refine J.o 11 ?_; refine J.ev' hΓ ?_; rw [hd])) | (first | (refine J.o 0 ?_; refine J.ev' hΓ ?_) | refine J.nil ?_ | (refine J.o 4 ?_; first | refine J.lT default hΓ ?_) | (refine J.o 3 ?_; first | refine J.iJ hΓ ?_ | refine J.ev' hΓ ?_) | (refine J.o 1 ?_; first | refine J.ad ?_) | (refine J.o 10 ?_; refine J.ev' hΓ ?_) | (refine J.o 11 ?_; refine J.ev' hΓ ?_)))
        | (first | refine JC.seq ?_ | refine JC.region ?_ | refine JC.block ?_ | refine JC.ret ?_ | refine JC.exit ?_ | refine JC.skip ?_ | refine thenK.nn ?_ | refine thenK.r ?_ | refine thenK.x ?_ | refine blockK.nn ?_ | refine blockK.r ?_ | refine blockK.hit rfl ?_ | (refine JC.cond rfl (fun hc => ?_) (fun hc => ?_) <;> ((try simp only [decide_eq_true_eq, decide_eq_false_iff_not, beq_iff_eq, beq_eq_false_iff_ne, bne_iff_ne, bne_eq_false_iff_eq, Bool.not_eq_true', Bool.not_eq_false', Bool.not_eq_true, Bool.not_eq_false] at hc) <;> first | (first | (exact absurd rfl hc) | (exfalso; omega) | (exact absurd (hc.symm.trans (by assumption : _ = false)) (by decide)) | (exact absurd (hc.symm.trans (by assumption : _ = true)) (by decide))) | skip)) | refine drawK.nn ?_ | refine loopK.r ?_ | refine loopK.x ?_)
        | ((refine JC.drawW [] [] (by kernel_rfl) (by kernel_rfl) ?_))
        | fail
      all_goals first | (exfalso; omega) | (exact absurd hx ‹_›) | (exact absurd ‹_› hx) | skip
      all_goals (refine ret1f rfl rfl rfl (fun w1 hw => ⟨rfl, hw.below⟩))
  ·
    rw [decide_eq_true (show cstT f from fun j hj => heq j (by omega))]
    repeat' first
      | (refine J.isJ ?_; first | (fail) | (first | (refine J.o 0 ?_; refine J.ev' hΓ ?_) | refine J.nil ?_ | (refine J.o 4 ?_; first | refine J.lT default hΓ ?_) | (refine J.o 3 ?_; first | refine J.iJ hΓ ?_ | refine J.ev' hΓ ?_) | (refine J.o 1 ?_; first | refine J.ad ?_) | (refine J.o 10 ?_; refine J.ev' hΓ ?_) | (refine J.o 11 ?_; refine J.ev' hΓ ?_)))
      | (first | refine JC.seq ?_ | refine JC.region ?_ | refine JC.block ?_ | refine JC.ret ?_ | refine JC.exit ?_ | refine JC.skip ?_ | refine thenK.nn ?_ | refine thenK.r ?_ | refine thenK.x ?_ | refine blockK.nn ?_ | refine blockK.r ?_ | refine blockK.hit rfl ?_ | (refine JC.cond rfl (fun hc => ?_) (fun hc => ?_) <;> ((try simp only [decide_eq_true_eq, decide_eq_false_iff_not, beq_iff_eq, beq_eq_false_iff_ne, bne_iff_ne, bne_eq_false_iff_eq, Bool.not_eq_true', Bool.not_eq_false', Bool.not_eq_true, Bool.not_eq_false] at hc) <;> first | (first | (exact absurd rfl hc) | (exfalso; omega) | (exact absurd (hc.symm.trans (by assumption : _ = false)) (by decide)) | (exact absurd (hc.symm.trans (by assumption : _ = true)) (by decide))) | skip)) | refine drawK.nn ?_ | refine loopK.r ?_ | refine loopK.x ?_)
      | (fail)
      | fail
    all_goals first | (exfalso; omega) | skip
    all_goals (refine ret1f rfl rfl rfl (fun w1 hw => ⟨rfl, hw.below⟩))
theorem take_succ_g {α : Type} [Inhabited α] (l : List α) (k : Nat) (h : k < l.length) : l.take (k + 1) = l.take k ++ [l.getD k default] := by
  rw [List.take_add_one, List.getD_eq_getElem?_getD, List.getElem?_eq_getElem h]; rfl
theorem asg31_any (l : List Int) (ho : okOrd l) (al : Option Addr) (cl : Nat) (hl : Heap) (hsl : SlT encI 1 al l hl) (k : Nat) (hk : k ≤ l.length) (hk8 : k ≤ 8) (w : World) (hw1 : Holds hl w) :
    Calls Try.prog 146 #[.slice al l.length cl, .int .i64 (k : Int)] w (Gives (Sls encS 2 53 (asgL l k)) w) := by
  have q0 : ∀ L, RdH hl L hl := fun L => RdH.old fun _ hh => hh
  have hll := ord_le l ho
  refine calls_of_JC (R := hl) Try.func146 Try.ntmps146 rfl rfl (hw1) ?_
  repeat' first
    | (refine J.isJ ?_; first | ((refine J.o 9 ?_; refine J.bl (e := 53) hΓ (fun bl => ?_))) | (first | (refine J.o 0 ?_; refine J.ev' hΓ ?_) | refine J.nil ?_ | (refine J.o 4 ?_; first | refine J.lT default hΓ ?_) | (refine J.o 3 ?_; first | refine J.iJ hΓ ?_ | refine J.ev' hΓ ?_) | (refine J.o 1 ?_; first | refine J.ad ?_) | (refine J.o 8 ?_; refine J.bd hΓ ?_) | (refine J.o 9 ?_; refine J.bl hΓ (fun _ => ?_)) | (refine J.o 10 ?_; refine J.ev' hΓ ?_) | (refine J.o 11 ?_; refine J.ev' hΓ ?_)))
    | (first | refine JC.seq ?_ | refine JC.region ?_ | refine JC.block ?_ | refine JC.ret ?_ | refine JC.exit ?_ | refine JC.skip ?_ | refine thenK.nn ?_ | refine thenK.x ?_ | refine blockK.nn ?_ | refine blockK.hit rfl ?_ | (refine JC.cond rfl (fun hc => ?_) (fun hc => ?_) <;> ((try simp only [decide_eq_true_eq, decide_eq_false_iff_not, beq_iff_eq, beq_eq_false_iff_ne, bne_iff_ne, bne_eq_false_iff_eq, Bool.not_eq_true', Bool.not_eq_false', Bool.not_eq_true, Bool.not_eq_false] at hc) <;> first | (first | (exact absurd rfl hc) | (exfalso; omega) | (exact absurd (hc.symm.trans (by assumption : _ = false)) (by decide)) | (exact absurd (hc.symm.trans (by assumption : _ = true)) (by decide))) | skip)) | refine drawK.nn ?_ | refine loopK.x ?_)
    | (fail)
    | fail
  all_goals first | (exfalso; omega) | skip
  refine JC.loopG (fun i => i == 5 || i == 6 || i == 7 || i == 8 || Nat.ble 11 i) (fun m g L' => ∃ (i : Nat) (a : Option Addr) (c : Nat) (hO : Heap), g 6 = .int .i64 (i : Int) ∧ i + m = k ∧ g 5 = .slice a (asgL l i).length c ∧ OwT encS 2 53 a c (asgL l i) hO ∧ L' = [hO]) k ⟨0, some ⟨bl, 0, none⟩, 1, _, rfl, by omega, rfl, ⟨fun _ => rfl, .inr ⟨_, _, rfl, rfl, rfl, Nat.le_refl _, rfl⟩⟩, rfl⟩ ?_
  rintro m g L' ⟨i, a, c, hO, e6, him, e5, oO, rfl⟩
  refine JC.pin 6 e6 (JC.pin 5 e5 ?_)
  clear e6 e5
  have hBl := asgL_len l i
  have hp : 2 ^ i ≤ 2 ^ 8 := Nat.pow_le_pow_right (by omega) (by omega)
  rcases Nat.lt_or_ge i k with hi | hi
  ·
    have hsucc : asgL l (i + 1) = asgL l i ++ (asgL l i).map fun s => withS s (l.getD i default) := rfl
    have hok := fun s hs => (asgL_ok ho i (by omega) s hs).1
    generalize asgL l i = B at *
    repeat' first
      | (refine J.isJ ?_; first | (fail) | (first | (refine J.o 0 ?_; refine J.ev' hΓ ?_) | refine J.nil ?_ | (refine J.o 4 ?_; first | refine J.lT default hΓ ?_) | (refine J.o 3 ?_; first | refine J.iJ hΓ ?_ | refine J.ev' hΓ ?_) | (refine J.o 1 ?_; first | refine J.ad ?_) | (refine J.o 8 ?_; refine J.bd hΓ ?_) | (refine J.o 9 ?_; refine J.bl hΓ (fun _ => ?_)) | (refine J.o 10 ?_; refine J.ev' hΓ ?_) | (refine J.o 11 ?_; refine J.ev' hΓ ?_)))
      | (first | refine JC.seq ?_ | refine JC.region ?_ | refine JC.block ?_ | refine JC.ret ?_ | refine JC.exit ?_ | refine JC.skip ?_ | refine thenK.nn ?_ | refine thenK.x ?_ | refine blockK.nn ?_ | refine blockK.hit rfl ?_ | (refine JC.cond rfl (fun hc => ?_) (fun hc => ?_) <;> ((try simp only [decide_eq_true_eq, decide_eq_false_iff_not, beq_iff_eq, beq_eq_false_iff_ne, bne_iff_ne, bne_eq_false_iff_eq, Bool.not_eq_true', Bool.not_eq_false', Bool.not_eq_true, Bool.not_eq_false] at hc) <;> first | (first | (exact absurd rfl hc) | (exfalso; omega) | (exact absurd (hc.symm.trans (by assumption : _ = false)) (by decide)) | (exact absurd (hc.symm.trans (by assumption : _ = true)) (by decide))) | skip)) | refine drawK.nn ?_ | refine loopK.x ?_)
      | (fail)
      | fail
    all_goals first | (exfalso; omega) | skip
    refine JC.loopG (fun i => i == 5 || i == 8 || Nat.ble 18 i) (fun m g L' => ∃ (q : Nat) (a : Option Addr) (c : Nat) (hO : Heap), g 8 = .int .i64 (q : Int) ∧ q + m = B.length ∧ g 5 = .slice a (B ++ (B.take q).map fun s => withS s (l.getD i default)).length c ∧ OwT encS 2 53 a c (B ++ (B.take q).map fun s => withS s (l.getD i default)) hO ∧ L' = [hO]) B.length ⟨0, a, c, _, rfl, by omega, by simp; rfl, by simpa using oO, rfl⟩ ?_
    clear oO
    rintro m2 g2 L' ⟨q, a2, c2, h2, e8, hqm, e5, o2, rfl⟩
    refine JC.pin 8 e8 (JC.pin 5 e5 ?_)
    clear e8 e5
    rcases Nat.lt_or_ge q B.length with hq | hq
    ·
      have hts : (B.take (q + 1)).map (fun s => withS s (l.getD i default)) = (B.take q).map (fun s => withS s (l.getD i default)) ++ [withS (B.getD q default) (l.getD i default)] := by
        rw [take_succ_g B q hq, List.map_append]; rfl
      have hget : (B ++ (B.take q).map fun s => withS s (l.getD i default)).getD q default = B.getD q default := by
        rw [List.getD_eq_getElem?_getD, List.getElem?_append_left hq, ← List.getD_eq_getElem?_getD]
      have hlen : (B ++ (B.take q).map fun s => withS s (l.getD i default)).length = B.length + q := by
        rw [List.length_append, List.length_map, List.length_take]; omega
      have cW := fun w => with3_any (B.getD q default) (hok _ (mem_g B q hq)) (l.getD i default) (ho.1 _ (mem_g l i (by omega))) w
      generalize hM : (B ++ (B.take q).map fun s => withS s (l.getD i default)) = M at *
      repeat' first
        | (refine J.isJ ?_; first | (first | (refine J.o 3 ?_; first | refine J.iJ hΓ ?_ (hs := o2.sl) | refine J.iJ hΓ ?_ (hs := hsl)) | (refine J.o 4 ?_; first | (refine J.lT default hΓ ?_ (hs := o2.sl) (hr := RdH.hd); rw [hget]) | refine J.lT default hΓ ?_ (hs := hsl) (hr := q0 _)) | (refine J.fc 89 ?_; refine J.call0 eWith3 rfl rfl (fun w hw => cW w) ?_) | (refine J.o 9 ?_; first | (first | (refine J.ap1 (enc := encS) [withS (B.getD q default) (l.getD i default)] hΓ (fun a4 c4 h4 o4 => ?_))))) | (first | (refine J.o 0 ?_; refine J.ev' hΓ ?_) | refine J.nil ?_ | (refine J.o 4 ?_; first | refine J.lT default hΓ ?_) | (refine J.o 3 ?_; first | refine J.iJ hΓ ?_ | refine J.ev' hΓ ?_) | (refine J.o 1 ?_; first | refine J.ad ?_) | (refine J.o 8 ?_; refine J.bd hΓ ?_) | (refine J.o 9 ?_; refine J.bl hΓ (fun _ => ?_)) | (refine J.o 10 ?_; refine J.ev' hΓ ?_) | (refine J.o 11 ?_; refine J.ev' hΓ ?_)))
        | (first | refine JC.seq ?_ | refine JC.region ?_ | refine JC.block ?_ | refine JC.ret ?_ | refine JC.exit ?_ | refine JC.skip ?_ | refine thenK.nn ?_ | refine thenK.x ?_ | refine blockK.nn ?_ | refine blockK.hit rfl ?_ | (refine JC.cond rfl (fun hc => ?_) (fun hc => ?_) <;> ((try simp only [decide_eq_true_eq, decide_eq_false_iff_not, beq_iff_eq, beq_eq_false_iff_ne, bne_iff_ne, bne_eq_false_iff_eq, Bool.not_eq_true', Bool.not_eq_false', Bool.not_eq_true, Bool.not_eq_false] at hc) <;> first | (first | (exact absurd rfl hc) | (exfalso; omega) | (exact absurd (hc.symm.trans (by assumption : _ = false)) (by decide)) | (exact absurd (hc.symm.trans (by assumption : _ = true)) (by decide))) | skip)) | refine drawK.nn ?_ | refine loopK.x ?_)
        | ((first | refine JC.drawW [] [] (by kernel_rfl) (by kernel_rfl) ?_))
        | fail
      all_goals first | (exfalso; omega) | skip
      have hM2 : B ++ (B.take (q + 1)).map (fun s => withS s (l.getD i default)) = M ++ [withS (B.getD q default) (l.getD i default)] := by rw [hts, ← List.append_assoc, hM]
      refine loopK.nn (m2 - 1) (by omega) (by repeat (first | refine Ag.upd rfl ?_ | exact Ag.hv)) ⟨_, ⟨q + 1, a4, c4, h4, ?_, by omega, by rw [hM2]; rfl, by rw [hM2]; exact o4, rfl⟩, fun w hw => hw⟩
      show Value.int .i64 _ = _; congr 1
    ·
      obtain rfl : q = B.length := by omega
      rw [List.take_length, ← hsucc] at o2 ⊢
      repeat' first
        | (refine J.isJ ?_; first | (fail) | (first | (refine J.o 0 ?_; refine J.ev' hΓ ?_) | refine J.nil ?_ | (refine J.o 4 ?_; first | refine J.lT default hΓ ?_) | (refine J.o 3 ?_; first | refine J.iJ hΓ ?_ | refine J.ev' hΓ ?_) | (refine J.o 1 ?_; first | refine J.ad ?_) | (refine J.o 8 ?_; refine J.bd hΓ ?_) | (refine J.o 9 ?_; refine J.bl hΓ (fun _ => ?_)) | (refine J.o 10 ?_; refine J.ev' hΓ ?_) | (refine J.o 11 ?_; refine J.ev' hΓ ?_)))
        | (first | refine JC.seq ?_ | refine JC.region ?_ | refine JC.block ?_ | refine JC.ret ?_ | refine JC.exit ?_ | refine JC.skip ?_ | refine thenK.nn ?_ | refine thenK.x ?_ | refine blockK.nn ?_ | refine blockK.hit rfl ?_ | (refine JC.cond rfl (fun hc => ?_) (fun hc => ?_) <;> ((try simp only [decide_eq_true_eq, decide_eq_false_iff_not, beq_iff_eq, beq_eq_false_iff_ne, bne_iff_ne, bne_eq_false_iff_eq, Bool.not_eq_true', Bool.not_eq_false', Bool.not_eq_true, Bool.not_eq_false] at hc) <;> first | (first | (exact absurd rfl hc) | (exfalso; omega) | (exact absurd (hc.symm.trans (by assumption : _ = false)) (by decide)) | (exact absurd (hc.symm.trans (by assumption : _ = true)) (by decide))) | skip)) | refine drawK.nn ?_ | refine loopK.x ?_)
        | (fail)
        | fail
      all_goals first | (exfalso; omega) | skip
      refine loopK.nn (m - 1) (by omega) (by repeat (first | refine Ag.upd rfl ?_ | exact Ag.hv | refine Ag.hv2 (fun i hi => by simp at hi ⊢; omega) ?_)) ⟨_, ⟨i + 1, a2, c2, h2, ?_, by omega, rfl, o2, rfl⟩, fun w hw => hw⟩
      show Value.int .i64 _ = _; congr 1
  ·
    obtain rfl : i = k := by omega
    repeat' first
      | (refine J.isJ ?_; first | (fail) | (first | (refine J.o 0 ?_; refine J.ev' hΓ ?_) | refine J.nil ?_ | (refine J.o 4 ?_; first | refine J.lT default hΓ ?_) | (refine J.o 3 ?_; first | refine J.iJ hΓ ?_ | refine J.ev' hΓ ?_) | (refine J.o 1 ?_; first | refine J.ad ?_) | (refine J.o 8 ?_; refine J.bd hΓ ?_) | (refine J.o 9 ?_; refine J.bl hΓ (fun _ => ?_)) | (refine J.o 10 ?_; refine J.ev' hΓ ?_) | (refine J.o 11 ?_; refine J.ev' hΓ ?_)))
      | (first | refine JC.seq ?_ | refine JC.region ?_ | refine JC.block ?_ | refine JC.ret ?_ | refine JC.exit ?_ | refine JC.skip ?_ | refine thenK.nn ?_ | refine thenK.x ?_ | refine blockK.nn ?_ | refine blockK.hit rfl ?_ | (refine JC.cond rfl (fun hc => ?_) (fun hc => ?_) <;> ((try simp only [decide_eq_true_eq, decide_eq_false_iff_not, beq_iff_eq, beq_eq_false_iff_ne, bne_iff_ne, bne_eq_false_iff_eq, Bool.not_eq_true', Bool.not_eq_false', Bool.not_eq_true, Bool.not_eq_false] at hc) <;> first | (first | (exact absurd rfl hc) | (exfalso; omega) | (exact absurd (hc.symm.trans (by assumption : _ = false)) (by decide)) | (exact absurd (hc.symm.trans (by assumption : _ = true)) (by decide))) | skip)) | refine drawK.nn ?_ | refine loopK.x ?_)
      | (fail)
      | fail
    all_goals first | (exfalso; omega) | skip
    exact ret1f rfl rfl rfl (fun w1 hw => Gives.of (H.sel (l := [_]) (M := []) hw [0]) ⟨a, c, rfl, oO⟩)
end Go.Proofs.Ytbhgahjeocnfcaa
namespace Go.Proofs.Ytbhgahjeocnfcaa
open Go Go.Cx Go.RowKit
set_option linter.unusedVariables false
set_option linter.unusedSimpArgs false
set_option maxHeartbeats 4000000
attribute [local irreducible] J JC thenK blockK loopK drawK retK QW Qt pel List.set Calls
open Go.Maps Go.Lib
set_option maxRecDepth 8000
attribute [local irreducible] JE Br eK0 eK3 brK pc
theorem eNodes31 : Entr Try.prog 121 := Entr.of Try.func121 rfl rfl
theorem eSize31 : Entr Try.prog 67 := Entr.of Try.func67 rfl rfl
theorem nodesT_succ (N : Nat) (l : List Int) (F : VF) (k : Nat) : nodesT N l F (k + 1) = (rowT N l F k).foldl stepT (nodesT N l F k) := by
  unfold nodesT
  rw [List.range_succ, List.flatMap_append, List.foldl_append]
  simp
theorem rowT_len (N : Nat) (l : List Int) (F : VF) (k : Nat) : (rowT N l F k).length = 2 ^ k := by unfold rowT; rw [List.length_map, asgL_len]
theorem rowT_get (N : Nat) (l : List Int) (F : VF) (k : Nat) {i : Nat} (hi : i < 2 ^ k) : (rowT N l F k).getD i default = tabX N (leftF l F k ((asgL l k).getD i default)) := by
  have h : i < (asgL l k).length := by rw [asgL_len]; exact hi
  unfold rowT
  rw [List.getD_eq_getElem?_getD, List.getElem?_map, List.getD_eq_getElem?_getD, List.getElem?_eq_getElem h]; rfl
theorem fresh_step (T : List (List Bool)) (G : List Bool) {j : Nat} (hj : j < T.length) :
    decide (¬ cstT G ∧ ∀ i, i < j + 1 → T.getD i default ≠ G) = (decide (¬ cstT G ∧ ∀ i, i < j → T.getD i default ≠ G) && !decide (T.getD j default = G)) := by
  rw [Bool.eq_iff_iff, Bool.and_eq_true, decide_eq_true_iff, decide_eq_true_iff, Bool.not_eq_true', decide_eq_false_iff_not]
  constructor
  · rintro ⟨h1, h2⟩; exact ⟨⟨h1, fun i hi => h2 i (by omega)⟩, h2 j (by omega)⟩
  · rintro ⟨⟨h1, h2⟩, h3⟩
    refine ⟨h1, fun i hi => ?_⟩
    rcases Nat.lt_or_ge i j with g | g
    · exact h2 i g
    · obtain rfl : i = j := by omega
      exact h3
theorem fresh_end (T : List (List Bool)) (G : List Bool) : (¬ cstT G ∧ ∀ i, i < T.length → T.getD i default ≠ G) ↔ ¬ (cstT G ∨ G ∈ T) := by
  rw [not_or]
  refine and_congr_right fun _ => ?_
  constructor
  · intro h hm
    obtain ⟨i, hi, e⟩ := List.getElem_of_mem hm
    exact h i hi (by rw [List.getD_eq_getElem?_getD, List.getElem?_eq_getElem hi]; exact e)
  · intro h i hi e
    exact h (e ▸ mem_g T i hi)
def BLR (S : Nat) (vs : List BW) (h : Heap) : Prop := ∀ v ∈ vs, v.l.length = S ∧ SlT encBo 1 v.a v.l h
theorem map_getD {α β : Type} [Inhabited α] [Inhabited β] (f : α → β) (vs : List α) {j : Nat} (hj : j < vs.length) : (vs.map f).getD j default = f (vs.getD j default) := by
  rw [List.getD_eq_getElem?_getD, List.getElem?_map, List.getD_eq_getElem?_getD, List.getElem?_eq_getElem hj]; rfl
theorem nodes31_any (N : Nat) (hN : N ≤ 8) (F : VF) (l : List Int) (ho : okOrd l) (hle : ∀ v ∈ l, v ≤ N) (hl8 : l.length ≤ 8) (al : Option Addr) (cl : Nat) (hl : Heap) (hsl : SlT encI 1 al l hl) (aF : Option Addr) (cF : Nat) (hF : Heap) (hsF : SlT encBo 1 aF (tabX N F) hF) (w : World) (hw1 : Holds (hl ++ hF) w) :
    Calls Try.prog 121 #[.agg ⟨[.int .i64 (N : Int), .slice aF (2 ^ N) cF]⟩, .slice al l.length cl] w (Gives (fun v h => ∃ (a : Option Addr) (c : Nat) (vs : List BW), v = .slice a vs.length c ∧ vs.map (·.l) = nodesT N l F (l.length + 1) ∧ SlT encBW 1 a vs h ∧ BLR (2 ^ N) vs h) w) := by
  have h2n := pow8 hN
  have q0 : ∀ L, RdH (hl ++ hF) L hl := fun L => RdH.old fun _ hh => List.mem_append_left _ hh
  have hll := ord_le l ho
  refine calls_of_JC (R := (hl ++ hF)) Try.func121 Try.ntmps121 rfl rfl (hw1) ?_
  repeat' first
    | (refine J.isJ ?_; first | ((refine J.o 6 ?_; refine J.bx (fun b2 => ?_))) | (first | (refine J.o 0 ?_; refine J.ev' hΓ ?_) | refine J.nil ?_ | refine J.kd ?_ | (refine J.o 4 ?_; first | refine J.lT default hΓ ?_ | refine J.lR hΓ ?_) | (refine J.o 3 ?_; first | refine J.iJ hΓ ?_ | refine J.ev' hΓ ?_) | (refine J.o 1 ?_; first | refine J.ad ?_) | (refine J.o 6 ?_; refine J.bx (fun _ => ?_)) | (refine J.o 9 ?_; refine J.bl hΓ (fun _ => ?_)) | (refine J.o 10 ?_; refine J.ev' hΓ ?_) | (refine J.o 11 ?_; refine J.ev' hΓ ?_)))
    | (first | refine JC.seq ?_ | refine JC.region ?_ | refine JC.block ?_ | refine JC.ret ?_ | refine JC.exit ?_ | refine JC.skip ?_ | refine thenK.nn ?_ | refine thenK.x ?_ | refine blockK.nn ?_ | refine blockK.hit rfl ?_ | refine JC.condT rfl ?_ | refine JC.condF rfl ?_ | (refine JC.cond rfl (fun hc => ?_) (fun hc => ?_) <;> ((try simp only [decide_eq_true_eq, decide_eq_false_iff_not, beq_iff_eq, beq_eq_false_iff_ne, bne_iff_ne, bne_eq_false_iff_eq, Bool.not_eq_true', Bool.not_eq_false', Bool.not_eq_true, Bool.not_eq_false] at hc) <;> first | (first | (exact absurd rfl hc) | (exfalso; omega) | (exact absurd (hc.symm.trans (by assumption : _ = false)) (by decide)) | (exact absurd (hc.symm.trans (by assumption : _ = true)) (by decide))) | skip)) | refine drawK.nn ?_ | refine loopK.x ?_)
    | (fail)
    | fail
  all_goals first | (exfalso; omega) | skip
  refine JC.nilF (JC.nilF ?_)
  refine JC.loopG (fun i => (Nat.ble 5 i && Nat.ble i 11) || Nat.ble 12 i) (fun m g L' => ∃ (k : Nat) (a : Option Addr) (c : Nat) (vs : List BW) (hO hI : Heap), g 6 = .int .i64 (k : Int) ∧ k + m = l.length + 1 ∧ g 5 = .slice a vs.length c ∧ vs.map (·.l) = nodesT N l F k ∧ vs.length + 1 ≤ 2 ^ k ∧ OwT encBW 1 43 a c vs hO ∧ BLR (2 ^ N) vs hI ∧ L' = [hO, hI, [(b2, .cells ⟨[.int .i64 (N : Int), .slice aF (2 ^ N) cF]⟩ 45 (0, 0))]]) (l.length + 1) ⟨0, none, 0, [], [], [], rfl, by omega, rfl, rfl, by decide, OwT.nil (fun _ => rfl), fun v hv => (by cases hv), rfl⟩ ?_
  rintro m g L' ⟨k, a, c, vs, hO, hI, e6, hkm, e5, hT, hvl, oO, sI, rfl⟩
  refine JC.pin 6 e6 (JC.pin 5 e5 ?_)
  clear e6 e5
  have hp : k ≤ 9 → 2 ^ k ≤ 2 ^ 9 := fun h => Nat.pow_le_pow_right (by omega) h
  rcases Nat.lt_or_ge k (l.length + 1) with hk | hk
  ·
    repeat' first
      | (refine J.isJ ?_; first | ((refine J.fc 146 ?_; refine J.call1 eAsg31 rfl rfl (fun w hw => asg31_any l ho al cl hl hsl k (by omega) (by omega) w (hw.rdH (q0 _))) ?_; rintro _ hA ⟨aA, cA, rfl, oA⟩)) | (first | (refine J.o 0 ?_; refine J.ev' hΓ ?_) | refine J.nil ?_ | refine J.kd ?_ | (refine J.o 4 ?_; first | refine J.lT default hΓ ?_ | refine J.lR hΓ ?_) | (refine J.o 3 ?_; first | refine J.iJ hΓ ?_ | refine J.ev' hΓ ?_) | (refine J.o 1 ?_; first | refine J.ad ?_) | (refine J.o 6 ?_; refine J.bx (fun _ => ?_)) | (refine J.o 9 ?_; refine J.bl hΓ (fun _ => ?_)) | (refine J.o 10 ?_; refine J.ev' hΓ ?_) | (refine J.o 11 ?_; refine J.ev' hΓ ?_)))
      | (first | refine JC.seq ?_ | refine JC.region ?_ | refine JC.block ?_ | refine JC.ret ?_ | refine JC.exit ?_ | refine JC.skip ?_ | refine thenK.nn ?_ | refine thenK.x ?_ | refine blockK.nn ?_ | refine blockK.hit rfl ?_ | refine JC.condT rfl ?_ | refine JC.condF rfl ?_ | (refine JC.cond rfl (fun hc => ?_) (fun hc => ?_) <;> ((try simp only [decide_eq_true_eq, decide_eq_false_iff_not, beq_iff_eq, beq_eq_false_iff_ne, bne_iff_ne, bne_eq_false_iff_eq, Bool.not_eq_true', Bool.not_eq_false', Bool.not_eq_true, Bool.not_eq_false] at hc) <;> first | (first | (exact absurd rfl hc) | (exfalso; omega) | (exact absurd (hc.symm.trans (by assumption : _ = false)) (by decide)) | (exact absurd (hc.symm.trans (by assumption : _ = true)) (by decide))) | skip)) | refine drawK.nn ?_ | refine loopK.x ?_)
      | (fail)
      | fail
    all_goals first | (exfalso; omega) | skip
    have hBl := asgL_len l k
    have hp8 : 2 ^ k ≤ 2 ^ 8 := Nat.pow_le_pow_right (by omega) (by omega)
    refine JC.loopG (fun i => i == 5 || (Nat.ble 8 i && Nat.ble i 11) || Nat.ble 21 i) (fun m g L' => ∃ (i : Nat) (a : Option Addr) (c : Nat) (vs : List BW) (hO hI : Heap), g 8 = .int .i64 (i : Int) ∧ i + m = 2 ^ k ∧ g 5 = .slice a vs.length c ∧ vs.map (·.l) = ((rowT N l F k).take i).foldl stepT (nodesT N l F k) ∧ vs.length + 1 ≤ 2 ^ k + i ∧ OwT encBW 1 43 a c vs hO ∧ BLR (2 ^ N) vs hI ∧ L' = [hA, hO, hI, [(b2, .cells ⟨[.int .i64 (N : Int), .slice aF (2 ^ N) cF]⟩ 45 (0, 0))]]) (2 ^ k) ⟨0, a, c, vs, hO, hI, rfl, by omega, rfl, hT, by omega, oO, sI, rfl⟩ ?_
    clear oO hT hvl
    clear sI
    rintro m2 g2 L' ⟨i, a, c, vs, hO, hI, e8, him, e5, hT, hvl, oO, sI, rfl⟩
    refine JC.pin 8 e8 (JC.pin 5 e5 ?_)
    clear e8 e5
    rcases Nat.lt_or_ge i (2 ^ k) with hi | hi
    ·
      obtain ⟨okA, hak⟩ := asgL_ok ho k (by omega) _ (mem_g (asgL l k) i (by omega))
      have hGl := tabX_len N (leftF l F k ((asgL l k).getD i default))
      have hts : ((rowT N l F k).take (i + 1)).foldl stepT (nodesT N l F k) = stepT (vs.map (·.l)) (tabX N (leftF l F k ((asgL l k).getD i default))) := by
        rw [take_succ_g _ i (by rw [rowT_len]; exact hi), List.foldl_append, ← hT, rowT_get N l F k hi]; rfl
      have cP := fun w hw => part31_any N hN F l ho hle al cl hl hsl aF cF hF hsF k (by omega) ((asgL l k).getD i default) okA hak w hw
      generalize tabX N (leftF l F k ((asgL l k).getD i default)) = G at *
      repeat' first
        | (refine J.isJ ?_; first | (first | (refine J.o 3 ?_; refine J.iJ hΓ ?_ (hs := oA.sl)) | (refine J.o 4 ?_; first | (refine J.lT default hΓ ?_ (hs := oA.sl) (hr := RdH.hd)) | refine J.lR hΓ ?_ (hr := Rd.hd.tl.tl.tl)) | (refine J.fc 147 ?_; refine J.call1 ePart31 rfl rfl (fun w hw => cP w (hw.rdH (RdH.old fun _ hh => hh))) ?_; rintro _ hG ⟨aG, cG, rfl, oG⟩) | (refine J.fc 148 ?_; refine J.call0 eConst31 rfl rfl (fun w hw => const31_any G aG cG hG oG.sl (by omega) w (hw.rdH RdH.hd)) ?_)) | (first | (refine J.o 0 ?_; refine J.ev' hΓ ?_) | refine J.nil ?_ | refine J.kd ?_ | (refine J.o 4 ?_; first | refine J.lT default hΓ ?_ | refine J.lR hΓ ?_) | (refine J.o 3 ?_; first | refine J.iJ hΓ ?_ | refine J.ev' hΓ ?_) | (refine J.o 1 ?_; first | refine J.ad ?_) | (refine J.o 6 ?_; refine J.bx (fun _ => ?_)) | (refine J.o 9 ?_; refine J.bl hΓ (fun _ => ?_)) | (refine J.o 10 ?_; refine J.ev' hΓ ?_) | (refine J.o 11 ?_; refine J.ev' hΓ ?_)))
        | (first | refine JC.seq ?_ | refine JC.region ?_ | refine JC.block ?_ | refine JC.ret ?_ | refine JC.exit ?_ | refine JC.skip ?_ | refine thenK.nn ?_ | refine thenK.x ?_ | refine blockK.nn ?_ | refine blockK.hit rfl ?_ | refine JC.condT rfl ?_ | refine JC.condF rfl ?_ | (refine JC.cond rfl (fun hc => ?_) (fun hc => ?_) <;> ((try simp only [decide_eq_true_eq, decide_eq_false_iff_not, beq_iff_eq, beq_eq_false_iff_ne, bne_iff_ne, bne_eq_false_iff_eq, Bool.not_eq_true', Bool.not_eq_false', Bool.not_eq_true, Bool.not_eq_false] at hc) <;> first | (first | (exact absurd rfl hc) | (exfalso; omega) | (exact absurd (hc.symm.trans (by assumption : _ = false)) (by decide)) | (exact absurd (hc.symm.trans (by assumption : _ = true)) (by decide))) | skip)) | refine drawK.nn ?_ | refine loopK.x ?_)
        | ((first | refine JC.drawO [(1,0),(0,1),(0,2),(0,3),(0,4),(1,5),(1,6),(3,7),(0,8)] (by decide +kernel) (by decide +kernel) ?_))
        | fail
      all_goals first | (exfalso; omega) | skip
      have hml : (vs.map (·.l)).length = vs.length := List.length_map _
      refine JC.loop (fun i => i == 10 || i == 11 || Nat.ble 38 i) (fun m g L' => ∃ (q : Nat), g 11 = .int .i64 (q : Int) ∧ q + m = vs.length ∧ g 10 = .bool (decide (¬ cstT G ∧ ∀ i, i < q → (vs.map (·.l)).getD i default ≠ G)) ∧ L' = [hG, hA, hO, hI, [(b2, .cells ⟨[.int .i64 (N : Int), .slice aF (2 ^ N) cF]⟩ 45 (0, 0))]]) vs.length ⟨0, rfl, by omega, congrArg Value.bool (by rw [Bool.eq_iff_iff, decide_eq_true_iff, Bool.not_eq_true', decide_eq_false_iff_not]; exact ⟨fun h => ⟨h, fun i hi => absurd hi (Nat.not_lt_zero _)⟩, fun h => h.1⟩), rfl⟩ ?_
      rintro m3 g3 L' ⟨q, e11, hqm, e10, rfl⟩
      rcases Nat.lt_or_ge q vs.length with hq | hq
      ·
        have hst := fresh_step (vs.map (·.l)) G (j := q) (by omega)
        rw [map_getD (·.l) vs hq] at hst
        obtain ⟨hvl2, hvs⟩ := sI _ (mem_g vs q hq)
        generalize decide (¬ cstT G ∧ ∀ i, i < q → (vs.map (·.l)).getD i default ≠ G) = fr at *
        refine JC.pin 11 e11 (JC.pin 10 e10 ?_)
        clear e11 e10
        cases fr with
        | true =>
          rw [Bool.true_and] at hst
          repeat' first
            | (refine J.isJ ?_; first | (first | (refine J.o 3 ?_; refine J.iJ hΓ ?_ (hs := oO.sl)) | (refine J.o 4 ?_; refine J.lT default hΓ ?_ (hs := oO.sl) (hr := RdH.hd.tl.tl)) | (refine J.fc 149 ?_; refine J.call0 eSame31 rfl rfl (fun w hw => same31_any (vs.getD q default).l G (vs.getD q default).a aG (vs.getD q default).c cG (hI ++ hG) (hvs.sub fun x hx => List.mem_append_left _ hx) (oG.sl.sub fun x hx => List.mem_append_right _ hx) (by rw [hvl2, hGl]) (by omega) w ((hw.rdH RdH.hd.tl.tl.tl).append (hw.rdH RdH.hd))) ?_)) | (first | (refine J.o 0 ?_; refine J.ev' hΓ ?_) | refine J.nil ?_ | refine J.kd ?_ | (refine J.o 4 ?_; first | refine J.lT default hΓ ?_ | refine J.lR hΓ ?_) | (refine J.o 3 ?_; first | refine J.iJ hΓ ?_ | refine J.ev' hΓ ?_) | (refine J.o 1 ?_; first | refine J.ad ?_) | (refine J.o 6 ?_; refine J.bx (fun _ => ?_)) | (refine J.o 9 ?_; refine J.bl hΓ (fun _ => ?_)) | (refine J.o 10 ?_; refine J.ev' hΓ ?_) | (refine J.o 11 ?_; refine J.ev' hΓ ?_)))
            | (first | refine JC.seq ?_ | refine JC.region ?_ | refine JC.block ?_ | refine JC.ret ?_ | refine JC.exit ?_ | refine JC.skip ?_ | refine thenK.nn ?_ | refine thenK.x ?_ | refine blockK.nn ?_ | refine blockK.hit rfl ?_ | refine JC.condT rfl ?_ | refine JC.condF rfl ?_ | (refine JC.cond rfl (fun hc => ?_) (fun hc => ?_) <;> ((try simp only [decide_eq_true_eq, decide_eq_false_iff_not, beq_iff_eq, beq_eq_false_iff_ne, bne_iff_ne, bne_eq_false_iff_eq, Bool.not_eq_true', Bool.not_eq_false', Bool.not_eq_true, Bool.not_eq_false] at hc) <;> first | (first | (exact absurd rfl hc) | (exfalso; omega) | (exact absurd (hc.symm.trans (by assumption : _ = false)) (by decide)) | (exact absurd (hc.symm.trans (by assumption : _ = true)) (by decide))) | skip)) | refine drawK.nn ?_ | refine loopK.x ?_)
            | fail
          all_goals first | (exfalso; omega) | skip
          refine loopK.nn (m3 - 1) (by omega) (by repeat (first | refine Ag.upd rfl ?_ | exact Ag.hv)) ⟨q + 1, ?_, by omega, by rw [hst]; rfl, rfl⟩
          show Value.int .i64 _ = _; congr 1
        | false =>
          rw [Bool.false_and] at hst
          repeat' first
            | (refine J.isJ ?_; first | (fail) | (first | (refine J.o 0 ?_; refine J.ev' hΓ ?_) | refine J.nil ?_ | refine J.kd ?_ | (refine J.o 4 ?_; first | refine J.lT default hΓ ?_ | refine J.lR hΓ ?_) | (refine J.o 3 ?_; first | refine J.iJ hΓ ?_ | refine J.ev' hΓ ?_) | (refine J.o 1 ?_; first | refine J.ad ?_) | (refine J.o 6 ?_; refine J.bx (fun _ => ?_)) | (refine J.o 9 ?_; refine J.bl hΓ (fun _ => ?_)) | (refine J.o 10 ?_; refine J.ev' hΓ ?_) | (refine J.o 11 ?_; refine J.ev' hΓ ?_)))
            | (first | refine JC.seq ?_ | refine JC.region ?_ | refine JC.block ?_ | refine JC.ret ?_ | refine JC.exit ?_ | refine JC.skip ?_ | refine thenK.nn ?_ | refine thenK.x ?_ | refine blockK.nn ?_ | refine blockK.hit rfl ?_ | refine JC.condT rfl ?_ | refine JC.condF rfl ?_ | (refine JC.cond rfl (fun hc => ?_) (fun hc => ?_) <;> ((try simp only [decide_eq_true_eq, decide_eq_false_iff_not, beq_iff_eq, beq_eq_false_iff_ne, bne_iff_ne, bne_eq_false_iff_eq, Bool.not_eq_true', Bool.not_eq_false', Bool.not_eq_true, Bool.not_eq_false] at hc) <;> first | (first | (exact absurd rfl hc) | (exfalso; omega) | (exact absurd (hc.symm.trans (by assumption : _ = false)) (by decide)) | (exact absurd (hc.symm.trans (by assumption : _ = true)) (by decide))) | skip)) | refine drawK.nn ?_ | refine loopK.x ?_)
            | fail
          all_goals first | (exfalso; omega) | skip
          refine loopK.nn (m3 - 1) (by omega) (by repeat (first | refine Ag.upd rfl ?_ | exact Ag.hv)) ⟨q + 1, ?_, by omega, by rw [hst]; rfl, rfl⟩
          show Value.int .i64 _ = _; congr 1
      ·
        obtain rfl : q = vs.length := by omega
        have hfe := fresh_end (vs.map (·.l)) G
        rw [hml] at hfe
        have hsi : BLR (2 ^ N) vs (hG ++ hI) := fun v hv => ⟨(sI v hv).1, (sI v hv).2.sub fun x hx => List.mem_append_right _ hx⟩
        by_cases hfr : cstT G ∨ G ∈ vs.map (·.l)
        ·
          rw [decide_eq_false (fun h => hfe.1 h hfr)] at e10
          refine JC.pin 11 e11 (JC.pin 10 e10 ?_)
          clear e11 e10
          have hs2 : stepT (vs.map (·.l)) G = vs.map (·.l) := if_pos hfr
          repeat' first
            | (refine J.isJ ?_; first | (fail) | (first | (refine J.o 0 ?_; refine J.ev' hΓ ?_) | refine J.nil ?_ | refine J.kd ?_ | (refine J.o 4 ?_; first | refine J.lT default hΓ ?_ | refine J.lR hΓ ?_) | (refine J.o 3 ?_; first | refine J.iJ hΓ ?_ | refine J.ev' hΓ ?_) | (refine J.o 1 ?_; first | refine J.ad ?_) | (refine J.o 6 ?_; refine J.bx (fun _ => ?_)) | (refine J.o 9 ?_; refine J.bl hΓ (fun _ => ?_)) | (refine J.o 10 ?_; refine J.ev' hΓ ?_) | (refine J.o 11 ?_; refine J.ev' hΓ ?_)))
            | (first | refine JC.seq ?_ | refine JC.region ?_ | refine JC.block ?_ | refine JC.ret ?_ | refine JC.exit ?_ | refine JC.skip ?_ | refine thenK.nn ?_ | refine thenK.x ?_ | refine blockK.nn ?_ | refine blockK.hit rfl ?_ | refine JC.condT rfl ?_ | refine JC.condF rfl ?_ | (refine JC.cond rfl (fun hc => ?_) (fun hc => ?_) <;> ((try simp only [decide_eq_true_eq, decide_eq_false_iff_not, beq_iff_eq, beq_eq_false_iff_ne, bne_iff_ne, bne_eq_false_iff_eq, Bool.not_eq_true', Bool.not_eq_false', Bool.not_eq_true, Bool.not_eq_false] at hc) <;> first | (first | (exact absurd rfl hc) | (exfalso; omega) | (exact absurd (hc.symm.trans (by assumption : _ = false)) (by decide)) | (exact absurd (hc.symm.trans (by assumption : _ = true)) (by decide))) | skip)) | refine drawK.nn ?_ | refine loopK.x ?_)
            | (fail)
            | fail
          all_goals first | (exfalso; omega) | skip
          refine loopK.nn (m2 - 1) (by omega) (by repeat (first | refine Ag.upd rfl ?_ | exact Ag.hv | refine Ag.hv2 (fun i hi => by simp at hi ⊢; omega) ?_)) ⟨_, ⟨i + 1, a, c, vs, hO, hI, ?_, by omega, rfl, by rw [hts, hs2], by omega, oO, sI, rfl⟩, fun w hw => H.sel (l := [_, _, _, _, _]) (M := []) hw [1, 2, 3, 4]⟩
          show Value.int .i64 _ = _; congr 1
        ·
          rw [decide_eq_true (hfe.2 hfr)] at e10
          refine JC.pin 11 e11 (JC.pin 10 e10 ?_)
          clear e11 e10
          have hs2 : stepT (vs.map (·.l)) G = vs.map (·.l) ++ [G] := if_neg hfr
          repeat' first
            | (refine J.isJ ?_; first | ((refine J.o 9 ?_; first | (first | (refine J.ap1 (enc := encBW) [(⟨aG, cG, G⟩ : BW)] hΓ (fun a4 c4 h4 o4 => ?_)) | (refine J.perm (br1.cons _) ?_; refine J.ap1 (enc := encBW) [(⟨aG, cG, G⟩ : BW)] hΓ (fun a4 c4 h4 o4 => ?_)) | (refine J.perm (br2.cons _) ?_; refine J.ap1 (enc := encBW) [(⟨aG, cG, G⟩ : BW)] hΓ (fun a4 c4 h4 o4 => ?_)) | (refine J.perm (br3.cons _) ?_; refine J.ap1 (enc := encBW) [(⟨aG, cG, G⟩ : BW)] hΓ (fun a4 c4 h4 o4 => ?_)) | (refine J.perm (br4.cons _) ?_; refine J.ap1 (enc := encBW) [(⟨aG, cG, G⟩ : BW)] hΓ (fun a4 c4 h4 o4 => ?_)) | (refine J.perm (br5.cons _) ?_; refine J.ap1 (enc := encBW) [(⟨aG, cG, G⟩ : BW)] hΓ (fun a4 c4 h4 o4 => ?_))) | (refine J.perm br1 ?_; first | (refine J.ap1 (enc := encBW) [(⟨aG, cG, G⟩ : BW)] hΓ (fun a4 c4 h4 o4 => ?_)) | (refine J.perm (br1.cons _) ?_; refine J.ap1 (enc := encBW) [(⟨aG, cG, G⟩ : BW)] hΓ (fun a4 c4 h4 o4 => ?_)) | (refine J.perm (br2.cons _) ?_; refine J.ap1 (enc := encBW) [(⟨aG, cG, G⟩ : BW)] hΓ (fun a4 c4 h4 o4 => ?_)) | (refine J.perm (br3.cons _) ?_; refine J.ap1 (enc := encBW) [(⟨aG, cG, G⟩ : BW)] hΓ (fun a4 c4 h4 o4 => ?_)) | (refine J.perm (br4.cons _) ?_; refine J.ap1 (enc := encBW) [(⟨aG, cG, G⟩ : BW)] hΓ (fun a4 c4 h4 o4 => ?_)) | (refine J.perm (br5.cons _) ?_; refine J.ap1 (enc := encBW) [(⟨aG, cG, G⟩ : BW)] hΓ (fun a4 c4 h4 o4 => ?_))) | (refine J.perm br2 ?_; first | (refine J.ap1 (enc := encBW) [(⟨aG, cG, G⟩ : BW)] hΓ (fun a4 c4 h4 o4 => ?_)) | (refine J.perm (br1.cons _) ?_; refine J.ap1 (enc := encBW) [(⟨aG, cG, G⟩ : BW)] hΓ (fun a4 c4 h4 o4 => ?_)) | (refine J.perm (br2.cons _) ?_; refine J.ap1 (enc := encBW) [(⟨aG, cG, G⟩ : BW)] hΓ (fun a4 c4 h4 o4 => ?_)) | (refine J.perm (br3.cons _) ?_; refine J.ap1 (enc := encBW) [(⟨aG, cG, G⟩ : BW)] hΓ (fun a4 c4 h4 o4 => ?_)) | (refine J.perm (br4.cons _) ?_; refine J.ap1 (enc := encBW) [(⟨aG, cG, G⟩ : BW)] hΓ (fun a4 c4 h4 o4 => ?_)) | (refine J.perm (br5.cons _) ?_; refine J.ap1 (enc := encBW) [(⟨aG, cG, G⟩ : BW)] hΓ (fun a4 c4 h4 o4 => ?_))))) | (first | (refine J.o 0 ?_; refine J.ev' hΓ ?_) | refine J.nil ?_ | refine J.kd ?_ | (refine J.o 4 ?_; first | refine J.lT default hΓ ?_ | refine J.lR hΓ ?_) | (refine J.o 3 ?_; first | refine J.iJ hΓ ?_ | refine J.ev' hΓ ?_) | (refine J.o 1 ?_; first | refine J.ad ?_) | (refine J.o 6 ?_; refine J.bx (fun _ => ?_)) | (refine J.o 9 ?_; refine J.bl hΓ (fun _ => ?_)) | (refine J.o 10 ?_; refine J.ev' hΓ ?_) | (refine J.o 11 ?_; refine J.ev' hΓ ?_)))
            | (first | refine JC.seq ?_ | refine JC.region ?_ | refine JC.block ?_ | refine JC.ret ?_ | refine JC.exit ?_ | refine JC.skip ?_ | refine thenK.nn ?_ | refine thenK.x ?_ | refine blockK.nn ?_ | refine blockK.hit rfl ?_ | refine JC.condT rfl ?_ | refine JC.condF rfl ?_ | (refine JC.cond rfl (fun hc => ?_) (fun hc => ?_) <;> ((try simp only [decide_eq_true_eq, decide_eq_false_iff_not, beq_iff_eq, beq_eq_false_iff_ne, bne_iff_ne, bne_eq_false_iff_eq, Bool.not_eq_true', Bool.not_eq_false', Bool.not_eq_true, Bool.not_eq_false] at hc) <;> first | (first | (exact absurd rfl hc) | (exfalso; omega) | (exact absurd (hc.symm.trans (by assumption : _ = false)) (by decide)) | (exact absurd (hc.symm.trans (by assumption : _ = true)) (by decide))) | skip)) | refine drawK.nn ?_ | refine loopK.x ?_)
            | fail
          all_goals first | (exfalso; omega) | skip
          have hm2 : (vs ++ [(⟨aG, cG, G⟩ : BW)]).map (·.l) = vs.map (·.l) ++ [G] := by rw [List.map_append]; rfl
          refine loopK.nn (m2 - 1) (by omega) (by repeat (first | refine Ag.upd rfl ?_ | exact Ag.hv | refine Ag.hv2 (fun i hi => by simp at hi ⊢; omega) ?_)) ⟨_, ⟨i + 1, a4, c4, vs ++ [⟨aG, cG, G⟩], h4, hG ++ hI, ?_, by omega, rfl, by rw [hts, hs2, hm2], by rw [List.length_append, show [(⟨aG, cG, G⟩ : BW)].length = 1 from rfl]; omega, o4, fun v hv => ?_, rfl⟩, fun w hw => by
            have hw2 := (H.sel (l := [_, _, _, _, _]) (M := []) hw [1, 3, 0, 2, 4]).mg1
            exact H.sel (l := [_, _, _, _]) (M := []) hw2 [2, 1, 0, 3]⟩
          · show Value.int .i64 _ = _; congr 1
          · rcases List.mem_append.1 hv with g | g
            · exact hsi v g
            · rw [List.mem_singleton.1 g]
              exact ⟨hGl, oG.sl.sub fun x hx => List.mem_append_left _ hx⟩
    ·
      obtain rfl : i = 2 ^ k := by omega
      rw [List.take_of_length_le (by rw [rowT_len]; exact Nat.le_refl _), ← nodesT_succ] at hT
      repeat' first
        | (refine J.isJ ?_; first | (fail) | (first | (refine J.o 0 ?_; refine J.ev' hΓ ?_) | refine J.nil ?_ | refine J.kd ?_ | (refine J.o 4 ?_; first | refine J.lT default hΓ ?_ | refine J.lR hΓ ?_) | (refine J.o 3 ?_; first | refine J.iJ hΓ ?_ | refine J.ev' hΓ ?_) | (refine J.o 1 ?_; first | refine J.ad ?_) | (refine J.o 6 ?_; refine J.bx (fun _ => ?_)) | (refine J.o 9 ?_; refine J.bl hΓ (fun _ => ?_)) | (refine J.o 10 ?_; refine J.ev' hΓ ?_) | (refine J.o 11 ?_; refine J.ev' hΓ ?_)))
        | (first | refine JC.seq ?_ | refine JC.region ?_ | refine JC.block ?_ | refine JC.ret ?_ | refine JC.exit ?_ | refine JC.skip ?_ | refine thenK.nn ?_ | refine thenK.x ?_ | refine blockK.nn ?_ | refine blockK.hit rfl ?_ | refine JC.condT rfl ?_ | refine JC.condF rfl ?_ | (refine JC.cond rfl (fun hc => ?_) (fun hc => ?_) <;> ((try simp only [decide_eq_true_eq, decide_eq_false_iff_not, beq_iff_eq, beq_eq_false_iff_ne, bne_iff_ne, bne_eq_false_iff_eq, Bool.not_eq_true', Bool.not_eq_false', Bool.not_eq_true, Bool.not_eq_false] at hc) <;> first | (first | (exact absurd rfl hc) | (exfalso; omega) | (exact absurd (hc.symm.trans (by assumption : _ = false)) (by decide)) | (exact absurd (hc.symm.trans (by assumption : _ = true)) (by decide))) | skip)) | refine drawK.nn ?_ | refine loopK.x ?_)
        | (fail)
        | fail
      all_goals first | (exfalso; omega) | skip
      refine loopK.nn (m - 1) (by omega) (by repeat (first | refine Ag.upd rfl ?_ | exact Ag.hv | refine Ag.hv2 (fun i hi => by simp at hi ⊢; omega) ?_)) ⟨_, ⟨k + 1, a, c, vs, hO, hI, ?_, by omega, rfl, hT, by rw [Nat.pow_succ]; omega, oO, sI, rfl⟩, fun w hw => H.sel (l := [_, _, _, _]) (M := []) hw [1, 2, 3]⟩
      show Value.int .i64 _ = _; congr 1
  ·
    obtain rfl : k = l.length + 1 := by omega
    repeat' first
      | (refine J.isJ ?_; first | (fail) | (first | (refine J.o 0 ?_; refine J.ev' hΓ ?_) | refine J.nil ?_ | refine J.kd ?_ | (refine J.o 4 ?_; first | refine J.lT default hΓ ?_ | refine J.lR hΓ ?_) | (refine J.o 3 ?_; first | refine J.iJ hΓ ?_ | refine J.ev' hΓ ?_) | (refine J.o 1 ?_; first | refine J.ad ?_) | (refine J.o 6 ?_; refine J.bx (fun _ => ?_)) | (refine J.o 9 ?_; refine J.bl hΓ (fun _ => ?_)) | (refine J.o 10 ?_; refine J.ev' hΓ ?_) | (refine J.o 11 ?_; refine J.ev' hΓ ?_)))
      | (first | refine JC.seq ?_ | refine JC.region ?_ | refine JC.block ?_ | refine JC.ret ?_ | refine JC.exit ?_ | refine JC.skip ?_ | refine thenK.nn ?_ | refine thenK.x ?_ | refine blockK.nn ?_ | refine blockK.hit rfl ?_ | refine JC.condT rfl ?_ | refine JC.condF rfl ?_ | (refine JC.cond rfl (fun hc => ?_) (fun hc => ?_) <;> ((try simp only [decide_eq_true_eq, decide_eq_false_iff_not, beq_iff_eq, beq_eq_false_iff_ne, bne_iff_ne, bne_eq_false_iff_eq, Bool.not_eq_true', Bool.not_eq_false', Bool.not_eq_true, Bool.not_eq_false] at hc) <;> first | (first | (exact absurd rfl hc) | (exfalso; omega) | (exact absurd (hc.symm.trans (by assumption : _ = false)) (by decide)) | (exact absurd (hc.symm.trans (by assumption : _ = true)) (by decide))) | skip)) | refine drawK.nn ?_ | refine loopK.x ?_)
      | (fail)
      | fail
    all_goals first | (exfalso; omega) | skip
    refine ret1f rfl rfl rfl (fun w1 hw => Gives.of ((H.sel (l := [_, _, _]) (M := []) hw [0, 1]).mg1) ⟨a, c, vs, rfl, hT, oO.sl.sub fun x hx => List.mem_append_left _ hx, fun v hv => ⟨(sI v hv).1, (sI v hv).2.sub fun x hx => List.mem_append_right _ hx⟩⟩)
theorem size31_any (N : Nat) (hN : N ≤ 8) (F : VF) (l : List Int) (ho : okOrd l) (hle : ∀ v ∈ l, v ≤ N) (hl8 : l.length ≤ 8) (al : Option Addr) (cl : Nat) (hl : Heap) (hsl : SlT encI 1 al l hl) (aF : Option Addr) (cF : Nat) (hF : Heap) (hsF : SlT encBo 1 aF (tabX N F) hF) (w : World) (hw1 : Holds (hl ++ hF) w) :
    Calls Try.prog 67 #[.agg ⟨[.int .i64 (N : Int), .slice aF (2 ^ N) cF]⟩, .slice al l.length cl] w fun e w' => e = .returned (.int .i64 ((nodesT N l F (l.length + 1)).length : Int)) ∧ Below w.heap.size w w' := by
  refine calls_of_JC (R := (hl ++ hF)) Try.func67 Try.ntmps67 rfl rfl (hw1) ?_
  repeat' first
    | (refine J.isJ ?_; first | (first | (refine J.o 6 ?_; refine J.bx (fun b2 => ?_)) | (refine J.o 4 ?_; refine J.lR hΓ ?_ (hr := Rd.hd)) | (refine J.fc 121 ?_; refine J.call1 eNodes31 rfl rfl (fun w hw => nodes31_any N hN F l ho hle hl8 al cl hl hsl aF cF hF hsF w (hw.rdH (RdH.old fun _ hh => hh))) ?_; rintro _ hR ⟨a, c, vs, rfl, hT, oO, sI⟩)) | (first | (refine J.o 0 ?_; refine J.ev' hΓ ?_) | refine J.nil ?_ | (refine J.o 4 ?_; first | refine J.lR hΓ ?_) | (refine J.o 3 ?_; first | refine J.ev' hΓ ?_) | (refine J.o 6 ?_; refine J.bx (fun _ => ?_)) | (refine J.o 10 ?_; refine J.ev' hΓ ?_) | (refine J.o 11 ?_; refine J.ev' hΓ ?_)))
    | (first | refine JC.seq ?_ | refine JC.region ?_ | refine JC.ret ?_ | refine thenK.nn ?_)
    | fail
  all_goals first | (exfalso; omega) | skip
  refine ret1f rfl rfl rfl (fun w1 hw => ⟨by rw [← hT, List.length_map], hw.below⟩)
end Go.Proofs.Ytbhgahjeocnfcaa
namespace Go.Proofs.Ytbhgahjeocnfcaa
open Go Go.Cx Go.RowKit
set_option linter.unusedVariables false
set_option linter.unusedSimpArgs false
set_option maxHeartbeats 4000000
attribute [local irreducible] J JC thenK blockK loopK drawK retK QW Qt pel List.set Calls
open Go.Maps Go.Lib
set_option maxRecDepth 8000
attribute [local irreducible] JE Br eK0 eK3 brK pc
theorem smallP_ok {n : Nat} (h : n ≤ 128) {N : Int} {T : List (List Int)} (s : smallP (n : Int) N T) : ∃ k : Nat, N = (k : Int) ∧ k ≤ n ∧ okTh k T ∧ 2 + costT T ≤ 1048576 := by
  obtain ⟨h1, h2, h3, h4, h5⟩ := s
  obtain ⟨k, rfl⟩ : ∃ k : Nat, N = (k : Int) := ⟨N.toNat, by omega⟩
  have hc := costT_le T 10 h4
  have hm : T.length * (10 * 20 + 255) ≤ 30 * 455 := Nat.mul_le_mul_right 455 h3
  exact ⟨k, rfl, by omega, okTh_iff.1 h5, by omega⟩
end Go.Proofs.Ytbhgahjeocnfcaa
namespace Go.Proofs.Ytbhgahjeocnfcaa
open Go Go.Cx Go.RowKit
set_option linter.unusedVariables false
set_option linter.unusedSimpArgs false
set_option maxHeartbeats 4000000
attribute [local irreducible] J JC thenK blockK loopK drawK retK QW Qt pel List.set Calls
open Go.Maps Go.Lib
set_option maxRecDepth 8000
attribute [local irreducible] JE Br eK0 eK3 brK pc
theorem eFunc31 : Entr Try.prog 22 := Entr.of Try.func22 rfl rfl
theorem eStands : Entr Try.prog 23 := Entr.of Try.func23 rfl rfl
theorem eSwapped : Entr Try.prog 24 := Entr.of Try.func24 rfl rfl
theorem has0_le {x N : Nat} (hx : x < 2 ^ N) {u : Int} (h : hasB (x, 0) u = true) : u ≤ N := by
  have hr := hasB_rng h
  unfold hasB at h
  split at h
  · apply Classical.byContradiction
    intro hn
    have : x.testBit (u - 1).toNat = false := Nat.testBit_lt_two_pow (Nat.lt_of_lt_of_le hx (Nat.pow_le_pow_right (by decide) (by omega)))
    rw [show ((x, 0) : Nat × Nat).1 = x from rfl, this] at h
    cases h
  · split at h
    · rw [show ((x, 0) : Nat × Nat).2 = 0 from rfl, Nat.zero_testBit] at h; cases h
    · cases h
theorem func31_any (N : Nat) (hN : N ≤ 8) (aT : Option Addr) (cap : Nat) (vs : List HV) (hT : Heap) (ll : LLR aT vs hT) (hok : okTh N (vs.map (·.l))) (w : World) (hw1 : Holds hT w) :
    Calls Try.prog 22 #[.agg ⟨[.int .i64 (N : Int), .slice aT vs.length cap]⟩] w (Gives (fun v h => ∃ a c, v = .agg ⟨[.int .i64 (N : Int), .slice a (2 ^ N) c]⟩ ∧ SlT encBo 1 a (tabX N (thF (vs.map (·.l)))) h) w) := by
  have h2n := pow8 hN
  have q0 : ∀ L, RdH hT L hT := fun L => RdH.old fun _ hh => hh
  have hp2 : ((N : Int)).toNat = N := by omega
  refine calls_of_JC (R := hT) Try.func22 Try.ntmps22 rfl rfl (hw1) ?_
  refine JC.seq ?_
  refine JC.region ?_
  refine J.isJ ?_
  refine J.o 6 ?_
  refine J.bx (fun b1 => ?_)
  refine J.isJ ?_
  refine J.o 7 ?_
  refine J.al hΓ (fun b2 => ?_)
  repeat' first
    | (refine J.isJ ?_; first | (fail) | (first | (refine J.o 0 ?_; refine J.ev' hΓ ?_) | refine J.nil ?_ | (refine J.o 4 ?_; first | refine J.lR hΓ ?_) | (refine J.o 3 ?_; first | refine J.iJ hΓ ?_ | refine J.ev' hΓ ?_) | (refine J.o 1 ?_; first | refine J.ad ?_) | (refine J.o 5 ?_; first | refine J.t0 hΓ ?_ | refine J.t1 hΓ ?_ | refine J.t2 hΓ ?_ | refine J.tT _ default hΓ (fun _ _ => ?_)) | (refine J.o 6 ?_; refine J.bx (fun _ => ?_)) | (refine J.o 7 ?_; refine J.al hΓ (fun _ => ?_)) | (refine J.o 8 ?_; refine J.bd hΓ ?_) | (refine J.o 10 ?_; refine J.ev' hΓ ?_) | (refine J.o 11 ?_; refine J.ev' hΓ ?_)))
    | (first | refine JC.seq ?_ | refine JC.region ?_ | refine JC.block ?_ | refine JC.ret ?_ | refine JC.exit ?_ | refine JC.skip ?_ | refine thenK.nn ?_ | refine thenK.x ?_ | refine blockK.nn ?_ | refine blockK.hit rfl ?_ | (refine JC.cond rfl (fun hc => ?_) (fun hc => ?_) <;> ((try simp only [decide_eq_true_eq, decide_eq_false_iff_not, beq_iff_eq, beq_eq_false_iff_ne, bne_iff_ne, bne_eq_false_iff_eq, Bool.not_eq_true', Bool.not_eq_false', Bool.not_eq_true, Bool.not_eq_false] at hc) <;> first | (first | (exact absurd rfl hc) | (exfalso; omega) | (exact absurd (hc.symm.trans (by assumption : _ = false)) (by decide)) | (exact absurd (hc.symm.trans (by assumption : _ = true)) (by decide))) | skip)) | refine drawK.nn ?_ | refine loopK.x ?_)
    | (fail)
    | fail
  refine JC.mid (fun i => i == 3 || (Nat.ble 5 i && Nat.ble i 12)) (fun g L' => ∃ b3 bp hp0, g 3 = .pointer (some ⟨b3, 0, none⟩) ∧ OwT encBo 1 4 (some ⟨bp, 0, none⟩) (2 ^ N) (List.replicate (2 ^ N) false) hp0 ∧ L'.Perm ([(b3, .cells ⟨[.int .i64 (N : Int), .slice (some ⟨bp, 0, none⟩) (2 ^ N) (2 ^ N)]⟩ 45 (0, 0))] :: hp0 :: [(b2, .cells ⟨[.int .i64 0, .slice none 0 0]⟩ 45 (0, 0))] :: [(b1, .cells ⟨[.int .i64 (N : Int), .slice aT vs.length cap]⟩ 24 (0, 0))] :: [])) ?_ ?_
  ·
    refine JC.drawE ([(b2, .cells ⟨[.int .i64 0, .slice none 0 0]⟩ 45 (0, 0))] :: [(b1, .cells ⟨[.int .i64 (N : Int), .slice aT vs.length cap]⟩ 24 (0, 0))] :: []) [6, 8, 9] [6, 8, 9] [(0,0),(4,1),(0,2),(4,3),(0,4),(0,5)] 4 _ (by kernel_rfl) (by kernel_rfl) rfl ?_
    repeat' first
      | (refine J.isJ ?_; first | (first | (refine J.o 2 ?_; refine J.cv _ hΓ ?_) | (refine J.o 1 ?_; refine J.s2 ?_)) | (first | (refine J.o 0 ?_; refine J.ev' hΓ ?_) | refine J.nil ?_ | (refine J.o 4 ?_; first | refine J.lR hΓ ?_) | (refine J.o 3 ?_; first | refine J.iJ hΓ ?_ | refine J.ev' hΓ ?_) | (refine J.o 1 ?_; first | refine J.ad ?_) | (refine J.o 5 ?_; first | refine J.t0 hΓ ?_ | refine J.t1 hΓ ?_ | refine J.t2 hΓ ?_ | refine J.tT _ default hΓ (fun _ _ => ?_)) | (refine J.o 6 ?_; refine J.bx (fun _ => ?_)) | (refine J.o 7 ?_; refine J.al hΓ (fun _ => ?_)) | (refine J.o 8 ?_; refine J.bd hΓ ?_) | (refine J.o 10 ?_; refine J.ev' hΓ ?_) | (refine J.o 11 ?_; refine J.ev' hΓ ?_)))
      | (first | (refine JE.is ?_; first | refine JE.s0 ?_ | refine JE.s3 ?_ | refine JE.nil ?_ | refine JE.s4 rfl (fun w hw => hw.subl (by repeat (first | exact List.nil_sublist _ | exact List.Sublist.refl _ | refine List.Sublist.cons_cons _ ?_ | refine List.Sublist.cons _ ?_))) ?_) | refine eK0.nn ?_ | (refine eK3.is ?_; refine eK3.nn (fun w hw => hw.subl (by repeat (first | exact List.nil_sublist _ | exact List.Sublist.refl _ | refine List.Sublist.cons_cons _ ?_ | refine List.Sublist.cons _ ?_))) ?_) | refine brK.nn ?_)
      | (first | refine JC.seq ?_ | refine JC.region ?_ | refine JC.block ?_ | refine JC.ret ?_ | refine JC.exit ?_ | refine JC.skip ?_ | refine thenK.nn ?_ | refine thenK.x ?_ | refine blockK.nn ?_ | refine blockK.hit rfl ?_ | (refine JC.cond rfl (fun hc => ?_) (fun hc => ?_) <;> ((try simp only [decide_eq_true_eq, decide_eq_false_iff_not, beq_iff_eq, beq_eq_false_iff_ne, bne_iff_ne, bne_eq_false_iff_eq, Bool.not_eq_true', Bool.not_eq_false', Bool.not_eq_true, Bool.not_eq_false] at hc) <;> first | (first | (exact absurd rfl hc) | (exfalso; omega) | (exact absurd (hc.symm.trans (by assumption : _ = false)) (by decide)) | (exact absurd (hc.symm.trans (by assumption : _ = true)) (by decide))) | skip)) | refine drawK.nn ?_ | refine loopK.x ?_)
      | (fail)
      | fail
    refine Br.two (c1 := 1) (c2 := 1) (m1 := 0) (m2 := 0) 6 8 [(0,7),(3,8),(3,9)] [(3,6),(0,7),(3,9)] (by decide +kernel) rfl rfl (by decide +kernel) rfl (by decide +kernel) rfl ?_ ?_
    ·
      repeat' first
        | (refine J.isJ ?_; first | (first | (refine J.o 9 ?_; refine J.make (enc := encBo) (m := 2 ^ N) false hΓ rfl rfl rfl rfl rfl rfl (fun _ => rfl) (by omega) (by omega) (fun bp hp0 op0 => ?_)) | (refine J.o 7 ?_; refine J.al hΓ (fun b3 => ?_))) | (first | (refine J.o 0 ?_; refine J.ev' hΓ ?_) | refine J.nil ?_ | (refine J.o 4 ?_; first | refine J.lR hΓ ?_) | (refine J.o 3 ?_; first | refine J.iJ hΓ ?_ | refine J.ev' hΓ ?_) | (refine J.o 1 ?_; first | refine J.ad ?_) | (refine J.o 5 ?_; first | refine J.t0 hΓ ?_ | refine J.t1 hΓ ?_ | refine J.t2 hΓ ?_ | refine J.tT _ default hΓ (fun _ _ => ?_)) | (refine J.o 6 ?_; refine J.bx (fun _ => ?_)) | (refine J.o 7 ?_; refine J.al hΓ (fun _ => ?_)) | (refine J.o 8 ?_; refine J.bd hΓ ?_) | (refine J.o 10 ?_; refine J.ev' hΓ ?_) | (refine J.o 11 ?_; refine J.ev' hΓ ?_)))
        | (first | (refine JE.is ?_; first | refine JE.s0 ?_ | refine JE.s3 ?_ | refine JE.nil ?_ | refine JE.s4 rfl (fun w hw => hw.subl (by repeat (first | exact List.nil_sublist _ | exact List.Sublist.refl _ | refine List.Sublist.cons_cons _ ?_ | refine List.Sublist.cons _ ?_))) ?_) | refine eK0.nn ?_ | (refine eK3.is ?_; refine eK3.nn (fun w hw => hw.subl (by repeat (first | exact List.nil_sublist _ | exact List.Sublist.refl _ | refine List.Sublist.cons_cons _ ?_ | refine List.Sublist.cons _ ?_))) ?_) | refine brK.nn ?_)
        | (first | refine JC.seq ?_ | refine JC.region ?_ | refine JC.block ?_ | refine JC.ret ?_ | refine JC.exit ?_ | refine JC.skip ?_ | refine thenK.nn ?_ | refine thenK.x ?_ | refine blockK.nn ?_ | refine blockK.hit rfl ?_ | (refine JC.cond rfl (fun hc => ?_) (fun hc => ?_) <;> ((try simp only [decide_eq_true_eq, decide_eq_false_iff_not, beq_iff_eq, beq_eq_false_iff_ne, bne_iff_ne, bne_eq_false_iff_eq, Bool.not_eq_true', Bool.not_eq_false', Bool.not_eq_true, Bool.not_eq_false] at hc) <;> first | (first | (exact absurd rfl hc) | (exfalso; omega) | (exact absurd (hc.symm.trans (by assumption : _ = false)) (by decide)) | (exact absurd (hc.symm.trans (by assumption : _ = true)) (by decide))) | skip)) | refine drawK.nn ?_ | refine loopK.x ?_)
        | (fail)
        | fail
      refine Br.done (by kernel_rfl) ?_
      refine midK.nn (by repeat (first | refine Ag.upd rfl ?_ | exact Ag.rfl')) ⟨_, _, _, rfl, op0, ?_⟩
      first | exact .refl _ | exact br1 | exact br1.cons _ | exact br2 | exact br2.symm | exact br2.trans (br1.cons _)
    ·
      repeat' first
        | (refine J.isJ ?_; first | (first | (refine J.o 9 ?_; refine J.make (enc := encBo) (m := 2 ^ N) false hΓ rfl rfl rfl rfl rfl rfl (fun _ => rfl) (by omega) (by omega) (fun bp hp0 op0 => ?_)) | (refine J.o 7 ?_; refine J.al hΓ (fun b3 => ?_))) | (first | (refine J.o 0 ?_; refine J.ev' hΓ ?_) | refine J.nil ?_ | (refine J.o 4 ?_; first | refine J.lR hΓ ?_) | (refine J.o 3 ?_; first | refine J.iJ hΓ ?_ | refine J.ev' hΓ ?_) | (refine J.o 1 ?_; first | refine J.ad ?_) | (refine J.o 5 ?_; first | refine J.t0 hΓ ?_ | refine J.t1 hΓ ?_ | refine J.t2 hΓ ?_ | refine J.tT _ default hΓ (fun _ _ => ?_)) | (refine J.o 6 ?_; refine J.bx (fun _ => ?_)) | (refine J.o 7 ?_; refine J.al hΓ (fun _ => ?_)) | (refine J.o 8 ?_; refine J.bd hΓ ?_) | (refine J.o 10 ?_; refine J.ev' hΓ ?_) | (refine J.o 11 ?_; refine J.ev' hΓ ?_)))
        | (first | (refine JE.is ?_; first | refine JE.s0 ?_ | refine JE.s3 ?_ | refine JE.nil ?_ | refine JE.s4 rfl (fun w hw => hw.subl (by repeat (first | exact List.nil_sublist _ | exact List.Sublist.refl _ | refine List.Sublist.cons_cons _ ?_ | refine List.Sublist.cons _ ?_))) ?_) | refine eK0.nn ?_ | (refine eK3.is ?_; refine eK3.nn (fun w hw => hw.subl (by repeat (first | exact List.nil_sublist _ | exact List.Sublist.refl _ | refine List.Sublist.cons_cons _ ?_ | refine List.Sublist.cons _ ?_))) ?_) | refine brK.nn ?_)
        | (first | refine JC.seq ?_ | refine JC.region ?_ | refine JC.block ?_ | refine JC.ret ?_ | refine JC.exit ?_ | refine JC.skip ?_ | refine thenK.nn ?_ | refine thenK.x ?_ | refine blockK.nn ?_ | refine blockK.hit rfl ?_ | (refine JC.cond rfl (fun hc => ?_) (fun hc => ?_) <;> ((try simp only [decide_eq_true_eq, decide_eq_false_iff_not, beq_iff_eq, beq_eq_false_iff_ne, bne_iff_ne, bne_eq_false_iff_eq, Bool.not_eq_true', Bool.not_eq_false', Bool.not_eq_true, Bool.not_eq_false] at hc) <;> first | (first | (exact absurd rfl hc) | (exfalso; omega) | (exact absurd (hc.symm.trans (by assumption : _ = false)) (by decide)) | (exact absurd (hc.symm.trans (by assumption : _ = true)) (by decide))) | skip)) | refine drawK.nn ?_ | refine loopK.x ?_)
        | (fail)
        | fail
      refine Br.done (by kernel_rfl) ?_
      refine midK.nn (by repeat (first | refine Ag.upd rfl ?_ | exact Ag.rfl')) ⟨_, _, _, rfl, op0, ?_⟩
      first | exact .refl _ | exact br1 | exact br1.cons _ | exact br2 | exact br2.symm | exact br2.trans (br1.cons _)
  rintro g1 L' ⟨b3, bp, hp0, e3, op0, hpm⟩
  refine thenK.nn ?_
  refine JC.perm hpm ?_
  refine JC.pin 3 e3 ?_
  clear e3 hpm
  repeat' first
    | (refine J.isJ ?_; first | (fail) | (first | (refine J.o 0 ?_; refine J.ev' hΓ ?_) | refine J.nil ?_ | (refine J.o 4 ?_; first | refine J.lR hΓ ?_) | (refine J.o 3 ?_; first | refine J.iJ hΓ ?_ | refine J.ev' hΓ ?_) | (refine J.o 1 ?_; first | refine J.ad ?_) | (refine J.o 5 ?_; first | refine J.t0 hΓ ?_ | refine J.t1 hΓ ?_ | refine J.t2 hΓ ?_ | refine J.tT _ default hΓ (fun _ _ => ?_)) | (refine J.o 6 ?_; refine J.bx (fun _ => ?_)) | (refine J.o 7 ?_; refine J.al hΓ (fun _ => ?_)) | (refine J.o 8 ?_; refine J.bd hΓ ?_) | (refine J.o 10 ?_; refine J.ev' hΓ ?_) | (refine J.o 11 ?_; refine J.ev' hΓ ?_)))
    | (first | refine JC.seq ?_ | refine JC.region ?_ | refine JC.block ?_ | refine JC.ret ?_ | refine JC.exit ?_ | refine JC.skip ?_ | refine thenK.nn ?_ | refine thenK.x ?_ | refine blockK.nn ?_ | refine blockK.hit rfl ?_ | (refine JC.cond rfl (fun hc => ?_) (fun hc => ?_) <;> ((try simp only [decide_eq_true_eq, decide_eq_false_iff_not, beq_iff_eq, beq_eq_false_iff_ne, bne_iff_ne, bne_eq_false_iff_eq, Bool.not_eq_true', Bool.not_eq_false', Bool.not_eq_true, Bool.not_eq_false] at hc) <;> first | (first | (exact absurd rfl hc) | (exfalso; omega) | (exact absurd (hc.symm.trans (by assumption : _ = false)) (by decide)) | (exact absurd (hc.symm.trans (by assumption : _ = true)) (by decide))) | skip)) | refine drawK.nn ?_ | refine loopK.x ?_)
    | (fail)
    | fail
  all_goals first | (exfalso; omega) | skip
  refine JC.loop (fun i => i == 4 || Nat.ble 16 i) (fun m g L' => ∃ q h', g 16 = .int .i64 ((q : Nat) : Int) ∧ q + m = 2 ^ N ∧ OwT encBo 1 4 (some ⟨bp, 0, none⟩) (2 ^ N) (fillL (fun x => thF (vs.map (·.l)) (hasB (x, 0))) (2 ^ N) q) h' ∧ L' = [(b3, .cells ⟨[.int .i64 (N : Int), .slice (some ⟨bp, 0, none⟩) (2 ^ N) (2 ^ N)]⟩ 45 (0, 0))] :: h' :: [(b2, .cells ⟨[.int .i64 0, .slice none 0 0]⟩ 45 (0, 0))] :: [(b1, .cells ⟨[.int .i64 (N : Int), .slice aT vs.length cap]⟩ 24 (0, 0))] :: []) (2 ^ N) ⟨0, _, rfl, by omega, by rw [fill_0]; exact op0, rfl⟩ ?_
  clear op0
  rintro m2 g2 L' ⟨q, h', e12, hqm, o4, rfl⟩
  refine JC.pin 16 e12 ?_
  have hfl := fill_len (fun x => thF (vs.map (·.l)) (hasB (x, 0))) (N := 2 ^ N) (q := q) (by omega)
  have hrl : (List.replicate (2 ^ N) false).length = 2 ^ N := List.length_replicate
  rcases Nat.lt_or_ge q (2 ^ N) with hlt | hge
  ·
    have okx : okS (q, 0) := ⟨by show q < 2 ^ 64; exact Nat.lt_trans hlt (Nat.lt_of_le_of_lt h2n (by decide)), by show 0 < 2 ^ 64; decide⟩
    have cE := fun w hw => eval05_any N aT cap vs (q, 0) okx hT ll hok (fun u hu => has0_le hlt hu) w hw
    have hfs := fill_s (fun x => thF (vs.map (·.l)) (hasB (x, 0))) hlt
    have hfi : thF (vs.map (·.l)) (hasB (q, 0)) = evT (hasB (q, 0)) (vs.map (·.l)) := rfl
    rw [← hfi] at cE
    repeat' first
      | (refine J.isJ ?_; first | (first | (refine J.o 4 ?_; first | refine J.lR hΓ ?_ (hr := Rd.hd) | refine J.lR hΓ ?_ (hr := Rd.hd.tl.tl.tl)) | (refine J.o 2 ?_; refine J.gcv (a := q) hΓ ?_ (hk := wU64 (by omega))) | (refine J.fc 41 ?_; refine J.call0 eEval05 rfl rfl (fun w hw => cE w (hw.rdH (q0 _))) ?_) | (refine J.o 3 ?_; refine J.iJ hΓ ?_ (hs := o4.sl)) | (refine J.o 5 ?_; refine J.perm br1 ?_; refine J.tT (enc := encBo) (thF (vs.map (·.l)) (hasB (q, 0))) default hΓ (fun h5 o5 => ?_) (ho := o4))) | (first | (refine J.o 0 ?_; refine J.ev' hΓ ?_) | refine J.nil ?_ | (refine J.o 4 ?_; first | refine J.lR hΓ ?_) | (refine J.o 3 ?_; first | refine J.iJ hΓ ?_ | refine J.ev' hΓ ?_) | (refine J.o 1 ?_; first | refine J.ad ?_) | (refine J.o 5 ?_; first | refine J.t0 hΓ ?_ | refine J.t1 hΓ ?_ | refine J.t2 hΓ ?_ | refine J.tT _ default hΓ (fun _ _ => ?_)) | (refine J.o 6 ?_; refine J.bx (fun _ => ?_)) | (refine J.o 7 ?_; refine J.al hΓ (fun _ => ?_)) | (refine J.o 8 ?_; refine J.bd hΓ ?_) | (refine J.o 10 ?_; refine J.ev' hΓ ?_) | (refine J.o 11 ?_; refine J.ev' hΓ ?_)))
      | (first | refine JC.seq ?_ | refine JC.region ?_ | refine JC.block ?_ | refine JC.ret ?_ | refine JC.exit ?_ | refine JC.skip ?_ | refine thenK.nn ?_ | refine thenK.x ?_ | refine blockK.nn ?_ | refine blockK.hit rfl ?_ | (refine JC.cond rfl (fun hc => ?_) (fun hc => ?_) <;> ((try simp only [decide_eq_true_eq, decide_eq_false_iff_not, beq_iff_eq, beq_eq_false_iff_ne, bne_iff_ne, bne_eq_false_iff_eq, Bool.not_eq_true', Bool.not_eq_false', Bool.not_eq_true, Bool.not_eq_false] at hc) <;> first | (first | (exact absurd rfl hc) | (exfalso; omega) | (exact absurd (hc.symm.trans (by assumption : _ = false)) (by decide)) | (exact absurd (hc.symm.trans (by assumption : _ = true)) (by decide))) | skip)) | refine drawK.nn ?_ | refine loopK.x ?_)
      | ((first | refine JC.drawO [(0,0),(1,1),(0,2),(1,3),(0,4),(0,5),(0,6),(1,7),(1,8),(2,9)] (by decide +kernel) (by decide +kernel) ?_))
      | fail
    all_goals first | (exfalso; omega) | skip
    rw [hfs] at o5
    refine loopK.np (m2 - 1) [] _ (by omega) (by repeat (first | refine Ag.upd rfl ?_ | exact Ag.hv)) br1 ⟨q + 1, _, ?_, by omega, o5, rfl⟩
    show Value.int .i64 _ = _; congr 1
  ·
    obtain rfl : q = 2 ^ N := by omega
    rw [fill_n] at o4
    repeat' first
      | (refine J.isJ ?_; first | (first | (refine J.o 4 ?_; first | refine J.lR hΓ ?_ (hr := Rd.hd) | refine J.lR hΓ ?_ (hr := Rd.hd.tl.tl.tl))) | (first | (refine J.o 0 ?_; refine J.ev' hΓ ?_) | refine J.nil ?_ | (refine J.o 4 ?_; first | refine J.lR hΓ ?_) | (refine J.o 3 ?_; first | refine J.iJ hΓ ?_ | refine J.ev' hΓ ?_) | (refine J.o 1 ?_; first | refine J.ad ?_) | (refine J.o 5 ?_; first | refine J.t0 hΓ ?_ | refine J.t1 hΓ ?_ | refine J.t2 hΓ ?_ | refine J.tT _ default hΓ (fun _ _ => ?_)) | (refine J.o 6 ?_; refine J.bx (fun _ => ?_)) | (refine J.o 7 ?_; refine J.al hΓ (fun _ => ?_)) | (refine J.o 8 ?_; refine J.bd hΓ ?_) | (refine J.o 10 ?_; refine J.ev' hΓ ?_) | (refine J.o 11 ?_; refine J.ev' hΓ ?_)))
      | (first | refine JC.seq ?_ | refine JC.region ?_ | refine JC.block ?_ | refine JC.ret ?_ | refine JC.exit ?_ | refine JC.skip ?_ | refine thenK.nn ?_ | refine thenK.x ?_ | refine blockK.nn ?_ | refine blockK.hit rfl ?_ | (refine JC.cond rfl (fun hc => ?_) (fun hc => ?_) <;> ((try simp only [decide_eq_true_eq, decide_eq_false_iff_not, beq_iff_eq, beq_eq_false_iff_ne, bne_iff_ne, bne_eq_false_iff_eq, Bool.not_eq_true', Bool.not_eq_false', Bool.not_eq_true, Bool.not_eq_false] at hc) <;> first | (first | (exact absurd rfl hc) | (exfalso; omega) | (exact absurd (hc.symm.trans (by assumption : _ = false)) (by decide)) | (exact absurd (hc.symm.trans (by assumption : _ = true)) (by decide))) | skip)) | refine drawK.nn ?_ | refine loopK.x ?_)
      | (fail)
      | fail
    all_goals first | (exfalso; omega) | skip
    refine retC hΓ rfl rfl rfl Rd.hd.tl.tl rfl (fun w1 hw => Gives.of (H.sel (l := [_, _, _, _]) (M := []) hw [1]) ⟨_, _, rfl, o4.sl⟩)
theorem stands_any {F : VF} {l : List Int} {K : KS} {s : SS} {y : Nat} {hO hP : Heap} (sv : Stv F l K s y hO hP) (N : Nat) (hN : N ≤ 8) (hp : l.Perm (ints N)) (hF : DepN N F) (al : Option Addr) (cl : Nat) (hl : Heap) (hsl : SlT encI 1 al l hl) (aF : Option Addr) (cF : Nat) (hFn : Heap) (hsF : SlT encBo 1 aF (tabX N F) hFn) {w0 w : World} {R : Heap} {L : List Heap} {bs : Nat} (rS : RdH R L (stR K bs s hO)) (rl : RdH R L hl) (rF : RdH R L hFn) (hw : H w0 R L w) :
    Calls Try.prog 23 #[.pointer (some ⟨bs, 0, none⟩), .int .i64 (y : Int), .agg ⟨[.int .i64 (N : Int), .slice aF (2 ^ N) cF]⟩, .slice al l.length cl] w fun e w' => ∃ v L', e = .returned v ∧ H w0 R L' w' ∧ v = .bool true ∧ L' = L := by
  have so := sv.so
  have ha := sv.sy.1
  have h2n := pow8 hN
  have hll : l.length = N := by rw [hp.length_eq, ints_len]
  have hmv : ∀ v : Int, v ∈ l → v ≤ N := fun v h => by rw [hp.mem_iff, ints_mem] at h; exact h.2
  have htl := tabX_len N F
  have hds : decide (l = l) = true := decide_eq_true rfl
  refine calls_in Try.func23 Try.ntmps23 rfl rfl (hw) ?_
  refine JC.seq ?_
  refine JC.region ?_
  refine J.isJ ?_
  refine J.o 6 ?_
  refine J.bx (fun b6 => ?_)
  repeat' first
    | (refine J.isJ ?_; first | (first | (refine J.o 4 ?_; refine J.lR hΓ ?_ (hr := Rd.hd))) | (first | (refine J.o 0 ?_; refine J.ev' hΓ ?_) | refine J.nil ?_ | (refine J.o 4 ?_; first | refine J.lT default hΓ ?_ | refine J.lR hΓ ?_) | (refine J.o 3 ?_; first | refine J.iJ hΓ ?_ | refine J.ev' hΓ ?_) | (refine J.o 1 ?_; first | refine J.ad ?_) | (refine J.o 6 ?_; refine J.bx (fun _ => ?_)) | (refine J.o 8 ?_; refine J.bd hΓ ?_) | (refine J.o 10 ?_; refine J.ev' hΓ ?_) | (refine J.o 11 ?_; refine J.ev' hΓ ?_)))
    | (first | refine JC.seq ?_ | refine JC.region ?_ | refine JC.block ?_ | refine JC.ret ?_ | refine JC.exit ?_ | refine JC.skip ?_ | refine thenK.nn ?_ | refine thenK.x ?_ | refine blockK.nn ?_ | refine blockK.hit rfl ?_ | refine JC.condF rfl ?_ | (refine JC.cond rfl (fun hc => ?_) (fun hc => ?_) <;> ((try simp only [decide_eq_true_eq, decide_eq_false_iff_not, beq_iff_eq, beq_eq_false_iff_ne, bne_iff_ne, bne_eq_false_iff_eq, Bool.not_eq_true', Bool.not_eq_false', Bool.not_eq_true, Bool.not_eq_false] at hc) <;> first | (first | (exact absurd rfl hc) | (exfalso; omega) | (exact absurd (hc.symm.trans (by assumption : _ = false)) (by decide)) | (exact absurd (hc.symm.trans (by assumption : _ = true)) (by decide))) | skip)) | refine loopK.x ?_)
    | (fail)
    | fail
  all_goals first | (exfalso; omega) | skip
  refine JC.loop (fun i => i == 9 || i == 10 || (Nat.ble 16 i && Nat.ble i 29)) (fun m g L' => ∃ q, g 16 = .int .i64 ((q : Nat) : Int) ∧ q + m = 2 ^ N ∧ L' = [(b6, .cells ⟨[.int .i64 (N : Int), .slice aF (2 ^ N) cF]⟩ 45 (0, 0))] :: L) (2 ^ N) ⟨0, rfl, by omega, rfl⟩ ?_
  rintro m2 g2 L' ⟨q, e12, hqm, rfl⟩
  refine JC.pin 16 e12 ?_
  rcases Nat.lt_or_ge q (2 ^ N) with hlt | hge
  ·
    have okx : okS (q, 0) := ⟨by show q < 2 ^ 64; exact Nat.lt_trans hlt (Nat.lt_of_le_of_lt h2n (by decide)), by show 0 < 2 ^ 64; decide⟩
    have cE := fun w hw => Eval_any so sv.po bs y ha (q, 0) okx w hw
    have hev : fn l.length s.ns y (asgS l (q, 0)) = F (hasB (q, 0)) := sv.sy.2 (hasB (q, 0))
    rw [hev] at cE
    have hget := tabX_get N F hlt
    cases hb : F (hasB (q, 0))
    all_goals
      rw [hb] at cE hget
      repeat' first
        | (refine J.isJ ?_; first | (first | (refine J.o 4 ?_; first | refine J.lR hΓ ?_ (hr := Rd.hd) | (refine J.lT default hΓ ?_ (hs := hsF) (hr := rF.tl); rw [hget])) | (refine J.o 2 ?_; refine J.gcv (a := q) hΓ ?_ (hk := wU64 (by omega))) | (refine J.fc 34 ?_; refine J.call0 eEvalS rfl rfl (fun w hw => cE w (stR_of2 rS.tl hw)) ?_) | (refine J.o 3 ?_; refine J.iJ hΓ ?_ (hs := hsF))) | (first | (refine J.o 0 ?_; refine J.ev' hΓ ?_) | refine J.nil ?_ | (refine J.o 4 ?_; first | refine J.lT default hΓ ?_ | refine J.lR hΓ ?_) | (refine J.o 3 ?_; first | refine J.iJ hΓ ?_ | refine J.ev' hΓ ?_) | (refine J.o 1 ?_; first | refine J.ad ?_) | (refine J.o 6 ?_; refine J.bx (fun _ => ?_)) | (refine J.o 8 ?_; refine J.bd hΓ ?_) | (refine J.o 10 ?_; refine J.ev' hΓ ?_) | (refine J.o 11 ?_; refine J.ev' hΓ ?_)))
        | (first | refine JC.seq ?_ | refine JC.region ?_ | refine JC.block ?_ | refine JC.ret ?_ | refine JC.exit ?_ | refine JC.skip ?_ | refine thenK.nn ?_ | refine thenK.x ?_ | refine blockK.nn ?_ | refine blockK.hit rfl ?_ | refine JC.condF rfl ?_ | (refine JC.cond rfl (fun hc => ?_) (fun hc => ?_) <;> ((try simp only [decide_eq_true_eq, decide_eq_false_iff_not, beq_iff_eq, beq_eq_false_iff_ne, bne_iff_ne, bne_eq_false_iff_eq, Bool.not_eq_true', Bool.not_eq_false', Bool.not_eq_true, Bool.not_eq_false] at hc) <;> first | (first | (exact absurd rfl hc) | (exfalso; omega) | (exact absurd (hc.symm.trans (by assumption : _ = false)) (by decide)) | (exact absurd (hc.symm.trans (by assumption : _ = true)) (by decide))) | skip)) | refine loopK.x ?_)
        | fail
      all_goals first | (exfalso; omega) | skip
      refine loopK.nn (m2 - 1) (by omega) (by repeat (first | refine Ag.upd rfl ?_ | exact Ag.hv)) ⟨q + 1, ?_, by omega, rfl⟩
      show Value.int .i64 _ = _; congr 1
  ·
    obtain rfl : q = 2 ^ N := by omega
    repeat' first
      | (refine J.isJ ?_; first | (first | (refine J.o 4 ?_; first | refine J.lR hΓ ?_ (hr := Rd.hd)) | (refine J.fc 20 ?_; refine J.callx eSize rfl rfl (fun w hw => Size_any so bs y ha (stR_b rS.tl) (stR_N rS.tl) hw) ?_; rintro _ _ ⟨l1, rfl, rfl, bel1⟩; have hs1 := nodesT_size (by omega) hF hp sv bel1) | (refine J.fc 67 ?_; refine J.call0 eSize31 rfl rfl (fun w hw => size31_any N hN F l sv.ho hmv (by omega) al cl hl hsl aF cF hFn hsF w ((hw.rdH rl.tl).append (hw.rdH rF.tl))) ?_) | (refine J.o 11 ?_; refine J.eqT2 hΓ hs1 ?_) | (refine J.fc 19 ?_; refine J.call1 eOrder rfl rfl (fun w hw => Order_any so sv.po bs w (stR_of2 rS.tl hw)) ?_; rintro _ ho ⟨ao, co, rfl, oo⟩) | (refine J.fc 18 ?_; refine J.call0 eSame3 rfl rfl (fun w hw => same3_any l l ao al co cl (ho ++ hl) (oo.sl.sub fun x hx => List.mem_append_left _ hx) (hsl.sub fun x hx => List.mem_append_right _ hx) (by omega) (by omega) w ((hw.rdH RdH.hd).append (hw.rdH rl.tl.tl))) ?_; rw [hds])) | (first | (refine J.o 0 ?_; refine J.ev' hΓ ?_) | refine J.nil ?_ | (refine J.o 4 ?_; first | refine J.lT default hΓ ?_ | refine J.lR hΓ ?_) | (refine J.o 3 ?_; first | refine J.iJ hΓ ?_ | refine J.ev' hΓ ?_) | (refine J.o 1 ?_; first | refine J.ad ?_) | (refine J.o 6 ?_; refine J.bx (fun _ => ?_)) | (refine J.o 8 ?_; refine J.bd hΓ ?_) | (refine J.o 10 ?_; refine J.ev' hΓ ?_) | (refine J.o 11 ?_; refine J.ev' hΓ ?_)))
      | (first | refine JC.seq ?_ | refine JC.region ?_ | refine JC.block ?_ | refine JC.ret ?_ | refine JC.exit ?_ | refine JC.skip ?_ | refine thenK.nn ?_ | refine thenK.x ?_ | refine blockK.nn ?_ | refine blockK.hit rfl ?_ | refine JC.condF rfl ?_ | (refine JC.cond rfl (fun hc => ?_) (fun hc => ?_) <;> ((try simp only [decide_eq_true_eq, decide_eq_false_iff_not, beq_iff_eq, beq_eq_false_iff_ne, bne_iff_ne, bne_eq_false_iff_eq, Bool.not_eq_true', Bool.not_eq_false', Bool.not_eq_true, Bool.not_eq_false] at hc) <;> first | (first | (exact absurd rfl hc) | (exfalso; omega) | (exact absurd (hc.symm.trans (by assumption : _ = false)) (by decide)) | (exact absurd (hc.symm.trans (by assumption : _ = true)) (by decide))) | skip)) | refine loopK.x ?_)
      | fail
    all_goals first | (exfalso; omega) | skip
    refine ret1f rfl rfl rfl (fun w1 hw => ⟨_, _, rfl, hw.drop.drop, rfl, rfl⟩)
end Go.Proofs.Ytbhgahjeocnfcaa
namespace Go.Proofs.Ytbhgahjeocnfcaa
open Go Go.Cx Go.RowKit
set_option linter.unusedVariables false
set_option linter.unusedSimpArgs false
set_option maxHeartbeats 4000000
attribute [local irreducible] J JC thenK blockK loopK drawK retK QW Qt pel List.set Calls
open Go.Maps Go.Lib
set_option maxRecDepth 8000
attribute [local irreducible] JE Br eK0 eK3 brK pc
theorem Swapped_out (l : List Int) (hl8 : l.length ≤ 128) (p : Int) (hp : p < 0 ∨ (l.length : Int) - 1 ≤ p) (al : Option Addr) (cl : Nat) (w : World) :
    Calls Try.prog 24 #[.slice al l.length cl, .int .i64 p] w fun e w' => e = .returned (.tuple #[.slice none 0 0, .bool false]) ∧ Below w.heap.size w w' := by
  refine calls_of_JC (R := []) Try.func24 Try.ntmps24 rfl rfl (Holds.nil _) ?_
  repeat' first
    | (refine J.isJ ?_; first | (fail) | (first | (refine J.o 0 ?_; refine J.ev' hΓ ?_) | refine J.nil ?_ | refine J.kd ?_ | (refine J.o 3 ?_; first | refine J.ev' hΓ ?_) | (refine J.o 1 ?_; first | refine J.sb ?_) | (refine J.o 10 ?_; refine J.ev' hΓ ?_) | (refine J.o 11 ?_; refine J.ev' hΓ ?_)) | ((fail_if_success refine J.wt ?_); refine J.gc rfl rfl (fun hc => ?_) (fun hc => ?_) <;> ((try simp only [decide_eq_true_eq, decide_eq_false_iff_not, beq_iff_eq, beq_eq_false_iff_ne, bne_iff_ne, bne_eq_false_iff_eq, Bool.not_eq_true', Bool.not_eq_false', Bool.not_eq_true, Bool.not_eq_false] at hc) <;> first | (first | (exact absurd rfl hc) | (exfalso; omega) | (exact absurd (hc.symm.trans (by assumption : _ = false)) (by decide)) | (exact absurd (hc.symm.trans (by assumption : _ = true)) (by decide))) | skip)))
    | (first | refine JC.seq ?_ | refine JC.region ?_ | refine JC.ret ?_ | refine thenK.nn ?_ | refine thenK.r ?_ | refine JC.condT rfl ?_ | (refine JC.cond rfl (fun hc => ?_) (fun hc => ?_) <;> ((try simp only [decide_eq_true_eq, decide_eq_false_iff_not, beq_iff_eq, beq_eq_false_iff_ne, bne_iff_ne, bne_eq_false_iff_eq, Bool.not_eq_true', Bool.not_eq_false', Bool.not_eq_true, Bool.not_eq_false] at hc) <;> first | (first | (exact absurd rfl hc) | (exfalso; omega) | (exact absurd (hc.symm.trans (by assumption : _ = false)) (by decide)) | (exact absurd (hc.symm.trans (by assumption : _ = true)) (by decide))) | skip)))
    | (fail)
    | fail
  all_goals first | (exfalso; omega) | skip
  all_goals (refine ret2f rfl rfl rfl rfl rfl (fun w1 hw => ⟨rfl, hw.below⟩))
theorem Swapped_any (l : List Int) (hl8 : l.length ≤ 128) (p : Nat) (hp : p + 1 < l.length) (al : Option Addr) (cl : Nat) (hl : Heap) (hsl : SlT encI 1 al l hl) (w : World) (hw1 : Holds hl w) :
    Calls Try.prog 24 #[.slice al l.length cl, .int .i64 (p : Int)] w (Gives (fun v h => ∃ a c, v = .tuple #[.slice a (swp l p).length c, .bool true] ∧ SlT encI 1 a (swp l p) h) w) := by
  have q0 : ∀ L, RdH hl L hl := fun L => RdH.old fun _ hh => hh
  have hsw : (swp l p).length = l.length := swp_len l p
  have hg1 : (l.set p (l.getD (p + 1) default)).length = l.length := by simp
  refine calls_of_JC (R := hl) Try.func24 Try.ntmps24 rfl rfl (hw1) ?_
  refine JC.nilF ?_
  repeat' first
    | (refine J.isJ ?_; first | (first | (refine J.o 9 ?_; refine J.apA hΓ (OwT.nil (enc := encI) (size := 1) (e := 3) (fun _ => rfl)) hsl (q0 _) (fun a3 c3 h3 o3 => ?_)) | (refine J.o 3 ?_; first | refine J.iJ hΓ ?_ (hs := hsl) | refine J.iJ hΓ ?_ (hs := o3.sl)) | (refine J.o 4 ?_; refine J.lT default hΓ ?_ (hs := hsl) (hr := q0 _)) | (refine J.o 5 ?_; first | refine J.tT (enc := encI) (l.getD (p + 1) default) default hΓ (fun h5 o5 => ?_) (ho := o3))) | (first | (refine J.o 0 ?_; refine J.ev' hΓ ?_) | refine J.nil ?_ | (refine J.o 4 ?_; first | refine J.lT default hΓ ?_) | (refine J.o 3 ?_; first | refine J.iJ hΓ ?_ | refine J.ev' hΓ ?_) | (refine J.o 1 ?_; first | refine J.ad ?_ | refine J.sb ?_) | (refine J.o 5 ?_; first | refine J.tT _ default hΓ (fun _ _ => ?_)) | (refine J.o 10 ?_; refine J.ev' hΓ ?_) | (refine J.o 11 ?_; refine J.ev' hΓ ?_)))
    | (first | refine JC.seq ?_ | refine JC.region ?_ | refine JC.ret ?_ | refine JC.skip ?_ | refine thenK.nn ?_ | (refine JC.cond rfl (fun hc => ?_) (fun hc => ?_) <;> ((try simp only [decide_eq_true_eq, decide_eq_false_iff_not, beq_iff_eq, beq_eq_false_iff_ne, bne_iff_ne, bne_eq_false_iff_eq, Bool.not_eq_true', Bool.not_eq_false', Bool.not_eq_true, Bool.not_eq_false] at hc) <;> first | (first | (exact absurd rfl hc) | (exfalso; omega) | (exact absurd (hc.symm.trans (by assumption : _ = false)) (by decide)) | (exact absurd (hc.symm.trans (by assumption : _ = true)) (by decide))) | skip)) | refine drawK.nn ?_)
    | ((refine JC.drawO [(0,0),(0,1),(0,2),(0,3),(0,4),(0,5),(0,6),(0,7),(0,8),(1,9),(0,10),(0,11),(0,12),(1,13),(0,14),(2,15),(0,16),(2,17)] (by decide +kernel) (by decide +kernel) ?_))
    | fail
  all_goals first | (exfalso; omega) | skip
  rename_i h6 o6
  have hq : ((p : Int) + 1).toNat = p + 1 := by omega
  rw [hq] at o6
  have o7 : OwT encI 1 3 a3 c3 (swp l p) h6 := o6
  refine ret2f rfl rfl rfl rfl rfl (fun w1 hw => Gives.of hw ⟨a3, c3, by rw [hsw]; rfl, o7.sl⟩)
end Go.Proofs.Ytbhgahjeocnfcaa
namespace Go.Proofs.Ytbhgahjeocnfcaa
open Go Go.Cx Go.RowKit
set_option linter.unusedVariables false
set_option linter.unusedSimpArgs false
set_option maxHeartbeats 4000000
attribute [local irreducible] J JC thenK blockK loopK drawK retK QW Qt pel List.set Calls
open Go.Maps Go.Lib
set_option maxRecDepth 8000
attribute [local irreducible] JE Br eK0 eK3 brK pc
theorem th_dep {N : Nat} {T : List (List Int)} (hok : okTh N T) : DepN N (thF T) := fun b c h => evT_congr hok h
set_option maxHeartbeats 16000000 in
theorem swaps_any (N : Int) (aT : Option Addr) (cap : Nat) (vs : List HV) (hT : Heap) (ll : LLR aT vs hT) (ks : List Nat) (ak : Option Addr) (ck : Nat) (hk : Heap) (hs : SlT encK 1 ak ks hk) (hkl : ks.length ≤ 9223372036854775807) (hkb : ∀ k ∈ ks, k < 256) (p : Int) (w : World) (hw1 : Holds (hT ++ hk) w) :
    Calls Try.prog 6 #[.agg ⟨[.int .i64 N, .slice aT vs.length cap]⟩, .slice ak ks.length ck, .int .i64 p] w fun e w' => e = .returned (.bool true) ∧ Below w.heap.size w w' := by
  have qT : ∀ L, RdH (hT ++ hk) L hT := fun L => RdH.old fun _ hh => List.mem_append_left _ hh
  have qK : ∀ L, RdH (hT ++ hk) L hk := fun L => RdH.old fun _ hh => List.mem_append_right _ hh
  have cS := fun w hw => small_any 5 (by omega) N aT cap vs hT ll w hw
  by_cases hsm : smallP 5 N (vs.map (·.l))
  case neg =>
    rw [decide_eq_false hsm] at cS
    refine calls_of_JC (R := (hT ++ hk)) Try.func6 Try.ntmps6 rfl rfl (hw1) ?_
    repeat' first
      | (refine J.isJ ?_; first | (first | (refine J.o 6 ?_; refine J.bx (fun b3 => ?_)) | (refine J.o 4 ?_; refine J.lR hΓ ?_ (hr := Rd.hd)) | (refine J.fc 13 ?_; refine J.call0 eSmall rfl rfl (fun w hw => cS w (hw.rdH (qT _))) ?_) | (refine J.fc 14 ?_; refine J.call0 eWorks31 rfl rfl (fun w hw => works31_any w) ?_)) | (first | (refine J.o 0 ?_; refine J.ev' hΓ ?_) | refine J.nil ?_ | (refine J.o 4 ?_; first | refine J.lR hΓ ?_) | (refine J.o 3 ?_; first | refine J.ev' hΓ ?_) | (refine J.o 5 ?_; first | refine J.t0 hΓ ?_) | (refine J.o 6 ?_; refine J.bx (fun _ => ?_)) | (refine J.o 7 ?_; refine J.al hΓ (fun _ => ?_)) | (refine J.o 10 ?_; refine J.ev' hΓ ?_) | (refine J.o 11 ?_; refine J.ev' hΓ ?_)))
      | (first | refine JC.seq ?_ | refine JC.region ?_ | refine JC.ret ?_ | refine JC.skip ?_ | refine thenK.nn ?_ | refine thenK.r ?_ | refine JC.condT rfl ?_ | refine JC.condF rfl ?_)
      | (fail)
      | fail
    all_goals first | (exfalso; omega) | skip
    all_goals (refine ret1f rfl rfl rfl (fun w1 hw => ⟨rfl, hw.below⟩))
  rw [decide_eq_true hsm] at cS
  obtain ⟨n, rfl, hn5, hok, hco⟩ := smallP_ok (n := 5) (by omega) hsm
  have hdep := th_dep hok
  refine calls_of_JC (R := (hT ++ hk)) Try.func6 Try.ntmps6 rfl rfl (hw1) ?_
  repeat' first
    | (refine J.isJ ?_; first | (first | (refine J.o 6 ?_; refine J.bx (fun b3 => ?_)) | (refine J.o 4 ?_; first | refine J.lR hΓ ?_ (hr := Rd.hd) | refine J.lR hΓ ?_ (hr := Rd.hd.tl) | refine J.lR hΓ ?_ (hr := Rd.app _ Rd.hd.tl.tl.tl)) | (refine J.fc 13 ?_; refine J.call0 eSmall rfl rfl (fun w hw => cS w (hw.rdH (qT _))) ?_) | (refine J.fc 15 ?_; refine J.call1 eOrder31 rfl rfl (fun w hw => order31_any n (by omega) ks ak ck hk hs hkl hkb w (hw.rdH (qK _))) ?_; rintro _ hO ⟨aO, l, cO, rfl, hp, oO⟩; have hll : l.length = n := (by rw [hp.length_eq, ints_len])) | (refine J.fc 16 ?_; refine J.callx eCom rfl rfl (fun w hw => compile_V n (by omega) l hp aO cO hO oO.sl aT cap vs hT ll _ rfl hok hco RdH.hd (qT _) hw) ?_; rintro _ _ ⟨b1, K1, s1, y1, hO1, hP1, rfl, rfl, sv1⟩) | (refine J.fc 22 ?_; refine J.call1 eFunc31 rfl rfl (fun w hw => func31_any n (by omega) aT cap vs hT ll hok w (hw.rdH (qT _))) ?_; rintro _ hF ⟨aF, cF, rfl, oF⟩) | (refine J.o 7 ?_; refine J.al hΓ (fun b11 => ?_))) | (first | (refine J.o 0 ?_; refine J.ev' hΓ ?_) | refine J.nil ?_ | (refine J.o 4 ?_; first | refine J.lR hΓ ?_) | (refine J.o 3 ?_; first | refine J.ev' hΓ ?_) | (refine J.o 5 ?_; first | refine J.t0 hΓ ?_) | (refine J.o 6 ?_; refine J.bx (fun _ => ?_)) | (refine J.o 7 ?_; refine J.al hΓ (fun _ => ?_)) | (refine J.o 10 ?_; refine J.ev' hΓ ?_) | (refine J.o 11 ?_; refine J.ev' hΓ ?_)))
    | (first | refine JC.seq ?_ | refine JC.region ?_ | refine JC.ret ?_ | refine JC.skip ?_ | refine thenK.nn ?_ | refine thenK.r ?_ | refine JC.condT rfl ?_ | refine JC.condF rfl ?_)
    | (fail)
    | fail
  all_goals first | (exfalso; omega) | skip
  rcases Classical.em (0 ≤ p ∧ p + 1 < l.length) with hin | hout
  ·
    obtain ⟨q, rfl⟩ : ∃ q : Nat, p = (q : Int) := ⟨p.toNat, by omega⟩
    have hqn : q + 1 < l.length := by omega
    have hsl := swp_len l q
    have hp2 : (swp l q).Perm (ints n) := (swp_perm l hqn).trans hp
    repeat' first
      | (refine J.isJ ?_; first | (first | (refine J.o 4 ?_; first | refine J.lR hΓ ?_ (hr := Rd.app _ Rd.hd.tl.tl) | refine J.lR hΓ ?_ (hr := (Rd.app _ Rd.hd.tl.tl).tl)) | (refine J.fc 17 ?_; refine J.callx eSwap rfl rfl (fun w hw => Swap_any sv1 (by omega) q hqn (stR_hd _).tl.tl hw) ?_; rintro _ _ ⟨b2, K2, s2, y2, hO2, hP2, rfl, rfl, sv2⟩) | (refine J.fc 23 ?_; first | (refine J.callx eStands rfl rfl (fun w hw => stands_any sv1 n (by omega) hp hdep aO cO hO oO.sl aF cF hF oF (stR_tl (stR_hd _).tl.tl K2 b2 s2 hO2 hP2) (stR_tl (stR_tl RdH.hd K1 b1 s1 hO1 hP1).tl.tl K2 b2 s2 hO2 hP2) (stR_tl RdH.hd.tl K2 b2 s2 hO2 hP2) hw) ?_; rintro _ _ ⟨rfl, rfl⟩) | (refine J.callx eStands rfl rfl (fun w hw => stands_any sv2 n (by omega) hp2 hdep aN cN hN sN aF cF hF oF (stR_hd _).tl RdH.hd (stR_tl RdH.hd.tl K2 b2 s2 hO2 hP2).tl hw) ?_; rintro _ _ ⟨rfl, rfl⟩)) | (refine J.fc 24 ?_; refine J.call1 eSwapped rfl rfl (fun w hw => Swapped_any l (by omega) q hqn aO cO hO oO.sl w (hw.rdH (stR_tl (stR_tl RdH.hd K1 b1 s1 hO1 hP1).tl.tl K2 b2 s2 hO2 hP2))) ?_; rintro _ hN ⟨aN, cN, rfl, sN⟩) | (refine J.fc 14 ?_; refine J.call0 eWorks31 rfl rfl (fun w hw => works31_any w) ?_)) | (first | (refine J.o 0 ?_; refine J.ev' hΓ ?_) | refine J.nil ?_ | (refine J.o 4 ?_; first | refine J.lR hΓ ?_) | (refine J.o 3 ?_; first | refine J.ev' hΓ ?_) | (refine J.o 5 ?_; first | refine J.t0 hΓ ?_) | (refine J.o 6 ?_; refine J.bx (fun _ => ?_)) | (refine J.o 7 ?_; refine J.al hΓ (fun _ => ?_)) | (refine J.o 10 ?_; refine J.ev' hΓ ?_) | (refine J.o 11 ?_; refine J.ev' hΓ ?_)))
      | (first | refine JC.seq ?_ | refine JC.region ?_ | refine JC.ret ?_ | refine JC.skip ?_ | refine thenK.nn ?_ | refine thenK.r ?_ | refine JC.condT rfl ?_ | refine JC.condF rfl ?_)
      | fail
    all_goals first | (exfalso; omega) | skip
    all_goals (refine ret1f rfl rfl rfl (fun w1 hw => ⟨rfl, hw.below⟩))
  ·
    have ho : p < 0 ∨ (l.length : Int) - 1 ≤ p := by omega
    repeat' first
      | (refine J.isJ ?_; first | (first | (refine J.o 4 ?_; first | refine J.lR hΓ ?_ (hr := Rd.hd)) | (refine J.fc 17 ?_; refine J.callx eSwap rfl rfl (fun w hw => Swap_out sv1 p ho (stR_hd _).tl.tl hw) ?_; rintro _ _ ⟨rfl, rfl⟩) | (refine J.fc 23 ?_; (refine J.callx eStands rfl rfl (fun w hw => stands_any sv1 n (by omega) hp hdep aO cO hO oO.sl aF cF hF oF (stR_hd _).tl.tl (stR_tl RdH.hd K1 b1 s1 hO1 hP1).tl.tl RdH.hd.tl hw) ?_; rintro _ _ ⟨rfl, rfl⟩)) | (refine J.fc 24 ?_; refine J.call0 eSwapped rfl rfl (fun w hw => Swapped_out l (by omega) p ho aO cO w) ?_) | (refine J.o 11 ?_; refine J.pN hΓ ?_) | (refine J.fc 14 ?_; refine J.call0 eWorks31 rfl rfl (fun w hw => works31_any w) ?_)) | (first | (refine J.o 0 ?_; refine J.ev' hΓ ?_) | refine J.nil ?_ | (refine J.o 4 ?_; first | refine J.lR hΓ ?_) | (refine J.o 3 ?_; first | refine J.ev' hΓ ?_) | (refine J.o 5 ?_; first | refine J.t0 hΓ ?_) | (refine J.o 6 ?_; refine J.bx (fun _ => ?_)) | (refine J.o 7 ?_; refine J.al hΓ (fun _ => ?_)) | (refine J.o 10 ?_; refine J.ev' hΓ ?_) | (refine J.o 11 ?_; refine J.ev' hΓ ?_)))
      | (first | refine JC.seq ?_ | refine JC.region ?_ | refine JC.ret ?_ | refine JC.skip ?_ | refine thenK.nn ?_ | refine thenK.r ?_ | refine JC.condT rfl ?_ | refine JC.condF rfl ?_)
      | fail
    all_goals first | (exfalso; omega) | skip
    all_goals (refine ret1f rfl rfl rfl (fun w1 hw => ⟨rfl, hw.below⟩))
end Go.Proofs.Ytbhgahjeocnfcaa
