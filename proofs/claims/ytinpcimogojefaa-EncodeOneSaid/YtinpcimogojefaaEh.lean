/- The closure of sums. -/
import Derived.Test.YtinpcimogojefaaEf
import Derived.Test.YtinpcimogojefaaEg
namespace Go.Proofs.Ytinpcimogojefaa
open Go Go.Cx Go.RowKit
set_option linter.unusedVariables false
set_option linter.unusedSimpArgs false
set_option maxHeartbeats 4000000
attribute [local irreducible] J JC thenK blockK loopK roundK drawK retK QW Qt pel List.set Calls
attribute [local irreducible] JE Br eK0 eK2 eK3 brK
/-- what the closure says of a partial sum -/
def delQ (least rest x : Int) : Bool := decide (least ≤ x) || decide (IntKind.i64.wrap (x + rest) < least)
theorem eSums1 : Entr Try.prog 54 := Entr.of Try.func54 rfl rfl
theorem sums1_any (x : Int) (y : Bool) (bs br : Nat) (c0 c1 : Value) (least rest : Int) (w : World) (hw : Holds [(bs, .cells ⟨[c0, c1, .int .i64 least]⟩ 24 (0, 0)), (br, .cells ⟨[.int .i64 rest]⟩ 3 (0, 0))] w) :
    Calls Try.prog 54 ⟨[ekI x, evB y] ++ [.pointer (some ⟨bs, 0, none⟩), .pointer (some ⟨br, 0, none⟩)]⟩ w fun e w' => e = .returned (.bool (delQ least rest x)) ∧ Below w.heap.size w w' := by
  have q1 : Rd [(bs, .cells ⟨[c0, c1, .int .i64 least]⟩ 24 (0, 0)), (br, .cells ⟨[.int .i64 rest]⟩ 3 (0, 0))] [] bs (.cells ⟨[c0, c1, .int .i64 least]⟩ 24 (0, 0)) := .inl (by simp)
  have q2 : Rd [(bs, .cells ⟨[c0, c1, .int .i64 least]⟩ 24 (0, 0)), (br, .cells ⟨[.int .i64 rest]⟩ 3 (0, 0))] [] br (.cells ⟨[.int .i64 rest]⟩ 3 (0, 0)) := .inl (by simp)
  simp only [List.cons_append, List.nil_append, ekI, evB]
  refine calls_of_JC (R := _) Try.func54 Try.ntmps54 rfl rfl (hw) ?_
  repeat' first
    | (refine J.isJ ?_; first | (first | (refine J.o 0 ?_; refine J.ev' hΓ ?_) | refine J.nil ?_ | refine J.kd ?_ | (refine J.o 4 ?_; first | refine J.e0 hΓ ?_ | refine J.lT default hΓ ?_ | refine J.e1 hΓ ?_ | refine J.e2 hΓ ?_ | refine J.lR hΓ ?_) | (refine J.o 3 ?_; first | refine J.iA hΓ ?_ | refine J.iJ hΓ ?_ | refine J.fP hΓ ?_ | refine J.iC hΓ ?_ | refine J.ev' hΓ ?_) | (refine J.o 1 ?_; first | refine J.ad ?_ | refine J.sb ?_ | refine J.ng ?_ | refine J.mu ?_) | (refine J.o 5 ?_; first | refine J.t0 hΓ ?_ | refine J.t1 hΓ ?_ | refine J.t2 hΓ ?_) | (refine J.o 6 ?_; refine J.bx (fun _ => ?_)) | (refine J.o 7 ?_; refine J.al hΓ (fun _ => ?_)) | (refine J.o 8 ?_; refine J.bd hΓ ?_) | (refine J.o 9 ?_; refine J.bl hΓ (fun _ => ?_)) | (refine J.o 10 ?_; first | refine J.ls hΓ ?_ | refine J.ev' hΓ ?_) | (refine J.o 11 ?_; refine J.ev' hΓ ?_) | refine J.kn ?_) | ((refine J.o 1 ?_; refine J.ev' hΓ ?_)) | ((fail_if_success refine J.wt ?_); refine J.gc rfl rfl (fun hc => ?_) (fun hc => ?_) <;> ((try simp only [decide_eq_true_eq, decide_eq_false_iff_not, beq_iff_eq, beq_eq_false_iff_ne, bne_iff_ne, bne_eq_false_iff_eq, Bool.not_eq_true', Bool.not_eq_false', Bool.not_eq_true, Bool.not_eq_false] at hc) <;> first | (first | (exact absurd rfl hc) | (exfalso; omega) | (exact absurd (hc.symm.trans (by assumption : _ = false)) (by decide)) | (exact absurd (hc.symm.trans (by assumption : _ = true)) (by decide))) | skip)))
    | (first | refine JC.seq ?_ | refine JC.region ?_ | refine JC.block ?_ | refine JC.ret ?_ | refine JC.exit ?_ | refine JC.skip ?_ | refine thenK.nn ?_ | refine thenK.r ?_ | refine thenK.x ?_ | refine blockK.nn ?_ | refine blockK.r ?_ | refine blockK.hit rfl ?_ | refine blockK.miss rfl ?_ | refine JC.condT rfl ?_ | refine JC.condF rfl ?_ | (refine JC.cond rfl (fun hc => ?_) (fun hc => ?_) <;> ((try simp only [decide_eq_true_eq, decide_eq_false_iff_not, beq_iff_eq, beq_eq_false_iff_ne, bne_iff_ne, bne_eq_false_iff_eq, Bool.not_eq_true', Bool.not_eq_false', Bool.not_eq_true, Bool.not_eq_false] at hc) <;> first | (first | (exact absurd rfl hc) | (exfalso; omega) | (exact absurd (hc.symm.trans (by assumption : _ = false)) (by decide)) | (exact absurd (hc.symm.trans (by assumption : _ = true)) (by decide))) | skip)) | (refine JC.drawA [] (by kernel_rfl) (by kernel_rfl) ?_) | refine drawK.nn ?_ | refine roundK.nn ?_ | refine roundK.r ?_ | refine roundK.x ?_ | refine loopK.r ?_ | refine loopK.x ?_)
    | fail
  all_goals first | (exfalso; omega) | skip
  all_goals refine ret1f rfl rfl rfl (fun w1 hw => ⟨retB ?_, hw.below⟩)
  all_goals (clear hw q1 q2; unfold delQ)
  all_goals first | (simp_all; done) | (simp_all; intro h; omega)
end Go.Proofs.Ytinpcimogojefaa
