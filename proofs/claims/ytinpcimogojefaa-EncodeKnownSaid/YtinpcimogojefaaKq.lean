/- How the arguments of the laws of encode read. -/
import Derived.Test.YtinpcimogojefaaCxR
import Derived.Test.YtinpcimogojefaaEs
import Derived.Test.YtinpcimogojefaaRows
namespace Go.Proofs.Ytinpcimogojefaa
open Go Go.Cx Go.RowKit
set_option linter.unusedVariables false
set_option linter.unusedSimpArgs false
set_option maxHeartbeats 4000000
attribute [local irreducible] J JC thenK blockK loopK roundK drawK retK QW Qt pel List.set Calls
theorem own : ownKnob Try.prog.godebug = none := by kernel_rfl
theorem laidOut : laidOutB Try.prog = true := by kernel_rfl
theorem c_int : Try.prog.cellsOf 3 = 1 := by kernel_rfl
theorem c_ints : Try.prog.cellsOf 22 = 1 := by kernel_rfl
theorem c_sum : Try.prog.cellsOf 24 = 3 := by kernel_rfl
end Go.Proofs.Ytinpcimogojefaa
