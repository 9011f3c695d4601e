/- TreeChecks: the walk; the plain law is a premise here. -/
import Derived.Test.YtdiciemlbhkilaaDoorK
namespace Go.Proofs.YtdiciemlbhkilaaDoor
open Go Go.Cx Go.RowKit
set_option linter.unusedVariables false
set_option linter.unusedSimpArgs false
set_option maxHeartbeats 4000000
attribute [local irreducible] J JC thenK blockK loopK roundK drawK retK QW Qt pel List.set Calls

theorem eWorks : Entr Tryd.prog 5 := Entr.of Tryd.func5 rfl rfl

end Go.Proofs.YtdiciemlbhkilaaDoor
