/- The library's table out of the rows' condition. -/
import Derived.Test.YtfegpmoephdkpaaDoorTb
import Derived.Test.YtfegpmoephdkpaaDoorQ
import Derived.Lib.LaidTab
import Derived.Stop.LaidErr
namespace Go.Proofs.YtfegpmoephdkpaaDoor
open Go Go.Cx Go.RowKit
set_option linter.unusedVariables false
set_option linter.unusedSimpArgs false
set_option maxHeartbeats 4000000
attribute [local irreducible] J JC thenK blockK loopK roundK drawK retK QW Qt pel List.set Calls
theorem tab_of_laid {W : World} (h : laidMetH Tryd.prog Rows.treeChecksRow.laid W) : Tab W := by
  rw [MakeChecks.laidMetH_plain _ _ _ (by kernel_rfl)] at h
  have h2 := h.tail.tail
  exact Lib.tabIs_of_head (rest := [("strconv.ErrRange", Rows.laid_strconv_ErrRange), ("strconv.ErrSyntax", Rows.laid_strconv_ErrSyntax)]) (g := 0) (by kernel_rfl) (by kernel_rfl) (Tryd.underlying126) Tryd.underlying33 (by kernel_rfl) (by kernel_rfl) h2
end Go.Proofs.YtfegpmoephdkpaaDoor
