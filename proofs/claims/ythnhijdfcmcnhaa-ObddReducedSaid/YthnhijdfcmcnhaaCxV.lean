/-
  Further rules of the layer: an empty fragment, loops within loops.
-/
import Derived.Test.YthnhijdfcmcnhaaCxS
namespace Go.Cx
open Go Go.RowKit
set_option linter.unusedVariables false
set_option linter.unusedSimpArgs false
theorem J.nilF {P : Program} {n : Nat} {w0 : World} {R : Heap} {l0 : List Oper} {K : Exit → Fr → List Heap → Prop} {f : Fr} {L : List Heap} {rs : List (Nat × Oper)} (k : J P n w0 R l0 K rs f ([] :: L)) : J P n w0 R l0 K rs f L := fun a ha => by
  have : H w0 R L = H w0 R ([] :: L) := funext fun w => propext ⟨fun h => h.nilF, fun h => h.drop⟩
  rw [this]
  exact k a ha
/-- slots written in an inner loop -/
theorem Ag.hv2 {ws ws2 : Nat → Bool} {f f2 g : Fr} (hs : ∀ i, ws2 i = true → ws i = true) (h : Ag ws f f2) : Ag ws f (havoc ws2 f2 g) := fun i hi => by
  have h2 : ws2 i = false := by
    cases hb : ws2 i with
    | false => rfl
    | true => rw [hs i hb] at hi; cases hi
  simp only [havoc, h2, cond_false]
  exact h i hi
end Go.Cx
