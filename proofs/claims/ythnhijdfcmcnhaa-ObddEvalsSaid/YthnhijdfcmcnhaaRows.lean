/-
  No cell of these rows narrows 'for every input' (looked for: loops, veiled, ifaces, maps, wideKeys, modest, calm, conditions, laid).
  DERIVED. THE GIVEN ROWS OF THIS SEAT. 10 by the template 'for every input the law returns true; each argument reads behind the call as it read before'; 0 by the template 'total and deterministic' (their statements: YthnhijdfcmcnhaaTotals.lean).
  GIVEN WITH THE SEED: the statements are not yours to turn. If you find one false, say at which input.
  Laid BY PROGRAM, IN A SANDBOX (cutbox-rows.mjs): the forced cells as the released guide's own fill.sh prints them over the translation b2b975a77cbd1441… (all of the seat's roots in one cut). By AI agents, Wed Nov 11 2026. No macro, syntax, notation, axiom, sorry.
-/
import Derived.Test.YthnhijdfcmcnhaaChecked
import GoSem.Claim
import GoSem.ClaimJoined
import GoSem.ClaimMapViews
import Derived.JoinedTies
import Derived.KernelRfl
namespace Go.Proofs.Ythnhijdfcmcnhaa
/- THE CELL 'sum', in the pinned program and in every row, IS THE sha256 OF THE DUMP (.gsa) THAT YthnhijdfcmcnhaaProg.lean LOADS. Nothing in Lean hashes anything: it is a label: what it is worth is what the hold of that sum in a sandbox is worth. -/
noncomputable def Try.pinned : Pinned := { name := "ythnhijdfcmcnhaa", sum := "b2b975a77cbd144113788df81492bce1503fc811a07bbf4b3ecbee55bc077cc1", checked := Try.checked }
namespace Rows
def none {H : Type} : Left H := { results := [], args := [] }

/-- 'censuslaw30.ObddNews': WHATEVER THE INPUT: true; the input reads as it did. -/
def obddNewsSpec : ChangeSpec := { name := "obddNews", fn := fun _ => fun
  | [d] => { results := [.lit (.bool true)], args := [d] }
  | _ => none }
def obddNewsRow : OpenClaim := { program := "ythnhijdfcmcnhaa", sum := "b2b975a77cbd144113788df81492bce1503fc811a07bbf4b3ecbee55bc077cc1", func := "census/censuslaw30.ObddNews", spec := "obddNews", inPlace := ["internal/abi.NoEscape"], unfollowed := true, recurses := true, plainKeys := false, apart := false }
def ObddNewsSaid : Prop := obddNewsRow.holds Try.pinned (OpenSpec.ofChange obddNewsSpec)

/-- ITS FALSE NEIGHBOUR: 'it returns false'. Refute it at one input. -/
def obddNewsWrong : ChangeSpec := { name := "obddNews", fn := fun _ => fun
  | [d] => { results := [.lit (.bool false)], args := [d] }
  | _ => none }
def ObddNewsWrongFalsely : Prop := obddNewsRow.holds Try.pinned (OpenSpec.ofChange obddNewsWrong)

/-- 'censuslaw30.ObddCanonical': WHATEVER THE INPUT: true; the input reads as it did. -/
def obddCanonicalSpec : ChangeSpec := { name := "obddCanonical", fn := fun _ => fun
  | [d1, d2] => { results := [.lit (.bool true)], args := [d1, d2] }
  | _ => none }
def obddCanonicalRow : OpenClaim := { program := "ythnhijdfcmcnhaa", sum := "b2b975a77cbd144113788df81492bce1503fc811a07bbf4b3ecbee55bc077cc1", func := "census/censuslaw30.ObddCanonical", spec := "obddCanonical", inPlace := ["internal/abi.NoEscape"], unfollowed := true, recurses := true, plainKeys := false, apart := false }
def ObddCanonicalSaid : Prop := obddCanonicalRow.holds Try.pinned (OpenSpec.ofChange obddCanonicalSpec)

/-- ITS FALSE NEIGHBOUR: 'it returns false'. Refute it at one input. -/
def obddCanonicalWrong : ChangeSpec := { name := "obddCanonical", fn := fun _ => fun
  | [d1, d2] => { results := [.lit (.bool false)], args := [d1, d2] }
  | _ => none }
def ObddCanonicalWrongFalsely : Prop := obddCanonicalRow.holds Try.pinned (OpenSpec.ofChange obddCanonicalWrong)

/-- 'censuslaw30.ObddReduced': WHATEVER THE INPUT: true; the input reads as it did. -/
def obddReducedSpec : ChangeSpec := { name := "obddReduced", fn := fun _ => fun
  | [d1, d2] => { results := [.lit (.bool true)], args := [d1, d2] }
  | _ => none }
def obddReducedRow : OpenClaim := { program := "ythnhijdfcmcnhaa", sum := "b2b975a77cbd144113788df81492bce1503fc811a07bbf4b3ecbee55bc077cc1", func := "census/censuslaw30.ObddReduced", spec := "obddReduced", inPlace := ["internal/abi.NoEscape"], unfollowed := true, recurses := true, plainKeys := false, apart := false }
def ObddReducedSaid : Prop := obddReducedRow.holds Try.pinned (OpenSpec.ofChange obddReducedSpec)

/-- ITS FALSE NEIGHBOUR: 'it returns false'. Refute it at one input. -/
def obddReducedWrong : ChangeSpec := { name := "obddReduced", fn := fun _ => fun
  | [d1, d2] => { results := [.lit (.bool false)], args := [d1, d2] }
  | _ => none }
def ObddReducedWrongFalsely : Prop := obddReducedRow.holds Try.pinned (OpenSpec.ofChange obddReducedWrong)

/-- 'censuslaw30.ObddWide': WHATEVER THE INPUT: true; the input reads as it did. -/
def obddWideSpec : ChangeSpec := { name := "obddWide", fn := fun _ => fun
  | [d1, d2] => { results := [.lit (.bool true)], args := [d1, d2] }
  | _ => none }
def obddWideRow : OpenClaim := { program := "ythnhijdfcmcnhaa", sum := "b2b975a77cbd144113788df81492bce1503fc811a07bbf4b3ecbee55bc077cc1", func := "census/censuslaw30.ObddWide", spec := "obddWide", inPlace := ["internal/abi.NoEscape"], unfollowed := true, recurses := true, plainKeys := false, apart := false }
def ObddWideSaid : Prop := obddWideRow.holds Try.pinned (OpenSpec.ofChange obddWideSpec)

/-- ITS FALSE NEIGHBOUR: 'it returns false'. Refute it at one input. -/
def obddWideWrong : ChangeSpec := { name := "obddWide", fn := fun _ => fun
  | [d1, d2] => { results := [.lit (.bool false)], args := [d1, d2] }
  | _ => none }
def ObddWideWrongFalsely : Prop := obddWideRow.holds Try.pinned (OpenSpec.ofChange obddWideWrong)

/-- 'censuslaw30.ObddEvals': WHATEVER THE INPUT: true; the input reads as it did. -/
def obddEvalsSpec : ChangeSpec := { name := "obddEvals", fn := fun _ => fun
  | [d1, d2] => { results := [.lit (.bool true)], args := [d1, d2] }
  | _ => none }
def obddEvalsRow : OpenClaim := { program := "ythnhijdfcmcnhaa", sum := "b2b975a77cbd144113788df81492bce1503fc811a07bbf4b3ecbee55bc077cc1", func := "census/censuslaw30.ObddEvals", spec := "obddEvals", inPlace := ["internal/abi.NoEscape"], unfollowed := true, recurses := true, plainKeys := false, apart := false }
def ObddEvalsSaid : Prop := obddEvalsRow.holds Try.pinned (OpenSpec.ofChange obddEvalsSpec)

/-- ITS FALSE NEIGHBOUR: 'it returns false'. Refute it at one input. -/
def obddEvalsWrong : ChangeSpec := { name := "obddEvals", fn := fun _ => fun
  | [d1, d2] => { results := [.lit (.bool false)], args := [d1, d2] }
  | _ => none }
def ObddEvalsWrongFalsely : Prop := obddEvalsRow.holds Try.pinned (OpenSpec.ofChange obddEvalsWrong)

/-- 'censuslaw30.ObddAlgebra': WHATEVER THE INPUT: true; the input reads as it did. -/
def obddAlgebraSpec : ChangeSpec := { name := "obddAlgebra", fn := fun _ => fun
  | [d1, d2, d3, d4, d5] => { results := [.lit (.bool true)], args := [d1, d2, d3, d4, d5] }
  | _ => none }
def obddAlgebraRow : OpenClaim := { program := "ythnhijdfcmcnhaa", sum := "b2b975a77cbd144113788df81492bce1503fc811a07bbf4b3ecbee55bc077cc1", func := "census/censuslaw30.ObddAlgebra", spec := "obddAlgebra", inPlace := ["internal/abi.NoEscape"], unfollowed := true, recurses := true, plainKeys := false, apart := false }
def ObddAlgebraSaid : Prop := obddAlgebraRow.holds Try.pinned (OpenSpec.ofChange obddAlgebraSpec)

/-- ITS FALSE NEIGHBOUR: 'it returns false'. Refute it at one input. -/
def obddAlgebraWrong : ChangeSpec := { name := "obddAlgebra", fn := fun _ => fun
  | [d1, d2, d3, d4, d5] => { results := [.lit (.bool false)], args := [d1, d2, d3, d4, d5] }
  | _ => none }
def ObddAlgebraWrongFalsely : Prop := obddAlgebraRow.holds Try.pinned (OpenSpec.ofChange obddAlgebraWrong)

/-- 'censuslaw30.ObddCompiles': WHATEVER THE INPUT: true; the input reads as it did. -/
def obddCompilesSpec : ChangeSpec := { name := "obddCompiles", fn := fun _ => fun
  | [d1, d2] => { results := [.lit (.bool true)], args := [d1, d2] }
  | _ => none }
def obddCompilesRow : OpenClaim := { program := "ythnhijdfcmcnhaa", sum := "b2b975a77cbd144113788df81492bce1503fc811a07bbf4b3ecbee55bc077cc1", func := "census/censuslaw30.ObddCompiles", spec := "obddCompiles", inPlace := ["internal/abi.NoEscape"], unfollowed := true, recurses := true, plainKeys := false, apart := false }
def ObddCompilesSaid : Prop := obddCompilesRow.holds Try.pinned (OpenSpec.ofChange obddCompilesSpec)

/-- ITS FALSE NEIGHBOUR: 'it returns false'. Refute it at one input. -/
def obddCompilesWrong : ChangeSpec := { name := "obddCompiles", fn := fun _ => fun
  | [d1, d2] => { results := [.lit (.bool false)], args := [d1, d2] }
  | _ => none }
def ObddCompilesWrongFalsely : Prop := obddCompilesRow.holds Try.pinned (OpenSpec.ofChange obddCompilesWrong)

/-- 'censuslaw30.ObddKnown': WHATEVER THE INPUT: true; the input reads as it did. -/
def obddKnownSpec : ChangeSpec := { name := "obddKnown", fn := fun _ => fun
  | [] => { results := [.lit (.bool true)], args := [] }
  | _ => none }
def obddKnownRow : OpenClaim := { program := "ythnhijdfcmcnhaa", sum := "b2b975a77cbd144113788df81492bce1503fc811a07bbf4b3ecbee55bc077cc1", func := "census/censuslaw30.ObddKnown", spec := "obddKnown", inPlace := ["internal/abi.NoEscape"], unfollowed := true, recurses := true, plainKeys := false, apart := false }
def ObddKnownSaid : Prop := obddKnownRow.holds Try.pinned (OpenSpec.ofChange obddKnownSpec)

/-- ITS FALSE NEIGHBOUR: 'it returns false'. Refute it at one input. -/
def obddKnownWrong : ChangeSpec := { name := "obddKnown", fn := fun _ => fun
  | [] => { results := [.lit (.bool false)], args := [] }
  | _ => none }
def ObddKnownWrongFalsely : Prop := obddKnownRow.holds Try.pinned (OpenSpec.ofChange obddKnownWrong)

/-- 'censuslaw30.ObddErrors': WHATEVER THE INPUT: true; the input reads as it did. -/
def obddErrorsSpec : ChangeSpec := { name := "obddErrors", fn := fun _ => fun
  | [d1, d2, d3, d4] => { results := [.lit (.bool true)], args := [d1, d2, d3, d4] }
  | _ => none }
def obddErrorsRow : OpenClaim := { program := "ythnhijdfcmcnhaa", sum := "b2b975a77cbd144113788df81492bce1503fc811a07bbf4b3ecbee55bc077cc1", func := "census/censuslaw30.ObddErrors", spec := "obddErrors", inPlace := ["internal/abi.NoEscape"], unfollowed := true, recurses := true, plainKeys := false, apart := false }
def ObddErrorsSaid : Prop := obddErrorsRow.holds Try.pinned (OpenSpec.ofChange obddErrorsSpec)

/-- ITS FALSE NEIGHBOUR: 'it returns false'. Refute it at one input. -/
def obddErrorsWrong : ChangeSpec := { name := "obddErrors", fn := fun _ => fun
  | [d1, d2, d3, d4] => { results := [.lit (.bool false)], args := [d1, d2, d3, d4] }
  | _ => none }
def ObddErrorsWrongFalsely : Prop := obddErrorsRow.holds Try.pinned (OpenSpec.ofChange obddErrorsWrong)

/-- 'censuslaw30.ObddNets': WHATEVER THE INPUT: true; the input reads as it did. -/
def obddNetsSpec : ChangeSpec := { name := "obddNets", fn := fun _ => fun
  | [d1, d2, d3] => { results := [.lit (.bool true)], args := [d1, d2, d3] }
  | _ => none }
def obddNetsRow : OpenClaim := { program := "ythnhijdfcmcnhaa", sum := "b2b975a77cbd144113788df81492bce1503fc811a07bbf4b3ecbee55bc077cc1", func := "census/censuslaw30.ObddNets", spec := "obddNets", inPlace := ["internal/abi.NoEscape"], unfollowed := true, recurses := true, plainKeys := false, apart := false }
def ObddNetsSaid : Prop := obddNetsRow.holds Try.pinned (OpenSpec.ofChange obddNetsSpec)

/-- ITS FALSE NEIGHBOUR: 'it returns false'. Refute it at one input. -/
def obddNetsWrong : ChangeSpec := { name := "obddNets", fn := fun _ => fun
  | [d1, d2, d3] => { results := [.lit (.bool false)], args := [d1, d2, d3] }
  | _ => none }
def ObddNetsWrongFalsely : Prop := obddNetsRow.holds Try.pinned (OpenSpec.ofChange obddNetsWrong)

/- THE SECOND FORM. 'bulk': how many values and letters a reading holds, each counted each time it is reached (what is shared counts as often as it is met; a slice's spare places count too). A statement '..UptoSaid' is the law's where the arguments, and the package variables that the reading takes, are together of bulk at most 1048576: NARROWER than '..Said'. Prove '..Said' where nothing that the law and all that it calls make is longer than what came in: it says more and counts as full. Else prove '..UptoSaid'. A law counts once. -/
mutual
def uptoBulk {H : Type} : DataW H → Nat
  | .lit (.string bytes) => bytes.length + 1
  | .lit _ => 1
  | .nil => 1
  | .ptr d => uptoBulk d + 1
  | .slice elems spare => uptoBulkAll elems + uptoBulkAll spare + 1
  | .agg parts => uptoBulkAll parts + 1
  | .iface _ d => uptoBulk d + 1
  | .map entries => uptoBulkEntries entries + 1
  | .held _ => 1
def uptoBulkAll {H : Type} : List (DataW H) → Nat
  | [] => 0
  | d :: r => uptoBulk d + uptoBulkAll r
def uptoBulkEntries {H : Type} : List (Lit × DataW H) → Nat
  | [] => 0
  | x :: r => uptoBulkEntry x + uptoBulkEntries r
def uptoBulkEntry {H : Type} : Lit × DataW H → Nat
  | (.string bytes, d) => bytes.length + uptoBulk d + 1
  | (_, d) => uptoBulk d + 1
 end
def uptoSmall : (H : Type) → List (DataW H) → Bool := fun _ ds => decide (uptoBulkAll ds ≤ 1048576)
def OpenSpec.upto (s : _root_.Go.ChangeSpec) : _root_.Go.OpenSpec := { _root_.Go.OpenSpec.ofChange s with cond := some uptoSmall }

/-- 'censuslaw30.ObddNews', WHERE WHAT IT READS IS OF BULK AT MOST 1048576: true; the input reads as it did. -/
def obddNewsUptoRow : OpenClaim := { program := "ythnhijdfcmcnhaa", sum := "b2b975a77cbd144113788df81492bce1503fc811a07bbf4b3ecbee55bc077cc1", func := "census/censuslaw30.ObddNews", spec := "obddNews", inPlace := ["internal/abi.NoEscape"], unfollowed := true, recurses := true, plainKeys := false, apart := false, narrowed := true }
def ObddNewsUptoSaid : Prop := obddNewsUptoRow.holds Try.pinned (OpenSpec.upto obddNewsSpec)

/-- 'censuslaw30.ObddCanonical', WHERE WHAT IT READS IS OF BULK AT MOST 1048576: true; the input reads as it did. -/
def obddCanonicalUptoRow : OpenClaim := { program := "ythnhijdfcmcnhaa", sum := "b2b975a77cbd144113788df81492bce1503fc811a07bbf4b3ecbee55bc077cc1", func := "census/censuslaw30.ObddCanonical", spec := "obddCanonical", inPlace := ["internal/abi.NoEscape"], unfollowed := true, recurses := true, plainKeys := false, apart := false, narrowed := true }
def ObddCanonicalUptoSaid : Prop := obddCanonicalUptoRow.holds Try.pinned (OpenSpec.upto obddCanonicalSpec)

/-- 'censuslaw30.ObddReduced', WHERE WHAT IT READS IS OF BULK AT MOST 1048576: true; the input reads as it did. -/
def obddReducedUptoRow : OpenClaim := { program := "ythnhijdfcmcnhaa", sum := "b2b975a77cbd144113788df81492bce1503fc811a07bbf4b3ecbee55bc077cc1", func := "census/censuslaw30.ObddReduced", spec := "obddReduced", inPlace := ["internal/abi.NoEscape"], unfollowed := true, recurses := true, plainKeys := false, apart := false, narrowed := true }
def ObddReducedUptoSaid : Prop := obddReducedUptoRow.holds Try.pinned (OpenSpec.upto obddReducedSpec)

/-- 'censuslaw30.ObddWide', WHERE WHAT IT READS IS OF BULK AT MOST 1048576: true; the input reads as it did. -/
def obddWideUptoRow : OpenClaim := { program := "ythnhijdfcmcnhaa", sum := "b2b975a77cbd144113788df81492bce1503fc811a07bbf4b3ecbee55bc077cc1", func := "census/censuslaw30.ObddWide", spec := "obddWide", inPlace := ["internal/abi.NoEscape"], unfollowed := true, recurses := true, plainKeys := false, apart := false, narrowed := true }
def ObddWideUptoSaid : Prop := obddWideUptoRow.holds Try.pinned (OpenSpec.upto obddWideSpec)

/-- 'censuslaw30.ObddEvals', WHERE WHAT IT READS IS OF BULK AT MOST 1048576: true; the input reads as it did. -/
def obddEvalsUptoRow : OpenClaim := { program := "ythnhijdfcmcnhaa", sum := "b2b975a77cbd144113788df81492bce1503fc811a07bbf4b3ecbee55bc077cc1", func := "census/censuslaw30.ObddEvals", spec := "obddEvals", inPlace := ["internal/abi.NoEscape"], unfollowed := true, recurses := true, plainKeys := false, apart := false, narrowed := true }
def ObddEvalsUptoSaid : Prop := obddEvalsUptoRow.holds Try.pinned (OpenSpec.upto obddEvalsSpec)

/-- 'censuslaw30.ObddAlgebra', WHERE WHAT IT READS IS OF BULK AT MOST 1048576: true; the input reads as it did. -/
def obddAlgebraUptoRow : OpenClaim := { program := "ythnhijdfcmcnhaa", sum := "b2b975a77cbd144113788df81492bce1503fc811a07bbf4b3ecbee55bc077cc1", func := "census/censuslaw30.ObddAlgebra", spec := "obddAlgebra", inPlace := ["internal/abi.NoEscape"], unfollowed := true, recurses := true, plainKeys := false, apart := false, narrowed := true }
def ObddAlgebraUptoSaid : Prop := obddAlgebraUptoRow.holds Try.pinned (OpenSpec.upto obddAlgebraSpec)

/-- 'censuslaw30.ObddCompiles', WHERE WHAT IT READS IS OF BULK AT MOST 1048576: true; the input reads as it did. -/
def obddCompilesUptoRow : OpenClaim := { program := "ythnhijdfcmcnhaa", sum := "b2b975a77cbd144113788df81492bce1503fc811a07bbf4b3ecbee55bc077cc1", func := "census/censuslaw30.ObddCompiles", spec := "obddCompiles", inPlace := ["internal/abi.NoEscape"], unfollowed := true, recurses := true, plainKeys := false, apart := false, narrowed := true }
def ObddCompilesUptoSaid : Prop := obddCompilesUptoRow.holds Try.pinned (OpenSpec.upto obddCompilesSpec)

/-- 'censuslaw30.ObddKnown', WHERE WHAT IT READS IS OF BULK AT MOST 1048576: true; the input reads as it did. -/
def obddKnownUptoRow : OpenClaim := { program := "ythnhijdfcmcnhaa", sum := "b2b975a77cbd144113788df81492bce1503fc811a07bbf4b3ecbee55bc077cc1", func := "census/censuslaw30.ObddKnown", spec := "obddKnown", inPlace := ["internal/abi.NoEscape"], unfollowed := true, recurses := true, plainKeys := false, apart := false, narrowed := true }
def ObddKnownUptoSaid : Prop := obddKnownUptoRow.holds Try.pinned (OpenSpec.upto obddKnownSpec)

/-- 'censuslaw30.ObddErrors', WHERE WHAT IT READS IS OF BULK AT MOST 1048576: true; the input reads as it did. -/
def obddErrorsUptoRow : OpenClaim := { program := "ythnhijdfcmcnhaa", sum := "b2b975a77cbd144113788df81492bce1503fc811a07bbf4b3ecbee55bc077cc1", func := "census/censuslaw30.ObddErrors", spec := "obddErrors", inPlace := ["internal/abi.NoEscape"], unfollowed := true, recurses := true, plainKeys := false, apart := false, narrowed := true }
def ObddErrorsUptoSaid : Prop := obddErrorsUptoRow.holds Try.pinned (OpenSpec.upto obddErrorsSpec)

/-- 'censuslaw30.ObddNets', WHERE WHAT IT READS IS OF BULK AT MOST 1048576: true; the input reads as it did. -/
def obddNetsUptoRow : OpenClaim := { program := "ythnhijdfcmcnhaa", sum := "b2b975a77cbd144113788df81492bce1503fc811a07bbf4b3ecbee55bc077cc1", func := "census/censuslaw30.ObddNets", spec := "obddNets", inPlace := ["internal/abi.NoEscape"], unfollowed := true, recurses := true, plainKeys := false, apart := false, narrowed := true }
def ObddNetsUptoSaid : Prop := obddNetsUptoRow.holds Try.pinned (OpenSpec.upto obddNetsSpec)

end Rows
end Go.Proofs.Ythnhijdfcmcnhaa
