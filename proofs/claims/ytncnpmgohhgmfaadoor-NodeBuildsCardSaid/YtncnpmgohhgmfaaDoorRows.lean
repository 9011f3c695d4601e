/-
  NARROWER THAN 'FOR EVERY INPUT', by the rows' own cells (each row's printed sentence says how): NodeTruths: laid · NodeReduces: laid · NodeBuilds: laid · NodeKeeps: laid · NodeSimple: laid · NodeNil: laid · NodeKnown: laid · NodeDepends: laid · NodeChecks: laid.
  DERIVED. THE GIVEN ROWS OF THIS SEAT. 9 by the template 'for every input the law returns true; each argument reads behind the call as it read before'; 0 by the template 'total and deterministic' (their statements: YtncnpmgohhgmfaaDoorTotals.lean).
  GIVEN WITH THE SEED: the statements are not yours to turn. If you find one false, say at which input.
  Laid BY PROGRAM, IN A SANDBOX (cutbox-rows.mjs): the forced cells as the released guide's own fill.sh prints them over the translation 864365e1b7d52d84… (all of the seat's roots in one cut). By AI agents, Wed Nov 11 2026. No macro, syntax, notation, axiom, sorry.
-/
import Derived.Test.YtncnpmgohhgmfaaDoorChecked
import GoSem.Claim
import GoSem.ClaimJoined
import GoSem.ClaimMapViews
import Derived.JoinedTies
import Derived.KernelRfl
namespace Go.Proofs.YtncnpmgohhgmfaaDoor
/- THE CELL 'sum', in the pinned program and in every row, IS THE sha256 OF THE DUMP (.gsa) THAT YtncnpmgohhgmfaaDoorProg.lean LOADS. Nothing in Lean hashes anything: it is a label: what it is worth is what the hold of that sum in a sandbox is worth. -/
noncomputable def Tryd.pinned : Pinned := { name := "ytncnpmgohhgmfaadoor", sum := "864365e1b7d52d842f9dd68c031c67f72035b70f62e9cf3a34d7d54f4486e965", checked := Tryd.checked }
namespace Rows
def none {H : Type} : Left H := { results := [], args := [] }

/- WHAT THE LISTED PACKAGE-LEVEL VARIABLES READ AS WHEN THE CALL BEGINS. Each datum BY PROGRAM (the guide's laid-datum.mjs) off the statement by which the dump's own 'gosem.cut.vars' lays the variable. In a bare row this is a premise. The card (YtncnpmgohhgmfaaDoorCards.lean) ties it to the program's text. -/
def laid_math_bits_deBruijn32tab {H : Type} : DataW H := .agg [.lit (.int .u8 0), .lit (.int .u8 1), .lit (.int .u8 28), .lit (.int .u8 2), .lit (.int .u8 29), .lit (.int .u8 14), .lit (.int .u8 24), .lit (.int .u8 3), .lit (.int .u8 30), .lit (.int .u8 22), .lit (.int .u8 20), .lit (.int .u8 15), .lit (.int .u8 25), .lit (.int .u8 17), .lit (.int .u8 4), .lit (.int .u8 8), .lit (.int .u8 31), .lit (.int .u8 27), .lit (.int .u8 13), .lit (.int .u8 23), .lit (.int .u8 21), .lit (.int .u8 19), .lit (.int .u8 16), .lit (.int .u8 7), .lit (.int .u8 26), .lit (.int .u8 12), .lit (.int .u8 18), .lit (.int .u8 6), .lit (.int .u8 11), .lit (.int .u8 5), .lit (.int .u8 10), .lit (.int .u8 9)]
def laid_math_bits_deBruijn64tab {H : Type} : DataW H := .agg [.lit (.int .u8 0), .lit (.int .u8 1), .lit (.int .u8 56), .lit (.int .u8 2), .lit (.int .u8 57), .lit (.int .u8 49), .lit (.int .u8 28), .lit (.int .u8 3), .lit (.int .u8 61), .lit (.int .u8 58), .lit (.int .u8 42), .lit (.int .u8 50), .lit (.int .u8 38), .lit (.int .u8 29), .lit (.int .u8 17), .lit (.int .u8 4), .lit (.int .u8 62), .lit (.int .u8 47), .lit (.int .u8 59), .lit (.int .u8 36), .lit (.int .u8 45), .lit (.int .u8 43), .lit (.int .u8 51), .lit (.int .u8 22), .lit (.int .u8 53), .lit (.int .u8 39), .lit (.int .u8 33), .lit (.int .u8 30), .lit (.int .u8 24), .lit (.int .u8 18), .lit (.int .u8 12), .lit (.int .u8 5), .lit (.int .u8 63), .lit (.int .u8 55), .lit (.int .u8 48), .lit (.int .u8 27), .lit (.int .u8 60), .lit (.int .u8 41), .lit (.int .u8 37), .lit (.int .u8 16), .lit (.int .u8 46), .lit (.int .u8 35), .lit (.int .u8 44), .lit (.int .u8 21), .lit (.int .u8 52), .lit (.int .u8 32), .lit (.int .u8 23), .lit (.int .u8 11), .lit (.int .u8 54), .lit (.int .u8 26), .lit (.int .u8 40), .lit (.int .u8 15), .lit (.int .u8 34), .lit (.int .u8 20), .lit (.int .u8 31), .lit (.int .u8 10), .lit (.int .u8 25), .lit (.int .u8 14), .lit (.int .u8 19), .lit (.int .u8 9), .lit (.int .u8 13), .lit (.int .u8 8), .lit (.int .u8 7), .lit (.int .u8 6)]
def laid_internal_strconv_uint64pow10 {H : Type} : DataW H := .agg [.lit (.int .u64 1), .lit (.int .u64 10), .lit (.int .u64 100), .lit (.int .u64 1000), .lit (.int .u64 10000), .lit (.int .u64 100000), .lit (.int .u64 1000000), .lit (.int .u64 10000000), .lit (.int .u64 100000000), .lit (.int .u64 1000000000), .lit (.int .u64 10000000000), .lit (.int .u64 100000000000), .lit (.int .u64 1000000000000), .lit (.int .u64 10000000000000), .lit (.int .u64 100000000000000), .lit (.int .u64 1000000000000000), .lit (.int .u64 10000000000000000), .lit (.int .u64 100000000000000000), .lit (.int .u64 1000000000000000000), .lit (.int .u64 10000000000000000000)]

/-- 'censuslaw20.NodeTruths': WHATEVER THE INPUT: true; the input reads as it did. -/
def nodeTruthsSpec : ChangeSpec := { name := "nodeTruths", fn := fun _ => fun
  | [d1, d2] => { results := [.lit (.bool true)], args := [d1, d2] }
  | _ => none }
def nodeTruthsRow : OpenClaim := { program := "ytncnpmgohhgmfaadoor", sum := "864365e1b7d52d842f9dd68c031c67f72035b70f62e9cf3a34d7d54f4486e965", func := "census/censuslaw20.NodeTruths", spec := "nodeTruths", inPlace := ["internal/abi.NoEscape"], unfollowed := true, recurses := true, named := ["internal/strconv.uint64pow10", "math/bits.deBruijn32tab", "math/bits.deBruijn64tab"], apart := false, laid := [("math/bits.deBruijn32tab", laid_math_bits_deBruijn32tab), ("math/bits.deBruijn64tab", laid_math_bits_deBruijn64tab), ("internal/strconv.uint64pow10", laid_internal_strconv_uint64pow10)] }
def NodeTruthsSaid : Prop := nodeTruthsRow.holds Tryd.pinned (OpenSpec.ofChange nodeTruthsSpec)

/-- ITS FALSE NEIGHBOUR: 'it returns false'. Refute it at one input. -/
def nodeTruthsWrong : ChangeSpec := { name := "nodeTruths", fn := fun _ => fun
  | [d1, d2] => { results := [.lit (.bool false)], args := [d1, d2] }
  | _ => none }
def NodeTruthsWrongFalsely : Prop := nodeTruthsRow.holds Tryd.pinned (OpenSpec.ofChange nodeTruthsWrong)

/-- 'censuslaw20.NodeReduces': WHATEVER THE INPUT: true; the input reads as it did. -/
def nodeReducesSpec : ChangeSpec := { name := "nodeReduces", fn := fun _ => fun
  | [d] => { results := [.lit (.bool true)], args := [d] }
  | _ => none }
def nodeReducesRow : OpenClaim := { program := "ytncnpmgohhgmfaadoor", sum := "864365e1b7d52d842f9dd68c031c67f72035b70f62e9cf3a34d7d54f4486e965", func := "census/censuslaw20.NodeReduces", spec := "nodeReduces", inPlace := ["internal/abi.NoEscape"], unfollowed := true, recurses := true, named := ["internal/strconv.uint64pow10", "math/bits.deBruijn32tab", "math/bits.deBruijn64tab"], apart := false, laid := [("math/bits.deBruijn32tab", laid_math_bits_deBruijn32tab), ("math/bits.deBruijn64tab", laid_math_bits_deBruijn64tab), ("internal/strconv.uint64pow10", laid_internal_strconv_uint64pow10)] }
def NodeReducesSaid : Prop := nodeReducesRow.holds Tryd.pinned (OpenSpec.ofChange nodeReducesSpec)

/-- ITS FALSE NEIGHBOUR: 'it returns false'. Refute it at one input. -/
def nodeReducesWrong : ChangeSpec := { name := "nodeReduces", fn := fun _ => fun
  | [d] => { results := [.lit (.bool false)], args := [d] }
  | _ => none }
def NodeReducesWrongFalsely : Prop := nodeReducesRow.holds Tryd.pinned (OpenSpec.ofChange nodeReducesWrong)

/-- 'censuslaw20.NodeBuilds': WHATEVER THE INPUT: true; the input reads as it did. -/
def nodeBuildsSpec : ChangeSpec := { name := "nodeBuilds", fn := fun _ => fun
  | [d1, d2, d3] => { results := [.lit (.bool true)], args := [d1, d2, d3] }
  | _ => none }
def nodeBuildsRow : OpenClaim := { program := "ytncnpmgohhgmfaadoor", sum := "864365e1b7d52d842f9dd68c031c67f72035b70f62e9cf3a34d7d54f4486e965", func := "census/censuslaw20.NodeBuilds", spec := "nodeBuilds", inPlace := ["internal/abi.NoEscape"], unfollowed := true, recurses := true, named := ["internal/strconv.uint64pow10", "math/bits.deBruijn32tab", "math/bits.deBruijn64tab"], apart := false, laid := [("math/bits.deBruijn32tab", laid_math_bits_deBruijn32tab), ("math/bits.deBruijn64tab", laid_math_bits_deBruijn64tab), ("internal/strconv.uint64pow10", laid_internal_strconv_uint64pow10)] }
def NodeBuildsSaid : Prop := nodeBuildsRow.holds Tryd.pinned (OpenSpec.ofChange nodeBuildsSpec)

/-- ITS FALSE NEIGHBOUR: 'it returns false'. Refute it at one input. -/
def nodeBuildsWrong : ChangeSpec := { name := "nodeBuilds", fn := fun _ => fun
  | [d1, d2, d3] => { results := [.lit (.bool false)], args := [d1, d2, d3] }
  | _ => none }
def NodeBuildsWrongFalsely : Prop := nodeBuildsRow.holds Tryd.pinned (OpenSpec.ofChange nodeBuildsWrong)

/-- 'censuslaw20.NodeKeeps': WHATEVER THE INPUT: true; the input reads as it did. -/
def nodeKeepsSpec : ChangeSpec := { name := "nodeKeeps", fn := fun _ => fun
  | [d1, d2] => { results := [.lit (.bool true)], args := [d1, d2] }
  | _ => none }
def nodeKeepsRow : OpenClaim := { program := "ytncnpmgohhgmfaadoor", sum := "864365e1b7d52d842f9dd68c031c67f72035b70f62e9cf3a34d7d54f4486e965", func := "census/censuslaw20.NodeKeeps", spec := "nodeKeeps", inPlace := ["internal/abi.NoEscape"], unfollowed := true, recurses := true, named := ["internal/strconv.uint64pow10", "math/bits.deBruijn32tab", "math/bits.deBruijn64tab"], apart := false, laid := [("math/bits.deBruijn32tab", laid_math_bits_deBruijn32tab), ("math/bits.deBruijn64tab", laid_math_bits_deBruijn64tab), ("internal/strconv.uint64pow10", laid_internal_strconv_uint64pow10)] }
def NodeKeepsSaid : Prop := nodeKeepsRow.holds Tryd.pinned (OpenSpec.ofChange nodeKeepsSpec)

/-- ITS FALSE NEIGHBOUR: 'it returns false'. Refute it at one input. -/
def nodeKeepsWrong : ChangeSpec := { name := "nodeKeeps", fn := fun _ => fun
  | [d1, d2] => { results := [.lit (.bool false)], args := [d1, d2] }
  | _ => none }
def NodeKeepsWrongFalsely : Prop := nodeKeepsRow.holds Tryd.pinned (OpenSpec.ofChange nodeKeepsWrong)

/-- 'censuslaw20.NodeSimple': WHATEVER THE INPUT: true; the input reads as it did. -/
def nodeSimpleSpec : ChangeSpec := { name := "nodeSimple", fn := fun _ => fun
  | [d] => { results := [.lit (.bool true)], args := [d] }
  | _ => none }
def nodeSimpleRow : OpenClaim := { program := "ytncnpmgohhgmfaadoor", sum := "864365e1b7d52d842f9dd68c031c67f72035b70f62e9cf3a34d7d54f4486e965", func := "census/censuslaw20.NodeSimple", spec := "nodeSimple", inPlace := ["internal/abi.NoEscape"], unfollowed := true, recurses := true, named := ["internal/strconv.uint64pow10", "math/bits.deBruijn32tab", "math/bits.deBruijn64tab"], apart := false, laid := [("math/bits.deBruijn32tab", laid_math_bits_deBruijn32tab), ("math/bits.deBruijn64tab", laid_math_bits_deBruijn64tab), ("internal/strconv.uint64pow10", laid_internal_strconv_uint64pow10)] }
def NodeSimpleSaid : Prop := nodeSimpleRow.holds Tryd.pinned (OpenSpec.ofChange nodeSimpleSpec)

/-- ITS FALSE NEIGHBOUR: 'it returns false'. Refute it at one input. -/
def nodeSimpleWrong : ChangeSpec := { name := "nodeSimple", fn := fun _ => fun
  | [d] => { results := [.lit (.bool false)], args := [d] }
  | _ => none }
def NodeSimpleWrongFalsely : Prop := nodeSimpleRow.holds Tryd.pinned (OpenSpec.ofChange nodeSimpleWrong)

/-- 'censuslaw20.NodeNil': WHATEVER THE INPUT: true; the input reads as it did. -/
def nodeNilSpec : ChangeSpec := { name := "nodeNil", fn := fun _ => fun
  | [d] => { results := [.lit (.bool true)], args := [d] }
  | _ => none }
def nodeNilRow : OpenClaim := { program := "ytncnpmgohhgmfaadoor", sum := "864365e1b7d52d842f9dd68c031c67f72035b70f62e9cf3a34d7d54f4486e965", func := "census/censuslaw20.NodeNil", spec := "nodeNil", inPlace := ["internal/abi.NoEscape"], unfollowed := true, recurses := true, named := ["internal/strconv.uint64pow10", "math/bits.deBruijn32tab", "math/bits.deBruijn64tab"], apart := false, laid := [("math/bits.deBruijn32tab", laid_math_bits_deBruijn32tab), ("math/bits.deBruijn64tab", laid_math_bits_deBruijn64tab), ("internal/strconv.uint64pow10", laid_internal_strconv_uint64pow10)] }
def NodeNilSaid : Prop := nodeNilRow.holds Tryd.pinned (OpenSpec.ofChange nodeNilSpec)

/-- ITS FALSE NEIGHBOUR: 'it returns false'. Refute it at one input. -/
def nodeNilWrong : ChangeSpec := { name := "nodeNil", fn := fun _ => fun
  | [d] => { results := [.lit (.bool false)], args := [d] }
  | _ => none }
def NodeNilWrongFalsely : Prop := nodeNilRow.holds Tryd.pinned (OpenSpec.ofChange nodeNilWrong)

/-- 'censuslaw20.NodeKnown': WHATEVER THE INPUT: true; the input reads as it did. -/
def nodeKnownSpec : ChangeSpec := { name := "nodeKnown", fn := fun _ => fun
  | [] => { results := [.lit (.bool true)], args := [] }
  | _ => none }
def nodeKnownRow : OpenClaim := { program := "ytncnpmgohhgmfaadoor", sum := "864365e1b7d52d842f9dd68c031c67f72035b70f62e9cf3a34d7d54f4486e965", func := "census/censuslaw20.NodeKnown", spec := "nodeKnown", inPlace := ["internal/abi.NoEscape"], unfollowed := true, recurses := true, named := ["internal/strconv.uint64pow10", "math/bits.deBruijn32tab", "math/bits.deBruijn64tab"], apart := false, laid := [("math/bits.deBruijn32tab", laid_math_bits_deBruijn32tab), ("math/bits.deBruijn64tab", laid_math_bits_deBruijn64tab), ("internal/strconv.uint64pow10", laid_internal_strconv_uint64pow10)] }
def NodeKnownSaid : Prop := nodeKnownRow.holds Tryd.pinned (OpenSpec.ofChange nodeKnownSpec)

/-- ITS FALSE NEIGHBOUR: 'it returns false'. Refute it at one input. -/
def nodeKnownWrong : ChangeSpec := { name := "nodeKnown", fn := fun _ => fun
  | [] => { results := [.lit (.bool false)], args := [] }
  | _ => none }
def NodeKnownWrongFalsely : Prop := nodeKnownRow.holds Tryd.pinned (OpenSpec.ofChange nodeKnownWrong)

/-- 'censuslaw20.NodeDepends': WHATEVER THE INPUT: true; the input reads as it did. -/
def nodeDependsSpec : ChangeSpec := { name := "nodeDepends", fn := fun _ => fun
  | [d1, d2, d3] => { results := [.lit (.bool true)], args := [d1, d2, d3] }
  | _ => none }
def nodeDependsRow : OpenClaim := { program := "ytncnpmgohhgmfaadoor", sum := "864365e1b7d52d842f9dd68c031c67f72035b70f62e9cf3a34d7d54f4486e965", func := "census/censuslaw20.NodeDepends", spec := "nodeDepends", inPlace := ["internal/abi.NoEscape"], unfollowed := true, recurses := true, named := ["internal/strconv.uint64pow10", "math/bits.deBruijn32tab", "math/bits.deBruijn64tab"], apart := false, laid := [("math/bits.deBruijn32tab", laid_math_bits_deBruijn32tab), ("math/bits.deBruijn64tab", laid_math_bits_deBruijn64tab), ("internal/strconv.uint64pow10", laid_internal_strconv_uint64pow10)] }
def NodeDependsSaid : Prop := nodeDependsRow.holds Tryd.pinned (OpenSpec.ofChange nodeDependsSpec)

/-- ITS FALSE NEIGHBOUR: 'it returns false'. Refute it at one input. -/
def nodeDependsWrong : ChangeSpec := { name := "nodeDepends", fn := fun _ => fun
  | [d1, d2, d3] => { results := [.lit (.bool false)], args := [d1, d2, d3] }
  | _ => none }
def NodeDependsWrongFalsely : Prop := nodeDependsRow.holds Tryd.pinned (OpenSpec.ofChange nodeDependsWrong)

/-- 'censuslaw20.NodeChecks': WHATEVER THE INPUT: true; the input reads as it did. -/
def nodeChecksSpec : ChangeSpec := { name := "nodeChecks", fn := fun _ => fun
  | [d1, d2] => { results := [.lit (.bool true)], args := [d1, d2] }
  | _ => none }
def nodeChecksRow : OpenClaim := { program := "ytncnpmgohhgmfaadoor", sum := "864365e1b7d52d842f9dd68c031c67f72035b70f62e9cf3a34d7d54f4486e965", func := "census/censuslaw20.NodeChecks", spec := "nodeChecks", inPlace := ["internal/abi.NoEscape"], unfollowed := true, recurses := true, named := ["internal/strconv.uint64pow10", "math/bits.deBruijn32tab", "math/bits.deBruijn64tab"], apart := false, laid := [("math/bits.deBruijn32tab", laid_math_bits_deBruijn32tab), ("math/bits.deBruijn64tab", laid_math_bits_deBruijn64tab), ("internal/strconv.uint64pow10", laid_internal_strconv_uint64pow10)] }
def NodeChecksSaid : Prop := nodeChecksRow.holds Tryd.pinned (OpenSpec.ofChange nodeChecksSpec)

/-- ITS FALSE NEIGHBOUR: 'it returns false'. Refute it at one input. -/
def nodeChecksWrong : ChangeSpec := { name := "nodeChecks", fn := fun _ => fun
  | [d1, d2] => { results := [.lit (.bool false)], args := [d1, d2] }
  | _ => none }
def NodeChecksWrongFalsely : Prop := nodeChecksRow.holds Tryd.pinned (OpenSpec.ofChange nodeChecksWrong)

/- THE SECOND FORM. 'bulk': how many values and letters a reading holds, each counted each time it is reached (what is shared counts as often as it is met; a slice's spare places count too). A statement '..UptoSaid' is the law's where the arguments, and the package variables that the reading takes, are together of bulk at most 1048576: NARROWER than '..Said'. Prove '..Said' where nothing that the law and all that it calls make is longer than what came in: it says more and counts as full. Else prove '..UptoSaid'. A law counts once. -/
mutual
def uptoBulk {H : Type} : DataW H → Nat
  | .lit (.string bytes) => bytes.length + 1
  | .lit _ => 1
  | .nil => 1
  | .ptr d => uptoBulk d + 1
  | .slice elems spare => uptoBulkAll elems + uptoBulkAll spare + 1
  | .agg parts => uptoBulkAll parts + 1
  | .iface _ d => uptoBulk d + 1
  | .map entries => uptoBulkEntries entries + 1
  | .held _ => 1
def uptoBulkAll {H : Type} : List (DataW H) → Nat
  | [] => 0
  | d :: r => uptoBulk d + uptoBulkAll r
def uptoBulkEntries {H : Type} : List (Lit × DataW H) → Nat
  | [] => 0
  | x :: r => uptoBulkEntry x + uptoBulkEntries r
def uptoBulkEntry {H : Type} : Lit × DataW H → Nat
  | (.string bytes, d) => bytes.length + uptoBulk d + 1
  | (_, d) => uptoBulk d + 1
 end
def uptoSmall : (H : Type) → List (DataW H) → Bool := fun _ ds => decide (uptoBulkAll ds ≤ 1048576)
def OpenSpec.upto (s : _root_.Go.ChangeSpec) : _root_.Go.OpenSpec := { _root_.Go.OpenSpec.ofChange s with cond := some uptoSmall }

/-- 'censuslaw20.NodeTruths', WHERE WHAT IT READS IS OF BULK AT MOST 1048576: true; the input reads as it did. -/
def nodeTruthsUptoRow : OpenClaim := { program := "ytncnpmgohhgmfaadoor", sum := "864365e1b7d52d842f9dd68c031c67f72035b70f62e9cf3a34d7d54f4486e965", func := "census/censuslaw20.NodeTruths", spec := "nodeTruths", inPlace := ["internal/abi.NoEscape"], unfollowed := true, recurses := true, named := ["internal/strconv.uint64pow10", "math/bits.deBruijn32tab", "math/bits.deBruijn64tab"], apart := false, laid := [("math/bits.deBruijn32tab", laid_math_bits_deBruijn32tab), ("math/bits.deBruijn64tab", laid_math_bits_deBruijn64tab), ("internal/strconv.uint64pow10", laid_internal_strconv_uint64pow10)], narrowed := true }
def NodeTruthsUptoSaid : Prop := nodeTruthsUptoRow.holds Tryd.pinned (OpenSpec.upto nodeTruthsSpec)

/-- 'censuslaw20.NodeReduces', WHERE WHAT IT READS IS OF BULK AT MOST 1048576: true; the input reads as it did. -/
def nodeReducesUptoRow : OpenClaim := { program := "ytncnpmgohhgmfaadoor", sum := "864365e1b7d52d842f9dd68c031c67f72035b70f62e9cf3a34d7d54f4486e965", func := "census/censuslaw20.NodeReduces", spec := "nodeReduces", inPlace := ["internal/abi.NoEscape"], unfollowed := true, recurses := true, named := ["internal/strconv.uint64pow10", "math/bits.deBruijn32tab", "math/bits.deBruijn64tab"], apart := false, laid := [("math/bits.deBruijn32tab", laid_math_bits_deBruijn32tab), ("math/bits.deBruijn64tab", laid_math_bits_deBruijn64tab), ("internal/strconv.uint64pow10", laid_internal_strconv_uint64pow10)], narrowed := true }
def NodeReducesUptoSaid : Prop := nodeReducesUptoRow.holds Tryd.pinned (OpenSpec.upto nodeReducesSpec)

/-- 'censuslaw20.NodeBuilds', WHERE WHAT IT READS IS OF BULK AT MOST 1048576: true; the input reads as it did. -/
def nodeBuildsUptoRow : OpenClaim := { program := "ytncnpmgohhgmfaadoor", sum := "864365e1b7d52d842f9dd68c031c67f72035b70f62e9cf3a34d7d54f4486e965", func := "census/censuslaw20.NodeBuilds", spec := "nodeBuilds", inPlace := ["internal/abi.NoEscape"], unfollowed := true, recurses := true, named := ["internal/strconv.uint64pow10", "math/bits.deBruijn32tab", "math/bits.deBruijn64tab"], apart := false, laid := [("math/bits.deBruijn32tab", laid_math_bits_deBruijn32tab), ("math/bits.deBruijn64tab", laid_math_bits_deBruijn64tab), ("internal/strconv.uint64pow10", laid_internal_strconv_uint64pow10)], narrowed := true }
def NodeBuildsUptoSaid : Prop := nodeBuildsUptoRow.holds Tryd.pinned (OpenSpec.upto nodeBuildsSpec)

/-- 'censuslaw20.NodeKeeps', WHERE WHAT IT READS IS OF BULK AT MOST 1048576: true; the input reads as it did. -/
def nodeKeepsUptoRow : OpenClaim := { program := "ytncnpmgohhgmfaadoor", sum := "864365e1b7d52d842f9dd68c031c67f72035b70f62e9cf3a34d7d54f4486e965", func := "census/censuslaw20.NodeKeeps", spec := "nodeKeeps", inPlace := ["internal/abi.NoEscape"], unfollowed := true, recurses := true, named := ["internal/strconv.uint64pow10", "math/bits.deBruijn32tab", "math/bits.deBruijn64tab"], apart := false, laid := [("math/bits.deBruijn32tab", laid_math_bits_deBruijn32tab), ("math/bits.deBruijn64tab", laid_math_bits_deBruijn64tab), ("internal/strconv.uint64pow10", laid_internal_strconv_uint64pow10)], narrowed := true }
def NodeKeepsUptoSaid : Prop := nodeKeepsUptoRow.holds Tryd.pinned (OpenSpec.upto nodeKeepsSpec)

/-- 'censuslaw20.NodeSimple', WHERE WHAT IT READS IS OF BULK AT MOST 1048576: true; the input reads as it did. -/
def nodeSimpleUptoRow : OpenClaim := { program := "ytncnpmgohhgmfaadoor", sum := "864365e1b7d52d842f9dd68c031c67f72035b70f62e9cf3a34d7d54f4486e965", func := "census/censuslaw20.NodeSimple", spec := "nodeSimple", inPlace := ["internal/abi.NoEscape"], unfollowed := true, recurses := true, named := ["internal/strconv.uint64pow10", "math/bits.deBruijn32tab", "math/bits.deBruijn64tab"], apart := false, laid := [("math/bits.deBruijn32tab", laid_math_bits_deBruijn32tab), ("math/bits.deBruijn64tab", laid_math_bits_deBruijn64tab), ("internal/strconv.uint64pow10", laid_internal_strconv_uint64pow10)], narrowed := true }
def NodeSimpleUptoSaid : Prop := nodeSimpleUptoRow.holds Tryd.pinned (OpenSpec.upto nodeSimpleSpec)

/-- 'censuslaw20.NodeNil', WHERE WHAT IT READS IS OF BULK AT MOST 1048576: true; the input reads as it did. -/
def nodeNilUptoRow : OpenClaim := { program := "ytncnpmgohhgmfaadoor", sum := "864365e1b7d52d842f9dd68c031c67f72035b70f62e9cf3a34d7d54f4486e965", func := "census/censuslaw20.NodeNil", spec := "nodeNil", inPlace := ["internal/abi.NoEscape"], unfollowed := true, recurses := true, named := ["internal/strconv.uint64pow10", "math/bits.deBruijn32tab", "math/bits.deBruijn64tab"], apart := false, laid := [("math/bits.deBruijn32tab", laid_math_bits_deBruijn32tab), ("math/bits.deBruijn64tab", laid_math_bits_deBruijn64tab), ("internal/strconv.uint64pow10", laid_internal_strconv_uint64pow10)], narrowed := true }
def NodeNilUptoSaid : Prop := nodeNilUptoRow.holds Tryd.pinned (OpenSpec.upto nodeNilSpec)

/-- 'censuslaw20.NodeKnown', WHERE WHAT IT READS IS OF BULK AT MOST 1048576: true; the input reads as it did. -/
def nodeKnownUptoRow : OpenClaim := { program := "ytncnpmgohhgmfaadoor", sum := "864365e1b7d52d842f9dd68c031c67f72035b70f62e9cf3a34d7d54f4486e965", func := "census/censuslaw20.NodeKnown", spec := "nodeKnown", inPlace := ["internal/abi.NoEscape"], unfollowed := true, recurses := true, named := ["internal/strconv.uint64pow10", "math/bits.deBruijn32tab", "math/bits.deBruijn64tab"], apart := false, laid := [("math/bits.deBruijn32tab", laid_math_bits_deBruijn32tab), ("math/bits.deBruijn64tab", laid_math_bits_deBruijn64tab), ("internal/strconv.uint64pow10", laid_internal_strconv_uint64pow10)], narrowed := true }
def NodeKnownUptoSaid : Prop := nodeKnownUptoRow.holds Tryd.pinned (OpenSpec.upto nodeKnownSpec)

/-- 'censuslaw20.NodeDepends', WHERE WHAT IT READS IS OF BULK AT MOST 1048576: true; the input reads as it did. -/
def nodeDependsUptoRow : OpenClaim := { program := "ytncnpmgohhgmfaadoor", sum := "864365e1b7d52d842f9dd68c031c67f72035b70f62e9cf3a34d7d54f4486e965", func := "census/censuslaw20.NodeDepends", spec := "nodeDepends", inPlace := ["internal/abi.NoEscape"], unfollowed := true, recurses := true, named := ["internal/strconv.uint64pow10", "math/bits.deBruijn32tab", "math/bits.deBruijn64tab"], apart := false, laid := [("math/bits.deBruijn32tab", laid_math_bits_deBruijn32tab), ("math/bits.deBruijn64tab", laid_math_bits_deBruijn64tab), ("internal/strconv.uint64pow10", laid_internal_strconv_uint64pow10)], narrowed := true }
def NodeDependsUptoSaid : Prop := nodeDependsUptoRow.holds Tryd.pinned (OpenSpec.upto nodeDependsSpec)

/-- 'censuslaw20.NodeChecks', WHERE WHAT IT READS IS OF BULK AT MOST 1048576: true; the input reads as it did. -/
def nodeChecksUptoRow : OpenClaim := { program := "ytncnpmgohhgmfaadoor", sum := "864365e1b7d52d842f9dd68c031c67f72035b70f62e9cf3a34d7d54f4486e965", func := "census/censuslaw20.NodeChecks", spec := "nodeChecks", inPlace := ["internal/abi.NoEscape"], unfollowed := true, recurses := true, named := ["internal/strconv.uint64pow10", "math/bits.deBruijn32tab", "math/bits.deBruijn64tab"], apart := false, laid := [("math/bits.deBruijn32tab", laid_math_bits_deBruijn32tab), ("math/bits.deBruijn64tab", laid_math_bits_deBruijn64tab), ("internal/strconv.uint64pow10", laid_internal_strconv_uint64pow10)], narrowed := true }
def NodeChecksUptoSaid : Prop := nodeChecksUptoRow.holds Tryd.pinned (OpenSpec.upto nodeChecksSpec)

end Rows
end Go.Proofs.YtncnpmgohhgmfaaDoor
