/-
  No cell of these rows narrows 'for every input' (looked for: loops, veiled, ifaces, maps, wideKeys, modest, calm, conditions, laid).
  DERIVED. THE GIVEN ROWS OF THIS SEAT. 10 by the template 'for every input the law returns true; each argument reads behind the call as it read before'; 0 by the template 'total and deterministic' (their statements: YtbhgahjeocnfcaaTotals.lean).
  GIVEN WITH THE SEED: the statements are not yours to turn. If you find one false, say at which input.
  Laid BY PROGRAM, IN A SANDBOX (cutbox-rows.mjs): the forced cells as the released guide's own fill.sh prints them over the translation f0eac9797f4b043e… (all of the seat's roots in one cut). By AI agents, Wed Nov 11 2026. No macro, syntax, notation, axiom, sorry.
-/
import Derived.Test.YtbhgahjeocnfcaaChecked
import GoSem.Claim
import GoSem.ClaimJoined
import GoSem.ClaimMapViews
import Derived.JoinedTies
import Derived.KernelRfl
namespace Go.Proofs.Ytbhgahjeocnfcaa
/- THE CELL 'sum', in the pinned program and in every row, IS THE sha256 OF THE DUMP (.gsa) THAT YtbhgahjeocnfcaaProg.lean LOADS. Nothing in Lean hashes anything: it is a label: what it is worth is what the hold of that sum in a sandbox is worth. -/
noncomputable def Try.pinned : Pinned := { name := "ytbhgahjeocnfcaa", sum := "f0eac9797f4b043e9320a127dc555834b6457d7678d7d80c8037065d1f243f6c", checked := Try.checked }
namespace Rows
def none {H : Type} : Left H := { results := [], args := [] }

/-- 'censuslaw31.SiftBack': WHATEVER THE INPUT: true; the input reads as it did. -/
def siftBackSpec : ChangeSpec := { name := "siftBack", fn := fun _ => fun
  | [d1, d2, d3] => { results := [.lit (.bool true)], args := [d1, d2, d3] }
  | _ => none }
def siftBackRow : OpenClaim := { program := "ytbhgahjeocnfcaa", sum := "f0eac9797f4b043e9320a127dc555834b6457d7678d7d80c8037065d1f243f6c", func := "census/censuslaw31.SiftBack", spec := "siftBack", unfollowed := true, recurses := true, plainKeys := false, apart := false }
def SiftBackSaid : Prop := siftBackRow.holds Try.pinned (OpenSpec.ofChange siftBackSpec)

/-- ITS FALSE NEIGHBOUR: 'it returns false'. Refute it at one input. -/
def siftBackWrong : ChangeSpec := { name := "siftBack", fn := fun _ => fun
  | [d1, d2, d3] => { results := [.lit (.bool false)], args := [d1, d2, d3] }
  | _ => none }
def SiftBackWrongFalsely : Prop := siftBackRow.holds Try.pinned (OpenSpec.ofChange siftBackWrong)

/-- 'censuslaw31.SiftOthers': WHATEVER THE INPUT: true; the input reads as it did. -/
def siftOthersSpec : ChangeSpec := { name := "siftOthers", fn := fun _ => fun
  | [d1, d2, d3] => { results := [.lit (.bool true)], args := [d1, d2, d3] }
  | _ => none }
def siftOthersRow : OpenClaim := { program := "ytbhgahjeocnfcaa", sum := "f0eac9797f4b043e9320a127dc555834b6457d7678d7d80c8037065d1f243f6c", func := "census/censuslaw31.SiftOthers", spec := "siftOthers", unfollowed := true, recurses := true, plainKeys := false, apart := false }
def SiftOthersSaid : Prop := siftOthersRow.holds Try.pinned (OpenSpec.ofChange siftOthersSpec)

/-- ITS FALSE NEIGHBOUR: 'it returns false'. Refute it at one input. -/
def siftOthersWrong : ChangeSpec := { name := "siftOthers", fn := fun _ => fun
  | [d1, d2, d3] => { results := [.lit (.bool false)], args := [d1, d2, d3] }
  | _ => none }
def SiftOthersWrongFalsely : Prop := siftOthersRow.holds Try.pinned (OpenSpec.ofChange siftOthersWrong)

/-- 'censuslaw31.SiftReaches': WHATEVER THE INPUT: true; the input reads as it did. -/
def siftReachesSpec : ChangeSpec := { name := "siftReaches", fn := fun _ => fun
  | [d1, d2, d3] => { results := [.lit (.bool true)], args := [d1, d2, d3] }
  | _ => none }
def siftReachesRow : OpenClaim := { program := "ytbhgahjeocnfcaa", sum := "f0eac9797f4b043e9320a127dc555834b6457d7678d7d80c8037065d1f243f6c", func := "census/censuslaw31.SiftReaches", spec := "siftReaches", unfollowed := true, recurses := true, plainKeys := false, apart := false }
def SiftReachesSaid : Prop := siftReachesRow.holds Try.pinned (OpenSpec.ofChange siftReachesSpec)

/-- ITS FALSE NEIGHBOUR: 'it returns false'. Refute it at one input. -/
def siftReachesWrong : ChangeSpec := { name := "siftReaches", fn := fun _ => fun
  | [d1, d2, d3] => { results := [.lit (.bool false)], args := [d1, d2, d3] }
  | _ => none }
def SiftReachesWrongFalsely : Prop := siftReachesRow.holds Try.pinned (OpenSpec.ofChange siftReachesWrong)

/-- 'censuslaw31.SiftSwaps': WHATEVER THE INPUT: true; the input reads as it did. -/
def siftSwapsSpec : ChangeSpec := { name := "siftSwaps", fn := fun _ => fun
  | [d1, d2, d3] => { results := [.lit (.bool true)], args := [d1, d2, d3] }
  | _ => none }
def siftSwapsRow : OpenClaim := { program := "ytbhgahjeocnfcaa", sum := "f0eac9797f4b043e9320a127dc555834b6457d7678d7d80c8037065d1f243f6c", func := "census/censuslaw31.SiftSwaps", spec := "siftSwaps", unfollowed := true, recurses := true, plainKeys := false, apart := false }
def SiftSwapsSaid : Prop := siftSwapsRow.holds Try.pinned (OpenSpec.ofChange siftSwapsSpec)

/-- ITS FALSE NEIGHBOUR: 'it returns false'. Refute it at one input. -/
def siftSwapsWrong : ChangeSpec := { name := "siftSwaps", fn := fun _ => fun
  | [d1, d2, d3] => { results := [.lit (.bool false)], args := [d1, d2, d3] }
  | _ => none }
def SiftSwapsWrongFalsely : Prop := siftSwapsRow.holds Try.pinned (OpenSpec.ofChange siftSwapsWrong)

/-- 'censuslaw30.ObddWide': WHATEVER THE INPUT: true; the input reads as it did. -/
def obddWideSpec : ChangeSpec := { name := "obddWide", fn := fun _ => fun
  | [d1, d2] => { results := [.lit (.bool true)], args := [d1, d2] }
  | _ => none }
def obddWideRow : OpenClaim := { program := "ytbhgahjeocnfcaa", sum := "f0eac9797f4b043e9320a127dc555834b6457d7678d7d80c8037065d1f243f6c", func := "census/censuslaw30.ObddWide", spec := "obddWide", inPlace := ["internal/abi.NoEscape"], unfollowed := true, recurses := true, plainKeys := false, apart := false }
def ObddWideSaid : Prop := obddWideRow.holds Try.pinned (OpenSpec.ofChange obddWideSpec)

/-- ITS FALSE NEIGHBOUR: 'it returns false'. Refute it at one input. -/
def obddWideWrong : ChangeSpec := { name := "obddWide", fn := fun _ => fun
  | [d1, d2] => { results := [.lit (.bool false)], args := [d1, d2] }
  | _ => none }
def ObddWideWrongFalsely : Prop := obddWideRow.holds Try.pinned (OpenSpec.ofChange obddWideWrong)

/-- 'censuslaw30.ObddCompiles': WHATEVER THE INPUT: true; the input reads as it did. -/
def obddCompilesSpec : ChangeSpec := { name := "obddCompiles", fn := fun _ => fun
  | [d1, d2] => { results := [.lit (.bool true)], args := [d1, d2] }
  | _ => none }
def obddCompilesRow : OpenClaim := { program := "ytbhgahjeocnfcaa", sum := "f0eac9797f4b043e9320a127dc555834b6457d7678d7d80c8037065d1f243f6c", func := "census/censuslaw30.ObddCompiles", spec := "obddCompiles", inPlace := ["internal/abi.NoEscape"], unfollowed := true, recurses := true, plainKeys := false, apart := false }
def ObddCompilesSaid : Prop := obddCompilesRow.holds Try.pinned (OpenSpec.ofChange obddCompilesSpec)

/-- ITS FALSE NEIGHBOUR: 'it returns false'. Refute it at one input. -/
def obddCompilesWrong : ChangeSpec := { name := "obddCompiles", fn := fun _ => fun
  | [d1, d2] => { results := [.lit (.bool false)], args := [d1, d2] }
  | _ => none }
def ObddCompilesWrongFalsely : Prop := obddCompilesRow.holds Try.pinned (OpenSpec.ofChange obddCompilesWrong)

/-- 'censuslaw30.ObddNets': WHATEVER THE INPUT: true; the input reads as it did. -/
def obddNetsSpec : ChangeSpec := { name := "obddNets", fn := fun _ => fun
  | [d1, d2, d3] => { results := [.lit (.bool true)], args := [d1, d2, d3] }
  | _ => none }
def obddNetsRow : OpenClaim := { program := "ytbhgahjeocnfcaa", sum := "f0eac9797f4b043e9320a127dc555834b6457d7678d7d80c8037065d1f243f6c", func := "census/censuslaw30.ObddNets", spec := "obddNets", inPlace := ["internal/abi.NoEscape"], unfollowed := true, recurses := true, plainKeys := false, apart := false }
def ObddNetsSaid : Prop := obddNetsRow.holds Try.pinned (OpenSpec.ofChange obddNetsSpec)

/-- ITS FALSE NEIGHBOUR: 'it returns false'. Refute it at one input. -/
def obddNetsWrong : ChangeSpec := { name := "obddNets", fn := fun _ => fun
  | [d1, d2, d3] => { results := [.lit (.bool false)], args := [d1, d2, d3] }
  | _ => none }
def ObddNetsWrongFalsely : Prop := obddNetsRow.holds Try.pinned (OpenSpec.ofChange obddNetsWrong)

/-- 'censuslaw31.SiftPairs': WHATEVER THE INPUT: true; the input reads as it did. -/
def siftPairsSpec : ChangeSpec := { name := "siftPairs", fn := fun _ => fun
  | [d1, d2] => { results := [.lit (.bool true)], args := [d1, d2] }
  | _ => none }
def siftPairsRow : OpenClaim := { program := "ytbhgahjeocnfcaa", sum := "f0eac9797f4b043e9320a127dc555834b6457d7678d7d80c8037065d1f243f6c", func := "census/censuslaw31.SiftPairs", spec := "siftPairs", inPlace := ["slices.overlaps[int]"], unfollowed := true, recurses := true, plainKeys := false, apart := false }
def SiftPairsSaid : Prop := siftPairsRow.holds Try.pinned (OpenSpec.ofChange siftPairsSpec)

/-- ITS FALSE NEIGHBOUR: 'it returns false'. Refute it at one input. -/
def siftPairsWrong : ChangeSpec := { name := "siftPairs", fn := fun _ => fun
  | [d1, d2] => { results := [.lit (.bool false)], args := [d1, d2] }
  | _ => none }
def SiftPairsWrongFalsely : Prop := siftPairsRow.holds Try.pinned (OpenSpec.ofChange siftPairsWrong)

/-- 'censuslaw31.SiftErrors': WHATEVER THE INPUT: true; the input reads as it did. -/
def siftErrorsSpec : ChangeSpec := { name := "siftErrors", fn := fun _ => fun
  | [d1, d2, d3] => { results := [.lit (.bool true)], args := [d1, d2, d3] }
  | _ => none }
def siftErrorsRow : OpenClaim := { program := "ytbhgahjeocnfcaa", sum := "f0eac9797f4b043e9320a127dc555834b6457d7678d7d80c8037065d1f243f6c", func := "census/censuslaw31.SiftErrors", spec := "siftErrors", inPlace := ["slices.overlaps[int]"], unfollowed := true, recurses := true, plainKeys := false, apart := false }
def SiftErrorsSaid : Prop := siftErrorsRow.holds Try.pinned (OpenSpec.ofChange siftErrorsSpec)

/-- ITS FALSE NEIGHBOUR: 'it returns false'. Refute it at one input. -/
def siftErrorsWrong : ChangeSpec := { name := "siftErrors", fn := fun _ => fun
  | [d1, d2, d3] => { results := [.lit (.bool false)], args := [d1, d2, d3] }
  | _ => none }
def SiftErrorsWrongFalsely : Prop := siftErrorsRow.holds Try.pinned (OpenSpec.ofChange siftErrorsWrong)

/-- 'censuslaw31.SiftKnown': WHATEVER THE INPUT: true; the input reads as it did. -/
def siftKnownSpec : ChangeSpec := { name := "siftKnown", fn := fun _ => fun
  | [] => { results := [.lit (.bool true)], args := [] }
  | _ => none }
def siftKnownRow : OpenClaim := { program := "ytbhgahjeocnfcaa", sum := "f0eac9797f4b043e9320a127dc555834b6457d7678d7d80c8037065d1f243f6c", func := "census/censuslaw31.SiftKnown", spec := "siftKnown", inPlace := ["slices.overlaps[int]"], unfollowed := true, recurses := true, plainKeys := false, apart := false }
def SiftKnownSaid : Prop := siftKnownRow.holds Try.pinned (OpenSpec.ofChange siftKnownSpec)

/-- ITS FALSE NEIGHBOUR: 'it returns false'. Refute it at one input. -/
def siftKnownWrong : ChangeSpec := { name := "siftKnown", fn := fun _ => fun
  | [] => { results := [.lit (.bool false)], args := [] }
  | _ => none }
def SiftKnownWrongFalsely : Prop := siftKnownRow.holds Try.pinned (OpenSpec.ofChange siftKnownWrong)

/- THE SECOND FORM. 'bulk': how many values and letters a reading holds, each counted each time it is reached (what is shared counts as often as it is met; a slice's spare places count too). A statement '..UptoSaid' is the law's where the arguments, and the package variables that the reading takes, are together of bulk at most 1048576: NARROWER than '..Said'. Prove '..Said' where nothing that the law and all that it calls make is longer than what came in: it says more and counts as full. Else prove '..UptoSaid'. A law counts once. -/
mutual
def uptoBulk {H : Type} : DataW H → Nat
  | .lit (.string bytes) => bytes.length + 1
  | .lit _ => 1
  | .nil => 1
  | .ptr d => uptoBulk d + 1
  | .slice elems spare => uptoBulkAll elems + uptoBulkAll spare + 1
  | .agg parts => uptoBulkAll parts + 1
  | .iface _ d => uptoBulk d + 1
  | .map entries => uptoBulkEntries entries + 1
  | .held _ => 1
def uptoBulkAll {H : Type} : List (DataW H) → Nat
  | [] => 0
  | d :: r => uptoBulk d + uptoBulkAll r
def uptoBulkEntries {H : Type} : List (Lit × DataW H) → Nat
  | [] => 0
  | x :: r => uptoBulkEntry x + uptoBulkEntries r
def uptoBulkEntry {H : Type} : Lit × DataW H → Nat
  | (.string bytes, d) => bytes.length + uptoBulk d + 1
  | (_, d) => uptoBulk d + 1
 end
def uptoSmall : (H : Type) → List (DataW H) → Bool := fun _ ds => decide (uptoBulkAll ds ≤ 1048576)
def OpenSpec.upto (s : _root_.Go.ChangeSpec) : _root_.Go.OpenSpec := { _root_.Go.OpenSpec.ofChange s with cond := some uptoSmall }

/-- 'censuslaw31.SiftBack', WHERE WHAT IT READS IS OF BULK AT MOST 1048576: true; the input reads as it did. -/
def siftBackUptoRow : OpenClaim := { program := "ytbhgahjeocnfcaa", sum := "f0eac9797f4b043e9320a127dc555834b6457d7678d7d80c8037065d1f243f6c", func := "census/censuslaw31.SiftBack", spec := "siftBack", unfollowed := true, recurses := true, plainKeys := false, apart := false, narrowed := true }
def SiftBackUptoSaid : Prop := siftBackUptoRow.holds Try.pinned (OpenSpec.upto siftBackSpec)

/-- 'censuslaw31.SiftOthers', WHERE WHAT IT READS IS OF BULK AT MOST 1048576: true; the input reads as it did. -/
def siftOthersUptoRow : OpenClaim := { program := "ytbhgahjeocnfcaa", sum := "f0eac9797f4b043e9320a127dc555834b6457d7678d7d80c8037065d1f243f6c", func := "census/censuslaw31.SiftOthers", spec := "siftOthers", unfollowed := true, recurses := true, plainKeys := false, apart := false, narrowed := true }
def SiftOthersUptoSaid : Prop := siftOthersUptoRow.holds Try.pinned (OpenSpec.upto siftOthersSpec)

/-- 'censuslaw31.SiftReaches', WHERE WHAT IT READS IS OF BULK AT MOST 1048576: true; the input reads as it did. -/
def siftReachesUptoRow : OpenClaim := { program := "ytbhgahjeocnfcaa", sum := "f0eac9797f4b043e9320a127dc555834b6457d7678d7d80c8037065d1f243f6c", func := "census/censuslaw31.SiftReaches", spec := "siftReaches", unfollowed := true, recurses := true, plainKeys := false, apart := false, narrowed := true }
def SiftReachesUptoSaid : Prop := siftReachesUptoRow.holds Try.pinned (OpenSpec.upto siftReachesSpec)

/-- 'censuslaw31.SiftSwaps', WHERE WHAT IT READS IS OF BULK AT MOST 1048576: true; the input reads as it did. -/
def siftSwapsUptoRow : OpenClaim := { program := "ytbhgahjeocnfcaa", sum := "f0eac9797f4b043e9320a127dc555834b6457d7678d7d80c8037065d1f243f6c", func := "census/censuslaw31.SiftSwaps", spec := "siftSwaps", unfollowed := true, recurses := true, plainKeys := false, apart := false, narrowed := true }
def SiftSwapsUptoSaid : Prop := siftSwapsUptoRow.holds Try.pinned (OpenSpec.upto siftSwapsSpec)

/-- 'censuslaw30.ObddWide', WHERE WHAT IT READS IS OF BULK AT MOST 1048576: true; the input reads as it did. -/
def obddWideUptoRow : OpenClaim := { program := "ytbhgahjeocnfcaa", sum := "f0eac9797f4b043e9320a127dc555834b6457d7678d7d80c8037065d1f243f6c", func := "census/censuslaw30.ObddWide", spec := "obddWide", inPlace := ["internal/abi.NoEscape"], unfollowed := true, recurses := true, plainKeys := false, apart := false, narrowed := true }
def ObddWideUptoSaid : Prop := obddWideUptoRow.holds Try.pinned (OpenSpec.upto obddWideSpec)

/-- 'censuslaw30.ObddCompiles', WHERE WHAT IT READS IS OF BULK AT MOST 1048576: true; the input reads as it did. -/
def obddCompilesUptoRow : OpenClaim := { program := "ytbhgahjeocnfcaa", sum := "f0eac9797f4b043e9320a127dc555834b6457d7678d7d80c8037065d1f243f6c", func := "census/censuslaw30.ObddCompiles", spec := "obddCompiles", inPlace := ["internal/abi.NoEscape"], unfollowed := true, recurses := true, plainKeys := false, apart := false, narrowed := true }
def ObddCompilesUptoSaid : Prop := obddCompilesUptoRow.holds Try.pinned (OpenSpec.upto obddCompilesSpec)

/-- 'censuslaw30.ObddNets', WHERE WHAT IT READS IS OF BULK AT MOST 1048576: true; the input reads as it did. -/
def obddNetsUptoRow : OpenClaim := { program := "ytbhgahjeocnfcaa", sum := "f0eac9797f4b043e9320a127dc555834b6457d7678d7d80c8037065d1f243f6c", func := "census/censuslaw30.ObddNets", spec := "obddNets", inPlace := ["internal/abi.NoEscape"], unfollowed := true, recurses := true, plainKeys := false, apart := false, narrowed := true }
def ObddNetsUptoSaid : Prop := obddNetsUptoRow.holds Try.pinned (OpenSpec.upto obddNetsSpec)

/-- 'censuslaw31.SiftPairs', WHERE WHAT IT READS IS OF BULK AT MOST 1048576: true; the input reads as it did. -/
def siftPairsUptoRow : OpenClaim := { program := "ytbhgahjeocnfcaa", sum := "f0eac9797f4b043e9320a127dc555834b6457d7678d7d80c8037065d1f243f6c", func := "census/censuslaw31.SiftPairs", spec := "siftPairs", inPlace := ["slices.overlaps[int]"], unfollowed := true, recurses := true, plainKeys := false, apart := false, narrowed := true }
def SiftPairsUptoSaid : Prop := siftPairsUptoRow.holds Try.pinned (OpenSpec.upto siftPairsSpec)

/-- 'censuslaw31.SiftErrors', WHERE WHAT IT READS IS OF BULK AT MOST 1048576: true; the input reads as it did. -/
def siftErrorsUptoRow : OpenClaim := { program := "ytbhgahjeocnfcaa", sum := "f0eac9797f4b043e9320a127dc555834b6457d7678d7d80c8037065d1f243f6c", func := "census/censuslaw31.SiftErrors", spec := "siftErrors", inPlace := ["slices.overlaps[int]"], unfollowed := true, recurses := true, plainKeys := false, apart := false, narrowed := true }
def SiftErrorsUptoSaid : Prop := siftErrorsUptoRow.holds Try.pinned (OpenSpec.upto siftErrorsSpec)

/-- 'censuslaw31.SiftKnown', WHERE WHAT IT READS IS OF BULK AT MOST 1048576: true; the input reads as it did. -/
def siftKnownUptoRow : OpenClaim := { program := "ytbhgahjeocnfcaa", sum := "f0eac9797f4b043e9320a127dc555834b6457d7678d7d80c8037065d1f243f6c", func := "census/censuslaw31.SiftKnown", spec := "siftKnown", inPlace := ["slices.overlaps[int]"], unfollowed := true, recurses := true, plainKeys := false, apart := false, narrowed := true }
def SiftKnownUptoSaid : Prop := siftKnownUptoRow.holds Try.pinned (OpenSpec.upto siftKnownSpec)

end Rows
end Go.Proofs.Ytbhgahjeocnfcaa
