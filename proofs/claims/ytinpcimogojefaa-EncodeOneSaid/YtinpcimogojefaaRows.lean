/-
  No cell of these rows narrows 'for every input' (looked for: loops, veiled, ifaces, maps, wideKeys, modest, calm, conditions, laid).
  DERIVED. THE GIVEN ROWS OF THIS SEAT. 10 by the template 'for every input the law returns true; each argument reads behind the call as it read before'; 0 by the template 'total and deterministic' (their statements: YtinpcimogojefaaTotals.lean).
  GIVEN WITH THE SEED: the statements are not yours to turn. If you find one false, say at which input.
  Laid BY PROGRAM, IN A SANDBOX (cutbox-rows.mjs): the forced cells as the released guide's own fill.sh prints them over the translation c8b69827360a1b84… (all of the seat's roots in one cut). By AI agents, Wed Nov 11 2026. No macro, syntax, notation, axiom, sorry.
-/
import Derived.Test.YtinpcimogojefaaChecked
import GoSem.Claim
import GoSem.ClaimJoined
import GoSem.ClaimMapViews
import Derived.JoinedTies
import Derived.KernelRfl
namespace Go.Proofs.Ytinpcimogojefaa
/- THE CELL 'sum', in the pinned program and in every row, IS THE sha256 OF THE DUMP (.gsa) THAT YtinpcimogojefaaProg.lean LOADS. Nothing in Lean hashes anything: it is a label: what it is worth is what the hold of that sum in a sandbox is worth. -/
noncomputable def Try.pinned : Pinned := { name := "ytinpcimogojefaa", sum := "c8b69827360a1b84257160c05923e7b9c2a0a90d791314877af9272e26d6292d", checked := Try.checked }
namespace Rows
def none {H : Type} : Left H := { results := [], args := [] }

/-- 'censuslaw11.EncodeStates': WHATEVER THE INPUT: true; the input reads as it did. -/
def encodeStatesSpec : ChangeSpec := { name := "encodeStates", fn := fun _ => fun
  | [d] => { results := [.lit (.bool true)], args := [d] }
  | _ => none }
def encodeStatesRow : OpenClaim := { program := "ytinpcimogojefaa", sum := "c8b69827360a1b84257160c05923e7b9c2a0a90d791314877af9272e26d6292d", func := "census/censuslaw11.EncodeStates", spec := "encodeStates", unfollowed := true, recurses := true, plainKeys := false, apart := false }
def EncodeStatesSaid : Prop := encodeStatesRow.holds Try.pinned (OpenSpec.ofChange encodeStatesSpec)

/-- ITS FALSE NEIGHBOUR: 'it returns false'. Refute it at one input. -/
def encodeStatesWrong : ChangeSpec := { name := "encodeStates", fn := fun _ => fun
  | [d] => { results := [.lit (.bool false)], args := [d] }
  | _ => none }
def EncodeStatesWrongFalsely : Prop := encodeStatesRow.holds Try.pinned (OpenSpec.ofChange encodeStatesWrong)

/-- 'censuslaw11.EncodeMakes': WHATEVER THE INPUT: true; the input reads as it did. -/
def encodeMakesSpec : ChangeSpec := { name := "encodeMakes", fn := fun _ => fun
  | [d1, d2] => { results := [.lit (.bool true)], args := [d1, d2] }
  | _ => none }
def encodeMakesRow : OpenClaim := { program := "ytinpcimogojefaa", sum := "c8b69827360a1b84257160c05923e7b9c2a0a90d791314877af9272e26d6292d", func := "census/censuslaw11.EncodeMakes", spec := "encodeMakes", unfollowed := true, recurses := true, plainKeys := false, apart := false }
def EncodeMakesSaid : Prop := encodeMakesRow.holds Try.pinned (OpenSpec.ofChange encodeMakesSpec)

/-- ITS FALSE NEIGHBOUR: 'it returns false'. Refute it at one input. -/
def encodeMakesWrong : ChangeSpec := { name := "encodeMakes", fn := fun _ => fun
  | [d1, d2] => { results := [.lit (.bool false)], args := [d1, d2] }
  | _ => none }
def EncodeMakesWrongFalsely : Prop := encodeMakesRow.holds Try.pinned (OpenSpec.ofChange encodeMakesWrong)

/-- 'censuslaw11.EncodeParts': WHATEVER THE INPUT: true; the input reads as it did. -/
def encodePartsSpec : ChangeSpec := { name := "encodeParts", fn := fun _ => fun
  | [d1, d2, d3] => { results := [.lit (.bool true)], args := [d1, d2, d3] }
  | _ => none }
def encodePartsRow : OpenClaim := { program := "ytinpcimogojefaa", sum := "c8b69827360a1b84257160c05923e7b9c2a0a90d791314877af9272e26d6292d", func := "census/censuslaw11.EncodeParts", spec := "encodeParts", unfollowed := true, recurses := true, plainKeys := false, apart := false }
def EncodePartsSaid : Prop := encodePartsRow.holds Try.pinned (OpenSpec.ofChange encodePartsSpec)

/-- ITS FALSE NEIGHBOUR: 'it returns false'. Refute it at one input. -/
def encodePartsWrong : ChangeSpec := { name := "encodeParts", fn := fun _ => fun
  | [d1, d2, d3] => { results := [.lit (.bool false)], args := [d1, d2, d3] }
  | _ => none }
def EncodePartsWrongFalsely : Prop := encodePartsRow.holds Try.pinned (OpenSpec.ofChange encodePartsWrong)

/-- 'censuslaw11.EncodeNormal': WHATEVER THE INPUT: true; the input reads as it did. -/
def encodeNormalSpec : ChangeSpec := { name := "encodeNormal", fn := fun _ => fun
  | [d1, d2] => { results := [.lit (.bool true)], args := [d1, d2] }
  | _ => none }
def encodeNormalRow : OpenClaim := { program := "ytinpcimogojefaa", sum := "c8b69827360a1b84257160c05923e7b9c2a0a90d791314877af9272e26d6292d", func := "census/censuslaw11.EncodeNormal", spec := "encodeNormal", unfollowed := true, recurses := true, plainKeys := false, apart := false }
def EncodeNormalSaid : Prop := encodeNormalRow.holds Try.pinned (OpenSpec.ofChange encodeNormalSpec)

/-- ITS FALSE NEIGHBOUR: 'it returns false'. Refute it at one input. -/
def encodeNormalWrong : ChangeSpec := { name := "encodeNormal", fn := fun _ => fun
  | [d1, d2] => { results := [.lit (.bool false)], args := [d1, d2] }
  | _ => none }
def EncodeNormalWrongFalsely : Prop := encodeNormalRow.holds Try.pinned (OpenSpec.ofChange encodeNormalWrong)

/-- 'censuslaw11.EncodeCounts': WHATEVER THE INPUT: true; the input reads as it did. -/
def encodeCountsSpec : ChangeSpec := { name := "encodeCounts", fn := fun _ => fun
  | [d] => { results := [.lit (.bool true)], args := [d] }
  | _ => none }
def encodeCountsRow : OpenClaim := { program := "ytinpcimogojefaa", sum := "c8b69827360a1b84257160c05923e7b9c2a0a90d791314877af9272e26d6292d", func := "census/censuslaw11.EncodeCounts", spec := "encodeCounts", unfollowed := true, recurses := true, plainKeys := false, apart := false }
def EncodeCountsSaid : Prop := encodeCountsRow.holds Try.pinned (OpenSpec.ofChange encodeCountsSpec)

/-- ITS FALSE NEIGHBOUR: 'it returns false'. Refute it at one input. -/
def encodeCountsWrong : ChangeSpec := { name := "encodeCounts", fn := fun _ => fun
  | [d] => { results := [.lit (.bool false)], args := [d] }
  | _ => none }
def EncodeCountsWrongFalsely : Prop := encodeCountsRow.holds Try.pinned (OpenSpec.ofChange encodeCountsWrong)

/-- 'censuslaw11.EncodeLong': WHATEVER THE INPUT: true; the input reads as it did. -/
def encodeLongSpec : ChangeSpec := { name := "encodeLong", fn := fun _ => fun
  | [] => { results := [.lit (.bool true)], args := [] }
  | _ => none }
def encodeLongRow : OpenClaim := { program := "ytinpcimogojefaa", sum := "c8b69827360a1b84257160c05923e7b9c2a0a90d791314877af9272e26d6292d", func := "census/censuslaw11.EncodeLong", spec := "encodeLong", unfollowed := true, recurses := true, plainKeys := false, apart := false }
def EncodeLongSaid : Prop := encodeLongRow.holds Try.pinned (OpenSpec.ofChange encodeLongSpec)

/-- ITS FALSE NEIGHBOUR: 'it returns false'. Refute it at one input. -/
def encodeLongWrong : ChangeSpec := { name := "encodeLong", fn := fun _ => fun
  | [] => { results := [.lit (.bool false)], args := [] }
  | _ => none }
def EncodeLongWrongFalsely : Prop := encodeLongRow.holds Try.pinned (OpenSpec.ofChange encodeLongWrong)

/-- 'censuslaw11.EncodeKnown': WHATEVER THE INPUT: true; the input reads as it did. -/
def encodeKnownSpec : ChangeSpec := { name := "encodeKnown", fn := fun _ => fun
  | [] => { results := [.lit (.bool true)], args := [] }
  | _ => none }
def encodeKnownRow : OpenClaim := { program := "ytinpcimogojefaa", sum := "c8b69827360a1b84257160c05923e7b9c2a0a90d791314877af9272e26d6292d", func := "census/censuslaw11.EncodeKnown", spec := "encodeKnown", unfollowed := true, recurses := true, plainKeys := false, apart := false }
def EncodeKnownSaid : Prop := encodeKnownRow.holds Try.pinned (OpenSpec.ofChange encodeKnownSpec)

/-- ITS FALSE NEIGHBOUR: 'it returns false'. Refute it at one input. -/
def encodeKnownWrong : ChangeSpec := { name := "encodeKnown", fn := fun _ => fun
  | [] => { results := [.lit (.bool false)], args := [] }
  | _ => none }
def EncodeKnownWrongFalsely : Prop := encodeKnownRow.holds Try.pinned (OpenSpec.ofChange encodeKnownWrong)

/-- 'censuslaw11.EncodeValid': WHATEVER THE INPUT: true; the input reads as it did. -/
def encodeValidSpec : ChangeSpec := { name := "encodeValid", fn := fun _ => fun
  | [d1, d2] => { results := [.lit (.bool true)], args := [d1, d2] }
  | _ => none }
def encodeValidRow : OpenClaim := { program := "ytinpcimogojefaa", sum := "c8b69827360a1b84257160c05923e7b9c2a0a90d791314877af9272e26d6292d", func := "census/censuslaw11.EncodeValid", spec := "encodeValid", unfollowed := true, recurses := true, plainKeys := false, apart := false }
def EncodeValidSaid : Prop := encodeValidRow.holds Try.pinned (OpenSpec.ofChange encodeValidSpec)

/-- ITS FALSE NEIGHBOUR: 'it returns false'. Refute it at one input. -/
def encodeValidWrong : ChangeSpec := { name := "encodeValid", fn := fun _ => fun
  | [d1, d2] => { results := [.lit (.bool false)], args := [d1, d2] }
  | _ => none }
def EncodeValidWrongFalsely : Prop := encodeValidRow.holds Try.pinned (OpenSpec.ofChange encodeValidWrong)

/-- 'censuslaw11.EncodeOne': WHATEVER THE INPUT: true; the input reads as it did. -/
def encodeOneSpec : ChangeSpec := { name := "encodeOne", fn := fun _ => fun
  | [d1, d2] => { results := [.lit (.bool true)], args := [d1, d2] }
  | _ => none }
def encodeOneRow : OpenClaim := { program := "ytinpcimogojefaa", sum := "c8b69827360a1b84257160c05923e7b9c2a0a90d791314877af9272e26d6292d", func := "census/censuslaw11.EncodeOne", spec := "encodeOne", unfollowed := true, recurses := true, plainKeys := false, apart := false }
def EncodeOneSaid : Prop := encodeOneRow.holds Try.pinned (OpenSpec.ofChange encodeOneSpec)

/-- ITS FALSE NEIGHBOUR: 'it returns false'. Refute it at one input. -/
def encodeOneWrong : ChangeSpec := { name := "encodeOne", fn := fun _ => fun
  | [d1, d2] => { results := [.lit (.bool false)], args := [d1, d2] }
  | _ => none }
def EncodeOneWrongFalsely : Prop := encodeOneRow.holds Try.pinned (OpenSpec.ofChange encodeOneWrong)

/-- 'censuslaw11.EncodeExtends': WHATEVER THE INPUT: true; the input reads as it did. -/
def encodeExtendsSpec : ChangeSpec := { name := "encodeExtends", fn := fun _ => fun
  | [d1, d2, d3] => { results := [.lit (.bool true)], args := [d1, d2, d3] }
  | _ => none }
def encodeExtendsRow : OpenClaim := { program := "ytinpcimogojefaa", sum := "c8b69827360a1b84257160c05923e7b9c2a0a90d791314877af9272e26d6292d", func := "census/censuslaw11.EncodeExtends", spec := "encodeExtends", unfollowed := true, recurses := true, plainKeys := false, apart := false }
def EncodeExtendsSaid : Prop := encodeExtendsRow.holds Try.pinned (OpenSpec.ofChange encodeExtendsSpec)

/-- ITS FALSE NEIGHBOUR: 'it returns false'. Refute it at one input. -/
def encodeExtendsWrong : ChangeSpec := { name := "encodeExtends", fn := fun _ => fun
  | [d1, d2, d3] => { results := [.lit (.bool false)], args := [d1, d2, d3] }
  | _ => none }
def EncodeExtendsWrongFalsely : Prop := encodeExtendsRow.holds Try.pinned (OpenSpec.ofChange encodeExtendsWrong)

/- THE SECOND FORM. 'bulk': how many values and letters a reading holds, each counted each time it is reached (what is shared counts as often as it is met; a slice's spare places count too). A statement '..UptoSaid' is the law's where the arguments, and the package variables that the reading takes, are together of bulk at most 1048576: NARROWER than '..Said'. Prove '..Said' where nothing that the law and all that it calls make is longer than what came in: it says more and counts as full. Else prove '..UptoSaid'. A law counts once. -/
mutual
def uptoBulk {H : Type} : DataW H → Nat
  | .lit (.string bytes) => bytes.length + 1
  | .lit _ => 1
  | .nil => 1
  | .ptr d => uptoBulk d + 1
  | .slice elems spare => uptoBulkAll elems + uptoBulkAll spare + 1
  | .agg parts => uptoBulkAll parts + 1
  | .iface _ d => uptoBulk d + 1
  | .map entries => uptoBulkEntries entries + 1
  | .held _ => 1
def uptoBulkAll {H : Type} : List (DataW H) → Nat
  | [] => 0
  | d :: r => uptoBulk d + uptoBulkAll r
def uptoBulkEntries {H : Type} : List (Lit × DataW H) → Nat
  | [] => 0
  | x :: r => uptoBulkEntry x + uptoBulkEntries r
def uptoBulkEntry {H : Type} : Lit × DataW H → Nat
  | (.string bytes, d) => bytes.length + uptoBulk d + 1
  | (_, d) => uptoBulk d + 1
 end
def uptoSmall : (H : Type) → List (DataW H) → Bool := fun _ ds => decide (uptoBulkAll ds ≤ 1048576)
def OpenSpec.upto (s : _root_.Go.ChangeSpec) : _root_.Go.OpenSpec := { _root_.Go.OpenSpec.ofChange s with cond := some uptoSmall }

/-- 'censuslaw11.EncodeStates', WHERE WHAT IT READS IS OF BULK AT MOST 1048576: true; the input reads as it did. -/
def encodeStatesUptoRow : OpenClaim := { program := "ytinpcimogojefaa", sum := "c8b69827360a1b84257160c05923e7b9c2a0a90d791314877af9272e26d6292d", func := "census/censuslaw11.EncodeStates", spec := "encodeStates", unfollowed := true, recurses := true, plainKeys := false, apart := false, narrowed := true }
def EncodeStatesUptoSaid : Prop := encodeStatesUptoRow.holds Try.pinned (OpenSpec.upto encodeStatesSpec)

/-- 'censuslaw11.EncodeMakes', WHERE WHAT IT READS IS OF BULK AT MOST 1048576: true; the input reads as it did. -/
def encodeMakesUptoRow : OpenClaim := { program := "ytinpcimogojefaa", sum := "c8b69827360a1b84257160c05923e7b9c2a0a90d791314877af9272e26d6292d", func := "census/censuslaw11.EncodeMakes", spec := "encodeMakes", unfollowed := true, recurses := true, plainKeys := false, apart := false, narrowed := true }
def EncodeMakesUptoSaid : Prop := encodeMakesUptoRow.holds Try.pinned (OpenSpec.upto encodeMakesSpec)

/-- 'censuslaw11.EncodeParts', WHERE WHAT IT READS IS OF BULK AT MOST 1048576: true; the input reads as it did. -/
def encodePartsUptoRow : OpenClaim := { program := "ytinpcimogojefaa", sum := "c8b69827360a1b84257160c05923e7b9c2a0a90d791314877af9272e26d6292d", func := "census/censuslaw11.EncodeParts", spec := "encodeParts", unfollowed := true, recurses := true, plainKeys := false, apart := false, narrowed := true }
def EncodePartsUptoSaid : Prop := encodePartsUptoRow.holds Try.pinned (OpenSpec.upto encodePartsSpec)

/-- 'censuslaw11.EncodeNormal', WHERE WHAT IT READS IS OF BULK AT MOST 1048576: true; the input reads as it did. -/
def encodeNormalUptoRow : OpenClaim := { program := "ytinpcimogojefaa", sum := "c8b69827360a1b84257160c05923e7b9c2a0a90d791314877af9272e26d6292d", func := "census/censuslaw11.EncodeNormal", spec := "encodeNormal", unfollowed := true, recurses := true, plainKeys := false, apart := false, narrowed := true }
def EncodeNormalUptoSaid : Prop := encodeNormalUptoRow.holds Try.pinned (OpenSpec.upto encodeNormalSpec)

/-- 'censuslaw11.EncodeCounts', WHERE WHAT IT READS IS OF BULK AT MOST 1048576: true; the input reads as it did. -/
def encodeCountsUptoRow : OpenClaim := { program := "ytinpcimogojefaa", sum := "c8b69827360a1b84257160c05923e7b9c2a0a90d791314877af9272e26d6292d", func := "census/censuslaw11.EncodeCounts", spec := "encodeCounts", unfollowed := true, recurses := true, plainKeys := false, apart := false, narrowed := true }
def EncodeCountsUptoSaid : Prop := encodeCountsUptoRow.holds Try.pinned (OpenSpec.upto encodeCountsSpec)

/-- 'censuslaw11.EncodeLong', WHERE WHAT IT READS IS OF BULK AT MOST 1048576: true; the input reads as it did. -/
def encodeLongUptoRow : OpenClaim := { program := "ytinpcimogojefaa", sum := "c8b69827360a1b84257160c05923e7b9c2a0a90d791314877af9272e26d6292d", func := "census/censuslaw11.EncodeLong", spec := "encodeLong", unfollowed := true, recurses := true, plainKeys := false, apart := false, narrowed := true }
def EncodeLongUptoSaid : Prop := encodeLongUptoRow.holds Try.pinned (OpenSpec.upto encodeLongSpec)

/-- 'censuslaw11.EncodeKnown', WHERE WHAT IT READS IS OF BULK AT MOST 1048576: true; the input reads as it did. -/
def encodeKnownUptoRow : OpenClaim := { program := "ytinpcimogojefaa", sum := "c8b69827360a1b84257160c05923e7b9c2a0a90d791314877af9272e26d6292d", func := "census/censuslaw11.EncodeKnown", spec := "encodeKnown", unfollowed := true, recurses := true, plainKeys := false, apart := false, narrowed := true }
def EncodeKnownUptoSaid : Prop := encodeKnownUptoRow.holds Try.pinned (OpenSpec.upto encodeKnownSpec)

/-- 'censuslaw11.EncodeValid', WHERE WHAT IT READS IS OF BULK AT MOST 1048576: true; the input reads as it did. -/
def encodeValidUptoRow : OpenClaim := { program := "ytinpcimogojefaa", sum := "c8b69827360a1b84257160c05923e7b9c2a0a90d791314877af9272e26d6292d", func := "census/censuslaw11.EncodeValid", spec := "encodeValid", unfollowed := true, recurses := true, plainKeys := false, apart := false, narrowed := true }
def EncodeValidUptoSaid : Prop := encodeValidUptoRow.holds Try.pinned (OpenSpec.upto encodeValidSpec)

/-- 'censuslaw11.EncodeOne', WHERE WHAT IT READS IS OF BULK AT MOST 1048576: true; the input reads as it did. -/
def encodeOneUptoRow : OpenClaim := { program := "ytinpcimogojefaa", sum := "c8b69827360a1b84257160c05923e7b9c2a0a90d791314877af9272e26d6292d", func := "census/censuslaw11.EncodeOne", spec := "encodeOne", unfollowed := true, recurses := true, plainKeys := false, apart := false, narrowed := true }
def EncodeOneUptoSaid : Prop := encodeOneUptoRow.holds Try.pinned (OpenSpec.upto encodeOneSpec)

/-- 'censuslaw11.EncodeExtends', WHERE WHAT IT READS IS OF BULK AT MOST 1048576: true; the input reads as it did. -/
def encodeExtendsUptoRow : OpenClaim := { program := "ytinpcimogojefaa", sum := "c8b69827360a1b84257160c05923e7b9c2a0a90d791314877af9272e26d6292d", func := "census/censuslaw11.EncodeExtends", spec := "encodeExtends", unfollowed := true, recurses := true, plainKeys := false, apart := false, narrowed := true }
def EncodeExtendsUptoSaid : Prop := encodeExtendsUptoRow.holds Try.pinned (OpenSpec.upto encodeExtendsSpec)

end Rows
end Go.Proofs.Ytinpcimogojefaa
