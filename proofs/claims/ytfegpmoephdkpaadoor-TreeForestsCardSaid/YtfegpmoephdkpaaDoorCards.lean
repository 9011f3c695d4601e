/-
  DERIVED. GIVEN WITH THE SEED: THE CARDS: each row of YtfegpmoephdkpaaDoorRows.lean that lists a variable, with what it lists TIED to the program's text (the seventh form; the later family's looks); each row that meets fmt, with fmt's text TOLD by the authors' own Lean function (tested against real Go, not proved from fmt's source: count such statements apart). THE CARD IS WHAT COUNTS. Prove the row's statement (the work); the ties are given (YtfegpmoephdkpaaDoorTie.lean); close each card by the builder's one call (the guide's Derived/Test/ToyasCard.lean, 'card_holds'). Laid BY PROGRAM, IN A SANDBOX (cutbox-door.mjs). By AI agents, Wed Nov 11 2026. No macro, syntax, notation, axiom, sorry.
-/
import Derived.Test.YtfegpmoephdkpaaDoorRows
import GoSem.ClaimSeven
namespace Go.Proofs.YtfegpmoephdkpaaDoor
namespace Rows

/-- THE TIED CARD OF 'censuslaw42.TreeChecks'. -/
def treeChecksCard : Claim7 := { stood := { row := treeChecksRow, standIns := [], harness := (true, "20c7e2b12fdcee506380b8583a72539525a1835843a69701917e5931be67749a"), looks := true }, kinds := [], alts := [], laidByText := true, laidKinds := [.data, .data, .data, .sentinel, .sentinel], laidTests := true, laidLooks := .later }
def TreeChecksCardSaid : Prop := Claim7.holds Tryd.pinned (.plain (OpenSpec.ofChange treeChecksSpec)) treeChecksCard

/-- THE TIED CARD OF 'censuslaw42.TreeLarge'. -/
def treeLargeCard : Claim7 := { stood := { row := treeLargeRow, standIns := [], harness := (true, "20c7e2b12fdcee506380b8583a72539525a1835843a69701917e5931be67749a"), looks := true }, kinds := [], alts := [], laidByText := true, laidKinds := [.data, .data, .data, .sentinel, .sentinel], laidTests := true, laidLooks := .later }
def TreeLargeCardSaid : Prop := Claim7.holds Tryd.pinned (.plain (OpenSpec.ofChange treeLargeSpec)) treeLargeCard

/-- THE TIED CARD OF 'censuslaw42.TreeClassifies'. -/
def treeClassifiesCard : Claim7 := { stood := { row := treeClassifiesRow, standIns := [], harness := (true, "20c7e2b12fdcee506380b8583a72539525a1835843a69701917e5931be67749a"), looks := true }, kinds := [], alts := [], laidByText := true, laidKinds := [.data, .data, .data, .sentinel, .sentinel], laidTests := true, laidLooks := .later }
def TreeClassifiesCardSaid : Prop := Claim7.holds Tryd.pinned (.plain (OpenSpec.ofChange treeClassifiesSpec)) treeClassifiesCard

/-- THE TIED CARD OF 'censuslaw42.TreeTexts'. -/
def treeTextsCard : Claim7 := { stood := { row := treeTextsRow, standIns := [], harness := (true, "20c7e2b12fdcee506380b8583a72539525a1835843a69701917e5931be67749a"), looks := true }, kinds := [], alts := [], laidByText := true, laidKinds := [.data, .data, .data, .sentinel, .sentinel], laidTests := true, laidLooks := .later }
def TreeTextsCardSaid : Prop := Claim7.holds Tryd.pinned (.plain (OpenSpec.ofChange treeTextsSpec)) treeTextsCard

/-- THE TIED CARD OF 'censuslaw42.TreeParses'. -/
def treeParsesCard : Claim7 := { stood := { row := treeParsesRow, standIns := [], harness := (true, "20c7e2b12fdcee506380b8583a72539525a1835843a69701917e5931be67749a"), looks := true }, kinds := [], alts := [], laidByText := true, laidKinds := [.data, .data, .data, .sentinel, .sentinel], laidTests := true, laidLooks := .later }
def TreeParsesCardSaid : Prop := Claim7.holds Tryd.pinned (.plain (OpenSpec.ofChange treeParsesSpec)) treeParsesCard

/-- THE TIED CARD OF 'censuslaw42.TreeLong'. -/
def treeLongCard : Claim7 := { stood := { row := treeLongRow, standIns := [], harness := (true, "20c7e2b12fdcee506380b8583a72539525a1835843a69701917e5931be67749a"), looks := true }, kinds := [], alts := [], laidByText := true, laidKinds := [.data, .data, .data, .sentinel, .sentinel], laidTests := true, laidLooks := .later }
def TreeLongCardSaid : Prop := Claim7.holds Tryd.pinned (.plain (OpenSpec.ofChange treeLongSpec)) treeLongCard

/-- THE TIED CARD OF 'censuslaw42.TreeBack'. -/
def treeBackCard : Claim7 := { stood := { row := treeBackRow, standIns := [], harness := (true, "20c7e2b12fdcee506380b8583a72539525a1835843a69701917e5931be67749a"), looks := true }, kinds := [], alts := [], laidByText := true, laidKinds := [.data, .data, .data, .sentinel, .sentinel], laidTests := true, laidLooks := .later }
def TreeBackCardSaid : Prop := Claim7.holds Tryd.pinned (.plain (OpenSpec.ofChange treeBackSpec)) treeBackCard

/-- THE TIED CARD OF 'censuslaw42.TreeTurns'. -/
def treeTurnsCard : Claim7 := { stood := { row := treeTurnsRow, standIns := [], harness := (true, "20c7e2b12fdcee506380b8583a72539525a1835843a69701917e5931be67749a"), looks := true }, kinds := [], alts := [], laidByText := true, laidKinds := [.data, .data, .data, .sentinel, .sentinel], laidTests := true, laidLooks := .later }
def TreeTurnsCardSaid : Prop := Claim7.holds Tryd.pinned (.plain (OpenSpec.ofChange treeTurnsSpec)) treeTurnsCard

/-- THE TIED CARD OF 'censuslaw42.TreeForests'. -/
def treeForestsCard : Claim7 := { stood := { row := treeForestsRow, standIns := [], harness := (true, "20c7e2b12fdcee506380b8583a72539525a1835843a69701917e5931be67749a"), looks := true }, kinds := [], alts := [], laidByText := true, laidKinds := [.data, .data, .data, .sentinel, .sentinel], laidTests := true, laidLooks := .later }
def TreeForestsCardSaid : Prop := Claim7.holds Tryd.pinned (.plain (OpenSpec.ofChange treeForestsSpec)) treeForestsCard

/-- THE SECOND FORM's CARD OF 'censuslaw42.TreeChecks'. -/
def treeChecksUptoCard : Claim7 := { stood := { row := treeChecksUptoRow, standIns := [], harness := (true, "20c7e2b12fdcee506380b8583a72539525a1835843a69701917e5931be67749a"), looks := true }, kinds := [], alts := [], laidByText := true, laidKinds := [.data, .data, .data, .sentinel, .sentinel], laidTests := true, laidLooks := .later }
def TreeChecksUptoCardSaid : Prop := Claim7.holds Tryd.pinned (.plain (OpenSpec.upto treeChecksSpec)) treeChecksUptoCard

/-- THE SECOND FORM's CARD OF 'censuslaw42.TreeLarge'. -/
def treeLargeUptoCard : Claim7 := { stood := { row := treeLargeUptoRow, standIns := [], harness := (true, "20c7e2b12fdcee506380b8583a72539525a1835843a69701917e5931be67749a"), looks := true }, kinds := [], alts := [], laidByText := true, laidKinds := [.data, .data, .data, .sentinel, .sentinel], laidTests := true, laidLooks := .later }
def TreeLargeUptoCardSaid : Prop := Claim7.holds Tryd.pinned (.plain (OpenSpec.upto treeLargeSpec)) treeLargeUptoCard

/-- THE SECOND FORM's CARD OF 'censuslaw42.TreeClassifies'. -/
def treeClassifiesUptoCard : Claim7 := { stood := { row := treeClassifiesUptoRow, standIns := [], harness := (true, "20c7e2b12fdcee506380b8583a72539525a1835843a69701917e5931be67749a"), looks := true }, kinds := [], alts := [], laidByText := true, laidKinds := [.data, .data, .data, .sentinel, .sentinel], laidTests := true, laidLooks := .later }
def TreeClassifiesUptoCardSaid : Prop := Claim7.holds Tryd.pinned (.plain (OpenSpec.upto treeClassifiesSpec)) treeClassifiesUptoCard

/-- THE SECOND FORM's CARD OF 'censuslaw42.TreeTexts'. -/
def treeTextsUptoCard : Claim7 := { stood := { row := treeTextsUptoRow, standIns := [], harness := (true, "20c7e2b12fdcee506380b8583a72539525a1835843a69701917e5931be67749a"), looks := true }, kinds := [], alts := [], laidByText := true, laidKinds := [.data, .data, .data, .sentinel, .sentinel], laidTests := true, laidLooks := .later }
def TreeTextsUptoCardSaid : Prop := Claim7.holds Tryd.pinned (.plain (OpenSpec.upto treeTextsSpec)) treeTextsUptoCard

/-- THE SECOND FORM's CARD OF 'censuslaw42.TreeParses'. -/
def treeParsesUptoCard : Claim7 := { stood := { row := treeParsesUptoRow, standIns := [], harness := (true, "20c7e2b12fdcee506380b8583a72539525a1835843a69701917e5931be67749a"), looks := true }, kinds := [], alts := [], laidByText := true, laidKinds := [.data, .data, .data, .sentinel, .sentinel], laidTests := true, laidLooks := .later }
def TreeParsesUptoCardSaid : Prop := Claim7.holds Tryd.pinned (.plain (OpenSpec.upto treeParsesSpec)) treeParsesUptoCard

/-- THE SECOND FORM's CARD OF 'censuslaw42.TreeLong'. -/
def treeLongUptoCard : Claim7 := { stood := { row := treeLongUptoRow, standIns := [], harness := (true, "20c7e2b12fdcee506380b8583a72539525a1835843a69701917e5931be67749a"), looks := true }, kinds := [], alts := [], laidByText := true, laidKinds := [.data, .data, .data, .sentinel, .sentinel], laidTests := true, laidLooks := .later }
def TreeLongUptoCardSaid : Prop := Claim7.holds Tryd.pinned (.plain (OpenSpec.upto treeLongSpec)) treeLongUptoCard

/-- THE SECOND FORM's CARD OF 'censuslaw42.TreeBack'. -/
def treeBackUptoCard : Claim7 := { stood := { row := treeBackUptoRow, standIns := [], harness := (true, "20c7e2b12fdcee506380b8583a72539525a1835843a69701917e5931be67749a"), looks := true }, kinds := [], alts := [], laidByText := true, laidKinds := [.data, .data, .data, .sentinel, .sentinel], laidTests := true, laidLooks := .later }
def TreeBackUptoCardSaid : Prop := Claim7.holds Tryd.pinned (.plain (OpenSpec.upto treeBackSpec)) treeBackUptoCard

/-- THE SECOND FORM's CARD OF 'censuslaw42.TreeTurns'. -/
def treeTurnsUptoCard : Claim7 := { stood := { row := treeTurnsUptoRow, standIns := [], harness := (true, "20c7e2b12fdcee506380b8583a72539525a1835843a69701917e5931be67749a"), looks := true }, kinds := [], alts := [], laidByText := true, laidKinds := [.data, .data, .data, .sentinel, .sentinel], laidTests := true, laidLooks := .later }
def TreeTurnsUptoCardSaid : Prop := Claim7.holds Tryd.pinned (.plain (OpenSpec.upto treeTurnsSpec)) treeTurnsUptoCard

/-- THE SECOND FORM's CARD OF 'censuslaw42.TreeForests'. -/
def treeForestsUptoCard : Claim7 := { stood := { row := treeForestsUptoRow, standIns := [], harness := (true, "20c7e2b12fdcee506380b8583a72539525a1835843a69701917e5931be67749a"), looks := true }, kinds := [], alts := [], laidByText := true, laidKinds := [.data, .data, .data, .sentinel, .sentinel], laidTests := true, laidLooks := .later }
def TreeForestsUptoCardSaid : Prop := Claim7.holds Tryd.pinned (.plain (OpenSpec.upto treeForestsSpec)) treeForestsUptoCard
end Rows
end Go.Proofs.YtfegpmoephdkpaaDoor
