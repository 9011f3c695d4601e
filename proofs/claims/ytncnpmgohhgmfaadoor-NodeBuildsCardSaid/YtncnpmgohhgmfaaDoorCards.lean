/-
  DERIVED. GIVEN WITH THE SEED: THE CARDS: each row of YtncnpmgohhgmfaaDoorRows.lean that lists a variable, with what it lists TIED to the program's text (the seventh form; the later family's looks); each row that meets fmt, with fmt's text TOLD by the authors' own Lean function (tested against real Go, not proved from fmt's source: count such statements apart). THE CARD IS WHAT COUNTS. Prove the row's statement (the work); the ties are given (YtncnpmgohhgmfaaDoorTie.lean); close each card by the builder's one call (the guide's Derived/Test/ToyasCard.lean, 'card_holds'). Laid BY PROGRAM, IN A SANDBOX (cutbox-door.mjs). By AI agents, Wed Nov 11 2026. No macro, syntax, notation, axiom, sorry.
-/
import Derived.Test.YtncnpmgohhgmfaaDoorRows
import GoSem.ClaimSeven
namespace Go.Proofs.YtncnpmgohhgmfaaDoor
namespace Rows

/-- THE TIED CARD OF 'censuslaw20.NodeTruths'. -/
def nodeTruthsCard : Claim7 := { stood := { row := nodeTruthsRow, standIns := [], harness := (true, "71f08e4b1ace378108ccea50f1ca691c82837c56c57a007cfe1a34c2742ddb79"), looks := false }, kinds := [], alts := [], laidByText := true, laidKinds := [.data, .data, .data], laidTests := true, laidLooks := .later }
def NodeTruthsCardSaid : Prop := Claim7.holds Tryd.pinned (.plain (OpenSpec.ofChange nodeTruthsSpec)) nodeTruthsCard

/-- THE TIED CARD OF 'censuslaw20.NodeReduces'. -/
def nodeReducesCard : Claim7 := { stood := { row := nodeReducesRow, standIns := [], harness := (true, "71f08e4b1ace378108ccea50f1ca691c82837c56c57a007cfe1a34c2742ddb79"), looks := false }, kinds := [], alts := [], laidByText := true, laidKinds := [.data, .data, .data], laidTests := true, laidLooks := .later }
def NodeReducesCardSaid : Prop := Claim7.holds Tryd.pinned (.plain (OpenSpec.ofChange nodeReducesSpec)) nodeReducesCard

/-- THE TIED CARD OF 'censuslaw20.NodeBuilds'. -/
def nodeBuildsCard : Claim7 := { stood := { row := nodeBuildsRow, standIns := [], harness := (true, "71f08e4b1ace378108ccea50f1ca691c82837c56c57a007cfe1a34c2742ddb79"), looks := false }, kinds := [], alts := [], laidByText := true, laidKinds := [.data, .data, .data], laidTests := true, laidLooks := .later }
def NodeBuildsCardSaid : Prop := Claim7.holds Tryd.pinned (.plain (OpenSpec.ofChange nodeBuildsSpec)) nodeBuildsCard

/-- THE TIED CARD OF 'censuslaw20.NodeKeeps'. -/
def nodeKeepsCard : Claim7 := { stood := { row := nodeKeepsRow, standIns := [], harness := (true, "71f08e4b1ace378108ccea50f1ca691c82837c56c57a007cfe1a34c2742ddb79"), looks := false }, kinds := [], alts := [], laidByText := true, laidKinds := [.data, .data, .data], laidTests := true, laidLooks := .later }
def NodeKeepsCardSaid : Prop := Claim7.holds Tryd.pinned (.plain (OpenSpec.ofChange nodeKeepsSpec)) nodeKeepsCard

/-- THE TIED CARD OF 'censuslaw20.NodeSimple'. -/
def nodeSimpleCard : Claim7 := { stood := { row := nodeSimpleRow, standIns := [], harness := (true, "71f08e4b1ace378108ccea50f1ca691c82837c56c57a007cfe1a34c2742ddb79"), looks := false }, kinds := [], alts := [], laidByText := true, laidKinds := [.data, .data, .data], laidTests := true, laidLooks := .later }
def NodeSimpleCardSaid : Prop := Claim7.holds Tryd.pinned (.plain (OpenSpec.ofChange nodeSimpleSpec)) nodeSimpleCard

/-- THE TIED CARD OF 'censuslaw20.NodeNil'. -/
def nodeNilCard : Claim7 := { stood := { row := nodeNilRow, standIns := [], harness := (true, "71f08e4b1ace378108ccea50f1ca691c82837c56c57a007cfe1a34c2742ddb79"), looks := false }, kinds := [], alts := [], laidByText := true, laidKinds := [.data, .data, .data], laidTests := true, laidLooks := .later }
def NodeNilCardSaid : Prop := Claim7.holds Tryd.pinned (.plain (OpenSpec.ofChange nodeNilSpec)) nodeNilCard

/-- THE TIED CARD OF 'censuslaw20.NodeKnown'. -/
def nodeKnownCard : Claim7 := { stood := { row := nodeKnownRow, standIns := [], harness := (true, "71f08e4b1ace378108ccea50f1ca691c82837c56c57a007cfe1a34c2742ddb79"), looks := false }, kinds := [], alts := [], laidByText := true, laidKinds := [.data, .data, .data], laidTests := true, laidLooks := .later }
def NodeKnownCardSaid : Prop := Claim7.holds Tryd.pinned (.plain (OpenSpec.ofChange nodeKnownSpec)) nodeKnownCard

/-- THE TIED CARD OF 'censuslaw20.NodeDepends'. -/
def nodeDependsCard : Claim7 := { stood := { row := nodeDependsRow, standIns := [], harness := (true, "71f08e4b1ace378108ccea50f1ca691c82837c56c57a007cfe1a34c2742ddb79"), looks := false }, kinds := [], alts := [], laidByText := true, laidKinds := [.data, .data, .data], laidTests := true, laidLooks := .later }
def NodeDependsCardSaid : Prop := Claim7.holds Tryd.pinned (.plain (OpenSpec.ofChange nodeDependsSpec)) nodeDependsCard

/-- THE TIED CARD OF 'censuslaw20.NodeChecks'. -/
def nodeChecksCard : Claim7 := { stood := { row := nodeChecksRow, standIns := [], harness := (true, "71f08e4b1ace378108ccea50f1ca691c82837c56c57a007cfe1a34c2742ddb79"), looks := false }, kinds := [], alts := [], laidByText := true, laidKinds := [.data, .data, .data], laidTests := true, laidLooks := .later }
def NodeChecksCardSaid : Prop := Claim7.holds Tryd.pinned (.plain (OpenSpec.ofChange nodeChecksSpec)) nodeChecksCard

/-- THE SECOND FORM's CARD OF 'censuslaw20.NodeTruths'. -/
def nodeTruthsUptoCard : Claim7 := { stood := { row := nodeTruthsUptoRow, standIns := [], harness := (true, "71f08e4b1ace378108ccea50f1ca691c82837c56c57a007cfe1a34c2742ddb79"), looks := false }, kinds := [], alts := [], laidByText := true, laidKinds := [.data, .data, .data], laidTests := true, laidLooks := .later }
def NodeTruthsUptoCardSaid : Prop := Claim7.holds Tryd.pinned (.plain (OpenSpec.upto nodeTruthsSpec)) nodeTruthsUptoCard

/-- THE SECOND FORM's CARD OF 'censuslaw20.NodeReduces'. -/
def nodeReducesUptoCard : Claim7 := { stood := { row := nodeReducesUptoRow, standIns := [], harness := (true, "71f08e4b1ace378108ccea50f1ca691c82837c56c57a007cfe1a34c2742ddb79"), looks := false }, kinds := [], alts := [], laidByText := true, laidKinds := [.data, .data, .data], laidTests := true, laidLooks := .later }
def NodeReducesUptoCardSaid : Prop := Claim7.holds Tryd.pinned (.plain (OpenSpec.upto nodeReducesSpec)) nodeReducesUptoCard

/-- THE SECOND FORM's CARD OF 'censuslaw20.NodeBuilds'. -/
def nodeBuildsUptoCard : Claim7 := { stood := { row := nodeBuildsUptoRow, standIns := [], harness := (true, "71f08e4b1ace378108ccea50f1ca691c82837c56c57a007cfe1a34c2742ddb79"), looks := false }, kinds := [], alts := [], laidByText := true, laidKinds := [.data, .data, .data], laidTests := true, laidLooks := .later }
def NodeBuildsUptoCardSaid : Prop := Claim7.holds Tryd.pinned (.plain (OpenSpec.upto nodeBuildsSpec)) nodeBuildsUptoCard

/-- THE SECOND FORM's CARD OF 'censuslaw20.NodeKeeps'. -/
def nodeKeepsUptoCard : Claim7 := { stood := { row := nodeKeepsUptoRow, standIns := [], harness := (true, "71f08e4b1ace378108ccea50f1ca691c82837c56c57a007cfe1a34c2742ddb79"), looks := false }, kinds := [], alts := [], laidByText := true, laidKinds := [.data, .data, .data], laidTests := true, laidLooks := .later }
def NodeKeepsUptoCardSaid : Prop := Claim7.holds Tryd.pinned (.plain (OpenSpec.upto nodeKeepsSpec)) nodeKeepsUptoCard

/-- THE SECOND FORM's CARD OF 'censuslaw20.NodeSimple'. -/
def nodeSimpleUptoCard : Claim7 := { stood := { row := nodeSimpleUptoRow, standIns := [], harness := (true, "71f08e4b1ace378108ccea50f1ca691c82837c56c57a007cfe1a34c2742ddb79"), looks := false }, kinds := [], alts := [], laidByText := true, laidKinds := [.data, .data, .data], laidTests := true, laidLooks := .later }
def NodeSimpleUptoCardSaid : Prop := Claim7.holds Tryd.pinned (.plain (OpenSpec.upto nodeSimpleSpec)) nodeSimpleUptoCard

/-- THE SECOND FORM's CARD OF 'censuslaw20.NodeNil'. -/
def nodeNilUptoCard : Claim7 := { stood := { row := nodeNilUptoRow, standIns := [], harness := (true, "71f08e4b1ace378108ccea50f1ca691c82837c56c57a007cfe1a34c2742ddb79"), looks := false }, kinds := [], alts := [], laidByText := true, laidKinds := [.data, .data, .data], laidTests := true, laidLooks := .later }
def NodeNilUptoCardSaid : Prop := Claim7.holds Tryd.pinned (.plain (OpenSpec.upto nodeNilSpec)) nodeNilUptoCard

/-- THE SECOND FORM's CARD OF 'censuslaw20.NodeKnown'. -/
def nodeKnownUptoCard : Claim7 := { stood := { row := nodeKnownUptoRow, standIns := [], harness := (true, "71f08e4b1ace378108ccea50f1ca691c82837c56c57a007cfe1a34c2742ddb79"), looks := false }, kinds := [], alts := [], laidByText := true, laidKinds := [.data, .data, .data], laidTests := true, laidLooks := .later }
def NodeKnownUptoCardSaid : Prop := Claim7.holds Tryd.pinned (.plain (OpenSpec.upto nodeKnownSpec)) nodeKnownUptoCard

/-- THE SECOND FORM's CARD OF 'censuslaw20.NodeDepends'. -/
def nodeDependsUptoCard : Claim7 := { stood := { row := nodeDependsUptoRow, standIns := [], harness := (true, "71f08e4b1ace378108ccea50f1ca691c82837c56c57a007cfe1a34c2742ddb79"), looks := false }, kinds := [], alts := [], laidByText := true, laidKinds := [.data, .data, .data], laidTests := true, laidLooks := .later }
def NodeDependsUptoCardSaid : Prop := Claim7.holds Tryd.pinned (.plain (OpenSpec.upto nodeDependsSpec)) nodeDependsUptoCard

/-- THE SECOND FORM's CARD OF 'censuslaw20.NodeChecks'. -/
def nodeChecksUptoCard : Claim7 := { stood := { row := nodeChecksUptoRow, standIns := [], harness := (true, "71f08e4b1ace378108ccea50f1ca691c82837c56c57a007cfe1a34c2742ddb79"), looks := false }, kinds := [], alts := [], laidByText := true, laidKinds := [.data, .data, .data], laidTests := true, laidLooks := .later }
def NodeChecksUptoCardSaid : Prop := Claim7.holds Tryd.pinned (.plain (OpenSpec.upto nodeChecksSpec)) nodeChecksUptoCard
end Rows
end Go.Proofs.YtncnpmgohhgmfaaDoor
