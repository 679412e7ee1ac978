/-
  DERIVED. GIVEN WITH THE SEED: THE CARDS: each row of YtpolplmniaoikaaGreatDoorRows.lean that lists a variable, with what it lists TIED to the program's text (the seventh form; the later family's looks); each row that meets fmt, with fmt's text TOLD by the authors' own Lean function (tested against real Go, not proved from fmt's source: count such statements apart). THE CARD IS WHAT COUNTS. Prove the row's statement (the work); the ties are given (YtpolplmniaoikaaGreatDoorTie.lean); close each card by the builder's one call (the guide's Derived/Test/ToyasCard.lean, 'card_holds'). Laid BY PROGRAM, IN A SANDBOX (cutbox-door.mjs). By AI agents, Wed Nov 11 2026. No macro, syntax, notation, axiom, sorry.
-/
import Derived.Test.YtpolplmniaoikaaGreatDoorRows
import GoSem.ClaimSeven
namespace Go.Proofs.YtpolplmniaoikaaGreatDoor
namespace Rows

/-- THE TIED CARD OF 'selkielaw15.TxBytes'. -/
def txBytesCard : Claim7 := { stood := { row := txBytesRow, standIns := [], harness := (true, "bad72555741ef376266718c880df3162612227355c73073655bfec6f2c717f93"), looks := true }, kinds := [], alts := [], laidByText := true, laidKinds := [.data, .handle, .pinned], laidTests := true, laidLooks := .later }
def TxBytesCardSaid : Prop := Claim7.holds Tryz.pinned (.plain (OpenSpec.ofChange txBytesSpec)) txBytesCard

/-- THE TIED CARD OF 'selkielaw15.TxTells'. -/
def txTellsCard : Claim7 := { stood := { row := txTellsRow, standIns := [], harness := (true, "bad72555741ef376266718c880df3162612227355c73073655bfec6f2c717f93"), looks := true }, kinds := [], alts := [], laidByText := true, laidKinds := [.data, .pinned], laidTests := true, laidLooks := .later }
def TxTellsCardSaid : Prop := Claim7.holds Tryz.pinned (.plain (OpenSpec.ofChange txTellsSpec)) txTellsCard

/-- THE TIED CARD OF 'selkielaw15.TxParts'. -/
def txPartsCard : Claim7 := { stood := { row := txPartsRow, standIns := [], harness := (true, "bad72555741ef376266718c880df3162612227355c73073655bfec6f2c717f93"), looks := true }, kinds := [], alts := [], laidByText := true, laidKinds := [.data, .pinned], laidTests := true, laidLooks := .later }
def TxPartsCardSaid : Prop := Claim7.holds Tryz.pinned (.plain (OpenSpec.ofChange txPartsSpec)) txPartsCard

/-- THE TIED CARD OF 'selkielaw15.TxBack'. -/
def txBackCard : Claim7 := { stood := { row := txBackRow, standIns := [], harness := (true, "bad72555741ef376266718c880df3162612227355c73073655bfec6f2c717f93"), looks := true }, kinds := [], alts := [], laidByText := true, laidKinds := [.data, .pinned], laidTests := true, laidLooks := .later }
def TxBackCardSaid : Prop := Claim7.holds Tryz.pinned (.plain (OpenSpec.ofChange txBackSpec)) txBackCard

/-- THE SECOND FORM's CARD OF 'selkielaw15.TxBytes'. -/
def txBytesUptoCard : Claim7 := { stood := { row := txBytesUptoRow, standIns := [], harness := (true, "bad72555741ef376266718c880df3162612227355c73073655bfec6f2c717f93"), looks := true }, kinds := [], alts := [], laidByText := true, laidKinds := [.data, .handle, .pinned], laidTests := true, laidLooks := .later }
def TxBytesUptoCardSaid : Prop := Claim7.holds Tryz.pinned (.plain (OpenSpec.upto txBytesSpec)) txBytesUptoCard

/-- THE SECOND FORM's CARD OF 'selkielaw15.TxTells'. -/
def txTellsUptoCard : Claim7 := { stood := { row := txTellsUptoRow, standIns := [], harness := (true, "bad72555741ef376266718c880df3162612227355c73073655bfec6f2c717f93"), looks := true }, kinds := [], alts := [], laidByText := true, laidKinds := [.data, .pinned], laidTests := true, laidLooks := .later }
def TxTellsUptoCardSaid : Prop := Claim7.holds Tryz.pinned (.plain (OpenSpec.upto txTellsSpec)) txTellsUptoCard

/-- THE SECOND FORM's CARD OF 'selkielaw15.TxParts'. -/
def txPartsUptoCard : Claim7 := { stood := { row := txPartsUptoRow, standIns := [], harness := (true, "bad72555741ef376266718c880df3162612227355c73073655bfec6f2c717f93"), looks := true }, kinds := [], alts := [], laidByText := true, laidKinds := [.data, .pinned], laidTests := true, laidLooks := .later }
def TxPartsUptoCardSaid : Prop := Claim7.holds Tryz.pinned (.plain (OpenSpec.upto txPartsSpec)) txPartsUptoCard

/-- THE SECOND FORM's CARD OF 'selkielaw15.TxBack'. -/
def txBackUptoCard : Claim7 := { stood := { row := txBackUptoRow, standIns := [], harness := (true, "bad72555741ef376266718c880df3162612227355c73073655bfec6f2c717f93"), looks := true }, kinds := [], alts := [], laidByText := true, laidKinds := [.data, .pinned], laidTests := true, laidLooks := .later }
def TxBackUptoCardSaid : Prop := Claim7.holds Tryz.pinned (.plain (OpenSpec.upto txBackSpec)) txBackUptoCard
end Rows
end Go.Proofs.YtpolplmniaoikaaGreatDoor
