/-
  DERIVED. GIVEN WITH THE SEED: THE CARDS: each row of YtfhandglpjnonaaGreatDoorRows.lean that lists a variable, with what it lists TIED to the program's text (the seventh form; the later family's looks); each row that meets fmt, with fmt's text TOLD by the authors' own Lean function (tested against real Go, not proved from fmt's source: count such statements apart). THE CARD IS WHAT COUNTS. Prove the row's statement (the work); the ties are given (YtfhandglpjnonaaGreatDoorTie.lean); close each card by the builder's one call (the guide's Derived/Test/ToyasCard.lean, 'card_holds'). Laid BY PROGRAM, IN A SANDBOX (cutbox-door.mjs). By AI agents, Wed Nov 11 2026. No macro, syntax, notation, axiom, sorry.
-/
import Derived.Test.YtfhandglpjnonaaGreatDoorRows
import GoSem.ClaimSeven
namespace Go.Proofs.YtfhandglpjnonaaGreatDoor
namespace Rows

/-- THE TIED CARD OF 'selkielaw25.InstTells'. -/
def instTellsCard : Claim7 := { stood := { row := instTellsRow, standIns := [], harness := (true, "839531f7d1f1c30b3c8f13bb6c67c5cddec2eaac5aca01bff16c462d2ae47397"), looks := true }, kinds := [], alts := [], laidByText := true, laidKinds := [.data, .pinned], laidTests := true, laidLooks := .later }
def InstTellsCardSaid : Prop := Claim7.holds Tryz.pinned (.plain (OpenSpec.ofChange instTellsSpec)) instTellsCard

/-- THE TIED CARD OF 'selkielaw25.InstBytes'. -/
def instBytesCard : Claim7 := { stood := { row := instBytesRow, standIns := [], harness := (true, "839531f7d1f1c30b3c8f13bb6c67c5cddec2eaac5aca01bff16c462d2ae47397"), looks := true }, kinds := [], alts := [], laidByText := true, laidKinds := [.data, .handle, .pinned], laidTests := true, laidLooks := .later }
def InstBytesCardSaid : Prop := Claim7.holds Tryz.pinned (.plain (OpenSpec.ofChange instBytesSpec)) instBytesCard

/-- THE TIED CARD OF 'selkielaw25.InstBack'. -/
def instBackCard : Claim7 := { stood := { row := instBackRow, standIns := [], harness := (true, "839531f7d1f1c30b3c8f13bb6c67c5cddec2eaac5aca01bff16c462d2ae47397"), looks := true }, kinds := [], alts := [], laidByText := true, laidKinds := [.data, .handle, .pinned], laidTests := true, laidLooks := .later }
def InstBackCardSaid : Prop := Claim7.holds Tryz.pinned (.plain (OpenSpec.ofChange instBackSpec)) instBackCard

/-- THE SECOND FORM's CARD OF 'selkielaw25.InstTells'. -/
def instTellsUptoCard : Claim7 := { stood := { row := instTellsUptoRow, standIns := [], harness := (true, "839531f7d1f1c30b3c8f13bb6c67c5cddec2eaac5aca01bff16c462d2ae47397"), looks := true }, kinds := [], alts := [], laidByText := true, laidKinds := [.data, .pinned], laidTests := true, laidLooks := .later }
def InstTellsUptoCardSaid : Prop := Claim7.holds Tryz.pinned (.plain (OpenSpec.upto instTellsSpec)) instTellsUptoCard

/-- THE SECOND FORM's CARD OF 'selkielaw25.InstBytes'. -/
def instBytesUptoCard : Claim7 := { stood := { row := instBytesUptoRow, standIns := [], harness := (true, "839531f7d1f1c30b3c8f13bb6c67c5cddec2eaac5aca01bff16c462d2ae47397"), looks := true }, kinds := [], alts := [], laidByText := true, laidKinds := [.data, .handle, .pinned], laidTests := true, laidLooks := .later }
def InstBytesUptoCardSaid : Prop := Claim7.holds Tryz.pinned (.plain (OpenSpec.upto instBytesSpec)) instBytesUptoCard

/-- THE SECOND FORM's CARD OF 'selkielaw25.InstBack'. -/
def instBackUptoCard : Claim7 := { stood := { row := instBackUptoRow, standIns := [], harness := (true, "839531f7d1f1c30b3c8f13bb6c67c5cddec2eaac5aca01bff16c462d2ae47397"), looks := true }, kinds := [], alts := [], laidByText := true, laidKinds := [.data, .handle, .pinned], laidTests := true, laidLooks := .later }
def InstBackUptoCardSaid : Prop := Claim7.holds Tryz.pinned (.plain (OpenSpec.upto instBackSpec)) instBackUptoCard
end Rows
end Go.Proofs.YtfhandglpjnonaaGreatDoor
