/-
  DERIVED. GIVEN WITH THE SEED: THE CARDS: each row of YthfjbbijcemmoaaDoorRows.lean that lists a variable, with what it lists TIED to the program's text (the seventh form; the later family's looks); each row that meets fmt, with fmt's text TOLD by the authors' own Lean function (tested against real Go, not proved from fmt's source: count such statements apart). THE CARD IS WHAT COUNTS. Prove the row's statement (the work); the ties are given (YthfjbbijcemmoaaDoorTie.lean); close each card by the builder's one call (the guide's Derived/Test/ToyasCard.lean, 'card_holds'). Laid BY PROGRAM, IN A SANDBOX (cutbox-door.mjs). By AI agents, Wed Nov 11 2026. No macro, syntax, notation, axiom, sorry.
-/
import Derived.Test.YthfjbbijcemmoaaDoorRows
import GoSem.ClaimSeven
namespace Go.Proofs.YthfjbbijcemmoaaDoor
namespace Rows

/-- THE TIED CARD OF 'selkielaw07.DotsFolds'. -/
def dotsFoldsCard : Claim7 := { stood := { row := dotsFoldsRow, standIns := [], harness := (true, "6907e2e79f0d028b0fca83534a8d52597b1af268fa68e2ce9d09ab7d5a316a34"), looks := true }, kinds := [], alts := [], laidByText := true, laidKinds := [.handle], laidTests := true, laidLooks := .later }
def DotsFoldsCardSaid : Prop := Claim7.holds Tryd.pinned (.plain (OpenSpec.ofChange dotsFoldsSpec)) dotsFoldsCard

/-- THE TIED CARD OF 'selkielaw08.CutBytes'. -/
def cutBytesCard : Claim7 := { stood := { row := cutBytesRow, standIns := [], harness := (true, "6907e2e79f0d028b0fca83534a8d52597b1af268fa68e2ce9d09ab7d5a316a34"), looks := true }, kinds := [], alts := [], laidByText := true, laidKinds := [.handle], laidTests := true, laidLooks := .later }
def CutBytesCardSaid : Prop := Claim7.holds Tryd.pinned (.plain (OpenSpec.ofChange cutBytesSpec)) cutBytesCard

/-- THE SECOND FORM's CARD OF 'selkielaw07.DotsFolds'. -/
def dotsFoldsUptoCard : Claim7 := { stood := { row := dotsFoldsUptoRow, standIns := [], harness := (true, "6907e2e79f0d028b0fca83534a8d52597b1af268fa68e2ce9d09ab7d5a316a34"), looks := true }, kinds := [], alts := [], laidByText := true, laidKinds := [.handle], laidTests := true, laidLooks := .later }
def DotsFoldsUptoCardSaid : Prop := Claim7.holds Tryd.pinned (.plain (OpenSpec.upto dotsFoldsSpec)) dotsFoldsUptoCard

/-- THE SECOND FORM's CARD OF 'selkielaw08.CutBytes'. -/
def cutBytesUptoCard : Claim7 := { stood := { row := cutBytesUptoRow, standIns := [], harness := (true, "6907e2e79f0d028b0fca83534a8d52597b1af268fa68e2ce9d09ab7d5a316a34"), looks := true }, kinds := [], alts := [], laidByText := true, laidKinds := [.handle], laidTests := true, laidLooks := .later }
def CutBytesUptoCardSaid : Prop := Claim7.holds Tryd.pinned (.plain (OpenSpec.upto cutBytesSpec)) cutBytesUptoCard
end Rows
end Go.Proofs.YthfjbbijcemmoaaDoor
