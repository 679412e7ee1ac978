/-
  DERIVED. GIVEN WITH THE SEED: THE CARDS: each row of YtadldndmmobpdaaGreatDoorRows.lean that lists a variable, with what it lists TIED to the program's text (the seventh form; the later family's looks); each row that meets fmt, with fmt's text TOLD by the authors' own Lean function (tested against real Go, not proved from fmt's source: count such statements apart). THE CARD IS WHAT COUNTS. Prove the row's statement (the work); the ties are given (YtadldndmmobpdaaGreatDoorTie.lean); close each card by the builder's one call (the guide's Derived/Test/ToyasCard.lean, 'card_holds'). Laid BY PROGRAM, IN A SANDBOX (cutbox-door.mjs). By AI agents, Wed Nov 11 2026. No macro, syntax, notation, axiom, sorry.
-/
import Derived.Test.YtadldndmmobpdaaGreatDoorRows
import GoSem.ClaimSeven
namespace Go.Proofs.YtadldndmmobpdaaGreatDoor
namespace Rows

/-- THE TIED CARD OF 'selkielaw13.OrmapBytes'. -/
def ormapBytesCard : Claim7 := { stood := { row := ormapBytesRow, standIns := [], harness := (true, "816b5b226d758453acd07991e5a5b96c42a37623207b2b375a39d1e363253213"), looks := true }, kinds := [], alts := [], laidByText := true, laidKinds := [.handle], laidTests := true, laidLooks := .later }
def OrmapBytesCardSaid : Prop := Claim7.holds Tryz.pinned (.plain (OpenSpec.ofChange ormapBytesSpec)) ormapBytesCard

/-- THE SECOND FORM's CARD OF 'selkielaw13.OrmapBytes'. -/
def ormapBytesUptoCard : Claim7 := { stood := { row := ormapBytesUptoRow, standIns := [], harness := (true, "816b5b226d758453acd07991e5a5b96c42a37623207b2b375a39d1e363253213"), looks := true }, kinds := [], alts := [], laidByText := true, laidKinds := [.handle], laidTests := true, laidLooks := .later }
def OrmapBytesUptoCardSaid : Prop := Claim7.holds Tryz.pinned (.plain (OpenSpec.upto ormapBytesSpec)) ormapBytesUptoCard
end Rows
end Go.Proofs.YtadldndmmobpdaaGreatDoor
