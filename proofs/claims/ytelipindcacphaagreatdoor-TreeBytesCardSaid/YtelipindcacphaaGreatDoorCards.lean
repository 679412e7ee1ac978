/-
  DERIVED. GIVEN WITH THE SEED: THE CARDS: each row of YtelipindcacphaaGreatDoorRows.lean that lists a variable, with what it lists TIED to the program's text (the seventh form; the later family's looks); each row that meets fmt, with fmt's text TOLD by the authors' own Lean function (tested against real Go, not proved from fmt's source: count such statements apart). THE CARD IS WHAT COUNTS. Prove the row's statement (the work); the ties are given (YtelipindcacphaaGreatDoorTie.lean); close each card by the builder's one call (the guide's Derived/Test/ToyasCard.lean, 'card_holds'). Laid BY PROGRAM, IN A SANDBOX (cutbox-door.mjs). By AI agents, Wed Nov 11 2026. No macro, syntax, notation, axiom, sorry.
-/
import Derived.Test.YtelipindcacphaaGreatDoorRows
import GoSem.ClaimSeven
namespace Go.Proofs.YtelipindcacphaaGreatDoor
namespace Rows

/-- THE TIED CARD OF 'selkielaw30.TreeBytes'. -/
def treeBytesCard : Claim7 := { stood := { row := treeBytesRow, standIns := [], harness := (true, "607b4ff13b4711a2639c5008ec13dc45f6cca2d9eb978f495778a3b9936bd08e"), looks := true }, kinds := [], alts := [], laidByText := true, laidKinds := [.data, .handle, .pinned], laidTests := true, laidLooks := .later }
def TreeBytesCardSaid : Prop := Claim7.holds Tryz.pinned (.plain (OpenSpec.ofChange treeBytesSpec)) treeBytesCard

/-- THE SECOND FORM's CARD OF 'selkielaw30.TreeBytes'. -/
def treeBytesUptoCard : Claim7 := { stood := { row := treeBytesUptoRow, standIns := [], harness := (true, "607b4ff13b4711a2639c5008ec13dc45f6cca2d9eb978f495778a3b9936bd08e"), looks := true }, kinds := [], alts := [], laidByText := true, laidKinds := [.data, .handle, .pinned], laidTests := true, laidLooks := .later }
def TreeBytesUptoCardSaid : Prop := Claim7.holds Tryz.pinned (.plain (OpenSpec.upto treeBytesSpec)) treeBytesUptoCard
end Rows
end Go.Proofs.YtelipindcacphaaGreatDoor
