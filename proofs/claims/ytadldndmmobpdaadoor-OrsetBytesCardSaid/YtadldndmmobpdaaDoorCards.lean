/-
  DERIVED. GIVEN WITH THE SEED: THE CARDS: each row of YtadldndmmobpdaaDoorRows.lean that lists a variable, with what it lists TIED to the program's text (the seventh form; the later family's looks); each row that meets fmt, with fmt's text TOLD by the authors' own Lean function (tested against real Go, not proved from fmt's source: count such statements apart). THE CARD IS WHAT COUNTS. Prove the row's statement (the work); the ties are given (YtadldndmmobpdaaDoorTie.lean); close each card by the builder's one call (the guide's Derived/Test/ToyasCard.lean, 'card_holds'). Laid BY PROGRAM, IN A SANDBOX (cutbox-door.mjs). By AI agents, Wed Nov 11 2026. No macro, syntax, notation, axiom, sorry.
-/
import Derived.Test.YtadldndmmobpdaaDoorRows
import GoSem.ClaimSeven
namespace Go.Proofs.YtadldndmmobpdaaDoor
namespace Rows

/-- THE TIED CARD OF 'selkielaw12.OrsetBytes'. -/
def orsetBytesCard : Claim7 := { stood := { row := orsetBytesRow, standIns := [], harness := (true, "2cbad238bf25dce1cb0d879ba2b10dbd7ceab1d1713e298d570d3af98e5e4f78"), looks := true }, kinds := [], alts := [], laidByText := true, laidKinds := [.handle], laidTests := true, laidLooks := .later }
def OrsetBytesCardSaid : Prop := Claim7.holds Tryd.pinned (.plain (OpenSpec.ofChange orsetBytesSpec)) orsetBytesCard

/-- THE SECOND FORM's CARD OF 'selkielaw12.OrsetBytes'. -/
def orsetBytesUptoCard : Claim7 := { stood := { row := orsetBytesUptoRow, standIns := [], harness := (true, "2cbad238bf25dce1cb0d879ba2b10dbd7ceab1d1713e298d570d3af98e5e4f78"), looks := true }, kinds := [], alts := [], laidByText := true, laidKinds := [.handle], laidTests := true, laidLooks := .later }
def OrsetBytesUptoCardSaid : Prop := Claim7.holds Tryd.pinned (.plain (OpenSpec.upto orsetBytesSpec)) orsetBytesUptoCard
end Rows
end Go.Proofs.YtadldndmmobpdaaDoor
