/-
  DERIVED. GIVEN WITH THE SEED: THE CARDS: each row of YtelipindcacphaaDoorRows.lean that lists a variable, with what it lists TIED to the program's text (the seventh form; the later family's looks); each row that meets fmt, with fmt's text TOLD by the authors' own Lean function (tested against real Go, not proved from fmt's source: count such statements apart). THE CARD IS WHAT COUNTS. Prove the row's statement (the work); the ties are given (YtelipindcacphaaDoorTie.lean); close each card by the builder's one call (the guide's Derived/Test/ToyasCard.lean, 'card_holds'). Laid BY PROGRAM, IN A SANDBOX (cutbox-door.mjs). By AI agents, Wed Nov 11 2026. No macro, syntax, notation, axiom, sorry.
-/
import Derived.Test.YtelipindcacphaaDoorRows
import GoSem.ClaimSeven
namespace Go.Proofs.YtelipindcacphaaDoor
namespace Rows

/-- THE TIED CARD OF 'selkielaw30.TreeTwo'. -/
def treeTwoCard : Claim7 := { stood := { row := treeTwoRow, standIns := [], harness := (true, "60fd2a81619c046437cda799da58315beecb33eb7b729554978e605baab81bb8"), looks := false }, kinds := [], alts := [], laidByText := true, laidKinds := [.data, .pinned], laidTests := true, laidLooks := .later }
def TreeTwoCardSaid : Prop := Claim7.holds Tryd.pinned (.plain (OpenSpec.ofChange treeTwoSpec)) treeTwoCard

/-- THE SECOND FORM's CARD OF 'selkielaw30.TreeTwo'. -/
def treeTwoUptoCard : Claim7 := { stood := { row := treeTwoUptoRow, standIns := [], harness := (true, "60fd2a81619c046437cda799da58315beecb33eb7b729554978e605baab81bb8"), looks := false }, kinds := [], alts := [], laidByText := true, laidKinds := [.data, .pinned], laidTests := true, laidLooks := .later }
def TreeTwoUptoCardSaid : Prop := Claim7.holds Tryd.pinned (.plain (OpenSpec.upto treeTwoSpec)) treeTwoUptoCard
end Rows
end Go.Proofs.YtelipindcacphaaDoor
