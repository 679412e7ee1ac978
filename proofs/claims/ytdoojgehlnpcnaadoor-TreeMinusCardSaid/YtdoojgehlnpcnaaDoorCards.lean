/-
  DERIVED. GIVEN WITH THE SEED: THE CARDS: each row of YtdoojgehlnpcnaaDoorRows.lean that lists a variable, with what it lists TIED to the program's text (the seventh form; the later family's looks); each row that meets fmt, with fmt's text TOLD by the authors' own Lean function (tested against real Go, not proved from fmt's source: count such statements apart). THE CARD IS WHAT COUNTS. Prove the row's statement (the work); the ties are given (YtdoojgehlnpcnaaDoorTie.lean); close each card by the builder's one call (the guide's Derived/Test/ToyasCard.lean, 'card_holds'). Laid BY PROGRAM, IN A SANDBOX (cutbox-door.mjs). By AI agents, Wed Nov 11 2026. No macro, syntax, notation, axiom, sorry.
-/
import Derived.Test.YtdoojgehlnpcnaaDoorRows
import GoSem.ClaimSeven
namespace Go.Proofs.YtdoojgehlnpcnaaDoor
namespace Rows

/-- THE TIED CARD OF 'selkielaw30.TreeMakes'. -/
def treeMakesCard : Claim7 := { stood := { row := treeMakesRow, standIns := [], harness := (true, "a53fc282472881c6f281af4120ca289279fba04fb007779fab4e96e14e71f460"), looks := false }, kinds := [], alts := [], laidByText := true, laidKinds := [.data, .pinned], laidTests := true, laidLooks := .later }
def TreeMakesCardSaid : Prop := Claim7.holds Tryd.pinned (.plain (OpenSpec.ofChange treeMakesSpec)) treeMakesCard

/-- THE TIED CARD OF 'selkielaw30.TreeMinus'. -/
def treeMinusCard : Claim7 := { stood := { row := treeMinusRow, standIns := [], harness := (true, "a53fc282472881c6f281af4120ca289279fba04fb007779fab4e96e14e71f460"), looks := false }, kinds := [], alts := [], laidByText := true, laidKinds := [.data, .pinned], laidTests := true, laidLooks := .later }
def TreeMinusCardSaid : Prop := Claim7.holds Tryd.pinned (.plain (OpenSpec.ofChange treeMinusSpec)) treeMinusCard

/-- THE TIED CARD OF 'selkielaw30.TreeWithin'. -/
def treeWithinCard : Claim7 := { stood := { row := treeWithinRow, standIns := [], harness := (true, "a53fc282472881c6f281af4120ca289279fba04fb007779fab4e96e14e71f460"), looks := false }, kinds := [], alts := [], laidByText := true, laidKinds := [.data, .pinned], laidTests := true, laidLooks := .later }
def TreeWithinCardSaid : Prop := Claim7.holds Tryd.pinned (.plain (OpenSpec.ofChange treeWithinSpec)) treeWithinCard

/-- THE SECOND FORM's CARD OF 'selkielaw30.TreeMakes'. -/
def treeMakesUptoCard : Claim7 := { stood := { row := treeMakesUptoRow, standIns := [], harness := (true, "a53fc282472881c6f281af4120ca289279fba04fb007779fab4e96e14e71f460"), looks := false }, kinds := [], alts := [], laidByText := true, laidKinds := [.data, .pinned], laidTests := true, laidLooks := .later }
def TreeMakesUptoCardSaid : Prop := Claim7.holds Tryd.pinned (.plain (OpenSpec.upto treeMakesSpec)) treeMakesUptoCard

/-- THE SECOND FORM's CARD OF 'selkielaw30.TreeMinus'. -/
def treeMinusUptoCard : Claim7 := { stood := { row := treeMinusUptoRow, standIns := [], harness := (true, "a53fc282472881c6f281af4120ca289279fba04fb007779fab4e96e14e71f460"), looks := false }, kinds := [], alts := [], laidByText := true, laidKinds := [.data, .pinned], laidTests := true, laidLooks := .later }
def TreeMinusUptoCardSaid : Prop := Claim7.holds Tryd.pinned (.plain (OpenSpec.upto treeMinusSpec)) treeMinusUptoCard

/-- THE SECOND FORM's CARD OF 'selkielaw30.TreeWithin'. -/
def treeWithinUptoCard : Claim7 := { stood := { row := treeWithinUptoRow, standIns := [], harness := (true, "a53fc282472881c6f281af4120ca289279fba04fb007779fab4e96e14e71f460"), looks := false }, kinds := [], alts := [], laidByText := true, laidKinds := [.data, .pinned], laidTests := true, laidLooks := .later }
def TreeWithinUptoCardSaid : Prop := Claim7.holds Tryd.pinned (.plain (OpenSpec.upto treeWithinSpec)) treeWithinUptoCard
end Rows
end Go.Proofs.YtdoojgehlnpcnaaDoor
