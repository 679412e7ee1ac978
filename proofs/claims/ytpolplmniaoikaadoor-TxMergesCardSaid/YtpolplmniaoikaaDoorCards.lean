/-
  DERIVED. GIVEN WITH THE SEED: THE CARDS: each row of YtpolplmniaoikaaDoorRows.lean that lists a variable, with what it lists TIED to the program's text (the seventh form; the later family's looks); each row that meets fmt, with fmt's text TOLD by the authors' own Lean function (tested against real Go, not proved from fmt's source: count such statements apart). THE CARD IS WHAT COUNTS. Prove the row's statement (the work); the ties are given (YtpolplmniaoikaaDoorTie.lean); close each card by the builder's one call (the guide's Derived/Test/ToyasCard.lean, 'card_holds'). Laid BY PROGRAM, IN A SANDBOX (cutbox-door.mjs). By AI agents, Wed Nov 11 2026. No macro, syntax, notation, axiom, sorry.
-/
import Derived.Test.YtpolplmniaoikaaDoorRows
import GoSem.ClaimSeven
namespace Go.Proofs.YtpolplmniaoikaaDoor
namespace Rows

/-- THE TIED CARD OF 'selkielaw15.TxMerges'. -/
def txMergesCard : Claim7 := { stood := { row := txMergesRow, standIns := [], harness := (true, "bbd34c693a56c7bd089d9e99a6bde2a7d9c499acf13957413a9cbc79f9851c55"), looks := false }, kinds := [], alts := [], laidByText := true, laidKinds := [.data, .pinned], laidTests := true, laidLooks := .later }
def TxMergesCardSaid : Prop := Claim7.holds Tryd.pinned (.plain (OpenSpec.ofChange txMergesSpec)) txMergesCard

/-- THE SECOND FORM's CARD OF 'selkielaw15.TxMerges'. -/
def txMergesUptoCard : Claim7 := { stood := { row := txMergesUptoRow, standIns := [], harness := (true, "bbd34c693a56c7bd089d9e99a6bde2a7d9c499acf13957413a9cbc79f9851c55"), looks := false }, kinds := [], alts := [], laidByText := true, laidKinds := [.data, .pinned], laidTests := true, laidLooks := .later }
def TxMergesUptoCardSaid : Prop := Claim7.holds Tryd.pinned (.plain (OpenSpec.upto txMergesSpec)) txMergesUptoCard
end Rows
end Go.Proofs.YtpolplmniaoikaaDoor
