/- The document's Make: the set of any names, one by one put in its place. -/
import Derived.Test.YtpfohpfgfdeecaaDg
import Derived.Test.YtpfohpfgfdeecaaGc
import Derived.Deep.QuietTactic
namespace Go.Proofs.Ytpfohpfgfdeecaa
open Go.RowKit

theorem Ow.keptI {w w' : World} {base : Nat} {e : TypeId} {sz b : Nat} {v : Value} {xs : List (List Value)} (h : Ow w base e sz v xs) (hg : w.grownBy w' (some b)) (hb : w.heap.size ≤ b ∨ v.ownBlock ≠ some b) : Ow w' base e sz v xs :=
  ⟨h.1, h.2.kept hg (.inr (fun e' => by
    rcases hb with h' | h'
    · have := h.block b e'; omega
    · exact h' e'))⟩

end Go.Proofs.Ytpfohpfgfdeecaa
