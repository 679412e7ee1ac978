/- The document's own: is a name in a list; what is wrong with two sets. The document's Minus: what of one set is not in another. -/
import Derived.Test.YtpfohpfgfdeecaaDb
namespace Go.Proofs.Ytpfohpfgfdeecaa
open Go.RowKit

end Go.Proofs.Ytpfohpfgfdeecaa
namespace Go.Proofs.Ytpfohpfgfdeecaa
open Go.RowKit

/-- A list as a call leaves it. -/
def GotI (w : World) (A : Option Addr) (n : Nat) (xs : List Im) : Prop := RdI w w.heap.size A n xs ∧ n ≤ maxLen
theorem GotI.below {w w' : World} {A : Option Addr} {n : Nat} {xs : List Im} (h : GotI w A n xs) (hb : Below w.heap.size w w') : GotI w' A n xs := ⟨(h.1.below hb).more hb.size, h.2⟩
theorem gotI_nil (w : World) : GotI w none 0 [] := ⟨Rd.nil_, Nat.zero_le _⟩
theorem gotI_own {w : World} {base : Nat} {A : Option Addr} {n c : Nat} {xs : List Im} (h : Ow w base 37 2 (.slice A n c) (xs.map Im.enc)) : GotI w A n xs := ⟨h.rd.1, Nat.le_trans h.rd.2.2.1 h.rd.2.2.2⟩

end Go.Proofs.Ytpfohpfgfdeecaa
