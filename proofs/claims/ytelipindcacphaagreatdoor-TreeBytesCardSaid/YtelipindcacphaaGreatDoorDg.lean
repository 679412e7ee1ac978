/- The document's own: is a name in a list; what is wrong with two sets. The document's Minus: what of one set is not in another. -/
import Derived.Test.YtelipindcacphaaGreatDoorDb
namespace Go.Proofs.YtelipindcacphaaGreatDoor
open Go.RowKit

end Go.Proofs.YtelipindcacphaaGreatDoor
namespace Go.Proofs.YtelipindcacphaaGreatDoor
open Go.RowKit

/-- A list as a call leaves it. -/
def GotI (w : World) (A : Option Addr) (n : Nat) (xs : List Im) : Prop := RdI w w.heap.size A n xs ∧ n ≤ maxLen
theorem GotI.below {w w' : World} {A : Option Addr} {n : Nat} {xs : List Im} (h : GotI w A n xs) (hb : Below w.heap.size w w') : GotI w' A n xs := ⟨(h.1.below hb).more hb.size, h.2⟩
theorem gotI_nil (w : World) : GotI w none 0 [] := ⟨Rd.nil_, Nat.zero_le _⟩
end Go.Proofs.YtelipindcacphaaGreatDoor
