/- Interests of the program: Minus. -/
import Derived.Test.YtelipindcacphaaGreatDoorHg
namespace Go.Proofs.YtelipindcacphaaGreatDoor
open Go.RowKit

theorem rdS_new (w : World) (p : List UInt8) : RdS (w.alloc (.cells #[.string (bs p)] 9)) (w.alloc (.cells #[.string (bs p)] 9)).heap.size (some ⟨w.heap.size, 0, none⟩) 1 [p] :=
  Rd.built (xs := [p].map encS) encS_len rfl rfl
end Go.Proofs.YtelipindcacphaaGreatDoor
