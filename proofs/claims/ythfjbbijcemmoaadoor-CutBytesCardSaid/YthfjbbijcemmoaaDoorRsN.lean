/- The program's reader: New, At, Left. -/
import Derived.Test.YthfjbbijcemmoaaDoorRx
import Derived.BigRegion
namespace Go.Proofs.YthfjbbijcemmoaaDoor
open Go.RowKit

set_option maxRecDepth 100000 in
theorem pnew_any (s : ByteArray) (w : World) :
    Calls Tryd.prog 12 #[.string s] w fun e w' => e = .returned (.pointer (some ⟨w.heap.size, 0, none⟩)) ∧ w' = w.alloc (.cells #[.string s, .int .i64 0, .nilIface] 72) := by
  go_enter Tryd.func12, Tryd.ntmps12
  go_wp2
  go_ret
  exact ⟨rfl, rfl⟩
theorem ret_i64 {a b : Int} (h : a = b) : Ending.returned (.int .i64 a) = .returned (.int .i64 b) := by rw [h]
end Go.Proofs.YthfjbbijcemmoaaDoor
