/- Tags' and texts' bytes: WriteTag and Text, both. -/
import Derived.Test.YtelipindcacphaaGreatDoorOsD
import Derived.Test.YtelipindcacphaaGreatDoorTl
namespace Go.Proofs.YtelipindcacphaaGreatDoor
open Go.RowKit

set_option maxRecDepth 100000 in
set_option maxHeartbeats 1000000 in
theorem pwtext_any (s : List UInt8) (hs : s.length ≤ 1099511627776) (w : World) :
    Calls Tryz.prog 17 #[.string (bs s)] w fun e w' => e = .returned (.string (bs (textB s))) ∧ Below w.heap.size w w' := by
  have hT : Hid (bs (numB s.length) ++ bs s = bs (textB s)) := Lib.hid (by rw [bs_append]; rfl)
  have hsz : ¬ 9223372036854775807 < (bs (numB s.length)).size + (bs s).size := by
    have h5 := numB_len s.length (by omega)
    rw [bs_size, bs_size]; omega
  have ck := Lib.hid (fun w => num_any s.length (by omega) w)
  have wk : IntKind.u64.wrap (((bs s).size : Nat) : Int) = (s.length : Int) := by rw [bs_size]; exact IntWalk.u64_in _ (by omega)
  go_enter Tryz.func17, Tryz.ntmps17
  go_wp2_with fail
  refine (ck.out _).mono ?_
  rintro e w1 ⟨rfl, hb⟩
  go_wp2
  go_ret
  exact ⟨ret_str hT.out, hb⟩
set_option maxRecDepth 100000 in
set_option maxHeartbeats 1000000 in
theorem rwtext_any (s : List UInt8) (hs : s.length ≤ 1099511627776) (w : World) :
    Calls Tryz.prog 20 #[.string (bs s)] w fun e w' => e = .returned (.string (bs (textB s))) ∧ Below w.heap.size w w' := by
  have hT : Hid (bs (numB s.length) ++ bs s = bs (textB s)) := Lib.hid (by rw [bs_append]; rfl)
  have hsz : ¬ 9223372036854775807 < (bs (numB s.length)).size + (bs s).size := by
    have h5 := numB_len s.length (by omega)
    rw [bs_size, bs_size]; omega
  have ck := Lib.hid (fun w => rnum_any s.length (by omega) w)
  have wk : IntKind.u64.wrap (((bs s).size : Nat) : Int) = (s.length : Int) := by rw [bs_size]; exact IntWalk.u64_in _ (by omega)
  go_enter Tryz.func20, Tryz.ntmps20
  go_wp2_with fail
  refine (ck.out _).mono ?_
  rintro e w1 ⟨rfl, hb⟩
  go_wp2
  go_ret
  exact ⟨ret_str hT.out, hb⟩
end Go.Proofs.YtelipindcacphaaGreatDoor
