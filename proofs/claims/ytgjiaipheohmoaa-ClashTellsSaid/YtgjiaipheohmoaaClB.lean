/- The reference's Ops. -/
import Derived.Test.YtgjiaipheohmoaaClA
import Derived.BigGuardPart
namespace Go.Proofs.Ytgjiaipheohmoaa
open Go.RowKit

set_option maxHeartbeats 1000000 in
theorem rops_any (a v b u : Int) (s t : ByteArray) (w : World) :
    Calls Try.prog 11 #[.agg #[.int .i64 a, .string s, .int .i64 v], .agg #[.int .i64 b, .string t, .int .i64 u]] w
      fun e w' => e = .returned (.bool (opsB a b (s.toList == t.toList))) ∧ Below w.heap.size w w' := by
  have hr := Lib.hid (opsB_ref a b (s.toList == t.toList))
  generalize hz : (s.toList == t.toList) = z at *
  go_enter Try.func11, Try.ntmps11
  go_wp2_with (go_at_call 18; refine (kind_any _ _).mono ?_; rintro e w' ⟨rfl, rfl⟩)
  all_goals
    go_ret
    refine ⟨ret_bool ?_, ((Below.refl _ _).alloc (Nat.le_refl _) _).alloc (by simp) _⟩
    rw [hr.out]
    simp_all
end Go.Proofs.Ytgjiaipheohmoaa
