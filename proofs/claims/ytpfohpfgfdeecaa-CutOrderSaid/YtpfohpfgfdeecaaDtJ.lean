/- Package dots' bounded. -/
import Derived.Test.YtpfohpfgfdeecaaDg
namespace Go.Proofs.Ytpfohpfgfdeecaa
open Go.RowKit

theorem bounded_any (A : Option Addr) (n c : Nat) (w : World) :
    Calls Try.prog 27 #[.slice A n c] w fun e w' => e = .returned (if 64 < n then .tuple #[.slice none 0 0, .int .i64 8] else .tuple #[.slice A n c, .int .i64 0]) ∧ w' = w := by
  by_cases h : 64 < n
  · rw [if_pos h]
    have h' : (64 : Int) < (n : Int) := by omega
    go_enter Try.func27, Try.ntmps27
    go_wp2
    refine bodyPost_ret (v := .tuple #[.slice none 0 0, .int .i64 8]) (by simp [results, Try.results27, go_sem]) rfl ⟨rfl, rfl⟩
  · rw [if_neg h]
    have h' : ¬ (64 : Int) < (n : Int) := by omega
    go_enter Try.func27, Try.ntmps27
    go_wp2
    refine bodyPost_ret (v := .tuple #[.slice A n c, .int .i64 0]) (by simp [results, Try.results27, go_sem]) rfl ⟨rfl, rfl⟩

end Go.Proofs.Ytpfohpfgfdeecaa
