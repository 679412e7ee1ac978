/- The statements' own To, From and Great of sets; the document's Same. -/
import Derived.Test.YtpolplmniaoikaaGreatDoorM9
import Derived.Test.YtpolplmniaoikaaGreatDoorM4
namespace Go.Proofs.YtpolplmniaoikaaGreatDoor
open Go.RowKit

theorem infoAddR : (Tryz.prog.info? 277).map (fun i => (i.zero, i.size, i.bytes)) = some (some (.agg #[.int .i64 0, .int .u32 0, .int .i64 0, .string ⟨#[]⟩]), 4, 40) := by kernel_rfl
theorem eAddR : ElemInfo Tryz.prog 87 277 4 40 := by
  obtain ⟨i, hi, h0, h1, h2⟩ := info_parts infoAddR
  exact ⟨Tryz.underlying87, ⟨i, _, hi, h0, h1, h2, rfl⟩, by decide⟩
def grO (n m : Nat) : Bool := decide (200 < n ∨ 200 < m)
set_option maxRecDepth 100000 in
theorem ogreat_any (A : Option Addr) (n c : Nat) (B : Option Addr) (m d : Nat) (w : World) :
    Calls Tryz.prog 83 #[.agg #[.slice A n c, .slice B m d]] w fun e w' => e = .returned (.bool (grO n m)) ∧ Below w.heap.size w w' := by
  generalize hr : grO n m = r
  unfold grO at hr
  have hrH := Lib.hid hr
  clear hr
  have hB0 : Below w.heap.size w (w.alloc (.cells #[.slice A n c, .slice B m d] 89)) := (Below.refl _ w).alloc (Nat.le_refl _) _
  by_cases h1 : (200 : Int) < (n : Int)
  · have hT : Hid (true = r) := Lib.hid (by rw [← hrH.out]; symm; exact decide_eq_true (by omega))
    go_enter Tryz.func83, Tryz.ntmps83
    go_wp2
    go_ret
    exact ⟨ret_bool hT.out, hB0⟩
  · have hd1 : decide ((200 : Int) < (n : Int)) = false := decide_eq_false h1
    by_cases h2 : (200 : Int) < (m : Int)
    · have hT : Hid (true = r) := Lib.hid (by rw [← hrH.out]; symm; exact decide_eq_true (by omega))
      go_enter Tryz.func83, Tryz.ntmps83
      go_wp2
      go_ret
      exact ⟨ret_bool hT.out, hB0⟩
    · have hd2 : decide ((200 : Int) < (m : Int)) = false := decide_eq_false h2
      have hT : Hid (false = r) := Lib.hid (by rw [← hrH.out]; symm; exact decide_eq_false (by omega))
      go_enter Tryz.func83, Tryz.ntmps83
      go_wp2
      go_ret
      exact ⟨ret_bool hT.out, hB0⟩
end Go.Proofs.YtpolplmniaoikaaGreatDoor
