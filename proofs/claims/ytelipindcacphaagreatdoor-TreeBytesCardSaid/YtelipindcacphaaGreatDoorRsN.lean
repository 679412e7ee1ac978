/- The program's reader: New, At, Left. -/
import Derived.Test.YtelipindcacphaaGreatDoorRx
import Derived.BigRegion
namespace Go.Proofs.YtelipindcacphaaGreatDoor
open Go.RowKit

set_option maxRecDepth 100000 in
theorem pnew_any (s : ByteArray) (w : World) :
    Calls Tryz.prog 8 #[.string s] w fun e w' => e = .returned (.pointer (some ⟨w.heap.size, 0, none⟩)) ∧ w' = w.alloc (.cells #[.string s, .int .i64 0, .nilIface] 49) := by
  go_enter Tryz.func8, Tryz.ntmps8
  go_wp2
  go_ret
  exact ⟨rfl, rfl⟩
theorem ret_i64 {a b : Int} (h : a = b) : Ending.returned (.int .i64 a) = .returned (.int .i64 b) := by rw [h]
set_option maxRecDepth 100000 in
theorem pleft_any (B : Nat) (S : Rs) (w : World) (h : RdrP w B S) (hS : S.wf) :
    Calls Tryz.prog 36 #[.pointer (some ⟨B, 0, none⟩)] w fun e w' => e = .returned (.int .i64 ((S.l.length - S.a : Nat) : Int)) ∧ Below w.heap.size w w' := by
  obtain ⟨ev, hb, he⟩ := h
  have hlt := blk_lt hb
  have q0 := blk_cell hb 0
  have q1 := blk_cell hb 1
  have q2 := blk_cell hb 2
  simp at q0 q1 q2
  have hT : Hid ((((bs S.l).size : Nat) : Int) - (S.a : Int) = ((S.l.length - S.a : Nat) : Int)) := Lib.hid (by rw [bs_size]; have := hS.1; omega)
  have hw1 : IntKind.i64.wrap ((((bs S.l).size : Nat) : Int) - (S.a : Int)) = (((bs S.l).size : Nat) : Int) - (S.a : Int) := IntWalk.i64_in _ (by rw [bs_size]; have := hS.1; have := hS.2.1; omega)
  clear hb he hS
  go_enter Tryz.func36, Tryz.ntmps36
  go_wp2_with fail
  go_region
  go_wp2
  go_ret
  exact ⟨ret_i64 hT.out, (Below.refl _ _).drew⟩
end Go.Proofs.YtelipindcacphaaGreatDoor
