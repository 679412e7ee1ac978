/- slices.Index and slices.Contains at names; package dots' Has. -/
import Derived.Test.YtpfohpfgfdeecaaDb
namespace Go.Proofs.Ytpfohpfgfdeecaa
open Go.RowKit

set_option maxRecDepth 100000 in
theorem idx_any (A : Option Addr) (n c : Nat) (xs : List Im) (x : Im) (w : World) (hA : RdI w w.heap.size A n xs) (hn : n ≤ maxLen) :
    Calls Try.prog 48 #[.slice A n c, .agg #[.int .i64 x.1, .int .u32 x.2]] w fun e w' => e = .returned (.int .i64 (firstI (fun u => u == x) xs)) ∧ Below w.heap.size w w' := by
  have hl := hA.len
  unfold maxLen at hn
  obtain ⟨x1, x2⟩ := x
  go_enter Try.func48, Try.ntmps48
  go_wp2
  go_loopg [8] (n + 1) (fun g i wr => ∃ k : Nat, k ≤ n ∧ g = n + 1 - k ∧ i = .int .i64 (k : Int) ∧ (∀ u ∈ xs.take k, (u == (x1, x2)) = false) ∧ Below (w.heap.size + 1) (w.alloc (.cells #[.int .i64 x1, .int .u32 x2] 37)) wr)
  case atStart => exact ⟨0, Nat.zero_le _, rfl, rfl, by simp, Below.refl _ _⟩
  case round =>
    obtain ⟨k, hk, rfl, rfl, hno, hbr⟩ := hrel
    have hb : Below w.heap.size w wr := ((Below.refl _ w).alloc (Nat.le_refl _) _).trans (hbr.mono (Nat.le_succ _))
    have hz := hb.size
    have hz1 := hbr.size
    simp only [World.size_alloc] at hz1
    by_cases hlt : k < n
    · obtain ⟨bA, oA, u, rfl, hbA, hp, hcp⟩ := (hA.below hb).at_ hlt
      have p0 := hcp 0 _ rfl
      have p1 := hcp 1 _ rfl
      rw [Nat.add_zero] at p0
      clear hcp
      have hbx : wr.heap[w.heap.size]? = some (.cells #[.int .i64 x1, .int .u32 x2] 37 (0, 0)) := (hbr.block _ (by omega)).trans (heap_at _ _ rfl)
      have q0 := blk_cell hbx 0
      have q1 := blk_cell hbx 1
      simp at q0 q1
      clear hbx
      have hbA2 : bA < wr.heap.size := by omega
      have hbx2 : w.heap.size < wr.heap.size := by omega
      obtain ⟨u1, u2⟩ := u
      dsimp only at p0 p1
      have hnoH := Lib.hid hno
      have hpH := Lib.hid hp
      clear hno hp
      have hq0 : KQ wr.heap.size wr wr := kq (Below.refl _ _)
      by_cases h1 : x1 = u1
      · subst h1
        by_cases h2 : x2 = u2
        · subst h2
          have hT := Lib.hid (firstI_at (p := fun u => u == (x1, x2)) hnoH.out hpH.out (by simp))
          go_wp2
          go_region_held3 (fun w' => KQ wr.heap.size wr w') (first
      | with_reducible exact kq_call (by assumption) (by simp) (by assumption)
      | with_reducible exact kq_grown (by assumption) (by simp) (by assumption) (by simp [Value.ownBlock])
      | ((with_reducible refine kq ?_); (repeat (first | (with_reducible exact Below.refl _ _) | (with_reducible refine Below.drew ?_) | (with_reducible refine Below.alloc ?_ (by simp) _) | (with_reducible refine Below.setCell ?_ (by simp) _) | (with_reducible exact (by assumption : KQ _ _ _).1))); done)) (first | (go_at_call 0; skip))
          have hG : Below w.heap.size w wr.drew := hb.drew
          go_wp2
          go_ret
          exact ⟨ret_int hT.out.symm, hG⟩
        · have hT : Hid (∀ y ∈ xs.take (k + 1), (y == (x1, x2)) = false) := Lib.hid (all_take_succ hnoH.out hpH.out (by simp [Ne.symm h2]))
          go_wp2
          go_region_held3 (fun w' => KQ wr.heap.size wr w') (first
      | with_reducible exact kq_call (by assumption) (by simp) (by assumption)
      | with_reducible exact kq_grown (by assumption) (by simp) (by assumption) (by simp [Value.ownBlock])
      | ((with_reducible refine kq ?_); (repeat (first | (with_reducible exact Below.refl _ _) | (with_reducible refine Below.drew ?_) | (with_reducible refine Below.alloc ?_ (by simp) _) | (with_reducible refine Below.setCell ?_ (by simp) _) | (with_reducible exact (by assumption : KQ _ _ _).1))); done)) (first | (go_at_call 0; skip))
          have hG : Below (w.heap.size + 1) (w.alloc (.cells #[.int .i64 x1, .int .u32 x2] 37)) wr.drew := hbr.drew
          go_wp2
          go_roundg (n + 1 - (k + 1))
          case measure => omega
          case rel => exact ⟨k + 1, by omega, rfl, by go_num, hT.out, hG⟩
      · have hT : Hid (∀ y ∈ xs.take (k + 1), (y == (x1, x2)) = false) := Lib.hid (all_take_succ hnoH.out hpH.out (by simp [Ne.symm h1]))
        go_wp2
        go_region_held3 (fun w' => KQ wr.heap.size wr w') (first
      | with_reducible exact kq_call (by assumption) (by simp) (by assumption)
      | with_reducible exact kq_grown (by assumption) (by simp) (by assumption) (by simp [Value.ownBlock])
      | ((with_reducible refine kq ?_); (repeat (first | (with_reducible exact Below.refl _ _) | (with_reducible refine Below.drew ?_) | (with_reducible refine Below.alloc ?_ (by simp) _) | (with_reducible refine Below.setCell ?_ (by simp) _) | (with_reducible exact (by assumption : KQ _ _ _).1))); done)) (first | (go_at_call 0; skip))
        have hG : Below (w.heap.size + 1) (w.alloc (.cells #[.int .i64 x1, .int .u32 x2] 37)) wr.drew := hbr.drew
        go_wp2
        go_roundg (n + 1 - (k + 1))
        case measure => omega
        case rel => exact ⟨k + 1, by omega, rfl, by go_num, hT.out, hG⟩
    · have hT := Lib.hid (firstI_none (p := fun u => u == (x1, x2)) (all_take_all (by rw [show k = n from by omega] at hno; exact hno) hA.len))
      clear hno
      go_wp2
      go_ret
      exact ⟨ret_int hT.out.symm, hb⟩
set_option maxRecDepth 100000 in
theorem cont_any (A : Option Addr) (n c : Nat) (xs : List Im) (x : Im) (w : World) (hA : RdI w w.heap.size A n xs) (hn : n ≤ maxLen) :
    Calls Try.prog 37 #[.slice A n c, .agg #[.int .i64 x.1, .int .u32 x.2]] w fun e w' => e = .returned (.bool (xs.contains x)) ∧ Below w.heap.size w w' := by
  have hb0 : Below w.heap.size w (w.alloc (.cells #[.int .i64 x.1, .int .u32 x.2] 37)) := (Below.refl _ w).alloc (Nat.le_refl _) _
  have h1 := idx_any A n c xs x _ ((hA.below hb0).more hb0.size) hn
  have hr : decide (0 ≤ firstI (fun u => u == x) xs) = xs.contains x := by rw [firstI_any, List.contains_eq_any_beq]; congr 1; funext u; exact BEq.comm
  have hrH := Lib.hid hr
  clear hr
  generalize firstI (fun u => u == x) xs = z at h1 hrH
  go_enter Try.func37, Try.ntmps37
  go_wp2_with fail
  refine h1.mono ?_
  rintro e w1 ⟨rfl, hb1⟩
  go_wp2
  go_ret
  exact ⟨ret_bool hrH.out, hb0.trans (hb1.mono (by simp))⟩
set_option maxRecDepth 100000 in
theorem has_any (A : Option Addr) (n c : Nat) (xs : List Im) (x : Im) (w : World) (hA : RdI w w.heap.size A n xs) (hn : n ≤ maxLen) :
    Calls Try.prog 25 #[.slice A n c, .agg #[.int .i64 x.1, .int .u32 x.2]] w fun e w' => e = .returned (.bool (xs.contains x)) ∧ Below w.heap.size w w' := by
  have hb0 : Below w.heap.size w (w.alloc (.cells #[.int .i64 x.1, .int .u32 x.2] 37)) := (Below.refl _ w).alloc (Nat.le_refl _) _
  have h1 := cont_any A n c xs x _ ((hA.below hb0).more hb0.size) hn
  generalize xs.contains x = z at h1 ⊢
  go_enter Try.func25, Try.ntmps25
  go_wp2_with fail
  refine h1.mono ?_
  rintro e w1 ⟨rfl, hb1⟩
  go_wp2
  go_ret
  exact ⟨rfl, hb0.trans (hb1.mono (by simp))⟩
end Go.Proofs.Ytpfohpfgfdeecaa
