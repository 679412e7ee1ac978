/- The document's own: is a name in a list; what is wrong with two sets. The document's Minus: what of one set is not in another. -/
import Derived.Test.YthfjbbijcemmoaaDoorDb
namespace Go.Proofs.YthfjbbijcemmoaaDoor
open Go.RowKit

set_option maxRecDepth 100000 in
theorem rhas_any (A : Option Addr) (n c : Nat) (xs : List Im) (x : Im) (w : World) (hA : RdI w w.heap.size A n xs) (hn : n ≤ maxLen) :
    Calls Tryd.prog 85 #[.slice A n c, .agg #[.int .i64 x.1, .int .u32 x.2]] w fun e w' => e = .returned (.bool (xs.contains x)) ∧ Below w.heap.size w w' := by
  have hl := hA.len
  unfold maxLen at hn
  generalize hr : xs.contains x = r
  have hrH := Lib.hid hr
  clear hr
  obtain ⟨x1, x2⟩ := x
  go_enter Tryd.func85, Tryd.ntmps85
  go_wp2
  go_loopg [5] (n + 1) (fun g i wr => ∃ k : Nat, k ≤ n ∧ g = n + 1 - k ∧ i = .int .i64 (k : Int) ∧ (∀ u ∈ xs.take k, (u == (x1, x2)) = false) ∧ Below (w.heap.size + 1) (w.alloc (.cells #[.int .i64 x1, .int .u32 x2] 63)) wr)
  case atStart => exact ⟨0, Nat.zero_le _, rfl, rfl, by simp, Below.refl _ _⟩
  case round =>
    obtain ⟨k, hk, rfl, rfl, hno, hbr⟩ := hrel
    have hb : Below w.heap.size w wr := ((Below.refl _ w).alloc (Nat.le_refl _) _).trans (hbr.mono (Nat.le_succ _))
    have hz := hb.size
    have hz1 := hbr.size
    simp only [World.size_alloc] at hz1
    by_cases hlt : k < n
    · obtain ⟨bA, oA, u, rfl, hbA, hp, hcp⟩ := (hA.below hb).at_ hlt
      have p0 := hcp 0 _ rfl
      have p1 := hcp 1 _ rfl
      rw [Nat.add_zero] at p0
      clear hcp
      have hbx : wr.heap[w.heap.size]? = some (.cells #[.int .i64 x1, .int .u32 x2] 63 (0, 0)) := (hbr.block _ (by omega)).trans (heap_at _ _ rfl)
      have q0 := blk_cell hbx 0
      have q1 := blk_cell hbx 1
      simp at q0 q1
      clear hbx
      have hbA2 : bA < wr.heap.size := by omega
      have hbx2 : w.heap.size < wr.heap.size := by omega
      obtain ⟨u1, u2⟩ := u
      dsimp only at p0 p1
      have hnoH := Lib.hid hno
      have hpH := Lib.hid hp
      clear hno hp
      have hq0 : KQ wr.heap.size wr wr := kq (Below.refl _ _)
      by_cases h1 : u1 = x1
      · subst h1
        by_cases h2 : u2 = x2
        · subst h2
          have hT : Hid (true = r) := Lib.hid (by rw [← hrH.out]; symm; rw [List.contains_iff_mem]; exact List.mem_of_getElem? hpH.out)
          go_wp2
          go_region_held3 (fun w' => KQ wr.heap.size wr w') (first
      | with_reducible exact kq_call (by assumption) (by simp) (by assumption)
      | with_reducible exact kq_grown (by assumption) (by simp) (by assumption) (by simp [Value.ownBlock])
      | ((with_reducible refine kq ?_); (repeat (first | (with_reducible exact Below.refl _ _) | (with_reducible refine Below.drew ?_) | (with_reducible refine Below.alloc ?_ (by simp) _) | (with_reducible refine Below.setCell ?_ (by simp) _) | (with_reducible exact (by assumption : KQ _ _ _).1))); done)) (first | (go_at_call 0; skip))
          have hG : Below w.heap.size w wr.drew := hb.drew
          go_wp2
          go_ret
          exact ⟨ret_bool hT.out, hG⟩
        · have hT : Hid (∀ y ∈ xs.take (k + 1), (y == (u1, x2)) = false) := Lib.hid (all_take_succ hnoH.out hpH.out (by simp [h2]))
          go_wp2
          go_region_held3 (fun w' => KQ wr.heap.size wr w') (first
      | with_reducible exact kq_call (by assumption) (by simp) (by assumption)
      | with_reducible exact kq_grown (by assumption) (by simp) (by assumption) (by simp [Value.ownBlock])
      | ((with_reducible refine kq ?_); (repeat (first | (with_reducible exact Below.refl _ _) | (with_reducible refine Below.drew ?_) | (with_reducible refine Below.alloc ?_ (by simp) _) | (with_reducible refine Below.setCell ?_ (by simp) _) | (with_reducible exact (by assumption : KQ _ _ _).1))); done)) (first | (go_at_call 0; skip))
          have hG : Below (w.heap.size + 1) (w.alloc (.cells #[.int .i64 u1, .int .u32 x2] 63)) wr.drew := hbr.drew
          go_wp2
          go_roundg (n + 1 - (k + 1))
          case measure => omega
          case rel => exact ⟨k + 1, by omega, rfl, by go_num, hT.out, hG⟩
      · have hT : Hid (∀ y ∈ xs.take (k + 1), (y == (x1, x2)) = false) := Lib.hid (all_take_succ hnoH.out hpH.out (by simp [h1]))
        go_wp2
        go_region_held3 (fun w' => KQ wr.heap.size wr w') (first
      | with_reducible exact kq_call (by assumption) (by simp) (by assumption)
      | with_reducible exact kq_grown (by assumption) (by simp) (by assumption) (by simp [Value.ownBlock])
      | ((with_reducible refine kq ?_); (repeat (first | (with_reducible exact Below.refl _ _) | (with_reducible refine Below.drew ?_) | (with_reducible refine Below.alloc ?_ (by simp) _) | (with_reducible refine Below.setCell ?_ (by simp) _) | (with_reducible exact (by assumption : KQ _ _ _).1))); done)) (first | (go_at_call 0; skip))
        have hG : Below (w.heap.size + 1) (w.alloc (.cells #[.int .i64 x1, .int .u32 x2] 63)) wr.drew := hbr.drew
        go_wp2
        go_roundg (n + 1 - (k + 1))
        case measure => omega
        case rel => exact ⟨k + 1, by omega, rfl, by go_num, hT.out, hG⟩
    · have hT : Hid (false = r) := Lib.hid (by
        rw [← hrH.out]; symm
        have h := all_take_all (by rw [show k = n from by omega] at hno; exact hno) hA.len
        rw [Bool.eq_false_iff]
        intro hc
        have := h _ (List.contains_iff_mem.1 hc)
        simp at this)
      go_wp2
      go_ret
      exact ⟨ret_bool hT.out, hb⟩

end Go.Proofs.YthfjbbijcemmoaaDoor
namespace Go.Proofs.YthfjbbijcemmoaaDoor
open Go.RowKit

/-- A list as a call leaves it. -/
def GotI (w : World) (A : Option Addr) (n : Nat) (xs : List Im) : Prop := RdI w w.heap.size A n xs ∧ n ≤ maxLen
theorem GotI.below {w w' : World} {A : Option Addr} {n : Nat} {xs : List Im} (h : GotI w A n xs) (hb : Below w.heap.size w w') : GotI w' A n xs := ⟨(h.1.below hb).more hb.size, h.2⟩
theorem gotI_nil (w : World) : GotI w none 0 [] := ⟨Rd.nil_, Nat.zero_le _⟩
theorem gotI_own {w : World} {base : Nat} {A : Option Addr} {n c : Nat} {xs : List Im} (h : Ow w base 63 2 (.slice A n c) (xs.map Im.enc)) : GotI w A n xs := ⟨h.rd.1, Nat.le_trans h.rd.2.2.1 h.rd.2.2.2⟩

end Go.Proofs.YthfjbbijcemmoaaDoor
