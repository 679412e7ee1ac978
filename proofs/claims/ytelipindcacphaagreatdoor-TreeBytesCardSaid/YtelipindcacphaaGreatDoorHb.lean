/- The library at lists of texts: IndexFunc, ContainsFunc, Clone, DeleteFunc, Grow, Concat, Equal. -/
import Derived.Test.YtelipindcacphaaGreatDoorStr
import Derived.Test.YtelipindcacphaaGreatDoorGc
import Derived.Test.YtelipindcacphaaGreatDoorGd
import Derived.Test.YtelipindcacphaaGreatDoorHx
import Derived.Lib.SliceRun
import Derived.Lib.AppendZeros
import Derived.Shelf.Abstract
import Derived.Deep.DeepCutAuto
import Derived.Deep.RegionHeld3
import Derived.Deep.LoopGhost
namespace Go.Proofs.YtelipindcacphaaGreatDoor
open Go.RowKit

theorem bs_emptyH (e : List UInt8) : (bs e).toList = e := by rw [ByteArray.toList_eq]; rfl
theorem filter_takeH {α : Type} {l : List α} {p : α → Bool} {k : Nat} {u : α} (h : l[k]? = some u) : (l.take (k + 1)).filter p = (l.take k).filter p ++ if p u then [u] else [] := by
  rw [List.take_add_one, h, List.filter_append]
  by_cases hp : p u = true
  · simp [hp]
  · simp [hp]
set_option maxRecDepth 100000
/-- A function value that answers p of such things, wherever what lay below block B stands. -/
def PredStr (g : Nat) (lb : Array Value) (p : List UInt8 → Bool) (B : Nat) (w : World) (xs : List (List UInt8)) : Prop :=
  ∀ x ∈ xs, ∀ w', Below B w w' → Calls Tryz.prog g (#[.string (bs x)] ++ lb) w' fun e w'' => e = .returned (.bool (p x)) ∧ Below w'.heap.size w' w''
theorem ixfS_gen (g : Nat) (lb : Array Value) (p : List UInt8 → Bool) (eg : ∀ args w, (callFunc g args).run Tryz.prog w = .ok (.enter g args) w) (B : Nat) (A : Option Addr) (n c : Nat) (xs : List (List UInt8)) (w : World) (hA : RdS w w.heap.size A n xs) (hn : n ≤ maxLen) (hp : PredStr g lb p B w xs) (hB : B ≤ w.heap.size) :
    Calls Tryz.prog 55 #[.slice A n c, .func (.func g) #[] lb] w
      fun e w' => e = .returned (.int .i64 (firstH p xs)) ∧ Below w.heap.size w w' := by
  unfold maxLen at hn
  have hp := Lib.hid hp
  go_enter Tryz.func55, Tryz.ntmps55
  go_wp2
  go_loopg [8] (n + 1) (fun g i wr => ∃ k : Nat, k ≤ n ∧ g = n + 1 - k ∧ i = .int .i64 k ∧ (∀ u ∈ xs.take k, p u = false) ∧ Below w.heap.size w wr)
  case atStart => exact ⟨0, Nat.zero_le _, rfl, rfl, by simp, Below.refl _ _⟩
  case round =>
    obtain ⟨k, hk, rfl, rfl, hno, hbr⟩ := hrel
    have hz := hbr.size
    by_cases hlt : k < n
    · obtain ⟨bA, oA, u, rfl, hbA, hq, hcp⟩ := (hA.below hbr).at_ hlt
      have p0 := hcp 0 _ rfl
      rw [Nat.add_zero, Nat.mul_one] at p0
      clear hcp
      have hnoH := Lib.hid hno
      have hqH := Lib.hid hq
      clear hno hq
      go_wp2_with fail
      refine (hp.out u (List.mem_of_getElem? hqH.out) wr (hbr.mono hB)).mono ?_
      rintro e w1 ⟨rfl, hb1⟩
      have hb2 := hbr.trans (hb1.mono hz)
      generalize hx' : p u = r
      cases r
      case true =>
        have hT := Lib.hid (firstH_at hnoH.out hqH.out hx')
        clear hx'
        go_wp2
        go_ret
        exact ⟨ret_int hT.out.symm, hb2⟩
      case false =>
        have hT := Lib.hid hx'
        clear hx'
        go_wp2
        go_roundg (n + 1 - (k + 1))
        case measure => omega
        case rel => exact ⟨k + 1, by omega, rfl, by go_num, all_take_succ hnoH.out hqH.out hT.out, hb2⟩
    · have hT := Lib.hid (firstH_none (p := p) (all_take_all (by rw [show k = n from by omega] at hno; exact hno) hA.len))
      clear hno
      go_wp2
      go_ret
      exact ⟨ret_int hT.out.symm, hbr⟩
theorem cfS_gen (g : Nat) (lb : Array Value) (p : List UInt8 → Bool) (eg : ∀ args w, (callFunc g args).run Tryz.prog w = .ok (.enter g args) w) (B : Nat) (A : Option Addr) (n c : Nat) (xs : List (List UInt8)) (w : World) (hA : RdS w w.heap.size A n xs) (hn : n ≤ maxLen) (hp : PredStr g lb p B w xs) (hB : B ≤ w.heap.size) :
    Calls Tryz.prog 42 #[.slice A n c, .func (.func g) #[] lb] w
      fun e w' => e = .returned (.bool (xs.any p)) ∧ Below w.heap.size w w' := by
  have h := ixfS_gen g lb p eg B A n c xs w hA hn hp hB
  have hrH := Lib.hid (firstH_any p xs)
  clear eg hp
  generalize firstH p xs = z at h hrH
  go_enter Tryz.func42, Tryz.ntmps42
  go_wp2_with fail
  refine h.mono ?_
  rintro e w1 ⟨rfl, hb1⟩
  go_wp2
  go_ret
  exact ⟨ret_bool hrH.out, hb1⟩
set_option maxRecDepth 100000 in
theorem equalS_any (A B : Option Addr) (n m c d : Nat) (xs ys : List (List UInt8)) (w : World) (hA : RdS w w.heap.size A n xs) (hB : RdS w w.heap.size B m ys) (hn : n ≤ maxLen) (hm : m ≤ maxLen) :
    Calls Tryz.prog 29 #[.slice A n c, .slice B m d] w fun e w' => e = .returned (.bool (decide (xs = ys))) ∧ Below w.heap.size w w' := by
  have hl := hA.len
  have hl2 := hB.len
  unfold maxLen at hn hm
  generalize hr : decide (xs = ys) = r
  have hrH := Lib.hid hr
  clear hr
  by_cases hnm : (n : Int) = (m : Int)
  · obtain rfl : n = m := by omega
    clear hnm
    go_enter Tryz.func29, Tryz.ntmps29
    go_wp2
    go_loopg [13] (n + 1) (fun g i wr => ∃ k : Nat, k ≤ n ∧ g = n + 1 - k ∧ i = .int .i64 (k : Int) ∧ xs.take k = ys.take k ∧ Below w.heap.size w wr)
    case atStart => exact ⟨0, Nat.zero_le _, rfl, rfl, rfl, Below.refl _ _⟩
    case round =>
      obtain ⟨k, hk, rfl, rfl, htk, hbr⟩ := hrel
      have hz := hbr.size
      by_cases hlt : k < n
      · obtain ⟨bA, oA, x, rfl, hbA, hp, hcp⟩ := (hA.below hbr).at_ hlt
        obtain ⟨bB, oB, y, rfl, hbB, hq, hcq⟩ := (hB.below hbr).at_ hlt
        have p0 := hcp 0 _ rfl
        have q0 := hcq 0 _ rfl
        rw [Nat.add_zero, Nat.mul_one] at p0 q0
        clear hcp hcq
        have hbA2 : bA < wr.heap.size := by omega
        have hbB2 : bB < wr.heap.size := by omega
        have htkH := Lib.hid htk
        have hpH := Lib.hid hp
        have hqH := Lib.hid hq
        clear htk hp hq
        have hq0 : KQ wr.heap.size wr wr := kq (Below.refl _ _)
        by_cases he : x = y
        · subst he
          have hT : Hid (xs.take (k + 1) = ys.take (k + 1)) := Lib.hid (by rw [List.take_add_one, List.take_add_one, htkH.out, hpH.out, hqH.out])
          go_wp2
          go_region_held3 (fun w' => KQ wr.heap.size wr w') (first
      | with_reducible exact kq_call (by assumption) (by simp) (by assumption)
      | with_reducible exact kq_grown (by assumption) (by simp) (by assumption) (by simp [Value.ownBlock])
      | ((with_reducible refine kq ?_); (repeat (first | (with_reducible exact Below.refl _ _) | (with_reducible refine Below.drew ?_) | (with_reducible refine Below.alloc ?_ (by simp) _) | (with_reducible refine Below.setCell ?_ (by simp) _) | (with_reducible exact (by assumption : KQ _ _ _).1))); done)) (first | (go_at_call 0; skip))
          have hG : Below w.heap.size w wr.drew := hbr.drew
          go_wp2
          go_roundg (n + 1 - (k + 1))
          case measure => omega
          case rel => exact ⟨k + 1, by omega, rfl, by go_num, hT.out, hG⟩
        · have hT : Hid (false = r) := Lib.hid (by
            rw [← hrH.out]; symm; apply decide_eq_false; intro e; subst e
            have := hpH.out.symm.trans hqH.out
            injection this with this; exact he this)
          have hG : Below w.heap.size w wr.drew := hbr.drew
          have hsn : ((bs x).toList == (bs y).toList) = false := by rw [bs_emptyH, bs_emptyH, beq_eq_false_iff_ne]; exact he
          clear he
          go_wp2
          go_region_held3 (fun w' => KQ wr.heap.size wr w') (first
      | with_reducible exact kq_call (by assumption) (by simp) (by assumption)
      | with_reducible exact kq_grown (by assumption) (by simp) (by assumption) (by simp [Value.ownBlock])
      | ((with_reducible refine kq ?_); (repeat (first | (with_reducible exact Below.refl _ _) | (with_reducible refine Below.drew ?_) | (with_reducible refine Below.alloc ?_ (by simp) _) | (with_reducible refine Below.setCell ?_ (by simp) _) | (with_reducible exact (by assumption : KQ _ _ _).1))); done)) (first | (go_at_call 0; skip))
          go_wp2
          go_ret
          exact ⟨ret_bool hT.out, hG⟩
      · have hT : Hid (true = r) := Lib.hid (by
          rw [← hrH.out]; symm; apply decide_eq_true
          rw [List.take_of_length_le (by omega), List.take_of_length_le (by omega)] at htk
          exact htk)
        clear htk
        go_wp2
        go_ret
        exact ⟨ret_bool hT.out, hbr⟩
  · have hT : Hid (false = r) := Lib.hid (by
      rw [← hrH.out]; symm; apply decide_eq_false; rintro rfl; omega)
    have hd : ((n : Int) == (m : Int)) = false := by simpa using hnm
    go_enter Tryz.func29, Tryz.ntmps29
    go_wp2
    go_ret
    exact ⟨ret_bool hT.out, Below.refl _ _⟩
end Go.Proofs.YtelipindcacphaaGreatDoor
