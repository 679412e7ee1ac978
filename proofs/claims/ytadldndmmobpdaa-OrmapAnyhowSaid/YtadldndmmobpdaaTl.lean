/- Lists of tags and of additions: the document's right, rises, HasTag, SameTags; slices.IndexFunc, ContainsFunc, BinarySearchFunc; strictly. -/
import Derived.Test.YtadldndmmobpdaaOsD
import Derived.Deep.DeepCutAuto
import Derived.Deep.RegionHeld3
import Derived.Deep.LoopGhost
namespace Go.Proofs.Ytadldndmmobpdaa
open Go.RowKit

set_option maxRecDepth 100000 in
theorem hastag_any (A : Option Addr) (n c : Nat) (xs : List Tm) (x : Tm) (w : World) (hA : RdT w w.heap.size A n xs) (hn : n ≤ maxLen) :
    Calls Try.prog 81 #[.slice A n c, .agg #[.int .i64 x.1.1, .int .u32 x.1.2, .int .i64 x.2]] w fun e w' => e = .returned (.bool (xs.contains x)) ∧ Below w.heap.size w w' := by
  have hl := hA.len
  unfold maxLen at hn
  generalize hr : xs.contains x = r
  have hrH := Lib.hid hr
  clear hr
  obtain ⟨⟨x1, x2⟩, x3⟩ := x
  go_enter Try.func81, Try.ntmps81
  go_wp2
  go_loopg [5] (n + 1) (fun g i wr => ∃ k : Nat, k ≤ n ∧ g = n + 1 - k ∧ i = .int .i64 (k : Int) ∧ (∀ u ∈ xs.take k, (u == ((x1, x2), x3)) = false) ∧ Below (w.heap.size + 1) (w.alloc (.cells #[.int .i64 x1, .int .u32 x2, .int .i64 x3] 79)) wr)
  case atStart => exact ⟨0, Nat.zero_le _, rfl, rfl, by simp, Below.refl _ _⟩
  case round =>
    obtain ⟨k, hk, rfl, rfl, hno, hbr⟩ := hrel
    have hb : Below w.heap.size w wr := ((Below.refl _ w).alloc (Nat.le_refl _) _).trans (hbr.mono (Nat.le_succ _))
    have hz := hb.size
    have hz1 := hbr.size
    simp only [World.size_alloc] at hz1
    by_cases hlt : k < n
    · obtain ⟨bA, oA, u, rfl, hbA, hp, hcp⟩ := (hA.below hb).at_ hlt
      have p0 := hcp 0 _ rfl
      have p1 := hcp 1 _ rfl
      have p2 := hcp 2 _ rfl
      rw [Nat.add_zero] at p0
      clear hcp
      have hbx : wr.heap[w.heap.size]? = some (.cells #[.int .i64 x1, .int .u32 x2, .int .i64 x3] 79 (0, 0)) := (hbr.block _ (by omega)).trans (heap_at _ _ rfl)
      have q0 := blk_cell hbx 0
      have q1 := blk_cell hbx 1
      have q2 := blk_cell hbx 2
      simp at q0 q1 q2
      clear hbx
      have hbA2 : bA < wr.heap.size := by omega
      have hbx2 : w.heap.size < wr.heap.size := by omega
      obtain ⟨⟨u1, u2⟩, u3⟩ := u
      dsimp only at p0 p1 p2
      have hnoH := Lib.hid hno
      have hpH := Lib.hid hp
      clear hno hp
      have hq0 : KQ wr.heap.size wr wr := kq (Below.refl _ _)
      by_cases he : u1 = x1 ∧ u2 = x2 ∧ u3 = x3
      · obtain ⟨rfl, rfl, rfl⟩ := he
        have hT : Hid (true = r) := Lib.hid (by rw [← hrH.out]; symm; rw [List.contains_iff_mem]; exact List.mem_of_getElem? hpH.out)
        go_wp2
        go_region_held3 (fun w' => KQ wr.heap.size wr w') (first
      | with_reducible exact kq_call (by assumption) (by simp) (by assumption)
      | with_reducible exact kq_grown (by assumption) (by simp) (by assumption) (by simp [Value.ownBlock])
      | ((with_reducible refine kq ?_); (repeat (first | (with_reducible exact Below.refl _ _) | (with_reducible refine Below.drew ?_) | (with_reducible refine Below.alloc ?_ (by simp) _) | (with_reducible refine Below.setCell ?_ (by simp) _) | (with_reducible exact (by assumption : KQ _ _ _).1))); done)) (first | (go_at_call 0; skip))
        have hG : Below w.heap.size w wr.drew := hb.drew
        go_wp2
        go_ret
        exact ⟨ret_bool hT.out, hG⟩
      · have hT : Hid (∀ y ∈ xs.take (k + 1), (y == ((x1, x2), x3)) = false) := Lib.hid (all_take_succ hnoH.out hpH.out (by rw [beq_eq_false_iff_ne]; intro e; simp only [Prod.mk.injEq] at e; exact he ⟨e.1.1, e.1.2, e.2⟩))
        have hG : Below (w.heap.size + 1) (w.alloc (.cells #[.int .i64 x1, .int .u32 x2, .int .i64 x3] 79)) wr.drew := hbr.drew
        by_cases h1 : u1 = x1
        · subst h1
          by_cases h2 : u2 = x2
          · subst h2
            have h3 : ¬ u3 = x3 := fun e => he ⟨rfl, rfl, e⟩
            clear he
            go_wp2
            go_region_held3 (fun w' => KQ wr.heap.size wr w') (first
      | with_reducible exact kq_call (by assumption) (by simp) (by assumption)
      | with_reducible exact kq_grown (by assumption) (by simp) (by assumption) (by simp [Value.ownBlock])
      | ((with_reducible refine kq ?_); (repeat (first | (with_reducible exact Below.refl _ _) | (with_reducible refine Below.drew ?_) | (with_reducible refine Below.alloc ?_ (by simp) _) | (with_reducible refine Below.setCell ?_ (by simp) _) | (with_reducible exact (by assumption : KQ _ _ _).1))); done)) (first | (go_at_call 0; skip))
            go_wp2
            go_roundg (n + 1 - (k + 1))
            case measure => omega
            case rel => exact ⟨k + 1, by omega, rfl, by go_num, hT.out, hG⟩
          · clear he
            go_wp2
            go_region_held3 (fun w' => KQ wr.heap.size wr w') (first
      | with_reducible exact kq_call (by assumption) (by simp) (by assumption)
      | with_reducible exact kq_grown (by assumption) (by simp) (by assumption) (by simp [Value.ownBlock])
      | ((with_reducible refine kq ?_); (repeat (first | (with_reducible exact Below.refl _ _) | (with_reducible refine Below.drew ?_) | (with_reducible refine Below.alloc ?_ (by simp) _) | (with_reducible refine Below.setCell ?_ (by simp) _) | (with_reducible exact (by assumption : KQ _ _ _).1))); done)) (first | (go_at_call 0; skip))
            go_wp2
            go_roundg (n + 1 - (k + 1))
            case measure => omega
            case rel => exact ⟨k + 1, by omega, rfl, by go_num, hT.out, hG⟩
        · clear he
          go_wp2
          go_region_held3 (fun w' => KQ wr.heap.size wr w') (first
      | with_reducible exact kq_call (by assumption) (by simp) (by assumption)
      | with_reducible exact kq_grown (by assumption) (by simp) (by assumption) (by simp [Value.ownBlock])
      | ((with_reducible refine kq ?_); (repeat (first | (with_reducible exact Below.refl _ _) | (with_reducible refine Below.drew ?_) | (with_reducible refine Below.alloc ?_ (by simp) _) | (with_reducible refine Below.setCell ?_ (by simp) _) | (with_reducible exact (by assumption : KQ _ _ _).1))); done)) (first | (go_at_call 0; skip))
          go_wp2
          go_roundg (n + 1 - (k + 1))
          case measure => omega
          case rel => exact ⟨k + 1, by omega, rfl, by go_num, hT.out, hG⟩
    · have hT : Hid (false = r) := Lib.hid (by
        rw [← hrH.out]; symm
        have h0 := all_take_all (by rw [show k = n from by omega] at hno; exact hno) hA.len
        rw [← Bool.not_eq_true, List.contains_iff_mem]
        intro hm
        have := h0 _ hm
        simp at this)
      clear hno
      go_wp2
      go_ret
      exact ⟨ret_bool hT.out, hb⟩
set_option maxRecDepth 100000 in
theorem sametags_any (A B : Option Addr) (n m c d : Nat) (xs ys : List Tm) (w : World) (hA : RdT w w.heap.size A n xs) (hB : RdT w w.heap.size B m ys) (hn : n ≤ maxLen) (hm : m ≤ maxLen) :
    Calls Try.prog 18 #[.slice A n c, .slice B m d] w fun e w' => e = .returned (.bool (decide (xs = ys))) ∧ Below w.heap.size w w' := by
  have hl := hA.len
  have hl2 := hB.len
  unfold maxLen at hn hm
  generalize hr : decide (xs = ys) = r
  have hrH := Lib.hid hr
  clear hr
  by_cases hnm : (n : Int) = (m : Int)
  · obtain rfl : n = m := by omega
    clear hnm
    go_enter Try.func18, Try.ntmps18
    go_wp2
    go_loopg [5] (n + 1) (fun g i wr => ∃ k : Nat, k ≤ n ∧ g = n + 1 - k ∧ i = .int .i64 (k : Int) ∧ xs.take k = ys.take k ∧ Below w.heap.size w wr)
    case atStart => exact ⟨0, Nat.zero_le _, rfl, rfl, rfl, Below.refl _ _⟩
    case round =>
      obtain ⟨k, hk, rfl, rfl, htk, hbr⟩ := hrel
      have hz := hbr.size
      by_cases hlt : k < n
      · obtain ⟨bA, oA, x, rfl, hbA, hp, hcp⟩ := (hA.below hbr).at_ hlt
        obtain ⟨bB, oB, y, rfl, hbB, hq, hcq⟩ := (hB.below hbr).at_ hlt
        have p0 := hcp 0 _ rfl
        have p1 := hcp 1 _ rfl
        have p2 := hcp 2 _ rfl
        have q0 := hcq 0 _ rfl
        have q1 := hcq 1 _ rfl
        have q2 := hcq 2 _ rfl
        rw [Nat.add_zero] at p0 q0
        clear hcp hcq
        have hbA2 : bA < wr.heap.size := by omega
        have hbB2 : bB < wr.heap.size := by omega
        have htkH := Lib.hid htk
        have hpH := Lib.hid hp
        have hqH := Lib.hid hq
        clear htk hp hq
        have hq0 : KQ wr.heap.size wr wr := kq (Below.refl _ _)
        obtain ⟨⟨x1, x2⟩, x3⟩ := x
        obtain ⟨⟨y1, y2⟩, y3⟩ := y
        dsimp only at p0 p1 p2 q0 q1 q2
        by_cases he : x1 = y1 ∧ x2 = y2 ∧ x3 = y3
        · obtain ⟨rfl, rfl, rfl⟩ := he
          have hT : Hid (xs.take (k + 1) = ys.take (k + 1)) := Lib.hid (by rw [List.take_add_one, List.take_add_one, htkH.out, hpH.out, hqH.out])
          go_wp2
          go_region_held3 (fun w' => KQ wr.heap.size wr w') (first
      | with_reducible exact kq_call (by assumption) (by simp) (by assumption)
      | with_reducible exact kq_grown (by assumption) (by simp) (by assumption) (by simp [Value.ownBlock])
      | ((with_reducible refine kq ?_); (repeat (first | (with_reducible exact Below.refl _ _) | (with_reducible refine Below.drew ?_) | (with_reducible refine Below.alloc ?_ (by simp) _) | (with_reducible refine Below.setCell ?_ (by simp) _) | (with_reducible exact (by assumption : KQ _ _ _).1))); done)) (first | (go_at_call 0; skip))
          have hG : Below w.heap.size w wr.drew := hbr.drew
          go_wp2
          go_roundg (n + 1 - (k + 1))
          case measure => omega
          case rel => exact ⟨k + 1, by omega, rfl, by go_num, hT.out, hG⟩
        · have hT : Hid (false = r) := Lib.hid (by
            rw [← hrH.out]; symm; apply decide_eq_false; intro e; subst e
            have := hpH.out.symm.trans hqH.out
            simp at this; exact he ⟨this.1.1, this.1.2, this.2⟩)
          have hG : Below w.heap.size w wr.drew := hbr.drew
          by_cases h1 : x1 = y1
          · subst h1
            by_cases h2 : x2 = y2
            · subst h2
              have h3 : ¬ x3 = y3 := fun e => he ⟨rfl, rfl, e⟩
              clear he
              go_wp2
              go_region_held3 (fun w' => KQ wr.heap.size wr w') (first
      | with_reducible exact kq_call (by assumption) (by simp) (by assumption)
      | with_reducible exact kq_grown (by assumption) (by simp) (by assumption) (by simp [Value.ownBlock])
      | ((with_reducible refine kq ?_); (repeat (first | (with_reducible exact Below.refl _ _) | (with_reducible refine Below.drew ?_) | (with_reducible refine Below.alloc ?_ (by simp) _) | (with_reducible refine Below.setCell ?_ (by simp) _) | (with_reducible exact (by assumption : KQ _ _ _).1))); done)) (first | (go_at_call 0; skip))
              go_wp2
              go_ret
              exact ⟨ret_bool hT.out, hG⟩
            · clear he
              go_wp2
              go_region_held3 (fun w' => KQ wr.heap.size wr w') (first
      | with_reducible exact kq_call (by assumption) (by simp) (by assumption)
      | with_reducible exact kq_grown (by assumption) (by simp) (by assumption) (by simp [Value.ownBlock])
      | ((with_reducible refine kq ?_); (repeat (first | (with_reducible exact Below.refl _ _) | (with_reducible refine Below.drew ?_) | (with_reducible refine Below.alloc ?_ (by simp) _) | (with_reducible refine Below.setCell ?_ (by simp) _) | (with_reducible exact (by assumption : KQ _ _ _).1))); done)) (first | (go_at_call 0; skip))
              go_wp2
              go_ret
              exact ⟨ret_bool hT.out, hG⟩
          · clear he
            go_wp2
            go_region_held3 (fun w' => KQ wr.heap.size wr w') (first
      | with_reducible exact kq_call (by assumption) (by simp) (by assumption)
      | with_reducible exact kq_grown (by assumption) (by simp) (by assumption) (by simp [Value.ownBlock])
      | ((with_reducible refine kq ?_); (repeat (first | (with_reducible exact Below.refl _ _) | (with_reducible refine Below.drew ?_) | (with_reducible refine Below.alloc ?_ (by simp) _) | (with_reducible refine Below.setCell ?_ (by simp) _) | (with_reducible exact (by assumption : KQ _ _ _).1))); done)) (first | (go_at_call 0; skip))
            go_wp2
            go_ret
            exact ⟨ret_bool hT.out, hG⟩
      · have hT : Hid (true = r) := Lib.hid (by
          rw [← hrH.out]; symm; apply decide_eq_true
          rw [List.take_of_length_le (by omega), List.take_of_length_le (by omega)] at htk
          exact htk)
        clear htk
        go_wp2
        go_ret
        exact ⟨ret_bool hT.out, hbr⟩
  · have hT : Hid (false = r) := Lib.hid (by
      rw [← hrH.out]; symm; apply decide_eq_false; rintro rfl; omega)
    have hd : ((n : Int) == (m : Int)) = false := by simpa using hnm
    go_enter Try.func18, Try.ntmps18
    go_wp2
    go_ret
    exact ⟨ret_bool hT.out, Below.refl _ _⟩
set_option maxRecDepth 100000 in
theorem right_any (A : Option Addr) (n c : Nat) (xs : List Tm) (w : World) (hA : RdT w w.heap.size A n xs) (hn : n ≤ maxLen) (hx : ∀ x ∈ xs, x.wf) :
    Calls Try.prog 91 #[.slice A n c] w fun e w' => e = .returned (.bool (xs.all chkT)) ∧ Below w.heap.size w w' := by
  unfold maxLen at hn
  go_enter Try.func91, Try.ntmps91
  go_wp2
  go_loopg [3] (n + 1) (fun g i wr => ∃ k : Nat, k ≤ n ∧ g = n + 1 - k ∧ i = .int .i64 (k : Int) ∧ (∀ u ∈ xs.take k, (!chkT u) = false) ∧ Below w.heap.size w wr)
  case atStart => exact ⟨0, Nat.zero_le _, rfl, rfl, by simp, Below.refl _ _⟩
  case round =>
    obtain ⟨k, hk, rfl, rfl, hno, hbr⟩ := hrel
    have hz := hbr.size
    by_cases hlt : k < n
    · obtain ⟨bA, oA, u, rfl, hbA, hp, hcp⟩ := (hA.below hbr).at_ hlt
      have p0 := hcp 0 _ rfl
      have p1 := hcp 1 _ rfl
      have p2 := hcp 2 _ rfl
      rw [Nat.add_zero] at p0
      clear hcp
      have huw := hx u (List.mem_of_getElem? hp)
      have hnoH := Lib.hid hno
      have hpH := Lib.hid hp
      clear hno hp
      go_wp2_with fail
      refine (rchkt_any u huw wr).mono ?_
      rintro e w1 ⟨rfl, hb1⟩
      have hb2 := hbr.trans (hb1.mono hz)
      generalize hx' : chkT u = r
      cases r
      case false =>
        have hT : Hid (false = xs.all chkT) := Lib.hid (by symm; rw [List.all_eq_false]; exact ⟨u, List.mem_of_getElem? hpH.out, by simp [hx']⟩)
        clear hx'
        go_wp2
        go_ret
        exact ⟨ret_bool hT.out, hb2⟩
      case true =>
        have hT : Hid ((!chkT u) = false) := Lib.hid (by simp [hx'])
        clear hx'
        go_wp2
        go_roundg (n + 1 - (k + 1))
        case measure => omega
        case rel => exact ⟨k + 1, by omega, rfl, by go_num, all_take_succ hnoH.out hpH.out hT.out, hb2⟩
    · have hT : Hid (true = xs.all chkT) := Lib.hid (by symm; rw [List.all_eq_true]; intro x hx; have := all_take_all (by rw [show k = n from by omega] at hno; exact hno) hA.len x hx; simpa using this)
      clear hno
      go_wp2
      go_ret
      exact ⟨ret_bool hT.out, hbr⟩
set_option maxRecDepth 100000 in
theorem rises_any  (A : Option Addr) (n c : Nat) (xs : List Tm) (w : World) (hA : RdT w w.heap.size A n xs) (hn : n ≤ maxLen) (hp : ∀ x ∈ xs, x.wf) :
    Calls Try.prog 99 #[.slice A n c] w fun e w' => e = .returned (.bool (ascT xs)) ∧ Below w.heap.size w w' := by
  have hl := hA.len
  unfold maxLen at hn
  generalize hr : ascT xs = r
  have hrH := Lib.hid hr
  have hpH := Lib.hid hp
  clear hr hp
  go_enter Try.func99, Try.ntmps99
  go_wp2_with fail
  go_loopg [3] (n + 1) (fun g i wr => ∃ m k : Nat, k = m + 1 ∧ m ≤ n ∧ g = n + 1 - m ∧ i = .int .i64 (k : Int) ∧ (∀ j x y, j < m → xs[j]? = some x → xs[j + 1]? = some y → cmpT x y < 0) ∧ Below w.heap.size w wr)
  case atStart => exact ⟨0, 1, rfl, Nat.zero_le _, rfl, rfl, by simp, Below.refl _ _⟩
  case round =>
    obtain ⟨m, k, hkm, hm, rfl, rfl, hno, hbr⟩ := hrel
    have hz := hbr.size
    by_cases hlt : k < n
    · have hw : IntKind.i64.wrap ((k : Int) - 1) = (m : Int) := by rw [IntWalk.i64_in _ (by omega)]; omega
      have hmn : m < n := by omega
      obtain ⟨bA, oA, x, rfl, hbA, hp, hcp⟩ := (hA.below hbr).at_ hmn
      obtain ⟨bB, oB, y, he, _, hq, hcq⟩ := (hA.below hbr).at_ hlt
      obtain ⟨rfl, rfl⟩ : bA = bB ∧ oA = oB := by simpa using he
      clear he
      have p0 := hcp 0 _ rfl
      have p1 := hcp 1 _ rfl
      have p2 := hcp 2 _ rfl
      have q0 := hcq 0 _ rfl
      have q1 := hcq 1 _ rfl
      have q2 := hcq 2 _ rfl
      rw [Nat.add_zero] at p0 q0
      clear hcp hcq
      have hbA2 : bA < wr.heap.size := by omega
      have hcm := fun w' hb' => (fun h1 h2 w' (_ : Below w.heap.size w w') => rcmpt_any x y (hpH.out x h1) (hpH.out y h2) w') (List.mem_of_getElem? hp) (List.mem_of_getElem? hq) w' hb'
      have hqs : xs[m + 1]? = some y := by rw [← hkm]; exact hq
      clear hq
      have hq := hqs
      clear hqs
      have hkH := Lib.hid hkm
      clear hkm
      have hnoH := Lib.hid hno
      have hpxH := Lib.hid hp
      have hqyH := Lib.hid hq
      clear hno hp hq
      have hq0 : KQ wr.heap.size wr wr := kq (Below.refl _ _)
      by_cases hge : 0 ≤ cmpT x y
      · have hT : Hid (false = r) := Lib.hid (by
          rw [← hrH.out]; symm; rw [Bool.eq_false_iff]
          intro ha
          have := (ascT_iff _).1 ha m x y (by first | exact hpxH.out | (rw [List.getElem?_map, hpxH.out]; rfl)) (by first | exact hqyH.out | (rw [List.getElem?_map, hqyH.out]; rfl))
          omega)
        generalize cmpT x y = z at hcm hge
        have hcm := Lib.hid hcm
        go_wp2
        go_region_held3 (fun w' => KQ wr.heap.size wr w') (first
      | with_reducible exact kq_call (by assumption) (by simp) (by assumption)
      | with_reducible exact kq_grown (by assumption) (by simp) (by assumption) (by simp [Value.ownBlock])
      | ((with_reducible refine kq ?_); (repeat (first | (with_reducible exact Below.refl _ _) | (with_reducible refine Below.drew ?_) | (with_reducible refine Below.alloc ?_ (by simp) _) | (with_reducible refine Below.setCell ?_ (by simp) _) | (with_reducible exact (by assumption : KQ _ _ _).1))); done))
          (first | (go_at_call 83; refine (hcm.out _ (by first | exact hbr.trans ((by with_reducible assumption : KQ wr.heap.size wr _).1.mono hz) | exact hbr.drew | exact hbr)).mono ?_; rintro e w2 ⟨rfl, hb2⟩))
        have hF : KQ wr.heap.size wr w2 := by with_reducible assumption
        have hG : Below w.heap.size w w2 := hbr.trans (hF.1.mono hz)
        clear hF
        go_wp2
        go_ret
        exact ⟨ret_bool hT.out, hG⟩
      · have hT : Hid (∀ j x y, j < m + 1 → xs[j]? = some x → xs[j + 1]? = some y → cmpT x y < 0) := Lib.hid (by
          intro j x' y' hj h1 h2
          rcases Nat.lt_succ_iff_lt_or_eq.1 hj with h | rfl
          · exact hnoH.out j x' y' h h1 h2
          · rw [hpxH.out] at h1
            rw [hqyH.out] at h2
            cases h1
            cases h2
            omega)
        generalize cmpT x y = z at hcm hge
        have hcm := Lib.hid hcm
        have hdz : decide (0 ≤ z) = false := by simpa using hge
        go_wp2
        go_region_held3 (fun w' => KQ wr.heap.size wr w') (first
      | with_reducible exact kq_call (by assumption) (by simp) (by assumption)
      | with_reducible exact kq_grown (by assumption) (by simp) (by assumption) (by simp [Value.ownBlock])
      | ((with_reducible refine kq ?_); (repeat (first | (with_reducible exact Below.refl _ _) | (with_reducible refine Below.drew ?_) | (with_reducible refine Below.alloc ?_ (by simp) _) | (with_reducible refine Below.setCell ?_ (by simp) _) | (with_reducible exact (by assumption : KQ _ _ _).1))); done))
          (first | (go_at_call 83; refine (hcm.out _ (by first | exact hbr.trans ((by with_reducible assumption : KQ wr.heap.size wr _).1.mono hz) | exact hbr.drew | exact hbr)).mono ?_; rintro e w2 ⟨rfl, hb2⟩))
        have hF : KQ wr.heap.size wr w2 := by with_reducible assumption
        have hG : Below w.heap.size w w2 := hbr.trans (hF.1.mono hz)
        clear hF
        go_wp2
        go_roundg (n + 1 - (m + 1))
        case measure => omega
        case rel => exact ⟨m + 1, k + 1, by rw [← hkH.out], by omega, rfl, by go_num, hT.out, hG⟩
    · have hT : Hid (true = r) := Lib.hid (by
        rw [← hrH.out]; symm
        rw [ascT_iff]
        intro j x y h1 h2
        first
          | exact hno j x y (by have := (List.getElem?_eq_some_iff.1 h2).1; omega) h1 h2
          | (rw [List.getElem?_map] at h1 h2
             obtain ⟨x', hx', rfl⟩ := Option.map_eq_some_iff.1 h1
             obtain ⟨y', hy', rfl⟩ := Option.map_eq_some_iff.1 h2
             have := (List.getElem?_eq_some_iff.1 hy').1
             exact hno j x' y' (by omega) hx' hy'))
      go_wp2
      go_ret
      exact ⟨ret_bool hT.out, hbr⟩
/-- A function value that answers p of such things, wherever what lay below block B stands. -/
def PredT (g : Nat) (lb : Array Value) (p : Tm → Bool) (B : Nat) (w : World) (xs : List Tm) : Prop :=
  ∀ x ∈ xs, ∀ w', Below B w w' → Calls Try.prog g (#[.agg #[.int .i64 x.1.1, .int .u32 x.1.2, .int .i64 x.2]] ++ lb) w' fun e w'' => e = .returned (.bool (p x)) ∧ Below w'.heap.size w' w''
theorem ixfT_gen (g : Nat) (lb : Array Value) (p : Tm → Bool) (eg : ∀ args w, (callFunc g args).run Try.prog w = .ok (.enter g args) w) (B : Nat) (A : Option Addr) (n c : Nat) (xs : List Tm) (w : World) (hA : RdT w w.heap.size A n xs) (hn : n ≤ maxLen) (hp : PredT g lb p B w xs) (hB : B ≤ w.heap.size) :
    Calls Try.prog 112 #[.slice A n c, .func (.func g) #[] lb] w
      fun e w' => e = .returned (.int .i64 (firstG p xs)) ∧ Below w.heap.size w w' := by
  unfold maxLen at hn
  have hp := Lib.hid hp
  go_enter Try.func112, Try.ntmps112
  go_wp2
  go_loopg [8] (n + 1) (fun g i wr => ∃ k : Nat, k ≤ n ∧ g = n + 1 - k ∧ i = .int .i64 k ∧ (∀ u ∈ xs.take k, p u = false) ∧ Below w.heap.size w wr)
  case atStart => exact ⟨0, Nat.zero_le _, rfl, rfl, by simp, Below.refl _ _⟩
  case round =>
    obtain ⟨k, hk, rfl, rfl, hno, hbr⟩ := hrel
    have hz := hbr.size
    by_cases hlt : k < n
    · obtain ⟨bA, oA, u, rfl, hbA, hq, hcp⟩ := (hA.below hbr).at_ hlt
      have p0 := hcp 0 _ rfl
      have p1 := hcp 1 _ rfl
      have p2 := hcp 2 _ rfl
      rw [Nat.add_zero] at p0
      clear hcp
      have hnoH := Lib.hid hno
      have hqH := Lib.hid hq
      clear hno hq
      go_wp2_with fail
      refine (hp.out u (List.mem_of_getElem? hqH.out) wr (hbr.mono hB)).mono ?_
      rintro e w1 ⟨rfl, hb1⟩
      have hb2 := hbr.trans (hb1.mono hz)
      generalize hx' : p u = r
      cases r
      case true =>
        have hT := Lib.hid (firstG_at hnoH.out hqH.out hx')
        clear hx'
        go_wp2
        go_ret
        exact ⟨ret_int hT.out.symm, hb2⟩
      case false =>
        have hT := Lib.hid hx'
        clear hx'
        go_wp2
        go_roundg (n + 1 - (k + 1))
        case measure => omega
        case rel => exact ⟨k + 1, by omega, rfl, by go_num, all_take_succ hnoH.out hqH.out hT.out, hb2⟩
    · have hT := Lib.hid (firstG_none (p := p) (all_take_all (by rw [show k = n from by omega] at hno; exact hno) hA.len))
      clear hno
      go_wp2
      go_ret
      exact ⟨ret_int hT.out.symm, hbr⟩
theorem cfT_gen (g : Nat) (lb : Array Value) (p : Tm → Bool) (eg : ∀ args w, (callFunc g args).run Try.prog w = .ok (.enter g args) w) (B : Nat) (A : Option Addr) (n c : Nat) (xs : List Tm) (w : World) (hA : RdT w w.heap.size A n xs) (hn : n ≤ maxLen) (hp : PredT g lb p B w xs) (hB : B ≤ w.heap.size) :
    Calls Try.prog 84 #[.slice A n c, .func (.func g) #[] lb] w
      fun e w' => e = .returned (.bool (xs.any p)) ∧ Below w.heap.size w w' := by
  have h := ixfT_gen g lb p eg B A n c xs w hA hn hp hB
  have hrH := Lib.hid (firstG_any p xs)
  clear eg hp
  generalize firstG p xs = z at h hrH
  go_enter Try.func84, Try.ntmps84
  go_wp2_with fail
  refine h.mono ?_
  rintro e w1 ⟨rfl, hb1⟩
  go_wp2
  go_ret
  exact ⟨ret_bool hrH.out, hb1⟩
/-- A function value that answers p of such things, wherever what lay below block B stands. -/
def PredA (g : Nat) (lb : Array Value) (p : Am → Bool) (B : Nat) (w : World) (xs : List Am) : Prop :=
  ∀ x ∈ xs, ∀ w', Below B w w' → Calls Try.prog g (#[.agg #[.int .i64 x.1.1.1, .int .u32 x.1.1.2, .int .i64 x.1.2, .string (bs x.2)]] ++ lb) w' fun e w'' => e = .returned (.bool (p x)) ∧ Below w'.heap.size w' w''
theorem ixfA_gen (g : Nat) (lb : Array Value) (p : Am → Bool) (eg : ∀ args w, (callFunc g args).run Try.prog w = .ok (.enter g args) w) (B : Nat) (A : Option Addr) (n c : Nat) (xs : List Am) (w : World) (hA : RdA w w.heap.size A n xs) (hn : n ≤ maxLen) (hp : PredA g lb p B w xs) (hB : B ≤ w.heap.size) :
    Calls Try.prog 130 #[.slice A n c, .func (.func g) #[] lb] w
      fun e w' => e = .returned (.int .i64 (firstG p xs)) ∧ Below w.heap.size w w' := by
  unfold maxLen at hn
  have hp := Lib.hid hp
  go_enter Try.func130, Try.ntmps130
  go_wp2
  go_loopg [8] (n + 1) (fun g i wr => ∃ k : Nat, k ≤ n ∧ g = n + 1 - k ∧ i = .int .i64 k ∧ (∀ u ∈ xs.take k, p u = false) ∧ Below w.heap.size w wr)
  case atStart => exact ⟨0, Nat.zero_le _, rfl, rfl, by simp, Below.refl _ _⟩
  case round =>
    obtain ⟨k, hk, rfl, rfl, hno, hbr⟩ := hrel
    have hz := hbr.size
    by_cases hlt : k < n
    · obtain ⟨bA, oA, u, rfl, hbA, hq, hcp⟩ := (hA.below hbr).at_ hlt
      have p0 := hcp 0 _ rfl
      have p1 := hcp 1 _ rfl
      have p2 := hcp 2 _ rfl
      have p3 := hcp 3 _ rfl
      rw [Nat.add_zero] at p0
      clear hcp
      have hnoH := Lib.hid hno
      have hqH := Lib.hid hq
      clear hno hq
      go_wp2_with fail
      refine (hp.out u (List.mem_of_getElem? hqH.out) wr (hbr.mono hB)).mono ?_
      rintro e w1 ⟨rfl, hb1⟩
      have hb2 := hbr.trans (hb1.mono hz)
      generalize hx' : p u = r
      cases r
      case true =>
        have hT := Lib.hid (firstG_at hnoH.out hqH.out hx')
        clear hx'
        go_wp2
        go_ret
        exact ⟨ret_int hT.out.symm, hb2⟩
      case false =>
        have hT := Lib.hid hx'
        clear hx'
        go_wp2
        go_roundg (n + 1 - (k + 1))
        case measure => omega
        case rel => exact ⟨k + 1, by omega, rfl, by go_num, all_take_succ hnoH.out hqH.out hT.out, hb2⟩
    · have hT := Lib.hid (firstG_none (p := p) (all_take_all (by rw [show k = n from by omega] at hno; exact hno) hA.len))
      clear hno
      go_wp2
      go_ret
      exact ⟨ret_int hT.out.symm, hbr⟩
theorem cfA_gen (g : Nat) (lb : Array Value) (p : Am → Bool) (eg : ∀ args w, (callFunc g args).run Try.prog w = .ok (.enter g args) w) (B : Nat) (A : Option Addr) (n c : Nat) (xs : List Am) (w : World) (hA : RdA w w.heap.size A n xs) (hn : n ≤ maxLen) (hp : PredA g lb p B w xs) (hB : B ≤ w.heap.size) :
    Calls Try.prog 93 #[.slice A n c, .func (.func g) #[] lb] w
      fun e w' => e = .returned (.bool (xs.any p)) ∧ Below w.heap.size w w' := by
  have h := ixfA_gen g lb p eg B A n c xs w hA hn hp hB
  have hrH := Lib.hid (firstG_any p xs)
  clear eg hp
  generalize firstG p xs = z at h hrH
  go_enter Try.func93, Try.ntmps93
  go_wp2_with fail
  refine h.mono ?_
  rintro e w1 ⟨rfl, hb1⟩
  go_wp2
  go_ret
  exact ⟨ret_bool hrH.out, hb1⟩
end Go.Proofs.Ytadldndmmobpdaa
