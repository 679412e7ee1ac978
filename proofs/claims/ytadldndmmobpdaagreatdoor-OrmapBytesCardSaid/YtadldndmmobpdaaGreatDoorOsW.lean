/- Tags' and texts' bytes: WriteTag and Text, both. -/
import Derived.Test.YtadldndmmobpdaaGreatDoorOsD
import Derived.Test.YtadldndmmobpdaaGreatDoorTl
namespace Go.Proofs.YtadldndmmobpdaaGreatDoor
open Go.RowKit

set_option maxRecDepth 100000 in
set_option maxHeartbeats 1000000 in
theorem pwtag_any (t : Tm) (ht : t.wf) (w : World) :
    Calls Tryz.prog 18 #[.agg #[.int .i64 t.1.1, .int .u32 t.1.2, .int .i64 t.2]] w fun e w' => e = .returned (.string (bs (writeT t))) ∧ Below w.heap.size w w' := by
  have hch := pchkt_any t ht
  have hwl := writeI_len t.1
  generalize hr : writeT t = out
  unfold writeT at hr
  have hB0 : Below w.heap.size w (w.alloc (.cells #[.int .i64 t.1.1, .int .u32 t.1.2, .int .i64 t.2] 60)) := (Below.refl _ w).alloc (Nat.le_refl _) _
  have hbx := tbox t w
  generalize hW : w.alloc (.cells #[.int .i64 t.1.1, .int .u32 t.1.2, .int .i64 t.2] 60) = W at hB0 hbx
  have hltx := blk_lt hbx
  have p0 := blk_cell hbx 0
  have p1 := blk_cell hbx 1
  have p2 := blk_cell hbx 2
  simp at p0 p1 p2
  cases hc : chkT t
  · rw [hc] at hr hch
    rw [show errI false = 2 from rfl] at hch
    rw [if_neg (by simp)] at hr
    subst hr
    have hch := Lib.hid hch
    clear hc hbx
    go_enter Tryz.func18, Tryz.ntmps18
    go_wp2_with fail
    refine (hch.out _).mono ?_
    rintro e w1 ⟨rfl, hb⟩
    have hB : Below w.heap.size w w1 := hB0.trans (hb.mono hB0.size)
    go_wp2
    go_ret
    exact ⟨rfl, hB⟩
  · rw [hc] at hr hch
    rw [show errI true = 0 from rfl] at hch
    rw [if_pos rfl] at hr
    have hch := Lib.hid hch
    obtain ⟨x, n⟩ := t
    dsimp only at hwl
    simp only [chkT, Bool.and_eq_true, decide_eq_true_eq] at hc
    obtain ⟨h1, h2, h3⟩ := hc
    obtain ⟨k, rfl⟩ : ∃ k : Nat, n = (k : Int) := ⟨n.toNat, by omega⟩
    have hk0 : (0 : Int) ≤ (k : Int) := by omega
    have hk8 : (k : Int) ≤ 15 := by omega
    simp only [Int.toNat_natCast] at hr
    have hT : Hid (bs (writeI x) ++ bs (numB k) = bs out) := Lib.hid (by rw [bs_append, hr])
    have hsz : ¬ 9223372036854775807 < (bs (writeI x)).size + (bs (numB k)).size := by
      have h5 := numB_len k (by omega)
      rw [bs_size, bs_size]; omega
    have ck := Lib.hid (fun w => num_any k (by omega) w)
    have wk : IntKind.u64.wrap (k : Int) = k := IntWalk.u64_in _ (by omega)
    have cx := Lib.hid (fun w => idw_any x ht w)
    have hbxH := Lib.hid hbx
    clear hr h1 h2 h3 hbx
    dsimp only at p0 p1 p2 hch hW
    go_enter Tryz.func18, Tryz.ntmps18
    go_wp2_with fail
    refine (hch.out _).mono ?_
    rintro e w1 ⟨rfl, hb⟩
    have hB : Below w.heap.size w w1 := hB0.trans (hb.mono hB0.size)
    have hbx1 := blk_below hbxH.out hb
    have hlt1 := blk_lt hbx1
    clear p0 p1 p2
    have p0 := blk_cell hbx1 0
    have p1 := blk_cell hbx1 1
    have p2 := blk_cell hbx1 2
    simp at p0 p1 p2
    clear hbx1 hb
    have hq0 : KQ w1.heap.size w1 w1 := kq (Below.refl _ _)
    go_wp2_with fail
    go_region_held3 (fun w' => KQ w1.heap.size w1 w') (first
      | with_reducible exact kq_call (by assumption) (by simp) (by assumption)
      | with_reducible exact kq_grown (by assumption) (by simp) (by assumption) (by simp [Value.ownBlock])
      | ((with_reducible refine kq ?_); (repeat (first | (with_reducible exact Below.refl _ _) | (with_reducible refine Below.drew ?_) | (with_reducible refine Below.alloc ?_ (by simp) _) | (with_reducible refine Below.setCell ?_ (by simp) _) | (with_reducible exact (by assumption : KQ _ _ _).1))); done))
      (first
        | (go_at_call 17; ((with_reducible refine (ck.out _).mono ?_); rintro e w2 ⟨rfl, hb2⟩))
        | (go_at_call 48; ((with_reducible refine (cx.out _).mono ?_); rintro e w3 ⟨rfl, hb3⟩)))
    all_goals
      go_wp2
      go_ret
      exact ⟨ret_str hT.out, hB.trans ((by with_reducible assumption : KQ w1.heap.size w1 _).1.mono hB.size)⟩
set_option maxRecDepth 100000 in
set_option maxHeartbeats 1000000 in
theorem rwtag_any (t : Tm) (ht : t.wf) (w : World) :
    Calls Tryz.prog 25 #[.agg #[.int .i64 t.1.1, .int .u32 t.1.2, .int .i64 t.2]] w fun e w' => e = .returned (.string (bs (writeT t))) ∧ Below w.heap.size w w' := by
  have hch := rchkt_any t ht
  have hwl := writeI_len t.1
  generalize hr : writeT t = out
  unfold writeT at hr
  have hB0 : Below w.heap.size w (w.alloc (.cells #[.int .i64 t.1.1, .int .u32 t.1.2, .int .i64 t.2] 60)) := (Below.refl _ w).alloc (Nat.le_refl _) _
  have hbx := tbox t w
  generalize hW : w.alloc (.cells #[.int .i64 t.1.1, .int .u32 t.1.2, .int .i64 t.2] 60) = W at hB0 hbx
  have hltx := blk_lt hbx
  have p0 := blk_cell hbx 0
  have p1 := blk_cell hbx 1
  have p2 := blk_cell hbx 2
  simp at p0 p1 p2
  cases hc : chkT t
  · rw [hc] at hr hch
    rw [show errI false = 2 from rfl] at hch
    rw [if_neg (by simp)] at hr
    subst hr
    have hch := Lib.hid hch
    clear hc hbx
    go_enter Tryz.func25, Tryz.ntmps25
    go_wp2_with fail
    refine (hch.out _).mono ?_
    rintro e w1 ⟨rfl, hb⟩
    have hB : Below w.heap.size w w1 := hB0.trans (hb.mono hB0.size)
    go_wp2
    go_ret
    exact ⟨rfl, hB⟩
  · rw [hc] at hr hch
    rw [show errI true = 0 from rfl] at hch
    rw [if_pos rfl] at hr
    have hch := Lib.hid hch
    obtain ⟨x, n⟩ := t
    dsimp only at hwl
    simp only [chkT, Bool.and_eq_true, decide_eq_true_eq] at hc
    obtain ⟨h1, h2, h3⟩ := hc
    obtain ⟨k, rfl⟩ : ∃ k : Nat, n = (k : Int) := ⟨n.toNat, by omega⟩
    have hk0 : (0 : Int) ≤ (k : Int) := by omega
    have hk8 : (k : Int) ≤ 15 := by omega
    simp only [Int.toNat_natCast] at hr
    have hT : Hid (bs (writeI x) ++ bs (numB k) = bs out) := Lib.hid (by rw [bs_append, hr])
    have hsz : ¬ 9223372036854775807 < (bs (writeI x)).size + (bs (numB k)).size := by
      have h5 := numB_len k (by omega)
      rw [bs_size, bs_size]; omega
    have ck := Lib.hid (fun w => rnum_any k (by omega) w)
    have wk : IntKind.u64.wrap (k : Int) = k := IntWalk.u64_in _ (by omega)
    have cx := Lib.hid (fun w => ridw_any x ht w)
    have hbxH := Lib.hid hbx
    clear hr h1 h2 h3 hbx
    dsimp only at p0 p1 p2 hch hW
    go_enter Tryz.func25, Tryz.ntmps25
    go_wp2_with fail
    refine (hch.out _).mono ?_
    rintro e w1 ⟨rfl, hb⟩
    have hB : Below w.heap.size w w1 := hB0.trans (hb.mono hB0.size)
    have hbx1 := blk_below hbxH.out hb
    have hlt1 := blk_lt hbx1
    clear p0 p1 p2
    have p0 := blk_cell hbx1 0
    have p1 := blk_cell hbx1 1
    have p2 := blk_cell hbx1 2
    simp at p0 p1 p2
    clear hbx1 hb
    have hq0 : KQ w1.heap.size w1 w1 := kq (Below.refl _ _)
    go_wp2_with fail
    go_region_held3 (fun w' => KQ w1.heap.size w1 w') (first
      | with_reducible exact kq_call (by assumption) (by simp) (by assumption)
      | with_reducible exact kq_grown (by assumption) (by simp) (by assumption) (by simp [Value.ownBlock])
      | ((with_reducible refine kq ?_); (repeat (first | (with_reducible exact Below.refl _ _) | (with_reducible refine Below.drew ?_) | (with_reducible refine Below.alloc ?_ (by simp) _) | (with_reducible refine Below.setCell ?_ (by simp) _) | (with_reducible exact (by assumption : KQ _ _ _).1))); done))
      (first
        | (go_at_call 24; ((with_reducible refine (ck.out _).mono ?_); rintro e w2 ⟨rfl, hb2⟩))
        | (go_at_call 54; ((with_reducible refine (cx.out _).mono ?_); rintro e w3 ⟨rfl, hb3⟩)))
    all_goals
      go_wp2
      go_ret
      exact ⟨ret_str hT.out, hB.trans ((by with_reducible assumption : KQ w1.heap.size w1 _).1.mono hB.size)⟩
set_option maxRecDepth 100000 in
set_option maxHeartbeats 1000000 in
theorem pwtext_any (s : List UInt8) (hs : s.length ≤ 1099511627776) (w : World) :
    Calls Tryz.prog 19 #[.string (bs s)] w fun e w' => e = .returned (.string (bs (textB s))) ∧ Below w.heap.size w w' := by
  have hT : Hid (bs (numB s.length) ++ bs s = bs (textB s)) := Lib.hid (by rw [bs_append]; rfl)
  have hsz : ¬ 9223372036854775807 < (bs (numB s.length)).size + (bs s).size := by
    have h5 := numB_len s.length (by omega)
    rw [bs_size, bs_size]; omega
  have ck := Lib.hid (fun w => num_any s.length (by omega) w)
  have wk : IntKind.u64.wrap (((bs s).size : Nat) : Int) = (s.length : Int) := by rw [bs_size]; exact IntWalk.u64_in _ (by omega)
  go_enter Tryz.func19, Tryz.ntmps19
  go_wp2_with fail
  refine (ck.out _).mono ?_
  rintro e w1 ⟨rfl, hb⟩
  go_wp2
  go_ret
  exact ⟨ret_str hT.out, hb⟩
set_option maxRecDepth 100000 in
set_option maxHeartbeats 1000000 in
theorem rwtext_any (s : List UInt8) (hs : s.length ≤ 1099511627776) (w : World) :
    Calls Tryz.prog 26 #[.string (bs s)] w fun e w' => e = .returned (.string (bs (textB s))) ∧ Below w.heap.size w w' := by
  have hT : Hid (bs (numB s.length) ++ bs s = bs (textB s)) := Lib.hid (by rw [bs_append]; rfl)
  have hsz : ¬ 9223372036854775807 < (bs (numB s.length)).size + (bs s).size := by
    have h5 := numB_len s.length (by omega)
    rw [bs_size, bs_size]; omega
  have ck := Lib.hid (fun w => rnum_any s.length (by omega) w)
  have wk : IntKind.u64.wrap (((bs s).size : Nat) : Int) = (s.length : Int) := by rw [bs_size]; exact IntWalk.u64_in _ (by omega)
  go_enter Tryz.func26, Tryz.ntmps26
  go_wp2_with fail
  refine (ck.out _).mono ?_
  rintro e w1 ⟨rfl, hb⟩
  go_wp2
  go_ret
  exact ⟨ret_str hT.out, hb⟩
end Go.Proofs.YtadldndmmobpdaaGreatDoor
