/- Tags' and texts' bytes: WriteTag and Text, both. Bytes of stamps and of numbers with a sign: both. -/
import Derived.Test.YtpolplmniaoikaaGreatDoorN08
import Derived.Test.YtpolplmniaoikaaGreatDoorN09
import Derived.Lib.Zigzag
namespace Go.Proofs.YtpolplmniaoikaaGreatDoor
open Go.RowKit

set_option maxRecDepth 100000 in
set_option maxHeartbeats 1000000 in
theorem pwtag_any (t : Tm) (ht : t.wf) (w : World) :
    Calls Tryz.prog 88 #[.agg #[.int .i64 t.1.1, .int .u32 t.1.2, .int .i64 t.2]] w fun e w' => e = .returned (.string (bs (writeT t))) ∧ Below w.heap.size w w' := by
  have hch := pchkt_any t ht
  have hwl := writeI_len t.1
  generalize hr : writeT t = out
  unfold writeT at hr
  have hB0 : Below w.heap.size w (w.alloc (.cells #[.int .i64 t.1.1, .int .u32 t.1.2, .int .i64 t.2] 74)) := (Below.refl _ w).alloc (Nat.le_refl _) _
  have hbx := tbox t w
  generalize hW : w.alloc (.cells #[.int .i64 t.1.1, .int .u32 t.1.2, .int .i64 t.2] 74) = W at hB0 hbx
  have hltx := blk_lt hbx
  have p0 := blk_cell hbx 0
  have p1 := blk_cell hbx 1
  have p2 := blk_cell hbx 2
  simp at p0 p1 p2
  cases hc : chkT t
  · rw [hc] at hr hch
    rw [show errI false = 2 from rfl] at hch
    rw [if_neg (by simp)] at hr
    subst hr
    have hch := Lib.hid hch
    clear hc hbx
    go_enter Tryz.func88, Tryz.ntmps88
    go_wp2_with fail
    refine (hch.out _).mono ?_
    rintro e w1 ⟨rfl, hb⟩
    have hB : Below w.heap.size w w1 := hB0.trans (hb.mono hB0.size)
    go_wp2
    go_ret
    exact ⟨rfl, hB⟩
  · rw [hc] at hr hch
    rw [show errI true = 0 from rfl] at hch
    rw [if_pos rfl] at hr
    have hch := Lib.hid hch
    obtain ⟨x, n⟩ := t
    dsimp only at hwl
    simp only [chkT, Bool.and_eq_true, decide_eq_true_eq] at hc
    obtain ⟨h1, h2, h3⟩ := hc
    obtain ⟨k, rfl⟩ : ∃ k : Nat, n = (k : Int) := ⟨n.toNat, by omega⟩
    have hk0 : (0 : Int) ≤ (k : Int) := by omega
    have hk8 : (k : Int) ≤ 15 := by omega
    simp only [Int.toNat_natCast] at hr
    have hT : Hid (bs (writeI x) ++ bs (numB k) = bs out) := Lib.hid (by rw [bs_append, hr])
    have hsz : ¬ 9223372036854775807 < (bs (writeI x)).size + (bs (numB k)).size := by
      have h5 := numB_len k (by omega)
      rw [bs_size, bs_size]; omega
    have ck := Lib.hid (fun w => num_any k (by omega) w)
    have wk : IntKind.u64.wrap (k : Int) = k := IntWalk.u64_in _ (by omega)
    have cx := Lib.hid (fun w => idw_any x ht w)
    have hbxH := Lib.hid hbx
    clear hr h1 h2 h3 hbx
    dsimp only at p0 p1 p2 hch hW
    go_enter Tryz.func88, Tryz.ntmps88
    go_wp2_with fail
    refine (hch.out _).mono ?_
    rintro e w1 ⟨rfl, hb⟩
    have hB : Below w.heap.size w w1 := hB0.trans (hb.mono hB0.size)
    have hbx1 := blk_below hbxH.out hb
    have hlt1 := blk_lt hbx1
    clear p0 p1 p2
    have p0 := blk_cell hbx1 0
    have p1 := blk_cell hbx1 1
    have p2 := blk_cell hbx1 2
    simp at p0 p1 p2
    clear hbx1 hb
    have hq0 : KQ w1.heap.size w1 w1 := kq (Below.refl _ _)
    go_wp2_with fail
    go_region_held3 (fun w' => KQ w1.heap.size w1 w') (first
      | with_reducible exact kq_call (by assumption) (by simp) (by assumption)
      | with_reducible exact kq_grown (by assumption) (by simp) (by assumption) (by simp [Value.ownBlock])
      | ((with_reducible refine kq ?_); (repeat (first | (with_reducible exact Below.refl _ _) | (with_reducible refine Below.drew ?_) | (with_reducible refine Below.alloc ?_ (by simp) _) | (with_reducible refine Below.setCell ?_ (by simp) _) | (with_reducible exact (by assumption : KQ _ _ _).1))); done))
      (first
        | (go_at_call 36; ((with_reducible refine (ck.out _).mono ?_); rintro e w2 ⟨rfl, hb2⟩))
        | (go_at_call 34; ((with_reducible refine (cx.out _).mono ?_); rintro e w3 ⟨rfl, hb3⟩)))
    all_goals
      go_wp2
      go_ret
      exact ⟨ret_str hT.out, hB.trans ((by with_reducible assumption : KQ w1.heap.size w1 _).1.mono hB.size)⟩
set_option maxRecDepth 100000 in
set_option maxHeartbeats 1000000 in
theorem rwtag_any (t : Tm) (ht : t.wf) (w : World) :
    Calls Tryz.prog 93 #[.agg #[.int .i64 t.1.1, .int .u32 t.1.2, .int .i64 t.2]] w fun e w' => e = .returned (.string (bs (writeT t))) ∧ Below w.heap.size w w' := by
  have hch := rchkt_any t ht
  have hwl := writeI_len t.1
  generalize hr : writeT t = out
  unfold writeT at hr
  have hB0 : Below w.heap.size w (w.alloc (.cells #[.int .i64 t.1.1, .int .u32 t.1.2, .int .i64 t.2] 74)) := (Below.refl _ w).alloc (Nat.le_refl _) _
  have hbx := tbox t w
  generalize hW : w.alloc (.cells #[.int .i64 t.1.1, .int .u32 t.1.2, .int .i64 t.2] 74) = W at hB0 hbx
  have hltx := blk_lt hbx
  have p0 := blk_cell hbx 0
  have p1 := blk_cell hbx 1
  have p2 := blk_cell hbx 2
  simp at p0 p1 p2
  cases hc : chkT t
  · rw [hc] at hr hch
    rw [show errI false = 2 from rfl] at hch
    rw [if_neg (by simp)] at hr
    subst hr
    have hch := Lib.hid hch
    clear hc hbx
    go_enter Tryz.func93, Tryz.ntmps93
    go_wp2_with fail
    refine (hch.out _).mono ?_
    rintro e w1 ⟨rfl, hb⟩
    have hB : Below w.heap.size w w1 := hB0.trans (hb.mono hB0.size)
    go_wp2
    go_ret
    exact ⟨rfl, hB⟩
  · rw [hc] at hr hch
    rw [show errI true = 0 from rfl] at hch
    rw [if_pos rfl] at hr
    have hch := Lib.hid hch
    obtain ⟨x, n⟩ := t
    dsimp only at hwl
    simp only [chkT, Bool.and_eq_true, decide_eq_true_eq] at hc
    obtain ⟨h1, h2, h3⟩ := hc
    obtain ⟨k, rfl⟩ : ∃ k : Nat, n = (k : Int) := ⟨n.toNat, by omega⟩
    have hk0 : (0 : Int) ≤ (k : Int) := by omega
    have hk8 : (k : Int) ≤ 15 := by omega
    simp only [Int.toNat_natCast] at hr
    have hT : Hid (bs (writeI x) ++ bs (numB k) = bs out) := Lib.hid (by rw [bs_append, hr])
    have hsz : ¬ 9223372036854775807 < (bs (writeI x)).size + (bs (numB k)).size := by
      have h5 := numB_len k (by omega)
      rw [bs_size, bs_size]; omega
    have ck := Lib.hid (fun w => rnum_any k (by omega) w)
    have wk : IntKind.u64.wrap (k : Int) = k := IntWalk.u64_in _ (by omega)
    have cx := Lib.hid (fun w => ridw_any x ht w)
    have hbxH := Lib.hid hbx
    clear hr h1 h2 h3 hbx
    dsimp only at p0 p1 p2 hch hW
    go_enter Tryz.func93, Tryz.ntmps93
    go_wp2_with fail
    refine (hch.out _).mono ?_
    rintro e w1 ⟨rfl, hb⟩
    have hB : Below w.heap.size w w1 := hB0.trans (hb.mono hB0.size)
    have hbx1 := blk_below hbxH.out hb
    have hlt1 := blk_lt hbx1
    clear p0 p1 p2
    have p0 := blk_cell hbx1 0
    have p1 := blk_cell hbx1 1
    have p2 := blk_cell hbx1 2
    simp at p0 p1 p2
    clear hbx1 hb
    have hq0 : KQ w1.heap.size w1 w1 := kq (Below.refl _ _)
    go_wp2_with fail
    go_region_held3 (fun w' => KQ w1.heap.size w1 w') (first
      | with_reducible exact kq_call (by assumption) (by simp) (by assumption)
      | with_reducible exact kq_grown (by assumption) (by simp) (by assumption) (by simp [Value.ownBlock])
      | ((with_reducible refine kq ?_); (repeat (first | (with_reducible exact Below.refl _ _) | (with_reducible refine Below.drew ?_) | (with_reducible refine Below.alloc ?_ (by simp) _) | (with_reducible refine Below.setCell ?_ (by simp) _) | (with_reducible exact (by assumption : KQ _ _ _).1))); done))
      (first
        | (go_at_call 42; ((with_reducible refine (ck.out _).mono ?_); rintro e w2 ⟨rfl, hb2⟩))
        | (go_at_call 40; ((with_reducible refine (cx.out _).mono ?_); rintro e w3 ⟨rfl, hb3⟩)))
    all_goals
      go_wp2
      go_ret
      exact ⟨ret_str hT.out, hB.trans ((by with_reducible assumption : KQ w1.heap.size w1 _).1.mono hB.size)⟩
set_option maxRecDepth 100000 in
set_option maxHeartbeats 1000000 in
theorem pwtext_any (s : List UInt8) (hs : s.length ≤ 1099511627776) (w : World) :
    Calls Tryz.prog 38 #[.string (bs s)] w fun e w' => e = .returned (.string (bs (textB s))) ∧ Below w.heap.size w w' := by
  have hT : Hid (bs (numB s.length) ++ bs s = bs (textB s)) := Lib.hid (by rw [bs_append]; rfl)
  have hsz : ¬ 9223372036854775807 < (bs (numB s.length)).size + (bs s).size := by
    have h5 := numB_len s.length (by omega)
    rw [bs_size, bs_size]; omega
  have ck := Lib.hid (fun w => num_any s.length (by omega) w)
  have wk : IntKind.u64.wrap (((bs s).size : Nat) : Int) = (s.length : Int) := by rw [bs_size]; exact IntWalk.u64_in _ (by omega)
  go_enter Tryz.func38, Tryz.ntmps38
  go_wp2_with fail
  refine (ck.out _).mono ?_
  rintro e w1 ⟨rfl, hb⟩
  go_wp2
  go_ret
  exact ⟨ret_str hT.out, hb⟩
set_option maxRecDepth 100000 in
set_option maxHeartbeats 1000000 in
theorem rwtext_any (s : List UInt8) (hs : s.length ≤ 1099511627776) (w : World) :
    Calls Tryz.prog 44 #[.string (bs s)] w fun e w' => e = .returned (.string (bs (textB s))) ∧ Below w.heap.size w w' := by
  have hT : Hid (bs (numB s.length) ++ bs s = bs (textB s)) := Lib.hid (by rw [bs_append]; rfl)
  have hsz : ¬ 9223372036854775807 < (bs (numB s.length)).size + (bs s).size := by
    have h5 := numB_len s.length (by omega)
    rw [bs_size, bs_size]; omega
  have ck := Lib.hid (fun w => rnum_any s.length (by omega) w)
  have wk : IntKind.u64.wrap (((bs s).size : Nat) : Int) = (s.length : Int) := by rw [bs_size]; exact IntWalk.u64_in _ (by omega)
  go_enter Tryz.func44, Tryz.ntmps44
  go_wp2_with fail
  refine (ck.out _).mono ?_
  rintro e w1 ⟨rfl, hb⟩
  go_wp2
  go_ret
  exact ⟨ret_str hT.out, hb⟩
end Go.Proofs.YtpolplmniaoikaaGreatDoor
namespace Go.Proofs.YtpolplmniaoikaaGreatDoor
open Go.RowKit

theorem zig_pos {v : Int} (h0 : 0 ≤ v) (h2 : v ≤ 9223372036854775807) : bits .xor .u64 (v * 2) (v / 9223372036854775808) = ((zig v : Nat) : Int) := by
  rw [show v / 9223372036854775808 = 0 by omega, u64_xor _ _ (by omega) (by omega) (by decide) (by decide), show (0 : Int).toNat = 0 from rfl, Nat.xor_zero]
  unfold zig
  rw [if_pos h0]; omega
theorem zig_neg {v : Int} (h1 : -9223372036854775808 ≤ v) (h0 : v < 0) : bits .xor .u64 (IntKind.u64.wrap (IntKind.u64.wrap v * 2)) (IntKind.u64.wrap (v / 9223372036854775808)) = ((zig v : Nat) : Int) := by
  have e1 : IntKind.u64.wrap (IntKind.u64.wrap v * 2) = (((2 * v + 18446744073709551616).toNat : Nat) : Int) := by
    rw [IntKind.wrap_u64, IntKind.wrap_u64]; omega
  have e2 : IntKind.u64.wrap (v / 9223372036854775808) = ((2 ^ 64 - 1 : Nat) : Int) := by
    rw [IntKind.wrap_u64]; omega
  rw [e1, e2, bits_xor_u64_nat _ _ (by omega) (by decide), Nat.xor_comm, Lib.xor_ones64 _ (by omega)]
  unfold zig
  rw [if_neg (by omega)]; omega
theorem xor_zero64 {n : Int} (h0 : 0 ≤ n) (h1 : n < 9223372036854775808) : bits .xor .i64 n 0 = n := by
  show IntKind.i64.wrap ((BitVec.ofInt 64 n ^^^ BitVec.ofInt 64 0).toNat : Int) = n
  obtain ⟨k, rfl⟩ := Int.eq_ofNat_of_zero_le h0
  have h2 : (BitVec.ofInt 64 ((k : Nat) : Int)).toNat = k := by
    rw [BitVec.ofInt_natCast, BitVec.toNat_ofNat]; exact Nat.mod_eq_of_lt (by omega)
  rw [BitVec.toNat_xor, h2, show (BitVec.ofInt 64 0).toNat = 0 from rfl, Nat.xor_zero]
  exact IntWalk.i64_in _ (by omega)
theorem xor_ones_i64 {n : Int} (h0 : 0 ≤ n) (h1 : n < 9223372036854775808) : bits .xor .i64 n (-1) = -n - 1 := by
  show IntKind.i64.wrap ((BitVec.ofInt 64 n ^^^ BitVec.ofInt 64 (-1)).toNat : Int) = _
  obtain ⟨k, rfl⟩ := Int.eq_ofNat_of_zero_le h0
  have h := Lib.i64_not k (by omega)
  have h' : IntKind.i64.wrap ((BitVec.ofInt 64 (-1) ^^^ BitVec.ofInt 64 (k : Int)).toNat : Int) = -(k : Int) - 1 := h
  rw [BitVec.toNat_xor, Nat.xor_comm, ← BitVec.toNat_xor]
  exact h'
set_option maxRecDepth 100000 in
set_option maxHeartbeats 1000000 in
theorem plw_any (x : Sm) (hx : x.wf) (w : World) :
    Calls Tryz.prog 90 #[.agg #[.int .u32 x.1, .int .i64 x.2]] w fun e w' => e = .returned (.string (bs (writeS x))) ∧ Below w.heap.size w w' := by
  have hch := plchk_any x hx
  generalize hr : writeS x = out
  unfold writeS at hr
  cases hc : chkS x
  · rw [hc] at hr hch
    rw [show errI false = 2 from rfl] at hch
    rw [if_neg (by simp)] at hr
    subst hr
    have hch := Lib.hid hch
    clear hc
    obtain ⟨o, s⟩ := x
    go_enter Tryz.func90, Tryz.ntmps90
    go_wp2_with fail
    refine (hch.out _).mono ?_
    rintro e w1 ⟨rfl, hb⟩
    have hB : Below w.heap.size w w1 := ((Below.refl _ w).alloc (Nat.le_refl _) _).trans (hb.mono (by simp))
    go_wp2
    go_ret
    exact ⟨rfl, hB⟩
  · rw [hc] at hr hch
    rw [show errI true = 0 from rfl] at hch
    rw [if_pos rfl] at hr
    have hch := Lib.hid hch
    obtain ⟨o, s⟩ := x
    simp only [chkS, decide_eq_true_eq] at hc
    obtain ⟨h1, h2, h3⟩ := hc
    have h0 := hx.1
    dsimp only at h0
    obtain ⟨k, rfl⟩ : ∃ k : Nat, o = (k : Int) := ⟨o.toNat, by omega⟩
    obtain ⟨m, rfl⟩ : ∃ m : Nat, s = (m : Int) := ⟨s.toNat, by omega⟩
    have hk0 : (0 : Int) ≤ (k : Int) := by omega
    have hk1 : (k : Int) ≤ 1048576 := by omega
    have hm0 : (0 : Int) ≤ (m : Int) := by omega
    have hm8 : (m : Int) ≤ 7 := by omega
    simp only [Int.toNat_natCast] at hr
    have hT : Hid (bs (numB k) ++ bs (numB m) = bs out) := Lib.hid (by rw [bs_append, hr])
    have hsz : ¬ 9223372036854775807 < (bs (numB k)).size + (bs (numB m)).size := by
      have h5 := numB_len k (by omega)
      have h6 := numB_len m (by omega)
      rw [bs_size, bs_size]; omega
    have ck := Lib.hid (fun w => num_any k (by omega) w)
    have wk : IntKind.u64.wrap (k : Int) = k := IntWalk.u64_in _ (by omega)
    have wm : IntKind.u64.wrap (m : Int) = m := IntWalk.u64_in _ (by omega)
    have cm := Lib.hid (fun w => num_any m (by omega) w)
    clear hr hx h0 h1 h2 h3
    go_enter Tryz.func90, Tryz.ntmps90
    go_wp2_with fail
    refine (hch.out _).mono ?_
    rintro e w1 ⟨rfl, hb⟩
    have hz := hb.size
    simp only [World.size_alloc] at hz
    have hbI : w1.heap[w.heap.size]? = some (.cells #[.int .u32 (k : Int), .int .i64 (m : Int)] 76 (0, 0)) := (hb.block _ (by simp)).trans (heap_at _ _ rfl)
    have i0 := blk_cell hbI 0
    have i1 := blk_cell hbI 1
    simp at i0 i1
    have hB : Below w.heap.size w w1 := ((Below.refl _ w).alloc (Nat.le_refl _) _).trans (hb.mono (by simp))
    have hlt : w.heap.size < w1.heap.size := by omega
    have hq0 : KQ w1.heap.size w1 w1 := kq (Below.refl _ _)
    clear hbI hb hz
    go_wp2_with fail
    go_region_held3 (fun w' => KQ w1.heap.size w1 w') (first
      | with_reducible exact kq_call (by assumption) (by simp) (by assumption)
      | with_reducible exact kq_grown (by assumption) (by simp) (by assumption) (by simp [Value.ownBlock])
      | ((with_reducible refine kq ?_); (repeat (first | (with_reducible exact Below.refl _ _) | (with_reducible refine Below.drew ?_) | (with_reducible refine Below.alloc ?_ (by simp) _) | (with_reducible refine Below.setCell ?_ (by simp) _) | (with_reducible exact (by assumption : KQ _ _ _).1))); done))
      (first | (go_at_call 36; (first | ((with_reducible refine (ck.out _).mono ?_); rintro e w2 ⟨rfl, hb2⟩) | ((with_reducible refine (cm.out _).mono ?_); rintro e w3 ⟨rfl, hb3⟩))))
    all_goals
      go_wp2
      go_ret
      exact ⟨ret_str hT.out, hB.trans ((by with_reducible assumption : KQ w1.heap.size w1 _).1.mono (by omega))⟩
set_option maxRecDepth 100000 in
set_option maxHeartbeats 1000000 in
theorem rlw_any (x : Sm) (hx : x.wf) (w : World) :
    Calls Tryz.prog 95 #[.agg #[.int .u32 x.1, .int .i64 x.2]] w fun e w' => e = .returned (.string (bs (writeS x))) ∧ Below w.heap.size w w' := by
  have hch := rlchk_any x hx
  generalize hr : writeS x = out
  unfold writeS at hr
  cases hc : chkS x
  · rw [hc] at hr hch
    rw [show errI false = 2 from rfl] at hch
    rw [if_neg (by simp)] at hr
    subst hr
    have hch := Lib.hid hch
    clear hc
    obtain ⟨o, s⟩ := x
    go_enter Tryz.func95, Tryz.ntmps95
    go_wp2_with fail
    refine (hch.out _).mono ?_
    rintro e w1 ⟨rfl, hb⟩
    have hB : Below w.heap.size w w1 := ((Below.refl _ w).alloc (Nat.le_refl _) _).trans (hb.mono (by simp))
    go_wp2
    go_ret
    exact ⟨rfl, hB⟩
  · rw [hc] at hr hch
    rw [show errI true = 0 from rfl] at hch
    rw [if_pos rfl] at hr
    have hch := Lib.hid hch
    obtain ⟨o, s⟩ := x
    simp only [chkS, decide_eq_true_eq] at hc
    obtain ⟨h1, h2, h3⟩ := hc
    have h0 := hx.1
    dsimp only at h0
    obtain ⟨k, rfl⟩ : ∃ k : Nat, o = (k : Int) := ⟨o.toNat, by omega⟩
    obtain ⟨m, rfl⟩ : ∃ m : Nat, s = (m : Int) := ⟨s.toNat, by omega⟩
    have hk0 : (0 : Int) ≤ (k : Int) := by omega
    have hk1 : (k : Int) ≤ 1048576 := by omega
    have hm0 : (0 : Int) ≤ (m : Int) := by omega
    have hm8 : (m : Int) ≤ 7 := by omega
    simp only [Int.toNat_natCast] at hr
    have hT : Hid (bs (numB k) ++ bs (numB m) = bs out) := Lib.hid (by rw [bs_append, hr])
    have hsz : ¬ 9223372036854775807 < (bs (numB k)).size + (bs (numB m)).size := by
      have h5 := numB_len k (by omega)
      have h6 := numB_len m (by omega)
      rw [bs_size, bs_size]; omega
    have ck := Lib.hid (fun w => rnum_any k (by omega) w)
    have wk : IntKind.u64.wrap (k : Int) = k := IntWalk.u64_in _ (by omega)
    have wm : IntKind.u64.wrap (m : Int) = m := IntWalk.u64_in _ (by omega)
    have cm := Lib.hid (fun w => rnum_any m (by omega) w)
    clear hr hx h0 h1 h2 h3
    go_enter Tryz.func95, Tryz.ntmps95
    go_wp2_with fail
    refine (hch.out _).mono ?_
    rintro e w1 ⟨rfl, hb⟩
    have hz := hb.size
    simp only [World.size_alloc] at hz
    have hbI : w1.heap[w.heap.size]? = some (.cells #[.int .u32 (k : Int), .int .i64 (m : Int)] 76 (0, 0)) := (hb.block _ (by simp)).trans (heap_at _ _ rfl)
    have i0 := blk_cell hbI 0
    have i1 := blk_cell hbI 1
    simp at i0 i1
    have hB : Below w.heap.size w w1 := ((Below.refl _ w).alloc (Nat.le_refl _) _).trans (hb.mono (by simp))
    have hlt : w.heap.size < w1.heap.size := by omega
    have hq0 : KQ w1.heap.size w1 w1 := kq (Below.refl _ _)
    clear hbI hb hz
    go_wp2_with fail
    go_region_held3 (fun w' => KQ w1.heap.size w1 w') (first
      | with_reducible exact kq_call (by assumption) (by simp) (by assumption)
      | with_reducible exact kq_grown (by assumption) (by simp) (by assumption) (by simp [Value.ownBlock])
      | ((with_reducible refine kq ?_); (repeat (first | (with_reducible exact Below.refl _ _) | (with_reducible refine Below.drew ?_) | (with_reducible refine Below.alloc ?_ (by simp) _) | (with_reducible refine Below.setCell ?_ (by simp) _) | (with_reducible exact (by assumption : KQ _ _ _).1))); done))
      (first | (go_at_call 42; (first | ((with_reducible refine (ck.out _).mono ?_); rintro e w2 ⟨rfl, hb2⟩) | ((with_reducible refine (cm.out _).mono ?_); rintro e w3 ⟨rfl, hb3⟩))))
    all_goals
      go_wp2
      go_ret
      exact ⟨ret_str hT.out, hB.trans ((by with_reducible assumption : KQ w1.heap.size w1 _).1.mono (by omega))⟩
set_option maxRecDepth 100000 in
theorem psg_any (v : Int) (h1 : -9223372036854775808 ≤ v) (h2 : v ≤ 9223372036854775807) (w : World) :
    Calls Tryz.prog 87 #[.int .i64 v] w fun e w' => e = .returned (.string (bs (writeZ v))) ∧ Below w.heap.size w w' := by
  have hc := Lib.hid (fun w => num_any (zig v) (zig_lt h1 h2) w)
  by_cases h0 : 0 ≤ v
  · have hx := Lib.hid (zig_pos h0 h2)
    go_enter Tryz.func87, Tryz.ntmps87
    go_wp2_with fail
    rw [hx.out]
    refine (hc.out _).mono ?_
    rintro e w1 ⟨rfl, hb⟩
    go_wp2
    go_ret
    exact ⟨rfl, hb⟩
  · have h3 : v < 0 := by omega
    have hx := Lib.hid (zig_neg h1 h3)
    go_enter Tryz.func87, Tryz.ntmps87
    go_wp2_with fail
    rw [hx.out]
    refine (hc.out _).mono ?_
    rintro e w1 ⟨rfl, hb⟩
    go_wp2
    go_ret
    exact ⟨rfl, hb⟩
set_option maxRecDepth 100000 in
theorem rsg_any (v : Int) (h1 : -9223372036854775808 ≤ v) (h2 : v ≤ 9223372036854775807) (w : World) :
    Calls Tryz.prog 92 #[.int .i64 v] w fun e w' => e = .returned (.string (bs (writeZ v))) ∧ Below w.heap.size w w' := by
  have hc := Lib.hid (fun w => rnum_any (zig v) (zig_lt h1 h2) w)
  by_cases h0 : 0 ≤ v
  · have hx : Hid (2 * v = ((zig v : Nat) : Int)) := Lib.hid (by unfold zig; rw [if_pos h0]; omega)
    go_enter Tryz.func92, Tryz.ntmps92
    go_wp2_with fail
    rw [hx.out]
    refine (hc.out _).mono ?_
    rintro e w1 ⟨rfl, hb⟩
    go_wp2
    go_ret
    exact ⟨rfl, hb⟩
  · have h3 : v < 0 := by omega
    have hx : Hid (2 * -(v + 1) + 1 = ((zig v : Nat) : Int)) := Lib.hid (by unfold zig; rw [if_neg h0]; omega)
    go_enter Tryz.func92, Tryz.ntmps92
    go_wp2_with fail
    rw [hx.out]
    refine (hc.out _).mono ?_
    rintro e w1 ⟨rfl, hb⟩
    go_wp2
    go_ret
    exact ⟨rfl, hb⟩
end Go.Proofs.YtpolplmniaoikaaGreatDoor
