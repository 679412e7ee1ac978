/- Registers: which of two is later; a register behind a write (all that is asked: it is a register). -/
import Derived.Test.YtffnpfponnhddaaGreatM19
import Derived.Test.YtffnpfponnhddaaGreatN11
namespace Go.Proofs.YtffnpfponnhddaaGreat
open Go.RowKit

theorem nan64_any (a : Int) (w : World) : Calls Tryz.prog 136 #[.int .i64 a] w fun e w' => e = .returned (.bool false) ∧ w' = w := by
  go_enter Tryz.func136, Tryz.ntmps136
  go_wp2
  go_ret
  exact ⟨rfl, rfl⟩
theorem ccmp64_any (a b : Int) (w : World) :
    Calls Tryz.prog 105 #[.int .i64 a, .int .i64 b] w fun e w' => e = .returned (.int .i64 (ordI a b)) ∧ w' = w := by
  by_cases h1 : a < b
  · go_enter Tryz.func105, Tryz.ntmps105
    go_wp2_with (go_at_call 136; refine (nan64_any _ _).mono ?_; rintro e w' ⟨rfl, rfl⟩)
    go_ret
    exact ⟨ret_int (by unfold ordI; (repeat' split) <;> omega), rfl⟩
  by_cases h2 : b < a
  · go_enter Tryz.func105, Tryz.ntmps105
    go_wp2_with (go_at_call 136; refine (nan64_any _ _).mono ?_; rintro e w' ⟨rfl, rfl⟩)
    go_ret
    exact ⟨ret_int (by unfold ordI; (repeat' split) <;> omega), rfl⟩
  · go_enter Tryz.func105, Tryz.ntmps105
    go_wp2_with (go_at_call 136; refine (nan64_any _ _).mono ?_; rintro e w' ⟨rfl, rfl⟩)
    go_ret
    exact ⟨ret_int (by unfold ordI; (repeat' split) <;> omega), rfl⟩
theorem orE_any (g : Nat) (p q : Int) (w : World) (hg : g < w.heap.size) (h0 : w.cell? ⟨g, 0, none⟩ = some (.int .i64 p)) (h1 : w.cell? ⟨g, 1, none⟩ = some (.int .i64 q)) :
    Calls Tryz.prog 65 #[.slice (some ⟨g, 0, none⟩) 2 2] w fun e w' => e = .returned (.int .i64 (if p ≠ 0 then p else q)) ∧ w' = w := by
  generalize hr : (if p ≠ 0 then p else q) = r
  have hrH := Lib.hid hr
  clear hr
  go_enter Tryz.func65, Tryz.ntmps65
  go_wp2
  go_loopg [8] 3 (fun g' i wr => ∃ k : Nat, k ≤ 2 ∧ g' = 3 - k ∧ i = .int .i64 k ∧ wr = w ∧ (1 ≤ k → p = 0) ∧ (2 ≤ k → q = 0))
  case atStart => exact ⟨0, by omega, rfl, rfl, rfl, by omega, by omega⟩
  case round =>
    obtain ⟨k, hk, rfl, rfl, rfl, hp, hq⟩ := hrel
    obtain rfl | rfl | rfl : k = 0 ∨ k = 1 ∨ k = 2 := by omega
    · by_cases h : p = 0
      · subst h
        go_wp2
        go_roundg 2
        case measure => omega
        case rel => exact ⟨1, by omega, rfl, by go_num, rfl, fun _ => (by first | trivial | rfl), by omega⟩
      · have hT := Lib.hid h
        have hd : (p == 0) = false := by simpa using h
        go_wp2
        go_ret
        exact ⟨ret_int (by rw [← hrH.out, if_pos hT.out]), rfl⟩
    · have hp' := Lib.hid (hp (by omega))
      clear hp
      by_cases h : q = 0
      · subst h
        go_wp2
        go_roundg 1
        case measure => omega
        case rel => exact ⟨2, by omega, rfl, by go_num, rfl, fun _ => hp'.out, fun _ => (by first | trivial | rfl)⟩
      · have hd : (q == 0) = false := by simpa using h
        go_wp2
        go_ret
        exact ⟨ret_int (by rw [← hrH.out, if_neg (by simp [hp'.out])]), rfl⟩
    · have hp' := Lib.hid (hp (by omega))
      have hq' := Lib.hid (hq (by omega))
      clear hp hq
      go_wp2
      go_ret
      exact ⟨ret_int (by rw [← hrH.out, if_neg (by simp [hp'.out])]; exact hq'.out.symm), rfl⟩
set_option maxRecDepth 100000 in
set_option maxHeartbeats 1000000 in
theorem lmerge_any (v : Int) (s : Sm) (u : Int) (t : Sm) (w : World) :
    Calls Tryz.prog 66 #[.agg #[.int .i64 v, .int .u32 s.1, .int .i64 s.2], .agg #[.int .i64 u, .int .u32 t.1, .int .i64 t.2]] w fun e w' => ∃ v' t' o', e = .returned (.agg #[.int .i64 v', .int .u32 t', .int .i64 o']) ∧ Below w.heap.size w w' := by
  have hc1 := plcmp_any s t
  have hc2 := ccmp64_any v u
  have ho := or_any
  generalize cmpS s t = p at *
  generalize ordI v u = q at *
  have hc1 := Lib.hid hc1
  have hc2 := Lib.hid hc2
  generalize hr : (if p ≠ 0 then p else q) = r
  have ho := Lib.hid (fun g w h0 h1 h2 => hr ▸ ho g p q w h0 h1 h2)
  clear hr
  have hB0 : Below w.heap.size w (((w.alloc (.cells #[.int .i64 v, .int .u32 s.1, .int .i64 s.2] 55)).alloc (.cells #[.int .i64 u, .int .u32 t.1, .int .i64 t.2] 55)).alloc (.cells #[.int .i64 0, .int .u32 0, .int .i64 0] 55)) := (((Below.refl _ w).alloc (Nat.le_refl _) _).alloc (by simp) _).alloc (by simp; omega) _
  have hbx : (((w.alloc (.cells #[.int .i64 v, .int .u32 s.1, .int .i64 s.2] 55)).alloc (.cells #[.int .i64 u, .int .u32 t.1, .int .i64 t.2] 55)).alloc (.cells #[.int .i64 0, .int .u32 0, .int .i64 0] 55)).heap[w.heap.size]? = some (.cells #[.int .i64 v, .int .u32 s.1, .int .i64 s.2] 55 (0, 0)) := heap_old _ (by simp; omega) (heap_old _ (by simp) (heap_at _ _ rfl))
  have hby : (((w.alloc (.cells #[.int .i64 v, .int .u32 s.1, .int .i64 s.2] 55)).alloc (.cells #[.int .i64 u, .int .u32 t.1, .int .i64 t.2] 55)).alloc (.cells #[.int .i64 0, .int .u32 0, .int .i64 0] 55)).heap[w.heap.size + 1]? = some (.cells #[.int .i64 u, .int .u32 t.1, .int .i64 t.2] 55 (0, 0)) := heap_old _ (by simp) (heap_at _ _ (by simp))
  have hbr : (((w.alloc (.cells #[.int .i64 v, .int .u32 s.1, .int .i64 s.2] 55)).alloc (.cells #[.int .i64 u, .int .u32 t.1, .int .i64 t.2] 55)).alloc (.cells #[.int .i64 0, .int .u32 0, .int .i64 0] 55)).heap[w.heap.size + 1 + 1]? = some (.cells #[.int .i64 0, .int .u32 0, .int .i64 0] 55 (0, 0)) := heap_at _ _ (by simp)
  generalize hW : (((w.alloc (.cells #[.int .i64 v, .int .u32 s.1, .int .i64 s.2] 55)).alloc (.cells #[.int .i64 u, .int .u32 t.1, .int .i64 t.2] 55)).alloc (.cells #[.int .i64 0, .int .u32 0, .int .i64 0] 55)) = W at hB0 hbx hby hbr
  have hbxH := Lib.hid hbx
  have hbyH := Lib.hid hby
  have hbrH := Lib.hid hbr
  have hltx := blk_lt hbx
  have hlty := blk_lt hby
  have hltr := blk_lt hbr
  have p0 := blk_cell hbx 0
  have p1 := blk_cell hbx 1
  have p2 := blk_cell hbx 2
  have q0 := blk_cell hby 0
  have q1 := blk_cell hby 1
  have q2 := blk_cell hby 2
  simp at p0 p1 p2 q0 q1 q2
  clear hbx hby hbr
  go_enter Tryz.func66, Tryz.ntmps66
  go_wp2
  have hq0 : KQ W.heap.size W W := kq (Below.refl _ _)
  go_region_held3 (fun w' => KQ W.heap.size W w') (first
      | with_reducible exact kq_call (by assumption) (by simp) (by assumption)
      | with_reducible exact kq_alloc (by with_reducible assumption) (Nat.le_refl _) _
      | with_reducible exact kq_alloc (kq_drew (by assumption)) (Nat.le_refl _) _
      | ((with_reducible refine kq ?_); (repeat (first | (with_reducible exact Below.refl _ _) | (with_reducible refine Below.drew ?_) | (with_reducible refine Below.alloc ?_ (by simp) _) | (with_reducible refine Below.setCell ?_ (by simp) _) | (with_reducible exact (by assumption : KQ _ _ _).1))); done))
    (first
      | (go_at_call 96; refine (hc1.out _).mono ?_; rintro e w1 ⟨rfl, hb1⟩)
      | (go_at_call 105; refine (hc2.out _).mono ?_; rintro e w2 ⟨rfl, rfl⟩)
      | (go_at_call 95; refine (ho.out _ _ (by simp) (blk_cell (heap_at _ _ (by simp)) 0) (blk_cell (heap_at _ _ (by simp)) 1)).mono ?_; rintro e w3 ⟨rfl, rfl⟩))
  have hb4 : Below W.heap.size W (w2.alloc (.cells #[.int .i64 p, .int .i64 q] 3)) := (by with_reducible assumption : KQ W.heap.size W _).1
  generalize hw4 : w2.alloc (.cells #[.int .i64 p, .int .i64 q] 3) = w4 at hb4 ⊢
  clear hc1 hc2 ho hq0 hltx hlty hltr p0 p1 p2 q0 q1 q2
  have hG := hB0.trans (hb4.mono hB0.size)
  have hx4 := blk_below hbxH.out hb4
  have hy4 := blk_below hbyH.out hb4
  have hr4 := blk_below hbrH.out hb4
  have hltx := blk_lt hx4
  have hlty := blk_lt hy4
  have hltr := blk_lt hr4
  have hfr := blk_frozen hr4
  have p0 := blk_cell hx4 0
  have p1 := blk_cell hx4 1
  have p2 := blk_cell hx4 2
  have q0 := blk_cell hy4 0
  have q1 := blk_cell hy4 1
  have q2 := blk_cell hy4 2
  have r0 := blk_cell hr4 0
  have r1 := blk_cell hr4 1
  have r2 := blk_cell hr4 2
  simp at p0 p1 p2 q0 q1 q2 r0 r1 r2
  clear hx4 hy4 hr4
  by_cases h : r < 0
  · have hd : decide (r < 0) = true := decide_eq_true h
    have hGs : Below w.heap.size w (((w4.setCell ⟨w.heap.size + 1 + 1, 0, none⟩ (.int .i64 u)).setCell ⟨w.heap.size + 1 + 1, 1, none⟩ (.int .u32 t.1)).setCell ⟨w.heap.size + 1 + 1, 2, none⟩ (.int .i64 t.2)) := ((hG.setCell (by dsimp only; omega) _).setCell (by dsimp only; omega) _).setCell (by dsimp only; omega) _
    rw [hd]
    go_wp2
    exact bodyPost_ret (v := .agg #[.int .i64 u, .int .u32 t.1, .int .i64 t.2]) (by simp [results, Tryz.results66, go_sem, r0, r1, r2]) rfl ⟨u, t.1, t.2, rfl, hGs⟩
  · have hd : decide (r < 0) = false := decide_eq_false h
    have hGs : Below w.heap.size w (((w4.setCell ⟨w.heap.size + 1 + 1, 0, none⟩ (.int .i64 v)).setCell ⟨w.heap.size + 1 + 1, 1, none⟩ (.int .u32 s.1)).setCell ⟨w.heap.size + 1 + 1, 2, none⟩ (.int .i64 s.2)) := ((hG.setCell (by dsimp only; omega) _).setCell (by dsimp only; omega) _).setCell (by dsimp only; omega) _
    rw [hd]
    go_wp2
    exact bodyPost_ret (v := .agg #[.int .i64 v, .int .u32 s.1, .int .i64 s.2]) (by simp [results, Tryz.results66, go_sem, r0, r1, r2]) rfl (by first | exact ⟨v, s.1, s.2, rfl, hGs⟩ | exact ⟨⟨v, s.1, s.2, rfl⟩, hGs⟩)
set_option maxRecDepth 100000 in
set_option maxHeartbeats 1000000 in
theorem lapply_any (v : Int) (s : Sm) (u : Int) (t : Sm) (hs : s.wf) (ht : t.wf) (w : World) :
    Calls Tryz.prog 37 #[.agg #[.int .i64 v, .int .u32 s.1, .int .i64 s.2], .int .i64 u, .agg #[.int .u32 t.1, .int .i64 t.2]] w fun e w' => ∃ v' t' o' er, e = .returned (.tuple #[.agg #[.int .i64 v', .int .u32 t', .int .i64 o'], .int .i64 er]) ∧ Below w.heap.size w w' := by
  have hc1 := plchk_any s hs
  have hc2 := plchk_any t ht
  have ho := orE_any
  generalize errI (chkS s) = p at *
  generalize errI (chkS t) = q at *
  have hc1 := Lib.hid hc1
  have hc2 := Lib.hid hc2
  have hcm := Lib.hid (fun w' => lmerge_any v s u t w')
  generalize hr : (if p ≠ 0 then p else q) = r
  have ho := Lib.hid (fun g w h0 h1 h2 => hr ▸ ho g p q w h0 h1 h2)
  clear hr
  have hB0 : Below w.heap.size w (((w.alloc (.cells #[.int .i64 v, .int .u32 s.1, .int .i64 s.2] 55)).alloc (.cells #[.int .u32 t.1, .int .i64 t.2] 24)).alloc (.cells #[.int .i64 0, .int .u32 0, .int .i64 0] 55)) := (((Below.refl _ w).alloc (Nat.le_refl _) _).alloc (by simp) _).alloc (by simp; omega) _
  have hbx : (((w.alloc (.cells #[.int .i64 v, .int .u32 s.1, .int .i64 s.2] 55)).alloc (.cells #[.int .u32 t.1, .int .i64 t.2] 24)).alloc (.cells #[.int .i64 0, .int .u32 0, .int .i64 0] 55)).heap[w.heap.size]? = some (.cells #[.int .i64 v, .int .u32 s.1, .int .i64 s.2] 55 (0, 0)) := heap_old _ (by simp; omega) (heap_old _ (by simp) (heap_at _ _ rfl))
  have hby : (((w.alloc (.cells #[.int .i64 v, .int .u32 s.1, .int .i64 s.2] 55)).alloc (.cells #[.int .u32 t.1, .int .i64 t.2] 24)).alloc (.cells #[.int .i64 0, .int .u32 0, .int .i64 0] 55)).heap[w.heap.size + 1]? = some (.cells #[.int .u32 t.1, .int .i64 t.2] 24 (0, 0)) := heap_old _ (by simp) (heap_at _ _ (by simp))
  have hbr : (((w.alloc (.cells #[.int .i64 v, .int .u32 s.1, .int .i64 s.2] 55)).alloc (.cells #[.int .u32 t.1, .int .i64 t.2] 24)).alloc (.cells #[.int .i64 0, .int .u32 0, .int .i64 0] 55)).heap[w.heap.size + 1 + 1]? = some (.cells #[.int .i64 0, .int .u32 0, .int .i64 0] 55 (0, 0)) := heap_at _ _ (by simp)
  generalize hW : (((w.alloc (.cells #[.int .i64 v, .int .u32 s.1, .int .i64 s.2] 55)).alloc (.cells #[.int .u32 t.1, .int .i64 t.2] 24)).alloc (.cells #[.int .i64 0, .int .u32 0, .int .i64 0] 55)) = W at hB0 hbx hby hbr
  have hbxH := Lib.hid hbx
  have hbyH := Lib.hid hby
  have hbrH := Lib.hid hbr
  have hltx := blk_lt hbx
  have hlty := blk_lt hby
  have hltr := blk_lt hbr
  have p0 := blk_cell hbx 0
  have p1 := blk_cell hbx 1
  have p2 := blk_cell hbx 2
  have q0 := blk_cell hby 0
  have q1 := blk_cell hby 1
  simp at p0 p1 p2 q0 q1
  clear hbx hby hbr
  go_enter Tryz.func37, Tryz.ntmps37
  go_wp2
  have hq0 : KQ W.heap.size W W := kq (Below.refl _ _)
  go_region_held3 (fun w' => KQ W.heap.size W w') (first
      | with_reducible exact kq_call (by assumption) (by simp) (by assumption)
      | with_reducible exact kq_alloc (by with_reducible assumption) (Nat.le_refl _) _
      | with_reducible exact kq_alloc (kq_drew (by assumption)) (Nat.le_refl _) _
      | ((with_reducible refine kq ?_); (repeat (first | (with_reducible exact Below.refl _ _) | (with_reducible refine Below.drew ?_) | (with_reducible refine Below.alloc ?_ (by simp) _) | (with_reducible refine Below.setCell ?_ (by simp) _) | (with_reducible exact (by assumption : KQ _ _ _).1))); done))
    (first
      | (go_at_call 57; first | (with_reducible refine (hc1.out _).mono ?_; rintro e w1 ⟨rfl, hb1⟩) | (with_reducible refine (hc2.out _).mono ?_; rintro e w2 ⟨rfl, hb2⟩))
      | (go_at_call 65; refine (ho.out _ _ (by simp) (blk_cell (heap_at _ _ (by simp)) 0) (blk_cell (heap_at _ _ (by simp)) 1)).mono ?_; rintro e w3 ⟨rfl, rfl⟩))
  have hb4 : Below W.heap.size W (w2.alloc (.cells #[.int .i64 p, .int .i64 q] 88)) := (by with_reducible assumption : KQ W.heap.size W _).1
  generalize hw4 : w2.alloc (.cells #[.int .i64 p, .int .i64 q] 88) = w4 at hb4 ⊢
  clear hc1 hc2 ho hq0 hltx hlty hltr p0 p1 p2 q0 q1
  have hG := hB0.trans (hb4.mono hB0.size)
  have hx4 := blk_below hbxH.out hb4
  have hy4 := blk_below hbyH.out hb4
  have hr4 := blk_below hbrH.out hb4
  have hltx := blk_lt hx4
  have hlty := blk_lt hy4
  have hltr := blk_lt hr4
  have hfr := blk_frozen hr4
  have p0 := blk_cell hx4 0
  have p1 := blk_cell hx4 1
  have p2 := blk_cell hx4 2
  have q0 := blk_cell hy4 0
  have q1 := blk_cell hy4 1
  have r0 := blk_cell hr4 0
  have r1 := blk_cell hr4 1
  have r2 := blk_cell hr4 2
  simp at p0 p1 p2 q0 q1 r0 r1 r2
  by_cases h : r = 0
  case neg =>
    have hd : (r != 0) = true := by simpa using h
    have hGs : Below w.heap.size w (((w4.setCell ⟨w.heap.size + 1 + 1, 0, none⟩ (.int .i64 0)).setCell ⟨w.heap.size + 1 + 1, 1, none⟩ (.int .u32 0)).setCell ⟨w.heap.size + 1 + 1, 2, none⟩ (.int .i64 0)) := ((hG.setCell (by dsimp only; omega) _).setCell (by dsimp only; omega) _).setCell (by dsimp only; omega) _
    clear hx4 hy4 hr4
    go_wp2
    exact bodyPost_ret (v := .tuple #[.agg #[.int .i64 0, .int .u32 0, .int .i64 0], .int .i64 r]) (by simp [results, Tryz.results37, go_sem, r0, r1, r2]) rfl ⟨0, 0, 0, r, rfl, hGs⟩
  subst h
  by_cases h2 : t.1 = 0
  · have hd : (t.1 == 0) = true := by simpa using h2
    have hGs : Below w.heap.size w (((w4.setCell ⟨w.heap.size + 1 + 1, 0, none⟩ (.int .i64 0)).setCell ⟨w.heap.size + 1 + 1, 1, none⟩ (.int .u32 0)).setCell ⟨w.heap.size + 1 + 1, 2, none⟩ (.int .i64 0)) := ((hG.setCell (by dsimp only; omega) _).setCell (by dsimp only; omega) _).setCell (by dsimp only; omega) _
    clear hx4 hy4 hr4 h2
    go_wp2
    exact bodyPost_ret (v := .tuple #[.agg #[.int .i64 0, .int .u32 0, .int .i64 0], .int .i64 2]) (by simp [results, Tryz.results37, go_sem, r0, r1, r2]) rfl ⟨0, 0, 0, 2, rfl, hGs⟩
  have hd : (t.1 == 0) = false := by simpa using h2
  have hx4H := Lib.hid hx4
  have hy4H := Lib.hid hy4
  have hr4H := Lib.hid hr4
  clear hx4 hy4 hr4 h2
  go_wp2_with fail
  refine (hcm.out _).mono ?_
  rintro e w5 ⟨v', t', o', rfl, hb5⟩
  have hr5 := blk_below hr4H.out hb5
  have hG5 := hG.trans (hb5.mono hG.size)
  clear p0 p1 p2 q0 q1 r0 r1 r2 hltx hlty hltr hfr
  have hltr := blk_lt hr5
  have hfr := blk_frozen hr5
  have r0 := blk_cell hr5 0
  have r1 := blk_cell hr5 1
  have r2 := blk_cell hr5 2
  simp at r0 r1 r2
  have hGs : Below w.heap.size w (((w5.setCell ⟨w.heap.size + 1 + 1, 0, none⟩ (.int .i64 v')).setCell ⟨w.heap.size + 1 + 1, 1, none⟩ (.int .u32 t')).setCell ⟨w.heap.size + 1 + 1, 2, none⟩ (.int .i64 o')) := ((hG5.setCell (by dsimp only; omega) _).setCell (by dsimp only; omega) _).setCell (by dsimp only; omega) _
  clear hr5
  go_wp2
  exact bodyPost_ret (v := .tuple #[.agg #[.int .i64 v', .int .u32 t', .int .i64 o'], .int .i64 0]) (by simp [results, Tryz.results37, go_sem, r0, r1, r2]) rfl ⟨v', t', o', 0, rfl, hGs⟩
end Go.Proofs.YtffnpfponnhddaaGreat
