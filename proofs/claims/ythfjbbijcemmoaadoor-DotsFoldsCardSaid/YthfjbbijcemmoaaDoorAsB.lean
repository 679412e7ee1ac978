/- What an error of the reader says, in the document's words. -/
import Derived.Test.YthfjbbijcemmoaaDoorAsA
import Derived.Test.YthfjbbijcemmoaaDoorRsG
namespace Go.Proofs.YthfjbbijcemmoaaDoor
open Go.RowKit Go.Extern.Stop Go.Stop Go.Extern

/-- The one variable of Go's library that is read stands as Go lays it. -/
def VarOk (w : World) : Prop := w.cell? ⟨0, 0, none⟩ = some (.iface 127 (.agg #[.pointer (some ⟨1, 46, none⟩)]))
theorem VarOk.lt {w : World} (h : VarOk w) : 0 < w.heap.size := by
  unfold VarOk at h
  rcases Nat.eq_zero_or_pos w.heap.size with h0 | h'
  · simp [World.cell?, h0] at h
  · exact h'
theorem VarOk.below {w w' : World} {n : Nat} (h : VarOk w) (hb : Below n w w') (hn : 0 < n) : VarOk w' := (hb.cell (p := ⟨0, 0, none⟩) hn).trans h

theorem as_hit2 (e t : Addr) (old : Value) (w : World) (hg : VarOk w) (ht0 : w.cell? t = some old) (hf0 : w.frozen? t = false) :
    Calls Tryd.prog 43 #[.iface 78 (.pointer (some e)), .iface 80 (.pointer (some t))] w fun ev w' => ev = .returned (.bool true) ∧ ∃ W', w' = W'.setCell t (.pointer (some e)) ∧ Below w.heap.size w W' :=
  (as_hit e t old w hg ht0 hf0).mono fun ev w' ⟨h1, h2⟩ => ⟨h1, _, h2, ((((Below.refl _ w).alloc (Nat.le_refl _) _).alloc (by simp) _).alloc (by simp; omega) _).alloc (by simp; omega) _⟩
theorem ta_no (F : Nat) (w : World) : (Instr.typeAssert (.iface 78 (.pointer (some ⟨F, 0, none⟩))) 46 27 true).run Tryd.prog w = .ok (.tuple #[.int .i64 0, .bool false]) w := by kernel_rfl
theorem ta_yes (e : Int) (w : World) : (Instr.typeAssert (.iface 27 (.int .i64 e)) 46 27 true).run Tryd.prog w = .ok (.tuple #[.int .i64 e, .bool true]) w := by kernel_rfl
set_option maxRecDepth 100000 in
set_option maxHeartbeats 1000000 in
theorem seen_any (ev : Value) (fa fe : Int) (w : World) (hv : VarOk w) (he : ErrP w ev fa fe) (h0 : 0 ≤ fa) (h1 : fa ≤ 1099511627776) (h2 : fe = 0 → fa = 0) :
    Calls Tryd.prog 16 #[ev] w fun e w' => e = .returned (.agg #[.int .i64 fa, .int .i64 fe]) ∧ Below w.heap.size w w' := by
  have hvl := hv.lt
  rcases he with ⟨rfl, rfl⟩ | ⟨hne, F, rfl, hF⟩
  · obtain rfl := h2 rfl
    go_enter Tryd.func16, Tryd.ntmps16
    go_wp2_with fail
    refine wp_loop_rounds 1 ?_
    rw [rounds_succ]
    go_wp2
    refine bodyPost_ret (v := .agg #[.int .i64 0, .int .i64 0]) (by simp [results, Tryd.results16, go_sem]) rfl ⟨rfl, (Below.refl _ _).alloc (Nat.le_refl _) _⟩
  · have hFl := blk_lt hF
    have q0 := blk_cell hF 0
    have q1 := blk_cell hF 1
    simp at q0 q1
    have hfe : (fe == 0) = false := by simpa using hne
    have tn := ta_no F
    have ty := ta_yes fe
    have hvH := Lib.hid hv
    clear hF hne h2 hv
    go_enter Tryd.func16, Tryd.ntmps16
    go_wp2_with fail
    refine wp_loop_rounds 2 ?_
    rw [rounds_succ]
    go_wp2_with fail
    have hV2 : VarOk ((w.alloc (.cells #[.int .i64 0, .int .i64 0] 38)).alloc (.cells #[.pointer none] 78)) :=
      hvH.out.below (((Below.refl _ w).alloc (Nat.le_refl _) _).alloc (by simp) _) hvl
    refine (as_hit2 ⟨F, 0, none⟩ ⟨w.heap.size + 1, 0, none⟩ (.pointer none) _ hV2 ?_ ?_).mono ?_
    · rw [blk_cell (heap_at _ _ (by simp))]; rfl
    · exact blk_frozen (heap_at _ _ (by simp)) 0
    rintro e w1 ⟨rfl, W', rfl, hb⟩
    have hz := hb.size
    simp only [World.size_alloc] at hz
    have hbT : (W'.setCell ⟨w.heap.size + 1, 0, none⟩ (.pointer (some ⟨F, 0, none⟩))).heap[w.heap.size + 1]? = some (.cells #[.pointer (some ⟨F, 0, none⟩)] 78 (0, 0)) := by
      rw [blk_set ((hb.block _ (by simp)).trans (heap_at _ _ (by simp)))]; rfl
    have hbR : (W'.setCell ⟨w.heap.size + 1, 0, none⟩ (.pointer (some ⟨F, 0, none⟩))).heap[w.heap.size]? = some (.cells #[.int .i64 0, .int .i64 0] 38 (0, 0)) :=
      heap_set_ne (by dsimp only; omega) ((hb.block _ (by simp; omega)).trans (heap_old _ (by simp) (heap_at _ _ rfl)))
    have hbF : Below w.heap.size w (W'.setCell ⟨w.heap.size + 1, 0, none⟩ (.pointer (some ⟨F, 0, none⟩))) :=
      ((((Below.refl _ w).alloc (Nat.le_refl _) _).alloc (by simp) _).trans (hb.mono (by simp; omega))).setCell (by simp) _
    generalize (W'.setCell ⟨w.heap.size + 1, 0, none⟩ (.pointer (some ⟨F, 0, none⟩))) = w1 at hbT hbR hbF ⊢
    clear hb hz
    have z0 := (hbF.cell (p := ⟨F, 0, none⟩) hFl).trans q0
    have z1 := (hbF.cell (p := ⟨F, 1, none⟩) hFl).trans q1
    have t0 := blk_cell hbT 0
    have r0 := blk_cell hbR 0
    have r1 := blk_cell hbR 1
    simp at t0 r0 r1
    have hfR := blk_frozen hbR
    have hlT := blk_lt hbT
    have hlR := blk_lt hbR
    have hlF : F < w1.heap.size := Nat.lt_of_lt_of_le hFl hbF.size
    clear hbT hbR q0 q1
    go_wp2_with fail
    rw [rounds_succ]
    go_wp2
    trace_state
    refine bodyPost_ret (v := .agg #[.int .i64 fa, .int .i64 fe]) (by simp [results, Tryd.results16, go_sem, r0, r1]) rfl ⟨rfl, ?_⟩
    repeat (first | exact hbF | refine Below.setCell ?_ (by first | (simp; done) | (simp; omega) | omega) _)
end Go.Proofs.YthfjbbijcemmoaaDoor
