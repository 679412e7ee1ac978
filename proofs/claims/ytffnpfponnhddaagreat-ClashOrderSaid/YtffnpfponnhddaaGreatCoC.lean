/- A counter behind a change. -/
import Derived.Test.YtffnpfponnhddaaGreatN29
import Derived.Test.YtffnpfponnhddaaGreatN11
namespace Go.Proofs.YtffnpfponnhddaaGreat
open Go.RowKit

def PostN (w : World) (X : Option (Int × Int)) (e : Ending) (w' : World) : Prop :=
  ∃ p m er, e = .returned (.tuple #[.agg #[.int .i64 p, .int .i64 m], .int .i64 er]) ∧ (er = 0 → X = some (p, m)) ∧ Below w.heap.size w w'
set_option maxRecDepth 100000 in
set_option maxHeartbeats 2000000 in
theorem napply_any (p m v : Int) (w : World) : Calls Tryz.prog 38 #[.agg #[.int .i64 p, .int .i64 m], .int .i64 v] w (PostN w (cntC p m v)) := by
  have hb0 : Below w.heap.size w ((w.alloc (.cells #[.int .i64 p, .int .i64 m] 56)).alloc (.cells #[.int .i64 0, .int .i64 0] 56)) := ((Below.refl _ w).alloc (Nat.le_refl _) _).alloc (by simp) _
  have hbx : ((w.alloc (.cells #[.int .i64 p, .int .i64 m] 56)).alloc (.cells #[.int .i64 0, .int .i64 0] 56)).heap[w.heap.size]? = some (.cells #[.int .i64 p, .int .i64 m] 56 (0, 0)) := heap_old _ (by simp) (heap_at _ _ rfl)
  have hbr : ((w.alloc (.cells #[.int .i64 p, .int .i64 m] 56)).alloc (.cells #[.int .i64 0, .int .i64 0] 56)).heap[w.heap.size + 1]? = some (.cells #[.int .i64 0, .int .i64 0] 56 (0, 0)) := heap_at _ _ (by simp)
  generalize hW : ((w.alloc (.cells #[.int .i64 p, .int .i64 m] 56)).alloc (.cells #[.int .i64 0, .int .i64 0] 56)) = W at hb0 hbx hbr
  have hbxH := Lib.hid hbx
  have hbrH := Lib.hid hbr
  have hltx := blk_lt hbx
  have hltr := blk_lt hbr
  have q0 := blk_cell hbx 0
  have q1 := blk_cell hbx 1
  have r0 := blk_cell hbr 0
  have r1 := blk_cell hbr 1
  have hfr := blk_frozen hbr
  simp at q0 q1 r0 r1
  have c1 := Lib.hid (ncheck_any p m W)
  have c2 := Lib.hid (fun a b w' => plus_any a b w')
  clear hbx hbr
  by_cases hp : chkN p m = 0
  case neg =>
    have hpn : (chkN p m != 0) = true := by simpa using hp
    generalize chkN p m = r at *
    go_enter Tryz.func38, Tryz.ntmps38
    go_wp2_with fail
    refine c1.out.mono ?_
    rintro e w1 ⟨rfl, hv1⟩
    have hG := hb0.trans (hv1.mono hb0.size)
    have hx1 := blk_below hbxH.out hv1
    have hr1 := blk_below hbrH.out hv1
    clear q0 q1 r0 r1 hfr
    have hltx := blk_lt hx1
    have hltr := blk_lt hr1
    have q0 := blk_cell hx1 0
    have q1 := blk_cell hx1 1
    have r0 := blk_cell hr1 0
    have r1 := blk_cell hr1 1
    have hfr := blk_frozen hr1
    simp at q0 q1 r0 r1
    have hGs : Below w.heap.size w ((w1.setCell ⟨w.heap.size + 1, 0, none⟩ (.int .i64 0)).setCell ⟨w.heap.size + 1, 1, none⟩ (.int .i64 0)) := (hG.setCell (by dsimp only; omega) _).setCell (by dsimp only; omega) _
    go_wp2
    exact bodyPost_ret (v := .tuple #[.agg #[.int .i64 0, .int .i64 0], .int .i64 r]) (by simp [results, Tryz.results38, go_sem, r0, r1]) rfl ⟨0, 0, r, rfl, fun h => absurd h (by first | decide | assumption), hGs⟩
  rw [hp] at c1
  have hb : ¬ (p < 0 ∨ 1125899906842624 < p ∨ m < 0 ∨ 1125899906842624 < m) := fun hh => by unfold chkN at hp; rw [if_pos hh] at hp; exact absurd hp (by decide)
  clear hp
  by_cases h1 : v < -1073741824
  · have d1 : decide (v < -1073741824) = true := decide_eq_true h1
    go_enter Tryz.func38, Tryz.ntmps38
    go_wp2_with fail
    refine c1.out.mono ?_
    rintro e w1 ⟨rfl, hv1⟩
    have hG := hb0.trans (hv1.mono hb0.size)
    have hx1 := blk_below hbxH.out hv1
    have hr1 := blk_below hbrH.out hv1
    clear q0 q1 r0 r1 hfr
    have hltx := blk_lt hx1
    have hltr := blk_lt hr1
    have q0 := blk_cell hx1 0
    have q1 := blk_cell hx1 1
    have r0 := blk_cell hr1 0
    have r1 := blk_cell hr1 1
    have hfr := blk_frozen hr1
    simp at q0 q1 r0 r1
    have hGs : Below w.heap.size w ((w1.setCell ⟨w.heap.size + 1, 0, none⟩ (.int .i64 0)).setCell ⟨w.heap.size + 1, 1, none⟩ (.int .i64 0)) := (hG.setCell (by dsimp only; omega) _).setCell (by dsimp only; omega) _
    go_wp2
    exact bodyPost_ret (v := .tuple #[.agg #[.int .i64 0, .int .i64 0], .int .i64 2]) (by simp [results, Tryz.results38, go_sem, r0, r1]) rfl ⟨0, 0, 2, rfl, fun h => absurd h (by first | decide | assumption), hGs⟩
  have d1 : decide (v < -1073741824) = false := decide_eq_false h1
  by_cases h2 : 1073741824 < v
  · have d2 : decide (1073741824 < v) = true := decide_eq_true h2
    go_enter Tryz.func38, Tryz.ntmps38
    go_wp2_with fail
    refine c1.out.mono ?_
    rintro e w1 ⟨rfl, hv1⟩
    have hG := hb0.trans (hv1.mono hb0.size)
    have hx1 := blk_below hbxH.out hv1
    have hr1 := blk_below hbrH.out hv1
    clear q0 q1 r0 r1 hfr
    have hltx := blk_lt hx1
    have hltr := blk_lt hr1
    have q0 := blk_cell hx1 0
    have q1 := blk_cell hx1 1
    have r0 := blk_cell hr1 0
    have r1 := blk_cell hr1 1
    have hfr := blk_frozen hr1
    simp at q0 q1 r0 r1
    have hGs : Below w.heap.size w ((w1.setCell ⟨w.heap.size + 1, 0, none⟩ (.int .i64 0)).setCell ⟨w.heap.size + 1, 1, none⟩ (.int .i64 0)) := (hG.setCell (by dsimp only; omega) _).setCell (by dsimp only; omega) _
    go_wp2
    exact bodyPost_ret (v := .tuple #[.agg #[.int .i64 0, .int .i64 0], .int .i64 2]) (by simp [results, Tryz.results38, go_sem, r0, r1]) rfl ⟨0, 0, 2, rfl, fun h => absurd h (by first | decide | assumption), hGs⟩
  have d2 : decide (1073741824 < v) = false := decide_eq_false h2
  by_cases h3 : v < 0
  · have d3 : decide (v < 0) = true := decide_eq_true h3
    have n1 : IntKind.i64.wrap (-v) = -v := IntWalk.i64_in _ (by omega)
    have n2 : wrap64 (-v) = -v := IntWalk.wrap64_in _ ⟨by omega, by omega⟩
    by_cases h4 : m - v ≤ 1125899906842624
    · have hpl : plusA m (-v) = (m + -v, 0) := by unfold plusA; rw [if_neg (by omega), if_neg (by omega)]
      have hct : cntC p m v = some (p, m + -v) := by unfold cntC; rw [if_neg hb, if_pos h3, if_pos h4, Int.sub_eq_add_neg]
      have c3 := Lib.hid (fun w' => by have := c2.out m (-v) w'; rw [hpl] at this; exact this)
      rw [hct]
      clear hct hpl c2 hb h4
      go_enter Tryz.func38, Tryz.ntmps38
      go_wp2_with fail
      refine c1.out.mono ?_
      rintro e w1 ⟨rfl, hv1⟩
      have hG := hb0.trans (hv1.mono hb0.size)
      have hx1 := blk_below hbxH.out hv1
      have hr1 := blk_below hbrH.out hv1
      clear q0 q1 r0 r1 hfr
      have hltx := blk_lt hx1
      have hltr := blk_lt hr1
      have q0 := blk_cell hx1 0
      have q1 := blk_cell hx1 1
      have r0 := blk_cell hr1 0
      have r1 := blk_cell hr1 1
      have hfr := blk_frozen hr1
      simp at q0 q1 r0 r1
      go_wp2_with fail
      refine (c3.out _).mono ?_
      rintro e w2 ⟨rfl, hv2⟩
      have hG2 := hG.trans (hv2.mono hG.size)
      have hx2 := blk_below hx1 hv2
      have hr2 := blk_below hr1 hv2
      clear q0 q1 r0 r1 hfr
      have hltx := blk_lt hx2
      have hltr := blk_lt hr2
      have q0 := blk_cell hx2 0
      have q1 := blk_cell hx2 1
      have r0 := blk_cell hr2 0
      have r1 := blk_cell hr2 1
      have hfr := blk_frozen hr2
      simp at q0 q1 r0 r1
      have hfx := blk_frozen hx2
      have hGs : Below w.heap.size w (((w2.setCell ⟨w.heap.size, 1, none⟩ (.int .i64 (m + -v))).setCell ⟨w.heap.size + 1, 0, none⟩ (.int .i64 (p))).setCell ⟨w.heap.size + 1, 1, none⟩ (.int .i64 (m + -v))) := ((hG2.setCell (by dsimp only; omega) _).setCell (by dsimp only; omega) _).setCell (by dsimp only; omega) _
      go_wp2
      exact bodyPost_ret (v := .tuple #[.agg #[.int .i64 (p), .int .i64 (m + -v)], .int .i64 0]) (by simp [results, Tryz.results38, go_sem, r0, r1]) rfl ⟨_, _, 0, rfl, fun _ => rfl, hGs⟩
    · have hpl : plusA m (-v) = (0, 12) := by unfold plusA; rw [if_neg (by omega), if_pos (by omega)]
      have hct : True := trivial
      have c3 := Lib.hid (fun w' => by have := c2.out m (-v) w'; rw [hpl] at this; exact this)
      clear hct hpl c2 hb h4
      go_enter Tryz.func38, Tryz.ntmps38
      go_wp2_with fail
      refine c1.out.mono ?_
      rintro e w1 ⟨rfl, hv1⟩
      have hG := hb0.trans (hv1.mono hb0.size)
      have hx1 := blk_below hbxH.out hv1
      have hr1 := blk_below hbrH.out hv1
      clear q0 q1 r0 r1 hfr
      have hltx := blk_lt hx1
      have hltr := blk_lt hr1
      have q0 := blk_cell hx1 0
      have q1 := blk_cell hx1 1
      have r0 := blk_cell hr1 0
      have r1 := blk_cell hr1 1
      have hfr := blk_frozen hr1
      simp at q0 q1 r0 r1
      go_wp2_with fail
      refine (c3.out _).mono ?_
      rintro e w2 ⟨rfl, hv2⟩
      have hG2 := hG.trans (hv2.mono hG.size)
      have hx2 := blk_below hx1 hv2
      have hr2 := blk_below hr1 hv2
      clear q0 q1 r0 r1 hfr
      have hltx := blk_lt hx2
      have hltr := blk_lt hr2
      have q0 := blk_cell hx2 0
      have q1 := blk_cell hx2 1
      have r0 := blk_cell hr2 0
      have r1 := blk_cell hr2 1
      have hfr := blk_frozen hr2
      simp at q0 q1 r0 r1
      have hGs : Below w.heap.size w ((w2.setCell ⟨w.heap.size + 1, 0, none⟩ (.int .i64 0)).setCell ⟨w.heap.size + 1, 1, none⟩ (.int .i64 0)) := (hG2.setCell (by dsimp only; omega) _).setCell (by dsimp only; omega) _
      go_wp2
      exact bodyPost_ret (v := .tuple #[.agg #[.int .i64 0, .int .i64 0], .int .i64 12]) (by simp [results, Tryz.results38, go_sem, r0, r1]) rfl ⟨0, 0, 12, rfl, fun h => absurd h (by first | decide | assumption), hGs⟩
  · have d3 : decide (v < 0) = false := decide_eq_false h3
    by_cases h4 : p + v ≤ 1125899906842624
    · have hpl : plusA p v = (p + v, 0) := by unfold plusA; rw [if_neg (by omega), if_neg (by omega)]
      have hct : cntC p m v = some (p + v, m) := by unfold cntC; rw [if_neg hb, if_neg h3, if_pos h4]
      have c3 := Lib.hid (fun w' => by have := c2.out p v w'; rw [hpl] at this; exact this)
      rw [hct]
      clear hct hpl c2 hb h4
      go_enter Tryz.func38, Tryz.ntmps38
      go_wp2_with fail
      refine c1.out.mono ?_
      rintro e w1 ⟨rfl, hv1⟩
      have hG := hb0.trans (hv1.mono hb0.size)
      have hx1 := blk_below hbxH.out hv1
      have hr1 := blk_below hbrH.out hv1
      clear q0 q1 r0 r1 hfr
      have hltx := blk_lt hx1
      have hltr := blk_lt hr1
      have q0 := blk_cell hx1 0
      have q1 := blk_cell hx1 1
      have r0 := blk_cell hr1 0
      have r1 := blk_cell hr1 1
      have hfr := blk_frozen hr1
      simp at q0 q1 r0 r1
      go_wp2_with fail
      refine (c3.out _).mono ?_
      rintro e w2 ⟨rfl, hv2⟩
      have hG2 := hG.trans (hv2.mono hG.size)
      have hx2 := blk_below hx1 hv2
      have hr2 := blk_below hr1 hv2
      clear q0 q1 r0 r1 hfr
      have hltx := blk_lt hx2
      have hltr := blk_lt hr2
      have q0 := blk_cell hx2 0
      have q1 := blk_cell hx2 1
      have r0 := blk_cell hr2 0
      have r1 := blk_cell hr2 1
      have hfr := blk_frozen hr2
      simp at q0 q1 r0 r1
      have hfx := blk_frozen hx2
      have hGs : Below w.heap.size w (((w2.setCell ⟨w.heap.size, 0, none⟩ (.int .i64 (p + v))).setCell ⟨w.heap.size + 1, 0, none⟩ (.int .i64 (p + v))).setCell ⟨w.heap.size + 1, 1, none⟩ (.int .i64 (m))) := ((hG2.setCell (by dsimp only; omega) _).setCell (by dsimp only; omega) _).setCell (by dsimp only; omega) _
      go_wp2
      exact bodyPost_ret (v := .tuple #[.agg #[.int .i64 (p + v), .int .i64 (m)], .int .i64 0]) (by simp [results, Tryz.results38, go_sem, r0, r1]) rfl ⟨_, _, 0, rfl, fun _ => rfl, hGs⟩
    · have hpl : plusA p v = (0, 12) := by unfold plusA; rw [if_neg (by omega), if_pos (by omega)]
      have hct : True := trivial
      have c3 := Lib.hid (fun w' => by have := c2.out p v w'; rw [hpl] at this; exact this)
      clear hct hpl c2 hb h4
      go_enter Tryz.func38, Tryz.ntmps38
      go_wp2_with fail
      refine c1.out.mono ?_
      rintro e w1 ⟨rfl, hv1⟩
      have hG := hb0.trans (hv1.mono hb0.size)
      have hx1 := blk_below hbxH.out hv1
      have hr1 := blk_below hbrH.out hv1
      clear q0 q1 r0 r1 hfr
      have hltx := blk_lt hx1
      have hltr := blk_lt hr1
      have q0 := blk_cell hx1 0
      have q1 := blk_cell hx1 1
      have r0 := blk_cell hr1 0
      have r1 := blk_cell hr1 1
      have hfr := blk_frozen hr1
      simp at q0 q1 r0 r1
      go_wp2_with fail
      refine (c3.out _).mono ?_
      rintro e w2 ⟨rfl, hv2⟩
      have hG2 := hG.trans (hv2.mono hG.size)
      have hx2 := blk_below hx1 hv2
      have hr2 := blk_below hr1 hv2
      clear q0 q1 r0 r1 hfr
      have hltx := blk_lt hx2
      have hltr := blk_lt hr2
      have q0 := blk_cell hx2 0
      have q1 := blk_cell hx2 1
      have r0 := blk_cell hr2 0
      have r1 := blk_cell hr2 1
      have hfr := blk_frozen hr2
      simp at q0 q1 r0 r1
      have hGs : Below w.heap.size w ((w2.setCell ⟨w.heap.size + 1, 0, none⟩ (.int .i64 0)).setCell ⟨w.heap.size + 1, 1, none⟩ (.int .i64 0)) := (hG2.setCell (by dsimp only; omega) _).setCell (by dsimp only; omega) _
      go_wp2
      exact bodyPost_ret (v := .tuple #[.agg #[.int .i64 0, .int .i64 0], .int .i64 12]) (by simp [results, Tryz.results38, go_sem, r0, r1]) rfl ⟨0, 0, 12, rfl, fun h => absurd h (by first | decide | assumption), hGs⟩
end Go.Proofs.YtffnpfponnhddaaGreat
