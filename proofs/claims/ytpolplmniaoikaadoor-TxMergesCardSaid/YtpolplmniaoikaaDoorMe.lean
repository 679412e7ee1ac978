/- slices.SortStableFunc at parts: two neighbouring stretches exchanged; the insertion sort. -/
import Derived.Test.YtpolplmniaoikaaDoorN14
namespace Go.Proofs.YtpolplmniaoikaaDoor
open Go.RowKit

set_option maxRecDepth 100000 in
set_option maxHeartbeats 4000000 in
theorem rotate_any (base g n c a m b : Nat) (ps : List Pe) (cf : Value) (w : World) (hB : base ≤ w.heap.size) (hown : Ow w base 69 10 (.slice (some ⟨g, 0, none⟩) n c) (ps.map Pe.enc)) (hn : n ≤ 1000) (ham : a < m) (hmb : m < b) (hb : b ≤ n) :
    Calls Tryd.prog 61 #[.slice (some ⟨g, 0, none⟩) n c, .int .i64 (a : Int), .int .i64 (m : Int), .int .i64 (b : Int), cf] w
      fun e w' => e = .returned (.tuple #[]) ∧ ∃ ys : List Pe, ys.Perm ps ∧ (∀ q, ys[q]? = rotF (fun k => ps[k]?) a m b q) ∧ Ow w' base 69 10 (.slice (some ⟨g, 0, none⟩) n c) (ys.map Pe.enc) ∧ w.grownBy w' (some g) := by
  have hownH := Lib.hid hown
  clear hown
  obtain ⟨i0, hi0⟩ : ∃ i0, m - a = i0 := ⟨_, rfl⟩
  obtain ⟨j0, hj0⟩ : ∃ j0, b - m = j0 := ⟨_, rfl⟩
  obtain rfl : a = m - i0 := by omega
  obtain rfl : b = m + j0 := by omega
  have him : i0 ≤ m := by omega
  have hwi : IntKind.i64.wrap ((m : Int) - ((m - i0 : Nat) : Int)) = (i0 : Int) := by rw [IntWalk.i64_in _ (by omega)]; omega
  have hwj : IntKind.i64.wrap (((m + j0 : Nat) : Int) - (m : Int)) = (j0 : Int) := by rw [IntWalk.i64_in _ (by omega)]; omega
  have hwi' : (m : Int) - ((m - i0 : Nat) : Int) = (i0 : Int) := by omega
  have hwj' : ((m + j0 : Nat) : Int) - (m : Int) = (j0 : Int) := by omega
  generalize hea : m - i0 = ea at *
  generalize heb : m + j0 = eb at *
  go_enter Tryd.func61, Tryd.ntmps61
  go_wp2_with fail
  clear hwi hwj hwi' hwj'
  go_loopg [10, 11] (i0 + j0 + 1) (fun gg u v wr => ∃ (i j : Nat) (cur : List Pe), 0 < i ∧ i ≤ i0 ∧ 0 < j ∧ j ≤ j0 ∧ gg = i + j + 1 ∧ u = .int .i64 (i : Int) ∧ v = .int .i64 (j : Int) ∧ cur.Perm ps ∧ (∀ q, rotF (fun k => cur[k]?) (m - i) m (m + j) q = rotF (fun k => ps[k]?) ea m eb q) ∧ Ow wr base 69 10 (.slice (some ⟨g, 0, none⟩) n c) (cur.map Pe.enc) ∧ w.grownBy wr (some g))
  case atStart => exact ⟨i0, j0, ps, by omega, Nat.le_refl _, by omega, Nat.le_refl _, rfl, rfl, rfl, List.Perm.refl _, fun q => by rw [hea, heb], hownH.out, World.grownBy.refl _ _⟩
  case round =>
    obtain ⟨i, j, cur, hi, hii, hj, hjj, rfl, rfl, rfl, hp, hq, hown, hg⟩ := hrel
    have hBr : base ≤ wr.heap.size := Nat.le_trans hB hg.size
    have hpH := Lib.hid hp
    have hqH := Lib.hid hq
    have hgH := Lib.hid hg
    clear hp hq hg
    have hwm : (m : Int) - (i : Int) = ((m - i : Nat) : Int) := by omega
    by_cases h1 : i = j
    · subst h1
      have cS := Lib.hid (srange_any base g n c (m - i) m i cur cf wr hBr hown hn (by omega) (by omega))
      generalize hmi : m - i = mi at *
      go_wp2_with fail
      refine cS.out.mono ?_
      rintro e w1 ⟨rfl, ys, hyp, hyq, hown1, hg1⟩
      go_wp2
      go_end0
      refine ⟨rfl, ys, hyp.trans hpH.out, fun q => ?_, hown1, hgH.out.trans hg1⟩
      rw [← hqH.out q, ← hmi]
      exact rotF_eq (fun k => cur[k]?) (fun k => ys[k]?) m i (by omega) (by rw [hmi]; exact hyq) q
    · have hne : ¬ (i : Int) = (j : Int) := by omega
      by_cases h2 : j < i
      · have h2i : (j : Int) < (i : Int) := by omega
        have cS := Lib.hid (srange_any base g n c (m - i) m j cur cf wr hBr hown hn (by omega) (by omega))
        have hwd : (i : Int) - (j : Int) = ((i - j : Nat) : Int) := by omega
        generalize hmi : m - i = mi at *
        go_wp2_with fail
        refine cS.out.mono ?_
        rintro e w1 ⟨rfl, ys, hyp, hyq, hown1, hg1⟩
        go_wp2
        go_roundg (i - j + j + 1)
        case measure => omega
        case rel =>
          refine ⟨i - j, j, ys, by omega, by omega, hj, hjj, rfl, by go_num, rfl, hyp.trans hpH.out, fun q => ?_, hown1, hgH.out.trans hg1⟩
          rw [← hqH.out q, ← hmi]
          exact rotF_gt (fun k => cur[k]?) (fun k => ys[k]?) m i j h2 (by omega) hj (by rw [hmi]; exact hyq) q
      · have h2i : ¬ (j : Int) < (i : Int) := by omega
        have cS := Lib.hid (srange_any base g n c (m - i) (m + j - i) i cur cf wr hBr hown hn (by omega) (by omega))
        have hwd : (j : Int) - (i : Int) = ((j - i : Nat) : Int) := by omega
        have hwe : (m : Int) + (j : Int) - (i : Int) = ((m + j - i : Nat) : Int) := by omega
        generalize hmi : m - i = mi at *
        generalize hmj : m + j - i = mj at *
        go_wp2_with fail
        refine cS.out.mono ?_
        rintro e w1 ⟨rfl, ys, hyp, hyq, hown1, hg1⟩
        go_wp2
        go_roundg (i + (j - i) + 1)
        case measure => omega
        case rel =>
          refine ⟨i, j - i, ys, hi, hii, by omega, by omega, rfl, rfl, by go_num, hyp.trans hpH.out, fun q => ?_, hown1, hgH.out.trans hg1⟩
          rw [← hqH.out q, ← hmi]
          exact rotF_lt (fun k => cur[k]?) (fun k => ys[k]?) m i j (by omega) (by omega) hi (by rw [hmi, hmj]; exact hyq) q
set_option maxRecDepth 100000 in
theorem insort_none (S : Value) (a b : Nat) (hab : b ≤ a + 1) (_hb : b ≤ 1000) (ha : a ≤ 1000) (cf : Value) (w : World) :
    Calls Tryd.prog 42 #[S, .int .i64 (a : Int), .int .i64 (b : Int), cf] w fun e w' => e = .returned (.tuple #[]) ∧ w' = w := by
  have hlt : ¬ (a : Int) + 1 < (b : Int) := by omega
  have hw : IntKind.i64.wrap ((a : Int) + 1) = (a : Int) + 1 := IntWalk.i64_in _ (by omega)
  go_enter Tryd.func42, Tryd.ntmps42
  go_wp2
  refine wp_loop_rounds 1 ?_
  rw [rounds_succ]
  go_wp2
  go_end0
  exact ⟨rfl, rfl⟩
end Go.Proofs.YtpolplmniaoikaaDoor
