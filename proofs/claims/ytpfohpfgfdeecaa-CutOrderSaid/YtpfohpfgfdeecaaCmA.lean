/- cut.Make: the cut of any vector and any list. -/
import Derived.Test.YtpfohpfgfdeecaaCtB
import Derived.Test.YtpfohpfgfdeecaaDmD
import Derived.Test.YtpfohpfgfdeecaaVcD
namespace Go.Proofs.Ytpfohpfgfdeecaa
open Go.RowKit

set_option maxRecDepth 100000 in
set_option maxHeartbeats 1000000 in
theorem cmake_any (v : Vm) (A : Option Addr) (n c : Nat) (xs : List Im) (w : World) (hA : RdI w w.heap.size A n xs) (hn : n ≤ 1100) (hv : v.wf) (hx : ∀ x ∈ xs, x.wf) :
    Calls Try.prog 6 #[.agg #[.int .u32 v.d0, .int .u32 v.d1, .int .u32 v.d2, .int .u32 v.d3, .int .u32 v.d4, .int .u32 v.d5, .int .u32 v.d6, .int .u32 v.d7], .slice A n c] w fun e w' => ∃ A' n' c', e = .returned (.tuple #[.agg #[.int .u32 (rcV v xs).d0, .int .u32 (rcV v xs).d1, .int .u32 (rcV v xs).d2, .int .u32 (rcV v xs).d3, .int .u32 (rcV v xs).d4, .int .u32 (rcV v xs).d5, .int .u32 (rcV v xs).d6, .int .u32 (rcV v xs).d7, .slice A' n' c'], .int .i64 (rcErr v xs)]) ∧ Ow w' w.heap.size 37 2 (.slice A' n' c') ((rcD v xs).map Im.enc) ∧ Below w.heap.size w w' := by
  have c1 := vcheck_any v
  have hl := hA.len
  have hbV : ((w.alloc (.cells #[.int .u32 v.d0, .int .u32 v.d1, .int .u32 v.d2, .int .u32 v.d3, .int .u32 v.d4, .int .u32 v.d5, .int .u32 v.d6, .int .u32 v.d7] 24)).alloc (.cells #[.int .u32 0, .int .u32 0, .int .u32 0, .int .u32 0, .int .u32 0, .int .u32 0, .int .u32 0, .int .u32 0, .slice none 0 0] 30)).heap[w.heap.size]? = some (.cells #[.int .u32 v.d0, .int .u32 v.d1, .int .u32 v.d2, .int .u32 v.d3, .int .u32 v.d4, .int .u32 v.d5, .int .u32 v.d6, .int .u32 v.d7] 24 (0, 0)) := heap_old _ (by simp) (heap_at _ _ rfl)
  have hbR : ((w.alloc (.cells #[.int .u32 v.d0, .int .u32 v.d1, .int .u32 v.d2, .int .u32 v.d3, .int .u32 v.d4, .int .u32 v.d5, .int .u32 v.d6, .int .u32 v.d7] 24)).alloc (.cells #[.int .u32 0, .int .u32 0, .int .u32 0, .int .u32 0, .int .u32 0, .int .u32 0, .int .u32 0, .int .u32 0, .slice none 0 0] 30)).heap[w.heap.size + 1]? = some (.cells #[.int .u32 0, .int .u32 0, .int .u32 0, .int .u32 0, .int .u32 0, .int .u32 0, .int .u32 0, .int .u32 0, .slice none 0 0] 30 (0, 0)) := heap_at _ _ (by simp)
  have hb0 : Below w.heap.size w ((w.alloc (.cells #[.int .u32 v.d0, .int .u32 v.d1, .int .u32 v.d2, .int .u32 v.d3, .int .u32 v.d4, .int .u32 v.d5, .int .u32 v.d6, .int .u32 v.d7] 24)).alloc (.cells #[.int .u32 0, .int .u32 0, .int .u32 0, .int .u32 0, .int .u32 0, .int .u32 0, .int .u32 0, .int .u32 0, .slice none 0 0] 30)) := ((Below.refl _ w).alloc (Nat.le_refl _) _).alloc (by simp) _
  generalize hW : ((w.alloc (.cells #[.int .u32 v.d0, .int .u32 v.d1, .int .u32 v.d2, .int .u32 v.d3, .int .u32 v.d4, .int .u32 v.d5, .int .u32 v.d6, .int .u32 v.d7] 24)).alloc (.cells #[.int .u32 0, .int .u32 0, .int .u32 0, .int .u32 0, .int .u32 0, .int .u32 0, .int .u32 0, .int .u32 0, .slice none 0 0] 30)) = W at hbV hbR hb0
  have hltV := blk_lt hbV
  have hltR := blk_lt hbR
  generalize hro : rcV v xs = out
  generalize hrr : rcD v xs = rest
  generalize hre : rcErr v xs = er
  unfold rcV at hro
  unfold rcD at hrr
  rw [hre] at hro hrr
  unfold rcErr at hre
  have hbVk := Lib.hid hbV
  have hbRk := Lib.hid hbR
  cases h1 : vchk v with
  | false =>
    rw [h1, if_pos rfl] at hre
    subst hre
    rw [if_pos (by decide)] at hro hrr
    subst hro hrr
    rw [h1, show errI false = 2 from rfl] at c1
    have c1 := Lib.hid c1
    have q0 := blk_cell hbV 0
    have q1 := blk_cell hbV 1
    have q2 := blk_cell hbV 2
    have q3 := blk_cell hbV 3
    have q4 := blk_cell hbV 4
    have q5 := blk_cell hbV 5
    have q6 := blk_cell hbV 6
    have q7 := blk_cell hbV 7
    simp at q0 q1 q2 q3 q4 q5 q6 q7
    go_enter Try.func6, Try.ntmps6
    go_wp2_with fail
    refine (c1.out _).mono ?_
    rintro e w1 ⟨rfl, hb⟩
    clear q0 q1 q2 q3 q4 q5 q6 q7
    have hbR1 := blk_below hbRk.out hb
    have hltR1 := blk_lt hbR1
    have r0 := blk_cell hbR1 0
    have r1 := blk_cell hbR1 1
    have r2 := blk_cell hbR1 2
    have r3 := blk_cell hbR1 3
    have r4 := blk_cell hbR1 4
    have r5 := blk_cell hbR1 5
    have r6 := blk_cell hbR1 6
    have r7 := blk_cell hbR1 7
    have r8 := blk_cell hbR1 8
    simp at r0 r1 r2 r3 r4 r5 r6 r7 r8
    have hfR := blk_frozen hbR1
    have hG := hb0.trans (hb.mono hb0.size)
    clear hbR1
    go_wp2
    refine bodyPost_ret (v := .tuple #[.agg #[.int .u32 0, .int .u32 0, .int .u32 0, .int .u32 0, .int .u32 0, .int .u32 0, .int .u32 0, .int .u32 0, .slice none 0 0], .int .i64 2]) (by simp [results, Try.results6, go_sem, r0, r1, r2, r3, r4, r5, r6, r7, r8]) rfl ⟨none, 0, 0, rfl, Ow.nil_ _ _ _ _, ?_⟩
    repeat (first | (with_reducible exact hG) | (with_reducible refine Below.drew ?_) | (with_reducible refine Below.alloc ?_ (by first | (simp; done) | (simp; omega) | omega) _) | (with_reducible refine Below.setCell ?_ (by first | (simp; done) | (simp; omega) | omega) _))
  | true =>
    rw [h1, if_neg (by simp)] at hre
    rw [h1, show errI true = 0 from rfl] at c1
    have c1 := Lib.hid c1
    have c2 := fun w1 (hb : Below w.heap.size w w1) => make_any A n c xs w1 ((hA.below hb).more hb.size) hn hx
    have k1 := @make_ok xs
    rw [hre] at c2 k1
    have k1H := Lib.hid k1
    have c2 := Lib.hid c2
    clear k1
    by_cases he : er = 0
    · subst he
      obtain ⟨m1, m2, m3, m4⟩ := k1H.out rfl
      obtain ⟨f1, f2, _, _, _, _, _, _, _, _, _, _⟩ := fold_law h1 m2
      rw [if_neg (by decide)] at hro hrr
      have m1H := Lib.hid m1
      have cF := Lib.hid (fun A' n' c' w' (h : RdI w' w'.heap.size A' n' (makeI xs)) (hn' : n' ≤ 1100) => fold_any v A' n' c' (makeI xs) w' h hn' hv m4)
      rw [f1, f2, hro, hrr] at cF
      clear k1H m1 m2 m4 f1 f2 hre hro hrr h1
      have q0 := blk_cell hbV 0
      have q1 := blk_cell hbV 1
      have q2 := blk_cell hbV 2
      have q3 := blk_cell hbV 3
      have q4 := blk_cell hbV 4
      have q5 := blk_cell hbV 5
      have q6 := blk_cell hbV 6
      have q7 := blk_cell hbV 7
      simp at q0 q1 q2 q3 q4 q5 q6 q7
      go_enter Try.func6, Try.ntmps6
      go_wp2_with fail
      refine (c1.out _).mono ?_
      rintro e w1 ⟨rfl, hb⟩
      have hG1 := hb0.trans (hb.mono hb0.size)
      have hb1 := hb
      clear q0 q1 q2 q3 q4 q5 q6 q7
      go_wp2_with fail
      refine (c2.out _ hG1).mono ?_
      rintro e w2 ⟨A2, n2, c2', rfl, hg2, hb2⟩
      rw [m1H.out] at hg2
      have hn2 := hg2.1.len
      have hG2 := hG1.trans (hb2.mono hG1.size)
      have hbV2 := blk_below (blk_below hbVk.out hb1) hb2
      have hbR2 := blk_below (blk_below hbRk.out hb1) hb2
      have hltV2 := blk_lt hbV2
      have q0 := blk_cell hbV2 0
      have q1 := blk_cell hbV2 1
      have q2 := blk_cell hbV2 2
      have q3 := blk_cell hbV2 3
      have q4 := blk_cell hbV2 4
      have q5 := blk_cell hbV2 5
      have q6 := blk_cell hbV2 6
      have q7 := blk_cell hbV2 7
      simp at q0 q1 q2 q3 q4 q5 q6 q7
      clear hb1 hb
      go_wp2_with fail
      refine (cF.out A2 n2 c2' w2 hg2.1 (by omega)).mono ?_
      rintro e w3 ⟨A3, n3, c3, rfl, o3, hb3⟩
      have hG3 := hG2.trans (hb3.mono hG2.size)
      have hbR3 := blk_below hbR2 hb3
      have hltR3 := blk_lt hbR3
      have r0 := blk_cell hbR3 0
      have r1 := blk_cell hbR3 1
      have r2 := blk_cell hbR3 2
      have r3 := blk_cell hbR3 3
      have r4 := blk_cell hbR3 4
      have r5 := blk_cell hbR3 5
      have r6 := blk_cell hbR3 6
      have r7 := blk_cell hbR3 7
      have r8 := blk_cell hbR3 8
      simp at r0 r1 r2 r3 r4 r5 r6 r7 r8
      have hfR := blk_frozen hbR3
      have hsz2 := hG2.size
      have hlt23 : w.heap.size + 1 < w2.heap.size := blk_lt hbR2
      clear q0 q1 q2 q3 q4 q5 q6 q7 hbR2 hbV2
      go_wp2
      refine bodyPost_ret (v := .tuple #[.agg #[.int .u32 out.d0, .int .u32 out.d1, .int .u32 out.d2, .int .u32 out.d3, .int .u32 out.d4, .int .u32 out.d5, .int .u32 out.d6, .int .u32 out.d7, .slice A3 n3 c3], .int .i64 0]) (by simp [results, Try.results6, go_sem, r0, r1, r2, r3, r4, r5, r6, r7, r8, hltR3]) rfl ⟨A3, n3, c3, rfl, ?_, ?_⟩
      · refine Ow.base (base := w2.heap.size) ?_ hsz2
        refine Ow.below ?_ ((Below.refl _ _).alloc (Nat.le_refl _) _)
        repeat (with_reducible refine Ow.setCell ?_ (by dsimp only; omega) _)
        with_reducible exact o3
      · repeat (first | (with_reducible exact hG3) | (with_reducible refine Below.drew ?_) | (with_reducible refine Below.alloc ?_ (by first | (simp; done) | (simp; omega) | omega) _) | (with_reducible refine Below.setCell ?_ (by first | (simp; done) | (simp; omega) | omega) _))
    · rw [if_pos he] at hro hrr
      subst hro hrr
      have hen : (er != 0) = true := by simpa using he
      clear k1H
      have q0 := blk_cell hbV 0
      have q1 := blk_cell hbV 1
      have q2 := blk_cell hbV 2
      have q3 := blk_cell hbV 3
      have q4 := blk_cell hbV 4
      have q5 := blk_cell hbV 5
      have q6 := blk_cell hbV 6
      have q7 := blk_cell hbV 7
      simp at q0 q1 q2 q3 q4 q5 q6 q7
      go_enter Try.func6, Try.ntmps6
      go_wp2_with fail
      refine (c1.out _).mono ?_
      rintro e w1 ⟨rfl, hb⟩
      have hG1 := hb0.trans (hb.mono hb0.size)
      clear q0 q1 q2 q3 q4 q5 q6 q7
      go_wp2_with fail
      refine (c2.out _ hG1).mono ?_
      rintro e w2 ⟨A2, n2, c2', rfl, hg2, hb2⟩
      replace hb := hb.trans (hb2.mono hb.size)
      have hbR1 := blk_below hbRk.out hb
      have hltR1 := blk_lt hbR1
      have r0 := blk_cell hbR1 0
      have r1 := blk_cell hbR1 1
      have r2 := blk_cell hbR1 2
      have r3 := blk_cell hbR1 3
      have r4 := blk_cell hbR1 4
      have r5 := blk_cell hbR1 5
      have r6 := blk_cell hbR1 6
      have r7 := blk_cell hbR1 7
      have r8 := blk_cell hbR1 8
      simp at r0 r1 r2 r3 r4 r5 r6 r7 r8
      have hfR := blk_frozen hbR1
      have hG := hb0.trans (hb.mono hb0.size)
      clear hbR1
      go_wp2
      refine bodyPost_ret (v := .tuple #[.agg #[.int .u32 0, .int .u32 0, .int .u32 0, .int .u32 0, .int .u32 0, .int .u32 0, .int .u32 0, .int .u32 0, .slice none 0 0], .int .i64 er]) (by simp [results, Try.results6, go_sem, r0, r1, r2, r3, r4, r5, r6, r7, r8]) rfl ⟨none, 0, 0, rfl, Ow.nil_ _ _ _ _, ?_⟩
      repeat (first | (with_reducible exact hG) | (with_reducible refine Below.drew ?_) | (with_reducible refine Below.alloc ?_ (by first | (simp; done) | (simp; omega) | omega) _) | (with_reducible refine Below.setCell ?_ (by first | (simp; done) | (simp; omega) | omega) _))
end Go.Proofs.Ytpfohpfgfdeecaa
