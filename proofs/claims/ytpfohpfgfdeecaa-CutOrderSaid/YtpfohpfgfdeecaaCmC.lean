/- slices.Clip at names; cut.Add. -/
import Derived.Test.YtpfohpfgfdeecaaCmA
import Derived.Test.YtpfohpfgfdeecaaCmB
import Derived.Test.YtpfohpfgfdeecaaApp
namespace Go.Proofs.Ytpfohpfgfdeecaa
open Go.RowKit
theorem clip_any (A : Option Addr) (n c : Nat) (w : World) (hnc : n ≤ c) (_hc : c ≤ maxLen) :
    Calls Try.prog 21 #[.slice A n c] w fun e w' => e = .returned (.slice A n n) ∧ w' = w := by
  unfold maxLen at _hc
  go_enter Try.func21, Try.ntmps21
  go_wp2
  go_ret
  exact ⟨rfl, rfl⟩
set_option maxRecDepth 100000 in
set_option maxHeartbeats 1000000 in
theorem cadd_any (v : Vm) (A : Option Addr) (n c : Nat) (xs : List Im) (x : Im) (w : World) (hA : RdI w w.heap.size A n xs) (hn : n ≤ 1050) (hnc : n ≤ c) (hc : c ≤ maxLen) (hv : v.wf) (hx : ∀ x ∈ xs, x.wf) (hxw : x.wf) :
    Calls Try.prog 9 #[.agg #[.int .u32 v.d0, .int .u32 v.d1, .int .u32 v.d2, .int .u32 v.d3, .int .u32 v.d4, .int .u32 v.d5, .int .u32 v.d6, .int .u32 v.d7, .slice A n c], .agg #[.int .i64 x.1, .int .u32 x.2]] w fun e w' => ∃ A' n' c', e = .returned (.tuple #[.agg #[.int .u32 (addV v xs x).d0, .int .u32 (addV v xs x).d1, .int .u32 (addV v xs x).d2, .int .u32 (addV v xs x).d3, .int .u32 (addV v xs x).d4, .int .u32 (addV v xs x).d5, .int .u32 (addV v xs x).d6, .int .u32 (addV v xs x).d7, .slice A' n' c'], .int .i64 (addErr v xs x)]) ∧ Ow w' w.heap.size 37 2 (.slice A' n' c') ((addD v xs x).map Im.enc) ∧ Below w.heap.size w w' := by
  have hb0 : Below w.heap.size w (((w.alloc (.cells #[.int .u32 v.d0, .int .u32 v.d1, .int .u32 v.d2, .int .u32 v.d3, .int .u32 v.d4, .int .u32 v.d5, .int .u32 v.d6, .int .u32 v.d7, .slice A n c] 30)).alloc (.cells #[.int .i64 x.1, .int .u32 x.2] 37)).alloc (.cells #[.int .u32 0, .int .u32 0, .int .u32 0, .int .u32 0, .int .u32 0, .int .u32 0, .int .u32 0, .int .u32 0, .slice none 0 0] 30)) := (((Below.refl _ w).alloc (Nat.le_refl _) _).alloc (by simp) _).alloc (by simp; omega) _
  have hbA : (((w.alloc (.cells #[.int .u32 v.d0, .int .u32 v.d1, .int .u32 v.d2, .int .u32 v.d3, .int .u32 v.d4, .int .u32 v.d5, .int .u32 v.d6, .int .u32 v.d7, .slice A n c] 30)).alloc (.cells #[.int .i64 x.1, .int .u32 x.2] 37)).alloc (.cells #[.int .u32 0, .int .u32 0, .int .u32 0, .int .u32 0, .int .u32 0, .int .u32 0, .int .u32 0, .int .u32 0, .slice none 0 0] 30)).heap[w.heap.size]? = some (.cells #[.int .u32 v.d0, .int .u32 v.d1, .int .u32 v.d2, .int .u32 v.d3, .int .u32 v.d4, .int .u32 v.d5, .int .u32 v.d6, .int .u32 v.d7, .slice A n c] 30 (0, 0)) := heap_old _ (by simp; omega) (heap_old _ (by simp) (heap_at _ _ rfl))
  have hbB : (((w.alloc (.cells #[.int .u32 v.d0, .int .u32 v.d1, .int .u32 v.d2, .int .u32 v.d3, .int .u32 v.d4, .int .u32 v.d5, .int .u32 v.d6, .int .u32 v.d7, .slice A n c] 30)).alloc (.cells #[.int .i64 x.1, .int .u32 x.2] 37)).alloc (.cells #[.int .u32 0, .int .u32 0, .int .u32 0, .int .u32 0, .int .u32 0, .int .u32 0, .int .u32 0, .int .u32 0, .slice none 0 0] 30)).heap[w.heap.size + 1]? = some (.cells #[.int .i64 x.1, .int .u32 x.2] 37 (0, 0)) := heap_old _ (by simp) (heap_at _ _ (by simp))
  have hbR : (((w.alloc (.cells #[.int .u32 v.d0, .int .u32 v.d1, .int .u32 v.d2, .int .u32 v.d3, .int .u32 v.d4, .int .u32 v.d5, .int .u32 v.d6, .int .u32 v.d7, .slice A n c] 30)).alloc (.cells #[.int .i64 x.1, .int .u32 x.2] 37)).alloc (.cells #[.int .u32 0, .int .u32 0, .int .u32 0, .int .u32 0, .int .u32 0, .int .u32 0, .int .u32 0, .int .u32 0, .slice none 0 0] 30)).heap[w.heap.size + 1 + 1]? = some (.cells #[.int .u32 0, .int .u32 0, .int .u32 0, .int .u32 0, .int .u32 0, .int .u32 0, .int .u32 0, .int .u32 0, .slice none 0 0] 30 (0, 0)) := heap_at _ _ (by simp)
  generalize hW : (((w.alloc (.cells #[.int .u32 v.d0, .int .u32 v.d1, .int .u32 v.d2, .int .u32 v.d3, .int .u32 v.d4, .int .u32 v.d5, .int .u32 v.d6, .int .u32 v.d7, .slice A n c] 30)).alloc (.cells #[.int .i64 x.1, .int .u32 x.2] 37)).alloc (.cells #[.int .u32 0, .int .u32 0, .int .u32 0, .int .u32 0, .int .u32 0, .int .u32 0, .int .u32 0, .int .u32 0, .slice none 0 0] 30)) = W at hb0 hbA hbB hbR
  have hltA := blk_lt hbA
  have hltB := blk_lt hbB
  have hltR := blk_lt hbR
  have c1 := ccheck_any v A n c xs W ((hA.below hb0).more hb0.size) (by omega) hv hx
  have c2 := fun w1 => chk_any x hxw w1
  have c3 := fun w1 (hb : Below w.heap.size w w1) => chas_any v A n c xs x w1 ((hA.below hb).more hb.size) (by omega) hxw
  have c4 := fun A' n' c' w' (h : RdI w' w'.heap.size A' n' (xs ++ [x])) (hn' : n' ≤ 1100) => cmake_any v A' n' c' (xs ++ [x]) w' h hn' hv (by
    intro y hy
    rcases List.mem_append.1 hy with hy | hy
    · exact hx y hy
    · obtain rfl := List.mem_singleton.1 hy; exact hxw)
  generalize hro : addV v xs x = out
  generalize hrr : addD v xs x = rest
  generalize hre : addErr v xs x = er
  unfold addV at hro
  unfold addD at hrr
  rw [hre] at hro hrr
  unfold addErr at hre
  have hz1 : rcErr v (xs ++ [x]) ≠ 0 → rcV v (xs ++ [x]) = zV := fun h => by unfold rcV; rw [if_pos h]
  have hz2 : rcErr v (xs ++ [x]) ≠ 0 → rcD v (xs ++ [x]) = [] := fun h => by unfold rcD; rw [if_pos h]
  generalize cutErr v xs = p1 at c1 hre
  generalize chk x = b2 at c2 hre
  generalize hasC v xs x = b3 at c3 hre
  generalize rcV v (xs ++ [x]) = mv at c4 hro hz1
  generalize rcD v (xs ++ [x]) = md at c4 hrr hz2
  generalize rcErr v (xs ++ [x]) = me at c4 hre hz1 hz2
  have hAk := Lib.hid hbA
  have hBk := Lib.hid hbB
  have hbRk := Lib.hid hbR
  have c3 := Lib.hid c3
  have c4 := Lib.hid c4
  have q0 := blk_cell hbA 0
  have q1 := blk_cell hbA 1
  have q2 := blk_cell hbA 2
  have q3 := blk_cell hbA 3
  have q4 := blk_cell hbA 4
  have q5 := blk_cell hbA 5
  have q6 := blk_cell hbA 6
  have q7 := blk_cell hbA 7
  have q8 := blk_cell hbA 8
  simp at q0 q1 q2 q3 q4 q5 q6 q7 q8
  by_cases hp : p1 = 0
  · subst hp
    rw [if_neg (by simp)] at hre
    have c1 := Lib.hid c1
    cases b2 with
    | false =>
      rw [if_pos rfl] at hre
      subst hre
      rw [if_pos (by decide)] at hro hrr
      subst hro hrr
      rw [show errI false = 2 from rfl] at c2
      have c2 := Lib.hid c2
      go_enter Try.func9, Try.ntmps9
      skip
      go_wp2_with fail
      refine c1.out.mono ?_
      rintro e w1 ⟨rfl, hb⟩
      clear q0 q1 q2 q3 q4 q5 q6 q7 q8
      have hbB1 := blk_below hBk.out hb
      have hltB1 := blk_lt hbB1
      have s0 := blk_cell hbB1 0
      have s1 := blk_cell hbB1 1
      simp at s0 s1
      clear hbB1
      go_wp2_with fail
      refine (c2.out _).mono ?_
      rintro e w2 ⟨rfl, hb2⟩
      replace hb := hb.trans (hb2.mono hb.size)
      clear s0 s1 hltB1
      have hG2 := hb0.trans (hb.mono hb0.size)
      have hbA2 := blk_below hAk.out hb
      have hltA2 := blk_lt hbA2
      have q0 := blk_cell hbA2 0
      have q1 := blk_cell hbA2 1
      have q2 := blk_cell hbA2 2
      have q3 := blk_cell hbA2 3
      have q4 := blk_cell hbA2 4
      have q5 := blk_cell hbA2 5
      have q6 := blk_cell hbA2 6
      have q7 := blk_cell hbA2 7
      have q8 := blk_cell hbA2 8
      simp at q0 q1 q2 q3 q4 q5 q6 q7 q8
      have hbB2 := blk_below hBk.out hb
      have hltB2 := blk_lt hbB2
      have s0 := blk_cell hbB2 0
      have s1 := blk_cell hbB2 1
      simp at s0 s1
      clear hbA2 hbB2
      clear q0 q1 q2 q3 q4 q5 q6 q7 q8 s0 s1
      skip
      have hbR1 := blk_below hbRk.out hb
      have hltR1 := blk_lt hbR1
      have r0 := blk_cell hbR1 0
      have r1 := blk_cell hbR1 1
      have r2 := blk_cell hbR1 2
      have r3 := blk_cell hbR1 3
      have r4 := blk_cell hbR1 4
      have r5 := blk_cell hbR1 5
      have r6 := blk_cell hbR1 6
      have r7 := blk_cell hbR1 7
      have r8 := blk_cell hbR1 8
      simp at r0 r1 r2 r3 r4 r5 r6 r7 r8
      have hfR := blk_frozen hbR1
      have hG := hb0.trans (hb.mono hb0.size)
      clear hbR1
      go_wp2
      refine bodyPost_ret (v := .tuple #[.agg #[.int .u32 0, .int .u32 0, .int .u32 0, .int .u32 0, .int .u32 0, .int .u32 0, .int .u32 0, .int .u32 0, .slice none 0 0], .int .i64 2]) (by simp [results, Try.results9, go_sem, r0, r1, r2, r3, r4, r5, r6, r7, r8]) rfl ⟨none, 0, 0, rfl, Ow.nil_ _ _ _ _, ?_⟩
      repeat (first | (with_reducible exact hG) | (with_reducible refine Below.drew ?_) | (with_reducible refine Below.alloc ?_ (by first | (simp; done) | (simp; omega) | omega) _) | (with_reducible refine Below.setCell ?_ (by first | (simp; done) | (simp; omega) | omega) _))
    | true =>
      rw [if_neg (by simp)] at hre
      rw [show errI true = 0 from rfl] at c2
      have c2 := Lib.hid c2
      cases b3 with
      | true =>
        rw [if_pos rfl] at hre
        subst hre
        rw [if_pos (by decide)] at hro hrr
        subst hro hrr
        go_enter Try.func9, Try.ntmps9
        skip
        go_wp2_with fail
        refine c1.out.mono ?_
        rintro e w1 ⟨rfl, hb⟩
        clear q0 q1 q2 q3 q4 q5 q6 q7 q8
        have hbB1 := blk_below hBk.out hb
        have hltB1 := blk_lt hbB1
        have s0 := blk_cell hbB1 0
        have s1 := blk_cell hbB1 1
        simp at s0 s1
        clear hbB1
        go_wp2_with fail
        refine (c2.out _).mono ?_
        rintro e w2 ⟨rfl, hb2⟩
        replace hb := hb.trans (hb2.mono hb.size)
        clear s0 s1 hltB1
        have hG2 := hb0.trans (hb.mono hb0.size)
        have hbA2 := blk_below hAk.out hb
        have hltA2 := blk_lt hbA2
        have q0 := blk_cell hbA2 0
        have q1 := blk_cell hbA2 1
        have q2 := blk_cell hbA2 2
        have q3 := blk_cell hbA2 3
        have q4 := blk_cell hbA2 4
        have q5 := blk_cell hbA2 5
        have q6 := blk_cell hbA2 6
        have q7 := blk_cell hbA2 7
        have q8 := blk_cell hbA2 8
        simp at q0 q1 q2 q3 q4 q5 q6 q7 q8
        have hbB2 := blk_below hBk.out hb
        have hltB2 := blk_lt hbB2
        have s0 := blk_cell hbB2 0
        have s1 := blk_cell hbB2 1
        simp at s0 s1
        clear hbA2 hbB2
        go_wp2_with fail
        refine (c3.out _ hG2).mono ?_
        rintro e w3 ⟨rfl, hb3⟩
        replace hb := hb.trans (hb3.mono hb.size)
        clear q0 q1 q2 q3 q4 q5 q6 q7 q8 s0 s1 hltA2 hltB2
        have hbR1 := blk_below hbRk.out hb
        have hltR1 := blk_lt hbR1
        have r0 := blk_cell hbR1 0
        have r1 := blk_cell hbR1 1
        have r2 := blk_cell hbR1 2
        have r3 := blk_cell hbR1 3
        have r4 := blk_cell hbR1 4
        have r5 := blk_cell hbR1 5
        have r6 := blk_cell hbR1 6
        have r7 := blk_cell hbR1 7
        have r8 := blk_cell hbR1 8
        simp at r0 r1 r2 r3 r4 r5 r6 r7 r8
        have hfR := blk_frozen hbR1
        have hG := hb0.trans (hb.mono hb0.size)
        clear hbR1
        go_wp2
        refine bodyPost_ret (v := .tuple #[.agg #[.int .u32 0, .int .u32 0, .int .u32 0, .int .u32 0, .int .u32 0, .int .u32 0, .int .u32 0, .int .u32 0, .slice none 0 0], .int .i64 11]) (by simp [results, Try.results9, go_sem, r0, r1, r2, r3, r4, r5, r6, r7, r8]) rfl ⟨none, 0, 0, rfl, Ow.nil_ _ _ _ _, ?_⟩
        repeat (first | (with_reducible exact hG) | (with_reducible refine Below.drew ?_) | (with_reducible refine Below.alloc ?_ (by first | (simp; done) | (simp; omega) | omega) _) | (with_reducible refine Below.setCell ?_ (by first | (simp; done) | (simp; omega) | omega) _))
      | false =>
        rw [if_neg (by simp)] at hre
        subst hre
        obtain rfl : mv = out := by
          by_cases h : me = 0
          · rw [if_neg (by simp [h])] at hro; exact hro
          · rw [if_pos h] at hro; rw [hz1 h]; exact hro
        obtain rfl : md = rest := by
          by_cases h : me = 0
          · rw [if_neg (by simp [h])] at hrr; exact hrr
          · rw [if_pos h] at hrr; rw [hz2 h]; exact hrr
        clear hro hrr hz1 hz2
        go_enter Try.func9, Try.ntmps9
        skip
        go_wp2_with fail
        refine c1.out.mono ?_
        rintro e w1 ⟨rfl, hb⟩
        clear q0 q1 q2 q3 q4 q5 q6 q7 q8
        have hbB1 := blk_below hBk.out hb
        have hltB1 := blk_lt hbB1
        have s0 := blk_cell hbB1 0
        have s1 := blk_cell hbB1 1
        simp at s0 s1
        clear hbB1
        go_wp2_with fail
        refine (c2.out _).mono ?_
        rintro e w2 ⟨rfl, hb2⟩
        replace hb := hb.trans (hb2.mono hb.size)
        clear s0 s1 hltB1
        have hG2 := hb0.trans (hb.mono hb0.size)
        have hbA2 := blk_below hAk.out hb
        have hltA2 := blk_lt hbA2
        have q0 := blk_cell hbA2 0
        have q1 := blk_cell hbA2 1
        have q2 := blk_cell hbA2 2
        have q3 := blk_cell hbA2 3
        have q4 := blk_cell hbA2 4
        have q5 := blk_cell hbA2 5
        have q6 := blk_cell hbA2 6
        have q7 := blk_cell hbA2 7
        have q8 := blk_cell hbA2 8
        simp at q0 q1 q2 q3 q4 q5 q6 q7 q8
        have hbB2 := blk_below hBk.out hb
        have hltB2 := blk_lt hbB2
        have s0 := blk_cell hbB2 0
        have s1 := blk_cell hbB2 1
        simp at s0 s1
        clear hbA2 hbB2
        go_wp2_with fail
        refine (c3.out _ hG2).mono ?_
        rintro e w3 ⟨rfl, hb3⟩
        replace hb := hb.trans (hb3.mono hb.size)
        clear q0 q1 q2 q3 q4 q5 q6 q7 q8 s0 s1 hltA2 hltB2
        have hG3 := hb0.trans (hb.mono hb0.size)
        have hz3 := hG3.size
        have hbA3 := blk_below hAk.out hb
        have hltA3 := blk_lt hbA3
        have q0 := blk_cell hbA3 0
        have q1 := blk_cell hbA3 1
        have q2 := blk_cell hbA3 2
        have q3 := blk_cell hbA3 3
        have q4 := blk_cell hbA3 4
        have q5 := blk_cell hbA3 5
        have q6 := blk_cell hbA3 6
        have q7 := blk_cell hbA3 7
        have q8 := blk_cell hbA3 8
        simp at q0 q1 q2 q3 q4 q5 q6 q7 q8
        have hbB3 := blk_below hBk.out hb
        have hltB3 := blk_lt hbB3
        have s0 := blk_cell hbB3 0
        have s1 := blk_cell hbB3 1
        simp at s0 s1
        have hbR3 := blk_below hbRk.out hb
        have hltR3 := blk_lt hbR3
        have hA3 : RdI w3 w.heap.size A n xs := hA.below hG3
        have hq0 : KQ (w.heap.size + 1 + 1) w3 w3 := kq (Below.refl _ _)
        clear hbA3 hbB3 hA c1 c2 c3 hAk hBk hbA hbB hbR hW
        go_wp2_with fail
        go_region_held3 (fun w' => KQ (w.heap.size + 1 + 1) w3 w') (first
      | with_reducible assumption
      | with_reducible exact kq_call (by assumption) (by omega) (by assumption)
      | with_reducible exact kq_grown (by assumption) (by omega) (by assumption) (by simp [Value.ownBlock])
      | ((with_reducible refine kq ?_); (repeat (first | (with_reducible exact Below.refl _ _) | (with_reducible refine Below.drew ?_) | (with_reducible refine Below.alloc ?_ (by first | omega | (simp; done) | (simp; omega)) _) | (with_reducible refine Below.setCell ?_ (by first | (simp; done) | omega | (simp; omega)) _) | (with_reducible exact (by assumption : KQ _ _ _).1))); done))
          (first
            | (go_at_call 21; refine (clip_any A n c _ hnc hc).mono ?_; rintro e w' ⟨rfl, rfl⟩)
            | (refine step_append_full (B0 := w.heap.size) (A0 := A) (B := w3.heap.size + 1) (A := some ⟨w3.heap.size, 0, none⟩) (m := 1) (c := 1) (n := n) (xs := xs.map Im.enc) (ys := [x].map Im.enc) _ rfl _ _ _ rfl eId rfl (kq_rd (n := w.heap.size + 1 + 1) hA3 (by omega) (by assumption)) Im.len rfl (by first | exact Rd.one' [.int .i64 x.1, .int .u32 x.2] rfl | exact (Rd.one' [.int .i64 x.1, .int .u32 x.2] rfl).below (Below.refl _ _).drew) (by decide) Im.len Im.one (by simp [maxLen]; omega) (by omega) ?_
               intro A4 n4 c4' w4 hn4 hown4 hg4
               subst hn4
               have hz4 := hg4.size
               simp at hz4
               have hbR4 := (hg4.block (w.heap.size + 1 + 1) (by simp; omega) (by simp)).trans (heap_drew (heap_old _ (by omega) hbR3))
               have hr4 : RdI w4 w4.heap.size A4 (n + 1) (xs ++ [x]) := by have := hown4.rd.1; rw [← List.map_append] at this; exact this
               clear hown4)
            | (go_at_call 6; refine (c4.out A4 (n + 1) c4' _ (by first | exact hr4 | exact hr4.below (Below.refl _ _).drew) (by omega)).mono ?_
               rintro e w5 ⟨A5, n5, c5, rfl, o5, hb5⟩
               have hz5 := hb5.size
               have hbR5 := blk_below hbR4 hb5
               have hltR5 := blk_lt hbR5
               have hfR5 := blk_frozen hbR5
               have r0 := blk_cell hbR5 0
               have r1 := blk_cell hbR5 1
               have r2 := blk_cell hbR5 2
               have r3 := blk_cell hbR5 3
               have r4 := blk_cell hbR5 4
               have r5 := blk_cell hbR5 5
               have r6 := blk_cell hbR5 6
               have r7 := blk_cell hbR5 7
               have r8 := blk_cell hbR5 8
               simp at r0 r1 r2 r3 r4 r5 r6 r7 r8
               clear hbR5
               have hG5 : Below w.heap.size w w5 := hG3.trans (((by assumption : KQ (w.heap.size + 1 + 1) w3 w4).1.mono (by omega)).trans (hb5.mono (by omega)))))
        all_goals
          (go_wp2
           refine bodyPost_ret (v := .tuple #[.agg #[.int .u32 mv.d0, .int .u32 mv.d1, .int .u32 mv.d2, .int .u32 mv.d3, .int .u32 mv.d4, .int .u32 mv.d5, .int .u32 mv.d6, .int .u32 mv.d7, .slice A5 n5 c5], .int .i64 me]) (by simp [results, Try.results9, go_sem, r0, r1, r2, r3, r4, r5, r6, r7, r8]) rfl ⟨A5, n5, c5, rfl, ?_, ?_⟩
           · refine Ow.base (base := w4.heap.size) ?_ (by omega)
             repeat (with_reducible refine Ow.setCell ?_ (by dsimp only; omega) _)
             with_reducible exact o5
           · repeat (first | (with_reducible exact hG5) | (with_reducible refine Below.drew ?_) | (with_reducible refine Below.alloc ?_ (by first | (simp; done) | (simp; omega) | omega) _) | (with_reducible refine Below.setCell ?_ (by first | (simp; done) | (simp; omega) | omega) _)))
  · rw [if_pos hp] at hre
    subst hre
    rw [if_pos hp] at hro hrr
    subst hro hrr
    have hen : (p1 != 0) = true := by simpa using hp
    have c1 := Lib.hid c1
    go_enter Try.func9, Try.ntmps9
    go_wp2_with fail
    refine c1.out.mono ?_
    rintro e w1 ⟨rfl, hb⟩
    clear q0 q1 q2 q3 q4 q5 q6 q7 q8
    have hbR1 := blk_below hbRk.out hb
    have hltR1 := blk_lt hbR1
    have r0 := blk_cell hbR1 0
    have r1 := blk_cell hbR1 1
    have r2 := blk_cell hbR1 2
    have r3 := blk_cell hbR1 3
    have r4 := blk_cell hbR1 4
    have r5 := blk_cell hbR1 5
    have r6 := blk_cell hbR1 6
    have r7 := blk_cell hbR1 7
    have r8 := blk_cell hbR1 8
    simp at r0 r1 r2 r3 r4 r5 r6 r7 r8
    have hfR := blk_frozen hbR1
    have hG := hb0.trans (hb.mono hb0.size)
    clear hbR1
    go_wp2
    refine bodyPost_ret (v := .tuple #[.agg #[.int .u32 0, .int .u32 0, .int .u32 0, .int .u32 0, .int .u32 0, .int .u32 0, .int .u32 0, .int .u32 0, .slice none 0 0], .int .i64 p1]) (by simp [results, Try.results9, go_sem, r0, r1, r2, r3, r4, r5, r6, r7, r8]) rfl ⟨none, 0, 0, rfl, Ow.nil_ _ _ _ _, ?_⟩
    repeat (first | (with_reducible exact hG) | (with_reducible refine Below.drew ?_) | (with_reducible refine Below.alloc ?_ (by first | (simp; done) | (simp; omega) | omega) _) | (with_reducible refine Below.setCell ?_ (by first | (simp; done) | (simp; omega) | omega) _))
end Go.Proofs.Ytpfohpfgfdeecaa
