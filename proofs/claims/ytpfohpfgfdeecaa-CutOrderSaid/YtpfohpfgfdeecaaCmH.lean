/- cut.Join and the document's. -/
import Derived.Test.YtpfohpfgfdeecaaCmA
import Derived.Test.YtpfohpfgfdeecaaCmG
import Derived.Test.YtpfohpfgfdeecaaPdg
import Derived.Test.YtpfohpfgfdeecaaApp
namespace Go.Proofs.Ytpfohpfgfdeecaa
open Go.RowKit
set_option maxRecDepth 100000 in
set_option maxHeartbeats 1000000 in
theorem cjoin_any (v u : Vm) (A B : Option Addr) (n m c d : Nat) (xs ys : List Im) (w : World) (hA : RdI w w.heap.size A n xs) (hB : RdI w w.heap.size B m ys) (hn : n ≤ 1100) (hm : m ≤ 1100) (hv : v.wf) (hu : u.wf) (hx : ∀ x ∈ xs, x.wf) (hy : ∀ x ∈ ys, x.wf) :
    Calls Try.prog 10 #[.agg #[.int .u32 v.d0, .int .u32 v.d1, .int .u32 v.d2, .int .u32 v.d3, .int .u32 v.d4, .int .u32 v.d5, .int .u32 v.d6, .int .u32 v.d7, .slice A n c], .agg #[.int .u32 u.d0, .int .u32 u.d1, .int .u32 u.d2, .int .u32 u.d3, .int .u32 u.d4, .int .u32 u.d5, .int .u32 u.d6, .int .u32 u.d7, .slice B m d]] w fun e w' => ∃ A' n' c', e = .returned (.tuple #[.agg #[.int .u32 (joinCV v xs u ys).d0, .int .u32 (joinCV v xs u ys).d1, .int .u32 (joinCV v xs u ys).d2, .int .u32 (joinCV v xs u ys).d3, .int .u32 (joinCV v xs u ys).d4, .int .u32 (joinCV v xs u ys).d5, .int .u32 (joinCV v xs u ys).d6, .int .u32 (joinCV v xs u ys).d7, .slice A' n' c'], .int .i64 (joinCE v xs u ys)]) ∧ Ow w' w.heap.size 37 2 (.slice A' n' c') ((joinCD v xs u ys).map Im.enc) ∧ Below w.heap.size w w' := by
  have hb0 : Below w.heap.size w (((w.alloc (.cells #[.int .u32 v.d0, .int .u32 v.d1, .int .u32 v.d2, .int .u32 v.d3, .int .u32 v.d4, .int .u32 v.d5, .int .u32 v.d6, .int .u32 v.d7, .slice A n c] 30)).alloc (.cells #[.int .u32 u.d0, .int .u32 u.d1, .int .u32 u.d2, .int .u32 u.d3, .int .u32 u.d4, .int .u32 u.d5, .int .u32 u.d6, .int .u32 u.d7, .slice B m d] 30)).alloc (.cells #[.int .u32 0, .int .u32 0, .int .u32 0, .int .u32 0, .int .u32 0, .int .u32 0, .int .u32 0, .int .u32 0, .slice none 0 0] 30)) := (((Below.refl _ w).alloc (Nat.le_refl _) _).alloc (by simp) _).alloc (by simp; omega) _
  have hbA : (((w.alloc (.cells #[.int .u32 v.d0, .int .u32 v.d1, .int .u32 v.d2, .int .u32 v.d3, .int .u32 v.d4, .int .u32 v.d5, .int .u32 v.d6, .int .u32 v.d7, .slice A n c] 30)).alloc (.cells #[.int .u32 u.d0, .int .u32 u.d1, .int .u32 u.d2, .int .u32 u.d3, .int .u32 u.d4, .int .u32 u.d5, .int .u32 u.d6, .int .u32 u.d7, .slice B m d] 30)).alloc (.cells #[.int .u32 0, .int .u32 0, .int .u32 0, .int .u32 0, .int .u32 0, .int .u32 0, .int .u32 0, .int .u32 0, .slice none 0 0] 30)).heap[w.heap.size]? = some (.cells #[.int .u32 v.d0, .int .u32 v.d1, .int .u32 v.d2, .int .u32 v.d3, .int .u32 v.d4, .int .u32 v.d5, .int .u32 v.d6, .int .u32 v.d7, .slice A n c] 30 (0, 0)) := heap_old _ (by simp; omega) (heap_old _ (by simp) (heap_at _ _ rfl))
  have hbB : (((w.alloc (.cells #[.int .u32 v.d0, .int .u32 v.d1, .int .u32 v.d2, .int .u32 v.d3, .int .u32 v.d4, .int .u32 v.d5, .int .u32 v.d6, .int .u32 v.d7, .slice A n c] 30)).alloc (.cells #[.int .u32 u.d0, .int .u32 u.d1, .int .u32 u.d2, .int .u32 u.d3, .int .u32 u.d4, .int .u32 u.d5, .int .u32 u.d6, .int .u32 u.d7, .slice B m d] 30)).alloc (.cells #[.int .u32 0, .int .u32 0, .int .u32 0, .int .u32 0, .int .u32 0, .int .u32 0, .int .u32 0, .int .u32 0, .slice none 0 0] 30)).heap[w.heap.size + 1]? = some (.cells #[.int .u32 u.d0, .int .u32 u.d1, .int .u32 u.d2, .int .u32 u.d3, .int .u32 u.d4, .int .u32 u.d5, .int .u32 u.d6, .int .u32 u.d7, .slice B m d] 30 (0, 0)) := heap_old _ (by simp) (heap_at _ _ (by simp))
  have hbR : (((w.alloc (.cells #[.int .u32 v.d0, .int .u32 v.d1, .int .u32 v.d2, .int .u32 v.d3, .int .u32 v.d4, .int .u32 v.d5, .int .u32 v.d6, .int .u32 v.d7, .slice A n c] 30)).alloc (.cells #[.int .u32 u.d0, .int .u32 u.d1, .int .u32 u.d2, .int .u32 u.d3, .int .u32 u.d4, .int .u32 u.d5, .int .u32 u.d6, .int .u32 u.d7, .slice B m d] 30)).alloc (.cells #[.int .u32 0, .int .u32 0, .int .u32 0, .int .u32 0, .int .u32 0, .int .u32 0, .int .u32 0, .int .u32 0, .slice none 0 0] 30)).heap[w.heap.size + 1 + 1]? = some (.cells #[.int .u32 0, .int .u32 0, .int .u32 0, .int .u32 0, .int .u32 0, .int .u32 0, .int .u32 0, .int .u32 0, .slice none 0 0] 30 (0, 0)) := heap_at _ _ (by simp)
  generalize hW : (((w.alloc (.cells #[.int .u32 v.d0, .int .u32 v.d1, .int .u32 v.d2, .int .u32 v.d3, .int .u32 v.d4, .int .u32 v.d5, .int .u32 v.d6, .int .u32 v.d7, .slice A n c] 30)).alloc (.cells #[.int .u32 u.d0, .int .u32 u.d1, .int .u32 u.d2, .int .u32 u.d3, .int .u32 u.d4, .int .u32 u.d5, .int .u32 u.d6, .int .u32 u.d7, .slice B m d] 30)).alloc (.cells #[.int .u32 0, .int .u32 0, .int .u32 0, .int .u32 0, .int .u32 0, .int .u32 0, .int .u32 0, .int .u32 0, .slice none 0 0] 30)) = W at hb0 hbA hbB hbR
  have hltA := blk_lt hbA
  have hltB := blk_lt hbB
  have hltR := blk_lt hbR
  have c1 := ccheck_any v A n c xs W ((hA.below hb0).more hb0.size) hn hv hx
  have c2 := fun w1 (hb : Below w.heap.size w w1) => ccheck_any u B m d ys w1 ((hB.below hb).more hb.size) hm hu hy
  have cV := Lib.hid (vjoin_any v u hv hu)
  have c4 := fun A' n' c' w' (h : RdI w' w'.heap.size A' n' (xs ++ ys)) (hn' : n' ≤ 1100) => cmake_any (joinV v u) A' n' c' (xs ++ ys) w' h hn' (join_wf hv hu) (by
    intro y hyy
    rcases List.mem_append.1 hyy with hyy | hyy
    · exact hx y hyy
    · exact hy y hyy)
  have hlx : cutErr v xs = 0 → xs.length ≤ 64 := fun h => (lerr_zero.1 (cut_ok.1 h).2.1).1
  have hly : cutErr u ys = 0 → ys.length ≤ 64 := fun h => (lerr_zero.1 (cut_ok.1 h).2.1).1
  rw [hA.len] at hlx
  rw [hB.len] at hly
  generalize hro : joinCV v xs u ys = out
  generalize hrr : joinCD v xs u ys = rest
  generalize hre : joinCE v xs u ys = er
  unfold joinCV at hro
  unfold joinCD at hrr
  unfold joinCE at hre
  generalize hk : cut2 v xs u ys = k at hro hrr hre
  unfold cut2 at hk
  generalize cutErr v xs = p1 at c1 hk hlx
  generalize cutErr u ys = p2 at c2 hk hly
  generalize joinV v u = jv at *
  generalize rcV jv (xs ++ ys) = mv at c4 hro
  generalize rcD jv (xs ++ ys) = md at c4 hrr
  generalize rcErr jv (xs ++ ys) = me at c4 hre
  have hAk := Lib.hid hbA
  have hBk := Lib.hid hbB
  have hbRk := Lib.hid hbR
  have c4 := Lib.hid c4
  have q0 := blk_cell hbA 0
  have q1 := blk_cell hbA 1
  have q2 := blk_cell hbA 2
  have q3 := blk_cell hbA 3
  have q4 := blk_cell hbA 4
  have q5 := blk_cell hbA 5
  have q6 := blk_cell hbA 6
  have q7 := blk_cell hbA 7
  have q8 := blk_cell hbA 8
  simp at q0 q1 q2 q3 q4 q5 q6 q7 q8
  by_cases hp : p1 = 0
  · subst hp
    have c1 := Lib.hid c1
    rw [if_neg (by simp)] at hk
    subst hk
    by_cases hq : p2 = 0
    · subst hq
      have c2 := Lib.hid c2
      rw [if_neg (by simp)] at hre hro hrr
      subst hre hro hrr
      have hn64 := hlx rfl
      have hm64 := hly rfl
      clear hlx hly
      go_enter Try.func10, Try.ntmps10
      skip
      go_wp2_with fail
      refine c1.out.mono ?_
      rintro e w1 ⟨rfl, hb⟩
      clear q0 q1 q2 q3 q4 q5 q6 q7 q8
      have hG1 := hb0.trans (hb.mono hb0.size)
      have hbB1 := blk_below hBk.out hb
      have hltB1 := blk_lt hbB1
      have s0 := blk_cell hbB1 0
      have s1 := blk_cell hbB1 1
      have s2 := blk_cell hbB1 2
      have s3 := blk_cell hbB1 3
      have s4 := blk_cell hbB1 4
      have s5 := blk_cell hbB1 5
      have s6 := blk_cell hbB1 6
      have s7 := blk_cell hbB1 7
      have s8 := blk_cell hbB1 8
      simp at s0 s1 s2 s3 s4 s5 s6 s7 s8
      clear hbB1
      go_wp2_with fail
      refine (c2.out _ hG1).mono ?_
      rintro e w2 ⟨rfl, hb2⟩
      replace hb := hb.trans (hb2.mono hb.size)
      clear s0 s1 s2 s3 s4 s5 s6 s7 s8 hltB1
      have hG2 := hb0.trans (hb.mono hb0.size)
      have hz2 := hG2.size
      have hbA2 := blk_below hAk.out hb
      have hltA2 := blk_lt hbA2
      have q0 := blk_cell hbA2 0
      have q1 := blk_cell hbA2 1
      have q2 := blk_cell hbA2 2
      have q3 := blk_cell hbA2 3
      have q4 := blk_cell hbA2 4
      have q5 := blk_cell hbA2 5
      have q6 := blk_cell hbA2 6
      have q7 := blk_cell hbA2 7
      have q8 := blk_cell hbA2 8
      simp at q0 q1 q2 q3 q4 q5 q6 q7 q8
      have hbB2 := blk_below hBk.out hb
      have hltB2 := blk_lt hbB2
      have s0 := blk_cell hbB2 0
      have s1 := blk_cell hbB2 1
      have s2 := blk_cell hbB2 2
      have s3 := blk_cell hbB2 3
      have s4 := blk_cell hbB2 4
      have s5 := blk_cell hbB2 5
      have s6 := blk_cell hbB2 6
      have s7 := blk_cell hbB2 7
      have s8 := blk_cell hbB2 8
      simp at s0 s1 s2 s3 s4 s5 s6 s7 s8
      have hbR2 := blk_below hbRk.out hb
      have hltR2 := blk_lt hbR2
      have hA2 : RdI w2 w.heap.size A n xs := hA.below hG2
      have hB2 : RdI w2 w.heap.size B m ys := hB.below hG2
      have hq0 : KQ (w.heap.size + 1 + 1) w2 w2 := kq (Below.refl _ _)
      clear hbA2 hbB2 hA hB c1 c2 hAk hBk hbA hbB hbR hW
      go_wp2_with fail
      go_region_held3 (fun w' => KQ (w.heap.size + 1 + 1) w2 w') (first
      | with_reducible assumption
      | with_reducible exact kq_call (by assumption) (by omega) (by assumption)
      | with_reducible exact kq_grown (by assumption) (by omega) (by assumption) (by simp [Value.ownBlock])
      | ((with_reducible refine kq ?_); (repeat (first | (with_reducible exact Below.refl _ _) | (with_reducible refine Below.drew ?_) | (with_reducible refine Below.alloc ?_ (by first | omega | (simp; done) | (simp; omega)) _) | (with_reducible refine Below.setCell ?_ (by first | (simp; done) | omega | (simp; omega)) _) | (with_reducible exact (by assumption : KQ _ _ _).1))); done))
        (first
          | (go_at_call 22; refine (cV.out _).mono ?_; rintro e v4 ⟨rfl, hb4⟩
             have hz4 := hb4.size
             (try simp at hz4)
             have hq4 : KQ (w.heap.size + 1 + 1) w2 v4 := kq_call (by assumption) (by omega) hb4
             have hbR4 : v4.heap[w.heap.size + 1 + 1]? = some (.cells #[.int .u32 0, .int .u32 0, .int .u32 0, .int .u32 0, .int .u32 0, .int .u32 0, .int .u32 0, .int .u32 0, .slice none 0 0] 30 (0, 0)) := (hb4.block _ (by first | omega | (simp; omega))).trans (by first | exact hbR2 | exact heap_drew (heap_old _ (by omega) hbR2))
             (try (have hX4 : v4.heap[w2.heap.size]? = some (.cells #[.slice A n c, .slice B m d] 25 (0, 0)) := (hb4.block _ (by simp; done)).trans (heap_drew (heap_at _ _ rfl)))))
          | (go_at_call 23
             (first
               | (refine (concat_any w2.heap.size A B n m c d xs ys _ hX4 (by exact (kq_rd (n := w.heap.size + 1 + 1) hA2 (by omega) (by assumption)).more (by first | omega | (simp; omega))) (by exact (kq_rd (n := w.heap.size + 1 + 1) hB2 (by omega) (by assumption)).more (by first | omega | (simp; omega))) (by omega) (by omega)).mono ?_)
               | (refine (concat_any v4.heap.size A B n m c d xs ys _ (by exact heap_drew (heap_at _ _ rfl)) (by exact (kq_rd (n := w.heap.size + 1 + 1) hA2 (by omega) (by assumption)).more (by first | omega | (simp; omega))) (by exact (kq_rd (n := w.heap.size + 1 + 1) hB2 (by omega) (by assumption)).more (by first | omega | (simp; omega))) (by omega) (by omega)).mono ?_))
             rintro e v5 ⟨A5, c5, rfl, o5, hb5⟩
             have hz5 := hb5.size
             (try simp at hz5)
             have hq5 : KQ (w.heap.size + 1 + 1) w2 v5 := kq_call (by assumption) (by omega) hb5
             have hbR5 : v5.heap[w.heap.size + 1 + 1]? = some (.cells #[.int .u32 0, .int .u32 0, .int .u32 0, .int .u32 0, .int .u32 0, .int .u32 0, .int .u32 0, .int .u32 0, .slice none 0 0] 30 (0, 0)) := (hb5.block _ (by first | omega | (simp; omega))).trans (by first | exact hbR4 | exact heap_drew (heap_old _ (by omega) hbR4)))
          | (go_at_call 6; refine (c4.out A5 (n + m) c5 _ (by first | exact o5.rd.1 | exact (o5.below (Below.refl _ _).drew).rd.1) (by omega)).mono ?_
             rintro e v6 ⟨A6, n6, c6, rfl, o6, hb6⟩
             have hz6 := hb6.size
             have hbR6 := blk_below hbR5 hb6
             have hltR6 := blk_lt hbR6
             have hfR6 := blk_frozen hbR6
             have r0 := blk_cell hbR6 0
             have r1 := blk_cell hbR6 1
             have r2 := blk_cell hbR6 2
             have r3 := blk_cell hbR6 3
             have r4 := blk_cell hbR6 4
             have r5 := blk_cell hbR6 5
             have r6 := blk_cell hbR6 6
             have r7 := blk_cell hbR6 7
             have r8 := blk_cell hbR6 8
             simp at r0 r1 r2 r3 r4 r5 r6 r7 r8
             clear hbR6
             have hG6 : Below w.heap.size w v6 := hG2.trans (((by assumption : KQ (w.heap.size + 1 + 1) w2 v5).1.mono (by omega)).trans (hb6.mono (by omega)))))
      all_goals
        (go_wp2
         refine bodyPost_ret (v := .tuple #[.agg #[.int .u32 mv.d0, .int .u32 mv.d1, .int .u32 mv.d2, .int .u32 mv.d3, .int .u32 mv.d4, .int .u32 mv.d5, .int .u32 mv.d6, .int .u32 mv.d7, .slice A6 n6 c6], .int .i64 me]) (by simp [results, Try.results10, go_sem, r0, r1, r2, r3, r4, r5, r6, r7, r8]) rfl ⟨A6, n6, c6, rfl, ?_, ?_⟩
         · refine Ow.base (base := v5.heap.size) ?_ (by omega)
           repeat (with_reducible refine Ow.setCell ?_ (by dsimp only; omega) _)
           with_reducible exact o6
         · repeat (first | (with_reducible exact hG6) | (with_reducible refine Below.drew ?_) | (with_reducible refine Below.alloc ?_ (by first | (simp; done) | (simp; omega) | omega) _) | (with_reducible refine Below.setCell ?_ (by first | (simp; done) | (simp; omega) | omega) _)))
    · rw [if_pos hq] at hre hro hrr
      subst hre hro hrr
      have hen : (p2 != 0) = true := by simpa using hq
      have c2 := Lib.hid c2
      go_enter Try.func10, Try.ntmps10
      skip
      go_wp2_with fail
      refine c1.out.mono ?_
      rintro e w1 ⟨rfl, hb⟩
      clear q0 q1 q2 q3 q4 q5 q6 q7 q8
      have hG1 := hb0.trans (hb.mono hb0.size)
      have hbB1 := blk_below hBk.out hb
      have hltB1 := blk_lt hbB1
      have s0 := blk_cell hbB1 0
      have s1 := blk_cell hbB1 1
      have s2 := blk_cell hbB1 2
      have s3 := blk_cell hbB1 3
      have s4 := blk_cell hbB1 4
      have s5 := blk_cell hbB1 5
      have s6 := blk_cell hbB1 6
      have s7 := blk_cell hbB1 7
      have s8 := blk_cell hbB1 8
      simp at s0 s1 s2 s3 s4 s5 s6 s7 s8
      clear hbB1
      go_wp2_with fail
      refine (c2.out _ hG1).mono ?_
      rintro e w2 ⟨rfl, hb2⟩
      replace hb := hb.trans (hb2.mono hb.size)
      clear s0 s1 s2 s3 s4 s5 s6 s7 s8 hltB1
      have hbR1 := blk_below hbRk.out hb
      have hltR1 := blk_lt hbR1
      have r0 := blk_cell hbR1 0
      have r1 := blk_cell hbR1 1
      have r2 := blk_cell hbR1 2
      have r3 := blk_cell hbR1 3
      have r4 := blk_cell hbR1 4
      have r5 := blk_cell hbR1 5
      have r6 := blk_cell hbR1 6
      have r7 := blk_cell hbR1 7
      have r8 := blk_cell hbR1 8
      simp at r0 r1 r2 r3 r4 r5 r6 r7 r8
      have hfR := blk_frozen hbR1
      have hG := hb0.trans (hb.mono hb0.size)
      clear hbR1
      go_wp2
      refine bodyPost_ret (v := .tuple #[.agg #[.int .u32 0, .int .u32 0, .int .u32 0, .int .u32 0, .int .u32 0, .int .u32 0, .int .u32 0, .int .u32 0, .slice none 0 0], .int .i64 p2]) (by simp [results, Try.results10, go_sem, r0, r1, r2, r3, r4, r5, r6, r7, r8]) rfl ⟨none, 0, 0, rfl, Ow.nil_ _ _ _ _, ?_⟩
      repeat (first | (with_reducible exact hG) | (with_reducible refine Below.drew ?_) | (with_reducible refine Below.alloc ?_ (by first | (simp; done) | (simp; omega) | omega) _) | (with_reducible refine Below.setCell ?_ (by first | (simp; done) | (simp; omega) | omega) _))
  · rw [if_pos hp] at hk
    subst hk
    rw [if_pos hp] at hre hro hrr
    subst hre hro hrr
    have hen : (p1 != 0) = true := by simpa using hp
    have c1 := Lib.hid c1
    go_enter Try.func10, Try.ntmps10
    go_wp2_with fail
    refine c1.out.mono ?_
    rintro e w1 ⟨rfl, hb⟩
    clear q0 q1 q2 q3 q4 q5 q6 q7 q8
    have hbR1 := blk_below hbRk.out hb
    have hltR1 := blk_lt hbR1
    have r0 := blk_cell hbR1 0
    have r1 := blk_cell hbR1 1
    have r2 := blk_cell hbR1 2
    have r3 := blk_cell hbR1 3
    have r4 := blk_cell hbR1 4
    have r5 := blk_cell hbR1 5
    have r6 := blk_cell hbR1 6
    have r7 := blk_cell hbR1 7
    have r8 := blk_cell hbR1 8
    simp at r0 r1 r2 r3 r4 r5 r6 r7 r8
    have hfR := blk_frozen hbR1
    have hG := hb0.trans (hb.mono hb0.size)
    clear hbR1
    go_wp2
    refine bodyPost_ret (v := .tuple #[.agg #[.int .u32 0, .int .u32 0, .int .u32 0, .int .u32 0, .int .u32 0, .int .u32 0, .int .u32 0, .int .u32 0, .slice none 0 0], .int .i64 p1]) (by simp [results, Try.results10, go_sem, r0, r1, r2, r3, r4, r5, r6, r7, r8]) rfl ⟨none, 0, 0, rfl, Ow.nil_ _ _ _ _, ?_⟩
    repeat (first | (with_reducible exact hG) | (with_reducible refine Below.drew ?_) | (with_reducible refine Below.alloc ?_ (by first | (simp; done) | (simp; omega) | omega) _) | (with_reducible refine Below.setCell ?_ (by first | (simp; done) | (simp; omega) | omega) _))
end Go.Proofs.Ytpfohpfgfdeecaa
