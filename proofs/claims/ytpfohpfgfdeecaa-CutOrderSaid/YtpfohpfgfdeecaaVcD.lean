/- dots.Fold: a vector with all of a set that goes on from it, and the rest. -/
import Derived.Test.YtpfohpfgfdeecaaVcB
import Derived.Test.YtpfohpfgfdeecaaDtN
import Derived.Test.YtpfohpfgfdeecaaGb
namespace Go.Proofs.Ytpfohpfgfdeecaa
open Go.RowKit

set_option maxRecDepth 100000 in
set_option maxHeartbeats 2000000 in
theorem fold_any (v : Vm) (A : Option Addr) (n c : Nat) (xs : List Im) (w : World) (hA : RdI w w.heap.size A n xs) (hn : n ≤ 1100) (hv : v.wf) (hx : ∀ x ∈ xs, x.wf) :
    Calls Try.prog 14 #[.agg #[.int .u32 v.d0, .int .u32 v.d1, .int .u32 v.d2, .int .u32 v.d3, .int .u32 v.d4, .int .u32 v.d5, .int .u32 v.d6, .int .u32 v.d7], .slice A n c] w fun e w' => ∃ A' n' c', e = .returned (.tuple #[.agg #[.int .u32 (foldOut v xs).d0, .int .u32 (foldOut v xs).d1, .int .u32 (foldOut v xs).d2, .int .u32 (foldOut v xs).d3, .int .u32 (foldOut v xs).d4, .int .u32 (foldOut v xs).d5, .int .u32 (foldOut v xs).d6, .int .u32 (foldOut v xs).d7], .slice A' n' c', .int .i64 (foldErr v xs)]) ∧ Ow w' w.heap.size 37 2 (.slice A' n' c') ((foldRest v xs).map Im.enc) ∧ Below w.heap.size w w' := by
  have c1 := vcheck_any v
  have hl := hA.len
  have hb0 : Below w.heap.size w ((w.alloc (.cells #[.int .u32 v.d0, .int .u32 v.d1, .int .u32 v.d2, .int .u32 v.d3, .int .u32 v.d4, .int .u32 v.d5, .int .u32 v.d6, .int .u32 v.d7] 24)).alloc (.cells #[.int .u32 0, .int .u32 0, .int .u32 0, .int .u32 0, .int .u32 0, .int .u32 0, .int .u32 0, .int .u32 0] 24)) := ((Below.refl _ w).alloc (Nat.le_refl _) _).alloc (by simp) _
  have cF := Lib.hid (beyondO_any A n c xs (foldV v xs))
  generalize hro : foldOut v xs = out
  generalize hrr : foldRest v xs = rest
  generalize hre : foldErr v xs = er
  unfold foldOut at hro
  unfold foldRest at hrr
  rw [hre] at hro hrr
  unfold foldErr at hre
  cases h1 : vchk v with
  | false =>
    rw [h1, if_pos rfl] at hre
    subst hre
    rw [if_pos (by decide)] at hro hrr
    subst hro hrr
    rw [h1, show errI false = 2 from rfl] at c1
    have c1 := Lib.hid c1
    go_enter Try.func14, Try.ntmps14
    go_wp2_with fail
    refine (c1.out _).mono ?_
    rintro e w1 ⟨rfl, hb⟩
    have hz := hb.size
    simp only [World.size_alloc] at hz
    have hbR : w1.heap[w.heap.size + 1]? = some (.cells #[.int .u32 0, .int .u32 0, .int .u32 0, .int .u32 0, .int .u32 0, .int .u32 0, .int .u32 0, .int .u32 0] 24 (0, 0)) := (hb.block _ (by first | (simp; done) | (simp; omega) | omega)).trans (heap_at _ _ (by simp))
    have r0 := blk_cell hbR 0
    have r1 := blk_cell hbR 1
    have r2 := blk_cell hbR 2
    have r3 := blk_cell hbR 3
    have r4 := blk_cell hbR 4
    have r5 := blk_cell hbR 5
    have r6 := blk_cell hbR 6
    have r7 := blk_cell hbR 7
    have hfR := blk_frozen hbR
    simp at r0 r1 r2 r3 r4 r5 r6 r7
    have hG : Below w.heap.size w w1 := hb0.trans (hb.mono (by first | (simp; done) | (simp; omega) | omega))
    go_wp2
    refine bodyPost_ret (v := .tuple #[.agg #[.int .u32 0, .int .u32 0, .int .u32 0, .int .u32 0, .int .u32 0, .int .u32 0, .int .u32 0, .int .u32 0], .slice none 0 0, .int .i64 2]) (by simp [results, Try.results14, go_sem, r0, r1, r2, r3, r4, r5, r6, r7]) rfl ⟨none, 0, 0, rfl, Ow.nil_ _ _ _ _, ?_⟩
    repeat (first | (with_reducible exact hG) | (with_reducible refine Below.drew ?_) | (with_reducible refine Below.alloc ?_ (by first | (simp; done) | (simp; omega) | omega) _) | (with_reducible refine Below.setCell ?_ (by first | (simp; done) | (simp; omega) | omega) _))
  | true =>
    rw [h1, if_neg (by simp)] at hre
    rw [h1, show errI true = 0 from rfl] at c1
    have c1 := Lib.hid c1
    have c2 := fun w1 (hb : Below w.heap.size w w1) => check_any A n c xs w1 ((hA.below hb).more hb.size) (by simp [maxLen]; omega) hx
    generalize hle : lerr xs = p at hre c2
    have c2 := Lib.hid c2
    by_cases hp : p = 0
    · subst hp hre
      rw [if_neg (by simp)] at hro hrr
      subst hro hrr
      go_enter Try.func14, Try.ntmps14
      go_wp2_with fail
      refine (c1.out _).mono ?_
      rintro e w1 ⟨rfl, hb⟩
      have hz := hb.size
      simp only [World.size_alloc] at hz
      have hbR : w1.heap[w.heap.size + 1]? = some (.cells #[.int .u32 0, .int .u32 0, .int .u32 0, .int .u32 0, .int .u32 0, .int .u32 0, .int .u32 0, .int .u32 0] 24 (0, 0)) := (hb.block _ (by first | (simp; done) | (simp; omega) | omega)).trans (heap_at _ _ (by simp))
      have r0 := blk_cell hbR 0
      have r1 := blk_cell hbR 1
      have r2 := blk_cell hbR 2
      have r3 := blk_cell hbR 3
      have r4 := blk_cell hbR 4
      have r5 := blk_cell hbR 5
      have r6 := blk_cell hbR 6
      have r7 := blk_cell hbR 7
      have hfR := blk_frozen hbR
      simp at r0 r1 r2 r3 r4 r5 r6 r7
      have hG : Below w.heap.size w w1 := hb0.trans (hb.mono (by first | (simp; done) | (simp; omega) | omega))
      have hbV : w1.heap[w.heap.size]? = some (.cells #[.int .u32 v.d0, .int .u32 v.d1, .int .u32 v.d2, .int .u32 v.d3, .int .u32 v.d4, .int .u32 v.d5, .int .u32 v.d6, .int .u32 v.d7] 24 (0, 0)) := (hb.block _ (by first | (simp; done) | (simp; omega) | omega)).trans (heap_old _ (by simp) (heap_at _ _ rfl))
      go_wp2_with fail
      refine (c2.out _ hG).mono ?_
      rintro e w2 ⟨rfl, hb2⟩
      replace hbV := blk_below hbV hb2
      replace hbR := blk_below hbR hb2
      replace hG := hG.trans (hb2.mono (by omega))
      clear hz r0 r1 r2 r3 r4 r5 r6 r7 hfR hb hb2 c1 c2 hb0
      go_wp2_with fail
      go_loopg [29] (n + 1) (fun g i wr => ∃ k : Nat, k ≤ n ∧ g = n + 1 - k ∧ i = .int .i64 (k : Int) ∧ wr.heap[w.heap.size]? = some (.cells #[.int .u32 (foldV v (xs.take k)).d0, .int .u32 (foldV v (xs.take k)).d1, .int .u32 (foldV v (xs.take k)).d2, .int .u32 (foldV v (xs.take k)).d3, .int .u32 (foldV v (xs.take k)).d4, .int .u32 (foldV v (xs.take k)).d5, .int .u32 (foldV v (xs.take k)).d6, .int .u32 (foldV v (xs.take k)).d7] 24 (0, 0)) ∧ wr.heap[w.heap.size + 1]? = some (.cells #[.int .u32 0, .int .u32 0, .int .u32 0, .int .u32 0, .int .u32 0, .int .u32 0, .int .u32 0, .int .u32 0] 24 (0, 0)) ∧ Below w.heap.size w wr)
      case atStart => exact ⟨0, Nat.zero_le _, rfl, rfl, hbV, hbR, hG⟩
      case round =>
        clear hbV hbR hG
        obtain ⟨k, hk, rfl, rfl, hbV, hbR, hG⟩ := hrel
        have hz := blk_lt hbR
        have hz0 : w.heap.size < wr.heap.size := by omega
        by_cases hlt : k < n
        · obtain ⟨bA, oA, u, rfl, hbA, hp, hcp⟩ := (hA.below hG).at_ hlt
          have p0 := hcp 0 _ rfl
          have p1 := hcp 1 _ rfl
          rw [Nat.add_zero] at p0
          clear hcp
          have hbA2 : bA < wr.heap.size := by omega
          have hst := foldV_take (v := v) hp
          have hwf := foldV_wf (xs.take k) hv
          generalize foldV v (xs.take k) = V at hst hwf hbV
          have ct := fun w' => take_any V u hwf (hx u (List.mem_of_getElem? hp)) w'
          unfold stepV at hst
          generalize takeErr V u = er at ct hst
          generalize takeV V u = V1 at ct hst
          have ct := Lib.hid ct
          have q0 := blk_cell hbV 0
          have q1 := blk_cell hbV 1
          have q2 := blk_cell hbV 2
          have q3 := blk_cell hbV 3
          have q4 := blk_cell hbV 4
          have q5 := blk_cell hbV 5
          have q6 := blk_cell hbV 6
          have q7 := blk_cell hbV 7
          simp at q0 q1 q2 q3 q4 q5 q6 q7
          clear hp hwf
          obtain ⟨u1, u2⟩ := u
          dsimp only at p0 p1
          go_wp2_with fail
          refine (ct.out _).mono ?_
          rintro e w2 ⟨rfl, hb2⟩
          have hz2 := hb2.size
          simp only [World.size_alloc] at hz2
          replace hbV := (hb2.block _ (by first | (simp; done) | (simp; omega) | omega)).trans (heap_old (.cells #[.int .i64 u1, .int .u32 u2] 37) hz0 hbV)
          replace hbR := (hb2.block _ (by first | (simp; done) | (simp; omega) | omega)).trans (heap_old (.cells #[.int .i64 u1, .int .u32 u2] 37) hz hbR)
          replace hG : Below w.heap.size w w2 := (hG.alloc hG.size _).trans (hb2.mono (by first | (simp; done) | (simp; omega) | omega))
          have hz3 : w.heap.size < w2.heap.size := by omega
          have hz4 : w.heap.size + 1 < w2.heap.size := by omega
          have hfV := blk_frozen hbV
          clear q0 q1 q2 q3 q4 q5 q6 q7 hb2 p0 p1
          have q0 := blk_cell hbV 0
          have q1 := blk_cell hbV 1
          have q2 := blk_cell hbV 2
          have q3 := blk_cell hbV 3
          have q4 := blk_cell hbV 4
          have q5 := blk_cell hbV 5
          have q6 := blk_cell hbV 6
          have q7 := blk_cell hbV 7
          simp at q0 q1 q2 q3 q4 q5 q6 q7
          by_cases her : er = 0
          · subst her
            rw [if_pos rfl] at hst
            have hst := Lib.hid hst
            go_wp2
            go_roundg (n + 1 - (k + 1))
            case measure => omega
            case rel =>
              refine ⟨k + 1, by omega, rfl, by go_num, ?_, ?_, ?_⟩
              · rw [hst.out]; with_reducible exact heap_old _ (by first | (simp; done) | (simp; omega) | omega) (blk_set8 hbV _ _ _ _ _ _ _ _)
              · refine heap_old _ (by first | (simp; done) | (simp; omega) | omega) ?_
                repeat (refine heap_set_ne (by first | (simp; done) | (simp; omega) | omega) ?_)
                exact hbR
              · repeat (first | (with_reducible exact hG) | (with_reducible refine Below.drew ?_) | (with_reducible refine Below.alloc ?_ (by first | (simp; done) | (simp; omega) | omega) _) | (with_reducible refine Below.setCell ?_ (by first | (simp; done) | (simp; omega) | omega) _))
          · rw [if_neg her] at hst
            have hst := Lib.hid hst
            have her' : (er == 0) = false := by simpa using her
            go_wp2
            go_roundg (n + 1 - (k + 1))
            case measure => omega
            case rel =>
              refine ⟨k + 1, by omega, rfl, by go_num, ?_, ?_, ?_⟩
              · rw [hst.out]; exact heap_old _ hz3 hbV
              · exact heap_old _ hz4 hbR
              · exact hG.alloc hG.size _
        · have hfull : foldV v (xs.take k) = foldV v xs := by rw [List.take_of_length_le (by omega)]
          rw [hfull] at hbV
          have q0 := blk_cell hbV 0
          have q1 := blk_cell hbV 1
          have q2 := blk_cell hbV 2
          have q3 := blk_cell hbV 3
          have q4 := blk_cell hbV 4
          have q5 := blk_cell hbV 5
          have q6 := blk_cell hbV 6
          have q7 := blk_cell hbV 7
          simp at q0 q1 q2 q3 q4 q5 q6 q7
          go_wp2_with fail
          refine (cF.out wr ((hA.below hG).more hG.size) hn hx).mono ?_
          rintro e w2 ⟨A2, n2, c2, rfl, hgot, hb2⟩
          replace hbV := blk_below hbV hb2
          replace hbR := blk_below hbR hb2
          have hG0 := hG.size
          replace hG := hG.trans (hb2.mono hG.size)
          clear q0 q1 q2 q3 q4 q5 q6 q7
          have q0 := blk_cell hbV 0
          have q1 := blk_cell hbV 1
          have q2 := blk_cell hbV 2
          have q3 := blk_cell hbV 3
          have q4 := blk_cell hbV 4
          have q5 := blk_cell hbV 5
          have q6 := blk_cell hbV 6
          have q7 := blk_cell hbV 7
          simp at q0 q1 q2 q3 q4 q5 q6 q7
          have r0 := blk_cell hbR 0
          have r1 := blk_cell hbR 1
          have r2 := blk_cell hbR 2
          have r3 := blk_cell hbR 3
          have r4 := blk_cell hbR 4
          have r5 := blk_cell hbR 5
          have r6 := blk_cell hbR 6
          have r7 := blk_cell hbR 7
          simp at r0 r1 r2 r3 r4 r5 r6 r7
          have hfR := blk_frozen hbR
          have hz3 := blk_lt hbV
          have hz4 := blk_lt hbR
          go_wp2
          refine bodyPost_ret (v := .tuple #[.agg #[.int .u32 (foldV v xs).d0, .int .u32 (foldV v xs).d1, .int .u32 (foldV v xs).d2, .int .u32 (foldV v xs).d3, .int .u32 (foldV v xs).d4, .int .u32 (foldV v xs).d5, .int .u32 (foldV v xs).d6, .int .u32 (foldV v xs).d7], .slice A2 n2 c2, .int .i64 0]) (by simp [results, Try.results14, go_sem, r0, r1, r2, r3, r4, r5, r6, r7]) rfl ⟨A2, n2, c2, rfl, ?_, ?_⟩
          · refine Ow.base (base := wr.heap.size) ?_ hG0
            repeat (with_reducible refine Ow.setCell ?_ (by dsimp only; omega) _)
            with_reducible exact hgot
          · repeat (first | (with_reducible exact hG) | (with_reducible refine Below.drew ?_) | (with_reducible refine Below.alloc ?_ (by first | (simp; done) | (simp; omega) | omega) _) | (with_reducible refine Below.setCell ?_ (by first | (simp; done) | (simp; omega) | omega) _))
    · subst hre
      rw [if_pos hp] at hro hrr
      subst hro hrr
      have hpn : (p != 0) = true := by simpa using hp
      go_enter Try.func14, Try.ntmps14
      go_wp2_with fail
      refine (c1.out _).mono ?_
      rintro e w1 ⟨rfl, hb⟩
      have hz := hb.size
      simp only [World.size_alloc] at hz
      have hbR : w1.heap[w.heap.size + 1]? = some (.cells #[.int .u32 0, .int .u32 0, .int .u32 0, .int .u32 0, .int .u32 0, .int .u32 0, .int .u32 0, .int .u32 0] 24 (0, 0)) := (hb.block _ (by first | (simp; done) | (simp; omega) | omega)).trans (heap_at _ _ (by simp))
      have r0 := blk_cell hbR 0
      have r1 := blk_cell hbR 1
      have r2 := blk_cell hbR 2
      have r3 := blk_cell hbR 3
      have r4 := blk_cell hbR 4
      have r5 := blk_cell hbR 5
      have r6 := blk_cell hbR 6
      have r7 := blk_cell hbR 7
      have hfR := blk_frozen hbR
      simp at r0 r1 r2 r3 r4 r5 r6 r7
      have hG : Below w.heap.size w w1 := hb0.trans (hb.mono (by first | (simp; done) | (simp; omega) | omega))
      go_wp2_with fail
      refine (c2.out _ hG).mono ?_
      rintro e w2 ⟨rfl, hb2⟩
      replace hb := hb.trans (hb2.mono (by simp; omega))
      clear hz hbR r0 r1 r2 r3 r4 r5 r6 r7 hfR hG
      have hz := hb.size
      simp only [World.size_alloc] at hz
      have hbR : w2.heap[w.heap.size + 1]? = some (.cells #[.int .u32 0, .int .u32 0, .int .u32 0, .int .u32 0, .int .u32 0, .int .u32 0, .int .u32 0, .int .u32 0] 24 (0, 0)) := (hb.block _ (by first | (simp; done) | (simp; omega) | omega)).trans (heap_at _ _ (by simp))
      have r0 := blk_cell hbR 0
      have r1 := blk_cell hbR 1
      have r2 := blk_cell hbR 2
      have r3 := blk_cell hbR 3
      have r4 := blk_cell hbR 4
      have r5 := blk_cell hbR 5
      have r6 := blk_cell hbR 6
      have r7 := blk_cell hbR 7
      have hfR := blk_frozen hbR
      simp at r0 r1 r2 r3 r4 r5 r6 r7
      have hG : Below w.heap.size w w2 := hb0.trans (hb.mono (by first | (simp; done) | (simp; omega) | omega))
      go_wp2
      refine bodyPost_ret (v := .tuple #[.agg #[.int .u32 0, .int .u32 0, .int .u32 0, .int .u32 0, .int .u32 0, .int .u32 0, .int .u32 0, .int .u32 0], .slice none 0 0, .int .i64 p]) (by simp [results, Try.results14, go_sem, r0, r1, r2, r3, r4, r5, r6, r7]) rfl ⟨none, 0, 0, rfl, Ow.nil_ _ _ _ _, ?_⟩
      repeat (first | (with_reducible exact hG) | (with_reducible refine Below.drew ?_) | (with_reducible refine Below.alloc ?_ (by first | (simp; done) | (simp; omega) | omega) _) | (with_reducible refine Below.setCell ?_ (by first | (simp; done) | (simp; omega) | omega) _))
end Go.Proofs.Ytpfohpfgfdeecaa
