/- The statements' own check of a few lists, walked. -/
import Derived.Test.YtebpghpeeedgcaaNl
namespace Go.Proofs.Ytebpghpeeedgcaa
open Go.RowKit

theorem two_of {ps : List Rw} {a b : List Int} (h : ps.map Rw.xs = [a, b]) : ∃ r0 r1, ps = [r0, r1] ∧ r0.xs = a ∧ r1.xs = b := by
  match ps, h with
  | [r0, r1], h =>
    simp at h
    exact ⟨r0, r1, rfl, h.1, h.2⟩
set_option maxRecDepth 100000 in
set_option maxHeartbeats 8000000 in
theorem worksS_any (w : World) : Calls Try.prog 15 #[] w fun e w' => e = .returned (.bool true) ∧ Below w.heap.size w w' := by
  obtain ⟨W1, hW1⟩ : ∃ W1, ((w.alloc (.cells #[.int .i64 1] 3)).alloc (.cells #[.int .i64 0, .int .i64 2] 3)).alloc (.cells #[.slice (some ⟨w.heap.size, 0, none⟩) 1 1, .slice (some ⟨w.heap.size + 1, 0, none⟩) 2 2, .slice none 0 0] 31) = W1 := ⟨_, rfl⟩
  have hb1 : Below w.heap.size w W1 := by rw [← hW1]; exact (((Below.refl _ w).alloc (Nat.le_refl _) _).alloc (by simp) _).alloc (by first | (simp; done) | (simp; omega)) _
  have h1a : W1.heap[w.heap.size]? = some (.cells #[.int .i64 1] 3 (0, 0)) := by rw [← hW1]; exact heap_old _ (by first | (simp; done) | (simp; omega)) (heap_old _ (by simp) (heap_at _ _ rfl))
  have h1b : W1.heap[w.heap.size + 1]? = some (.cells #[.int .i64 0, .int .i64 2] 3 (0, 0)) := by rw [← hW1]; exact heap_old _ (by simp) (heap_at _ _ (by simp))
  have h1c : W1.heap[w.heap.size + 1 + 1]? = some (.cells #[.slice (some ⟨w.heap.size, 0, none⟩) 1 1, .slice (some ⟨w.heap.size + 1, 0, none⟩) 2 2, .slice none 0 0] 31 (0, 0)) := by rw [← hW1]; exact heap_at _ _ (by simp)
  have hR1 : RdG W1 W1.heap.size (some ⟨w.heap.size + 1 + 1, 0, none⟩) 3 [⟨some ⟨w.heap.size, 0, none⟩, 1, 1, [1]⟩, ⟨some ⟨w.heap.size + 1, 0, none⟩, 2, 2, [0, 2]⟩, ⟨none, 0, 0, []⟩] :=
    grid_made h1c rfl (blk_lt h1c) (by
      intro r hr
      simp only [List.mem_cons, List.not_mem_nil, or_false] at hr
      rcases hr with rfl | rfl | rfl
      · exact ok_made h1a rfl (blk_lt h1a)
      · exact ok_made h1b rfl (blk_lt h1b)
      · exact ok_nil)
  have cP1 := Lib.hid (sparts_any (some ⟨w.heap.size + 1 + 1, 0, none⟩) 3 3 _ W1 hR1 (by decide) (by
      intro r hr
      simp only [List.mem_cons, List.not_mem_nil, or_false] at hr
      rcases hr with rfl | rfl | rfl <;> (dsimp only; decide)))
  have hz1 := hb1.size
  clear hR1 h1a h1b h1c
  go_enter Try.func15, Try.ntmps15
  go_wp2_with fail
  try rw [hW1]
  clear hW1
  refine cP1.out.mono ?_
  rintro e w2 ⟨P1, pc1, ps, o, rfl, hp, hm, ho, hf, _, hb2⟩
  have ho2 : o = [[2], [0, 1]] := full_uniq (hf rfl).1 (by rw [show (List.map Rw.xs [⟨some ⟨w.heap.size, 0, none⟩, 1, 1, [1]⟩, ⟨some ⟨w.heap.size + 1, 0, none⟩, 2, 2, [0, 2]⟩, ⟨none, 0, 0, []⟩]) = [[1], [0, 2], []] from rfl, gW_ok]; exact fullW)
  rw [ho2] at ho
  obtain ⟨r0, r1, hps, hx0, hx1⟩ := two_of (a := [2]) (b := [0, 1]) ho
  subst hps
  obtain ⟨pb, po, r0', hPA, hpb, hq0, hc0, hk0⟩ := hp.at_ (k := 0) (by simp)
  obtain ⟨pb', po', r1', hPA', _, hq1, hc1, hk1⟩ := hp.at_ (k := 1) (by simp)
  obtain rfl : r0 = r0' := by simpa using hq0
  obtain rfl : r1 = r1' := by simpa using hq1
  subst hPA
  injection hPA' with hPA'
  injection hPA' with hPA1 hPA2
  subst hPA1
  subst hPA2
  have hm0 : r0.l ≤ 100000 := hm r0 (by simp)
  have hm1 : r1.l ≤ 100000 := hm r1 (by simp)
  rw [Nat.add_zero] at hc0
  have hz2 := hb2.size
  have hb02 : Below w.heap.size w w2 := hb1.trans (hb2.mono hz1)
  have hk0H := Lib.hid hk0
  have hk1H := Lib.hid hk1
  have hx0H := Lib.hid hx0
  have hx1H := Lib.hid hx1
  have hc0H := Lib.hid hc0
  have hc1H := Lib.hid hc1
  clear hp hm ho hf hb2 hq0 hq1 hk0 hk1 hx0 hx1 ho2 cP1 hc0 hc1 hb1
  obtain ⟨W3, hW3⟩ : ∃ W3, (((w2.alloc (.cells #[.int .i64 1] 3)).alloc (.cells #[.int .i64 2] 3)).alloc (.cells #[.slice (some ⟨w2.heap.size, 0, none⟩) 1 1, .slice (some ⟨w2.heap.size + 1, 0, none⟩) 1 1, .slice none 0 0] 31)).alloc (.cells #[.bool true, .bool true, .bool false] 4) = W3 := ⟨_, rfl⟩
  have hb3 : Below w2.heap.size w2 W3 := by rw [← hW3]; exact ((((Below.refl _ w2).alloc (Nat.le_refl _) _).alloc (by simp) _).alloc (by first | (simp; done) | (simp; omega)) _).alloc (by first | (simp; done) | (simp; omega)) _
  have h3a : W3.heap[w2.heap.size]? = some (.cells #[.int .i64 1] 3 (0, 0)) := by rw [← hW3]; exact heap_old _ (by first | (simp; done) | (simp; omega)) (heap_old _ (by first | (simp; done) | (simp; omega)) (heap_old _ (by simp) (heap_at _ _ rfl)))
  have h3b : W3.heap[w2.heap.size + 1]? = some (.cells #[.int .i64 2] 3 (0, 0)) := by rw [← hW3]; exact heap_old _ (by first | (simp; done) | (simp; omega)) (heap_old _ (by simp) (heap_at _ _ (by simp)))
  have h3c : W3.heap[w2.heap.size + 1 + 1]? = some (.cells #[.slice (some ⟨w2.heap.size, 0, none⟩) 1 1, .slice (some ⟨w2.heap.size + 1, 0, none⟩) 1 1, .slice none 0 0] 31 (0, 0)) := by rw [← hW3]; exact heap_old _ (by simp) (heap_at _ _ (by simp))
  have h3d : W3.heap[w2.heap.size + 1 + 1 + 1]? = some (.cells #[.bool true, .bool true, .bool false] 4 (0, 0)) := by rw [← hW3]; exact heap_at _ _ (by simp)
  have hR3 : RdG W3 W3.heap.size (some ⟨w2.heap.size + 1 + 1, 0, none⟩) 3 [⟨some ⟨w2.heap.size, 0, none⟩, 1, 1, [1]⟩, ⟨some ⟨w2.heap.size + 1, 0, none⟩, 1, 1, [2]⟩, ⟨none, 0, 0, []⟩] :=
    grid_made h3c rfl (blk_lt h3c) (by
      intro r hr
      simp only [List.mem_cons, List.not_mem_nil, or_false] at hr
      rcases hr with rfl | rfl | rfl
      · exact ok_made h3a rfl (blk_lt h3a)
      · exact ok_made h3b rfl (blk_lt h3b)
      · exact ok_nil)
  have hT3 : Rd W3 W3.heap.size 1 (some ⟨w2.heap.size + 1 + 1 + 1, 0, none⟩) 3 ([true, true, false].map eB) := by
    refine ⟨rfl, fun _ => ⟨_, 0, rfl, blk_lt h3d, fun k x hk j u hu => ?_⟩⟩
    have hkl : k < 3 := by have := (List.getElem?_eq_some_iff.1 hk).1; simpa using this
    rw [blk_cell h3d]
    match k, hkl with
    | 0, _ => simp at hk; subst hk; have hj : j = 0 := by { have := (List.getElem?_eq_some_iff.1 hu).1; simp [eB] at this; exact this }
              subst hj; simpa [eB] using hu
    | 1, _ => simp at hk; subst hk; have hj : j = 0 := by { have := (List.getElem?_eq_some_iff.1 hu).1; simp [eB] at this; exact this }
              subst hj; simpa [eB] using hu
    | 2, _ => simp at hk; subst hk; have hj : j = 0 := by { have := (List.getElem?_eq_some_iff.1 hu).1; simp [eB] at this; exact this }
              subst hj; simpa [eB] using hu
  have cW := Lib.hid (swhole_any (some ⟨w2.heap.size + 1 + 1, 0, none⟩) (some ⟨w2.heap.size + 1 + 1 + 1, 0, none⟩) 3 3 3 3 _ [true, true, false] W3 hR3 hT3 (by decide) (by
      intro r hr
      simp only [List.mem_cons, List.not_mem_nil, or_false] at hr
      rcases hr with rfl | rfl | rfl <;> (dsimp only; decide)))
  have hz3 := hb3.size
  clear hR3 hT3 h3a h3b h3c h3d
  go_wp2_with fail
  try rw [hW3]
  clear hW3
  refine cW.out.mono ?_
  rintro e w4 ⟨Q1, qc1, l1, rfl, hrd, hwh, _, hb4⟩
  obtain rfl : [false, false, false] = l1 := whl_uniq whlV (hwh rfl)
  have hz4 := hb4.size
  have hb04 : Below w.heap.size w w4 := hb02.trans ((hb3.trans (hb4.mono hz3)).mono hb02.size)
  have hb24 : Below w2.heap.size w2 w4 := hb3.trans (hb4.mono hz3)
  have hrdH := Lib.hid hrd
  clear hrd hwh cW hb3 hb4
  obtain ⟨W5, hW5⟩ : ∃ W5, (w4.alloc (.cells #[.int .i64 1] 3)).alloc (.cells #[.slice (some ⟨w4.heap.size, 0, none⟩) 1 1] 31) = W5 := ⟨_, rfl⟩
  have hb5 : Below w4.heap.size w4 W5 := by rw [← hW5]; exact ((Below.refl _ w4).alloc (Nat.le_refl _) _).alloc (by simp) _
  have h5a : W5.heap[w4.heap.size]? = some (.cells #[.int .i64 1] 3 (0, 0)) := by rw [← hW5]; exact heap_old _ (by simp) (heap_at _ _ rfl)
  have h5b : W5.heap[w4.heap.size + 1]? = some (.cells #[.slice (some ⟨w4.heap.size, 0, none⟩) 1 1] 31 (0, 0)) := by rw [← hW5]; exact heap_at _ _ (by simp)
  have hR5 : RdG W5 W5.heap.size (some ⟨w4.heap.size + 1, 0, none⟩) 1 [⟨some ⟨w4.heap.size, 0, none⟩, 1, 1, [1]⟩] :=
    grid_made h5b rfl (blk_lt h5b) (by
      intro r hr
      obtain rfl := List.mem_singleton.1 hr
      exact ok_made h5a rfl (blk_lt h5a))
  have cP5 := Lib.hid (sparts_any (some ⟨w4.heap.size + 1, 0, none⟩) 1 1 _ W5 hR5 (by decide) (by
      intro r hr
      obtain rfl := List.mem_singleton.1 hr
      dsimp only; decide))
  have hz5 := hb5.size
  clear hR5 h5a h5b
  go_wp2_with fail
  try rw [hW5]
  clear hW5
  refine cP5.out.mono ?_
  rintro e w6 ⟨P6, pc6, ps6, o6, rfl, _, _, _, _, _, hb6⟩
  have hE6 : checkS 1 [⟨some ⟨w4.heap.size, 0, none⟩, 1, 1, [1]⟩] = 2 := rfl
  rw [hE6]
  have hz6 := hb6.size
  have hb46 : Below w4.heap.size w4 w6 := hb5.trans (hb6.mono hz5)
  have hb26 : Below w2.heap.size w2 w6 := hb24.trans (hb46.mono hb24.size)
  have hb06 : Below w.heap.size w w6 := hb04.trans (hb46.mono hb04.size)
  clear cP5 hb5 hb6 hE6
  have hpb6 : pb < w6.heap.size := by omega
  have e0 := (hb26.cell (p := ⟨pb, po, none⟩) hpb).trans hc0H.out
  have e1 := (hb26.cell (p := ⟨pb, po + 1, none⟩) hpb).trans hc1H.out
  obtain ⟨W7, hW7⟩ : ∃ W7, w6.alloc (.cells #[.int .i64 2] 3) = W7 := ⟨_, rfl⟩
  have hb7 : Below w6.heap.size w6 W7 := by rw [← hW7]; exact (Below.refl _ w6).alloc (Nat.le_refl _) _
  have h7a : W7.heap[w6.heap.size]? = some (.cells #[.int .i64 2] 3 (0, 0)) := by rw [← hW7]; exact heap_at _ _ rfl
  have hz7 := hb7.size
  have cS1 := Lib.hid (sameI_any r0.A (some ⟨w6.heap.size, 0, none⟩) r0.l 1 r0.c 1 r0.xs [2] W7 ((hk0H.out.below (hb26.trans (hb7.mono hb26.size))).more (by omega)) (show Rw.Ok W7 W7.heap.size ⟨some ⟨w6.heap.size, 0, none⟩, 1, 1, [2]⟩ from ok_made h7a rfl (blk_lt h7a)) (by unfold maxLen; omega) (by decide))
  rw [hx0H.out, show decide (([2] : List Int) = [2]) = true from rfl] at cS1
  clear h7a
  go_wp2_with fail
  try rw [hW7]
  clear hW7
  refine cS1.out.mono ?_
  rintro e w8 ⟨rfl, hb8⟩
  have hz8 := hb8.size
  have hb68 : Below w6.heap.size w6 w8 := hb7.trans (hb8.mono hz7)
  have hb28 : Below w2.heap.size w2 w8 := hb26.trans (hb68.mono hb26.size)
  have hpb8 : pb < w8.heap.size := by omega
  replace e1 := (hb68.cell (p := ⟨pb, po + 1, none⟩) hpb6).trans e1
  obtain ⟨W9, hW9⟩ : ∃ W9, w8.alloc (.cells #[.int .i64 0, .int .i64 1] 3) = W9 := ⟨_, rfl⟩
  have hb9 : Below w8.heap.size w8 W9 := by rw [← hW9]; exact (Below.refl _ w8).alloc (Nat.le_refl _) _
  have h9a : W9.heap[w8.heap.size]? = some (.cells #[.int .i64 0, .int .i64 1] 3 (0, 0)) := by rw [← hW9]; exact heap_at _ _ rfl
  have hz9 := hb9.size
  have cS2 := Lib.hid (sameI_any r1.A (some ⟨w8.heap.size, 0, none⟩) r1.l 2 r1.c 2 r1.xs [0, 1] W9 ((hk1H.out.below (hb28.trans (hb9.mono hb28.size))).more (by omega)) (show Rw.Ok W9 W9.heap.size ⟨some ⟨w8.heap.size, 0, none⟩, 2, 2, [0, 1]⟩ from ok_made h9a rfl (blk_lt h9a)) (by unfold maxLen; omega) (by decide))
  rw [hx1H.out, show decide (([0, 1] : List Int) = [0, 1]) = true from rfl] at cS2
  clear h9a cS1 hb8 hb7 e0
  go_wp2_with fail
  try rw [hW9]
  clear hW9
  refine cS2.out.mono ?_
  rintro e w10 ⟨rfl, hb10⟩
  have hb8a : Below w8.heap.size w8 w10 := hb9.trans (hb10.mono hz9)
  have hb4a : Below w4.heap.size w4 w10 := hb46.trans ((hb68.trans (hb8a.mono hb68.size)).mono hb46.size)
  have hb0a : Below w.heap.size w w10 := hb04.trans (hb4a.mono hb04.size)
  have hrdA := hrdH.out.below hb4a
  obtain ⟨qb, qo, y0, hQ, hqb, hy0, hd0⟩ := Rd.at_ (enc := eB) hrdA (k := 0) (by simp)
  obtain ⟨qb1, qo1, y1, hQ1, _, hy1, hd1⟩ := Rd.at_ (enc := eB) hrdA (k := 1) (by simp)
  obtain ⟨qb2, qo2, y2, hQ2, _, hy2, hd2⟩ := Rd.at_ (enc := eB) hrdA (k := 2) (by simp)
  subst hQ
  injection hQ1 with hQ1
  injection hQ1 with hQ1 hQ1'
  subst hQ1
  subst hQ1'
  injection hQ2 with hQ2
  injection hQ2 with hQ2 hQ2'
  subst hQ2
  subst hQ2'
  obtain rfl : false = y0 := by simpa using hy0
  obtain rfl : false = y1 := by simpa using hy1
  obtain rfl : false = y2 := by simpa using hy2
  have f0 := hd0 0 _ rfl
  have f1 := hd1 0 _ rfl
  have f2 := hd2 0 _ rfl
  simp only [Nat.add_zero, Nat.mul_one] at f0 f1 f2
  have hqba : qb < w10.heap.size := by have := hb4a.size; omega
  clear hd0 hd1 hd2 hy0 hy1 hy2 hrdA cS2
  go_wp2
  go_ret
  exact ⟨rfl, hb0a⟩
end Go.Proofs.Ytebpghpeeedgcaa
