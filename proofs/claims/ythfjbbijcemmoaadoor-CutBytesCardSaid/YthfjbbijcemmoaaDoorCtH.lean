/- The document's Read of cuts. -/
import Derived.Test.YthfjbbijcemmoaaDoorCr
import Derived.Test.YthfjbbijcemmoaaDoorRz
import Derived.Test.YthfjbbijcemmoaaDoorVrB
namespace Go.Proofs.YthfjbbijcemmoaaDoor
open Go.RowKit
set_option maxRecDepth 100000 in
set_option maxHeartbeats 1000000 in
theorem rcread_any (B : Nat) (S : Rs) (w : World) (h : RdrD w B S) (hS : S.wf) :
    Calls Tryd.prog 24 #[.pointer (some ⟨B, 0, none⟩)] w
      fun r w' => ∃ A n c, r = .returned (.agg #[.int .u32 (readC S).1.d0, .int .u32 (readC S).1.d1, .int .u32 (readC S).1.d2, .int .u32 (readC S).1.d3, .int .u32 (readC S).1.d4, .int .u32 (readC S).1.d5, .int .u32 (readC S).1.d6, .int .u32 (readC S).1.d7, .slice A n c]) ∧ Ow w' w.heap.size 63 2 (.slice A n c) ((readC S).2.1.map Im.enc) ∧ RdrD w' B (readC S).2.2 ∧ w.grownBy w' (some B) := by
  have hBlt := h.lt
  obtain ⟨hw1, hwv⟩ := readV_wf hS
  have hids := readD_ids hw1
  have hlen := readD_len (readV S).2
  have c1 := fun w h => dvread_any B S w h hS
  have c2 := fun w h => ddread_any B (readV S).2 w h hw1
  obtain ⟨V, xs, T, hT⟩ : ∃ V xs T, readC S = (V, xs, T) := ⟨_, _, _, rfl⟩
  rw [hT]
  unfold readC at hT
  dsimp only at hT
  generalize readV S = p at *
  obtain ⟨v1, S1⟩ := p
  dsimp only at *
  generalize readD S1 = q at *
  obtain ⟨l, S2⟩ := q
  dsimp only at *
  have c1 := Lib.hid c1
  have c2 := Lib.hid c2
  have hH := Lib.hid h
  have hTH := Lib.hid hT
  have hlH := Lib.hid hlen
  clear h hT hS hw1 hlen
  go_enter Tryd.func24, Tryd.ntmps24
  go_wp2_with fail
  refine (c1.out _ (hH.out.below ((Below.refl _ w).alloc (Nat.le_refl _) _))).mono ?_
  rintro e w1 ⟨rfl, hR1, hg1⟩
  have hz1 := hg1.size
  simp only [World.size_alloc] at hz1
  have hbR : w1.heap[w.heap.size]? = some (.cells #[.int .u32 0, .int .u32 0, .int .u32 0, .int .u32 0, .int .u32 0, .int .u32 0, .int .u32 0, .int .u32 0, .slice none 0 0] 50 (0, 0)) := (hg1.block _ (by simp) (by simp; omega)).trans (heap_at _ _ rfl)
  have hgA : w.grownBy w1 (some B) := (World.grownBy_alloc w _ _).trans hg1
  clear hg1
  have hB1 := hR1.lt
  go_wp2_with fail
  refine (c2.out _ (hR1.below ((Below.refl _ w1).alloc (Nat.le_refl _) _))).mono ?_
  rintro e w2 ⟨A, n, c, rfl, hO2, hR2, hg2⟩
  have hbX : w2.heap[w1.heap.size]? = some (.cells #[.int .u32 v1.d0, .int .u32 v1.d1, .int .u32 v1.d2, .int .u32 v1.d3, .int .u32 v1.d4, .int .u32 v1.d5, .int .u32 v1.d6, .int .u32 v1.d7, .slice none 0 0] 50 (0, 0)) := (hg2.block _ (by simp) (by simp; omega)).trans (heap_at _ _ rfl)
  have hbR2 : w2.heap[w.heap.size]? = some (.cells #[.int .u32 0, .int .u32 0, .int .u32 0, .int .u32 0, .int .u32 0, .int .u32 0, .int .u32 0, .int .u32 0, .slice none 0 0] 50 (0, 0)) := (hg2.block _ (by simp; omega) (by simp; omega)).trans (heap_old _ (by omega) hbR)
  have hgB : w.grownBy w2 (some B) := (gr_alloc hgA _).trans hg2
  have hz2 := hg2.size
  simp only [World.size_alloc] at hz2
  have hR3 := hR2.set hbX (by decide) (by decide) 8 (.slice A n c)
  have hgC := gr_set_new (g := w1.heap.size) hgB (by omega) 8 (.slice A n c)
  have hbR3 := heap_set_ne (w := w2) (k := w.heap.size) (p := ⟨w1.heap.size, 8, none⟩) (u := .slice A n c) (by dsimp only; omega) hbR2
  have hbX3 := blk_set hbX 8 (.slice A n c)
  simp at hbX3
  have hO3 := hO2.keptB (b := w1.heap.size) (gr_set (World.grownBy.refl w2 (some w1.heap.size)) 8 (.slice A n c)) (by simp)
  simp only [World.size_alloc] at hO3
  clear hg2 hR1 hbR
  have hlX := blk_lt hbX
  have hfX := blk_frozen hbX
  have hcX := blk_cell hbX 8
  simp at hcX
  go_upto_region 3 with (fail)
  clear hlX hfX hcX hbX hR2 hO2 hbR2 hgB
  generalize w2.setCell ⟨w1.heap.size, 8, none⟩ (.slice A n c) = w3 at hR3 hbX3 hbR3 hgC hO3
  have hRz := hR3
  have hln : l.length = n := by simpa using hO3.rd.2.1
  by_cases hf : S2.fe = 0
  · have c3 := fun w' h => rccheck_any v1 A n c l w' h (by have := hlH.out; omega) hwv hids
    generalize cutErr v1 l = p at c3 hTH
    have c3 := Lib.hid c3
    skip
    have hbz := hRz
    unfold RdrD at hbz
    rw [(by assumption : S2.fe = 0)] at hbz
    have hltz := blk_lt hbz
    have z0 := blk_cell hbz 0
    have z1 := blk_cell hbz 1
    have z2 := blk_cell hbz 2
    have z3 := blk_cell hbz 3
    simp at z0 z1 z2 z3
    clear hbz
    skip
    have hlX := blk_lt hbX3
    have hX3 := Lib.hid hbX3
    have q0 := blk_cell hbX3 0
    have q1 := blk_cell hbX3 1
    have q2 := blk_cell hbX3 2
    have q3 := blk_cell hbX3 3
    have q4 := blk_cell hbX3 4
    have q5 := blk_cell hbX3 5
    have q6 := blk_cell hbX3 6
    have q7 := blk_cell hbX3 7
    have q8 := blk_cell hbX3 8
    simp at q0 q1 q2 q3 q4 q5 q6 q7 q8
    go_wp2_with fail
    refine (c3.out _ hO3.rd.1).mono ?_
    rintro e w4 ⟨rfl, hb4⟩
    go_wp2_with fail
    refine (dfail_any B S2 p _ (hR3.below hb4)).mono ?_
    rintro e w5 ⟨rfl, hR5, hg5⟩
    have hbX5 := (hg5.block _ (blk_lt (blk_below hX3.out hb4)) (by simp; omega)).trans (blk_below hX3.out hb4)
    have hbR5 := (hg5.block _ (blk_lt (blk_below hbR3 hb4)) (by simp; omega)).trans (blk_below hbR3 hb4)
    have hO5 := (hO3.below hb4).keptB hg5 (by omega)
    have hgE := (hgC.trans (gr_below hb4 _)).trans hg5
    clear q0 q1 q2 q3 q4 q5 q6 q7 q8 hlX hX3 hbX3 hbR3 hO3 hgC hR3 hb4 hg5
    have hR5k := Lib.hid hR5
    have hTT := hTH.out
    by_cases hp : p = 0
    · subst hp
      have hfs : failS S2 0 = S2 := by unfold failS; rw [if_neg (by simp)]
      rw [hfs, if_neg (by simp [hf])] at hTT
      have e1 : V = v1 := (congrArg Prod.fst hTT).symm
      have e2 : xs = l := (congrArg (fun z => z.2.1) hTT).symm
      have e3 : T = S2 := (congrArg (fun z => z.2.2) hTT).symm
      subst e1
      subst e2
      subst e3
      rw [hfs] at hR5 hR5k
      clear hTT hfs hTH
      skip
      have hbz := hR5
      unfold RdrD at hbz
      rw [(by assumption : T.fe = 0)] at hbz
      have hltz := blk_lt hbz
      have z0 := blk_cell hbz 0
      have z1 := blk_cell hbz 1
      have z2 := blk_cell hbz 2
      have z3 := blk_cell hbz 3
      simp at z0 z1 z2 z3
      clear hbz
      skip
      have q0 := blk_cell hbX5 0
      have q1 := blk_cell hbX5 1
      have q2 := blk_cell hbX5 2
      have q3 := blk_cell hbX5 3
      have q4 := blk_cell hbX5 4
      have q5 := blk_cell hbX5 5
      have q6 := blk_cell hbX5 6
      have q7 := blk_cell hbX5 7
      have q8 := blk_cell hbX5 8
      simp at q0 q1 q2 q3 q4 q5 q6 q7 q8
      have r0 := blk_cell hbR5 0
      have r1 := blk_cell hbR5 1
      have r2 := blk_cell hbR5 2
      have r3 := blk_cell hbR5 3
      have r4 := blk_cell hbR5 4
      have r5 := blk_cell hbR5 5
      have r6 := blk_cell hbR5 6
      have r7 := blk_cell hbR5 7
      have r8 := blk_cell hbR5 8
      simp at r0 r1 r2 r3 r4 r5 r6 r7 r8
      have hfR := blk_frozen hbR5
      have hlR := blk_lt hbR5
      have hlX := blk_lt hbX5
      clear hbX5
      go_wp2
      obtain ⟨-, hg9⟩ := sets9 hbR5 (.int .u32 V.d0) (.int .u32 V.d1) (.int .u32 V.d2) (.int .u32 V.d3) (.int .u32 V.d4) (.int .u32 V.d5) (.int .u32 V.d6) (.int .u32 V.d7) (.slice A n c)
      refine bodyPost_ret (v := .agg #[.int .u32 V.d0, .int .u32 V.d1, .int .u32 V.d2, .int .u32 V.d3, .int .u32 V.d4, .int .u32 V.d5, .int .u32 V.d6, .int .u32 V.d7, .slice A n c]) (by simp [results, Tryd.results24, go_sem, r0, r1, r2, r3, r4, r5, r6, r7, r8]) rfl ⟨A, n, c, rfl, (hO5.keptB hg9 (by omega)).base (by omega), hR5k.out.grown hg9 ?_, gr_then hgE hg9 (by simp)⟩
      rintro g cs t he hh
      injection he with he; subst he
      rw [hbR5] at hh
      injection hh with hh; injection hh with _ ht
      subst ht
      exact (by decide)
    · have hfe := failS_fe (S := S2) hp
      rw [if_pos hfe] at hTT
      have e1 : V = zV := (congrArg Prod.fst hTT).symm
      have e2 : xs = [] := (congrArg (fun z => z.2.1) hTT).symm
      have e3 : T = failS S2 p := (congrArg (fun z => z.2.2) hTT).symm
      subst e1
      subst e2
      subst e3
      clear hTT hTH hp c3
      skip
      have hbz := hR5
      unfold RdrD at hbz
      have hltz := blk_lt hbz
      have z0 := blk_cell hbz 0
      have z1 := blk_cell hbz 1
      have z2 := blk_cell hbz 2
      have z3 := blk_cell hbz 3
      simp at z0 z1 z2 z3
      have hen : ((failS S2 p).fe != 0) = true := by rw [bne_iff_ne]; assumption
      clear hbz
      skip
      have r0 := blk_cell hbR5 0
      have r1 := blk_cell hbR5 1
      have r2 := blk_cell hbR5 2
      have r3 := blk_cell hbR5 3
      have r4 := blk_cell hbR5 4
      have r5 := blk_cell hbR5 5
      have r6 := blk_cell hbR5 6
      have r7 := blk_cell hbR5 7
      have r8 := blk_cell hbR5 8
      simp at r0 r1 r2 r3 r4 r5 r6 r7 r8
      have hfR := blk_frozen hbR5
      have hlR := blk_lt hbR5
      go_wp2
      obtain ⟨-, hg9⟩ := sets9 hbR5 (.int .u32 0) (.int .u32 0) (.int .u32 0) (.int .u32 0) (.int .u32 0) (.int .u32 0) (.int .u32 0) (.int .u32 0) (.slice none 0 0)
      refine bodyPost_ret (v := .agg #[.int .u32 0, .int .u32 0, .int .u32 0, .int .u32 0, .int .u32 0, .int .u32 0, .int .u32 0, .int .u32 0, .slice none 0 0]) (by simp [results, Tryd.results24, go_sem, r0, r1, r2, r3, r4, r5, r6, r7, r8]) rfl ⟨none, 0, 0, rfl, Ow.nil_ _ _ _ _, hR5k.out.grown hg9 ?_, gr_then hgE hg9 (by simp)⟩
      rintro g cs t he hh
      injection he with he; subst he
      rw [hbR5] at hh
      injection hh with hh; injection hh with _ ht
      subst ht
      exact (by decide)
  · have hfs : failS S2 (cutErr v1 l) = S2 := by unfold failS; rw [if_neg (fun h => hf h.1)]
    have hTT := hTH.out
    rw [hfs, if_pos hf] at hTT
    have e1 : V = zV := (congrArg Prod.fst hTT).symm
    have e2 : xs = [] := (congrArg (fun z => z.2.1) hTT).symm
    have e3 : T = S2 := (congrArg (fun z => z.2.2) hTT).symm
    clear hTT hTH hfs
    subst e1
    subst e2
    subst e3
    have hR3k := Lib.hid hR3
    skip
    have hbz := hRz
    unfold RdrD at hbz
    have hltz := blk_lt hbz
    have z0 := blk_cell hbz 0
    have z1 := blk_cell hbz 1
    have z2 := blk_cell hbz 2
    have z3 := blk_cell hbz 3
    simp at z0 z1 z2 z3
    have hen : (T.fe != 0) = true := by rw [bne_iff_ne]; assumption
    clear hbz
    skip
    skip
    have r0 := blk_cell hbR3 0
    have r1 := blk_cell hbR3 1
    have r2 := blk_cell hbR3 2
    have r3 := blk_cell hbR3 3
    have r4 := blk_cell hbR3 4
    have r5 := blk_cell hbR3 5
    have r6 := blk_cell hbR3 6
    have r7 := blk_cell hbR3 7
    have r8 := blk_cell hbR3 8
    simp at r0 r1 r2 r3 r4 r5 r6 r7 r8
    have hfR := blk_frozen hbR3
    have hlR := blk_lt hbR3
    go_wp2
    obtain ⟨-, hg9⟩ := sets9 hbR3 (.int .u32 0) (.int .u32 0) (.int .u32 0) (.int .u32 0) (.int .u32 0) (.int .u32 0) (.int .u32 0) (.int .u32 0) (.slice none 0 0)
    refine bodyPost_ret (v := .agg #[.int .u32 0, .int .u32 0, .int .u32 0, .int .u32 0, .int .u32 0, .int .u32 0, .int .u32 0, .int .u32 0, .slice none 0 0]) (by simp [results, Tryd.results24, go_sem, r0, r1, r2, r3, r4, r5, r6, r7, r8]) rfl ⟨none, 0, 0, rfl, Ow.nil_ _ _ _ _, hR3k.out.grown hg9 ?_, gr_then hgC hg9 (by simp)⟩
    rintro g cs t he hh
    injection he with he; subst he
    rw [hbR3] at hh
    injection hh with hh; injection hh with _ ht
    subst ht
    exact (by decide)
end Go.Proofs.YthfjbbijcemmoaaDoor
