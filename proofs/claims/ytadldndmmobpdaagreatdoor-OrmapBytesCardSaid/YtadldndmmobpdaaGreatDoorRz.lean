/- The document's Read of names: the next name that a reader has. The document's Read of sets: the next set that a reader has. -/
import Derived.Test.YtadldndmmobpdaaGreatDoorRx
import Derived.Test.YtadldndmmobpdaaGreatDoorRy
namespace Go.Proofs.YtadldndmmobpdaaGreatDoor
open Go.RowKit

theorem RdrD.set {w : World} {B g : Nat} {S : Rs} {cs : Array Value} {t : TypeId} (h : RdrD w B S) (hg : w.heap[g]? = some (.cells cs t (0, 0))) (_ : True) (h2 : t ≠ 41) (i : Nat) (u : Value) : RdrD (w.setCell ⟨g, i, none⟩ u) B S :=
  h.grown (gr_set (World.grownBy.refl w _) i u) (fun g' cs' t' e hb => by
    injection e with e; subst e
    rw [hg] at hb
    injection hb with hb; injection hb with _ ht
    exact ht ▸ h2)
set_option maxRecDepth 100000 in
set_option maxHeartbeats 1000000 in
theorem dread_any (B : Nat) (S : Rs) (w : World) (h : RdrD w B S) (hS : S.wf) :
    Calls Tryz.prog 63 #[.pointer (some ⟨B, 0, none⟩)] w
      fun r w' => r = .returned (.agg #[.int .i64 (readI S).1.1, .int .u32 (readI S).1.2]) ∧ RdrD w' B (readI S).2 ∧ w.grownBy w' (some B) := by
  have hw1 := Rs.wf_next hS (fun v => if 7 < v then 2 else 0)
  have c1 := fun w h => dint_any 7 B (by omega) S w h hS
  have c2 := fun w h => dint_any 1048576 B (by omega) (intS 7 S).2 w h hw1
  have hle1 := intS_le 7 S
  have hle2 := intS_le 1048576 (intS 7 S).2
  have her := @intS_err (intS 7 S).2 1048576
  obtain ⟨x, T, hT⟩ : ∃ x T, readI S = (x, T) := ⟨_, _, rfl⟩
  rw [hT]
  unfold readI at hT
  dsimp only at hT
  generalize intS 7 S = p at *
  obtain ⟨o, S1⟩ := p
  dsimp only at *
  generalize intS 1048576 S1 = q at *
  obtain ⟨s, S2⟩ := q
  dsimp only at *
  have hBlt := h.lt
  have c1 := Lib.hid c1
  have c2 := Lib.hid c2
  have hwH := Lib.hid hw1
  have o0 : (0 : Int) ≤ (o : Int) := by omega
  have o1 : (o : Int) ≤ 7 := by omega
  have s0 : (0 : Int) ≤ (s : Int) := by omega
  have s1 : (s : Int) ≤ 1048576 := by omega
  have hH := Lib.hid h
  have herH := Lib.hid her
  have hTH := Lib.hid hT
  clear her hw1 hT hS h hle1 hle2
  go_enter Tryz.func63, Tryz.ntmps63
  go_wp2_with fail
  refine (c1.out _ (hH.out.below ((Below.refl _ w).alloc (Nat.le_refl _) _))).mono ?_
  rintro e w1 ⟨rfl, hR1, hg1⟩
  have hz1 := hg1.size
  simp only [World.size_alloc] at hz1
  have hbR1 : w1.heap[w.heap.size]? = some (.cells #[.int .i64 0, .int .u32 0] 58 (0, 0)) := (hg1.block _ (by simp) (by simp; omega)).trans (heap_at _ _ rfl)
  have hlR1 := blk_lt hbR1
  go_wp2_with fail
  refine (c2.out _ (hR1.below ((Below.refl _ w1).alloc (Nat.le_refl _) _))).mono ?_
  rintro e w2 ⟨rfl, hR2, hg2⟩
  have hz2 := hg2.size
  simp only [World.size_alloc] at hz2
  have hbR2 : w2.heap[w.heap.size]? = some (.cells #[.int .i64 0, .int .u32 0] 58 (0, 0)) := (hg2.block _ (by simp; omega) (by simp; omega)).trans (heap_old _ hlR1 hbR1)
  have hbI2 : w2.heap[w1.heap.size]? = some (.cells #[.int .i64 (o : Int), .int .u32 0] 58 (0, 0)) := (hg2.block _ (by simp) (by simp; omega)).trans (heap_at _ _ rfl)
  have hlR2 := blk_lt hbR2
  have hlI2 := blk_lt hbI2
  have i0 := blk_cell hbI2 0
  have i1 := blk_cell hbI2 1
  simp at i0 i1
  have hfI := blk_frozen hbI2
  have hgA : w.grownBy w1 (some B) := (World.grownBy_alloc w _ _).trans hg1
  have hgB : w.grownBy w2 (some B) := hgA.trans ((World.grownBy_alloc w1 _ _).trans hg2)
  have hR2s := fun u => hR2.set hbI2 (by decide) (by decide) 1 u
  have hbI3 := fun u => blk_set hbI2 1 u
  have hne : w1.heap.size ≠ w.heap.size := by omega
  clear hg1 hg2 hR1 hbR1 hgA
  by_cases hs : s = 0
  · have hTT := hTH.out
    rw [if_pos hs] at hTT
    obtain ⟨rfl, rfl⟩ := Prod.mk.inj hTT
    subst hs
    clear hTT
    have hfe := failS_fe (S := S2) (e := 2) (by decide)
    have hR2H := Lib.hid hR2s
    have hbI3H := Lib.hid hbI3
    clear hR2s hbI3
    go_wp2_with fail
    refine (dfail_any B S2 2 _ (hR2H.out _)).mono ?_
    rintro e w3 ⟨rfl, hR3, hg3⟩
    have hbR3 : w3.heap[w.heap.size]? = some (.cells #[.int .i64 0, .int .u32 0] 58 (0, 0)) := (hg3.block _ (by first | (simp; done) | (simp; omega) | omega) (by simp; omega)).trans (heap_set_ne (by dsimp only; omega) hbR2)
    have hlR3 := blk_lt hbR3
    have r0 := blk_cell hbR3 0
    have r1 := blk_cell hbR3 1
    simp at r0 r1
    have hfR := blk_frozen hbR3
    have hgC : w.grownBy w3 (some B) := (gr_set_new hgB (by omega) 1 _).trans hg3
    have hR4 := (hR3.set hbR3 (by decide) (by decide) 0 (.int .i64 0)).set (blk_set hbR3 0 (.int .i64 0)) (by decide) (by decide) 1 (.int .u32 0)
    have hR4 := Lib.hid hR4
    clear i0 i1 hfI hg3 hbR3 hgB hbR2 hbI2 hR2
    have hbz := hR3
    unfold RdrD at hbz
    have hltz := blk_lt hbz
    have z0 := blk_cell hbz 0
    have z1 := blk_cell hbz 1
    have z2 := blk_cell hbz 2
    have z3 := blk_cell hbz 3
    simp at z0 z1 z2 z3
    have hen : ((failS S2 2).fe != 0) = true := by rw [bne_iff_ne]; assumption
    clear hbz
    go_wp2
    refine bodyPost_ret (v := .agg #[.int .i64 0, .int .u32 0]) (by simp [results, Tryz.results63, go_sem, r0, r1]) rfl ⟨rfl, hR4.out, gr_set_new (gr_set_new hgC (Nat.le_refl _) 0 _) (Nat.le_refl _) 1 _⟩
  · have hTT := hTH.out
    rw [if_neg hs] at hTT
    obtain ⟨rfl, rfl⟩ := Prod.mk.inj hTT
    have hfe := herH.out hs
    have hsn : ((s : Int) == 0) = false := by rw [beq_eq_false_iff_ne]; omega
    clear hTT hs
    have hbRs : ∀ u, (w2.setCell ⟨w1.heap.size, 1, none⟩ u).heap[w.heap.size]? = some (.cells #[.int .i64 0, .int .u32 0] 58 (0, 0)) := fun u => heap_set_ne (by dsimp only; omega) hbR2
    have hR4 := fun u a b => ((hR2s u).set (hbRs u) (by decide) (by decide) 0 a).set (blk_set (hbRs u) 0 a) (by decide) (by decide) 1 b
    have hR4 := Lib.hid hR4
    have r0 := blk_cell hbR2 0
    have r1 := blk_cell hbR2 1
    simp at r0 r1
    have hfR := blk_frozen hbR2
    clear hbRs hR2s hbI3 hbR2 hbI2
    have hbz := hR2
    unfold RdrD at hbz
    rw [(by assumption : S2.fe = 0)] at hbz
    have hltz := blk_lt hbz
    have z0 := blk_cell hbz 0
    have z1 := blk_cell hbz 1
    have z2 := blk_cell hbz 2
    have z3 := blk_cell hbz 3
    simp at z0 z1 z2 z3
    clear hbz
    go_wp2
    refine bodyPost_ret (v := .agg #[.int .i64 (o : Int), .int .u32 (s : Int)]) (by simp [results, Tryz.results63, go_sem, r0, r1]) rfl ⟨rfl, hR4.out _ _ _, gr_set_new (gr_set_new (gr_set_new hgB (by omega) 1 _) (Nat.le_refl _) 0 _) (Nat.le_refl _) 1 _⟩
end Go.Proofs.YtadldndmmobpdaaGreatDoor
namespace Go.Proofs.YtadldndmmobpdaaGreatDoor
open Go.RowKit

theorem RdrD.appended {w w' : World} {B : Nat} {S : Rs} {base : Nat} {e : TypeId} {sz : Nat} {v : Value} {xs : List (List Value)} (h : RdrD w B S) (ho : Ow w base e sz v xs) (hg : w.grownBy w' v.ownBlock) (_ : True) (h2 : e ≠ 41) : RdrD w' B S :=
  h.grown hg (fun g cs t er hb => by
    rcases ho.2.2 with ⟨rfl, _⟩ | ⟨g', cap, cur, rfl, _, hh, _⟩
    · cases er
    · simp only [Value.ownBlock, Option.some.injEq] at er
      subst er
      rw [hh] at hb
      injection hb with hb; injection hb with _ ht
      exact ht ▸ h2)
end Go.Proofs.YtadldndmmobpdaaGreatDoor
