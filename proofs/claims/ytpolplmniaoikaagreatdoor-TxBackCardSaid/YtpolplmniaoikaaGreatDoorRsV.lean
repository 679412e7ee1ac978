/- The readers' tags, both; the document's texts. -/
import Derived.Test.YtpolplmniaoikaaGreatDoorN43
namespace Go.Proofs.YtpolplmniaoikaaGreatDoor
open Go.RowKit

set_option maxRecDepth 100000 in
set_option maxHeartbeats 1000000 in
theorem ptag_any (B : Nat) (S : Rs) (w : World) (h : RdrP w B S) (hS : S.wf) :
    Calls Tryz.prog 101 #[.pointer (some ⟨B, 0, none⟩)] w
      fun r w' => r = .returned (.agg #[.int .i64 (readT S).1.1.1, .int .u32 (readT S).1.1.2, .int .i64 (readT S).1.2]) ∧ RdrP w' B (readT S).2 ∧ w.grownBy w' (some B) := by
  have hw0 := readI_wf hS
  have c1 := pread_any B S (w.alloc (.cells #[.int .i64 0, .int .u32 0, .int .i64 0] 74)) (h.below ((Below.refl _ w).alloc (Nat.le_refl _) _)) hS
  have c2 := fun w h => pint_any 15 B (by omega) (readI S).2 w h hw0.1
  have hle2 := intS_le 15 (readI S).2
  obtain ⟨x, T, hT⟩ : ∃ x T, readT S = (x, T) := ⟨_, _, rfl⟩
  rw [hT]
  unfold readT at hT
  dsimp only at hT
  generalize readI S = p at *
  obtain ⟨i, S1⟩ := p
  dsimp only at *
  generalize intS 15 S1 = q at *
  obtain ⟨s, S2⟩ := q
  dsimp only at *
  have hBlt := h.lt
  have c1 := Lib.hid c1
  have c2 := Lib.hid c2
  have s0 : (0 : Int) ≤ (s : Int) := by omega
  have s1 : (s : Int) ≤ 15 := by omega
  have hTH := Lib.hid hT
  clear hw0 hT hS h hle2
  go_enter Tryz.func101, Tryz.ntmps101
  go_wp2_with fail
  refine c1.out.mono ?_
  rintro e w1 ⟨rfl, hR1, hg1⟩
  have hz1 := hg1.size
  simp only [World.size_alloc] at hz1
  have hbR1 : w1.heap[w.heap.size]? = some (.cells #[.int .i64 0, .int .u32 0, .int .i64 0] 74 (0, 0)) := (hg1.block _ (by simp) (by simp; omega)).trans (heap_at _ _ rfl)
  have hlR1 := blk_lt hbR1
  go_wp2_with fail
  refine (c2.out _ (hR1.below ((Below.refl _ w1).alloc (Nat.le_refl _) _))).mono ?_
  rintro e w2 ⟨rfl, hR2, hg2⟩
  have hz2 := hg2.size
  simp only [World.size_alloc] at hz2
  have hbR2 : w2.heap[w.heap.size]? = some (.cells #[.int .i64 0, .int .u32 0, .int .i64 0] 74 (0, 0)) := (hg2.block _ (by simp; omega) (by simp; omega)).trans (heap_old _ hlR1 hbR1)
  have hbI2 : w2.heap[w1.heap.size]? = some (.cells #[.int .i64 i.1, .int .u32 i.2, .int .i64 0] 74 (0, 0)) := (hg2.block _ (by simp) (by simp; omega)).trans (heap_at _ _ rfl)
  have hlR2 := blk_lt hbR2
  have hlI2 := blk_lt hbI2
  have i0 := blk_cell hbI2 0
  have i1 := blk_cell hbI2 1
  have i2 := blk_cell hbI2 2
  simp at i0 i1 i2
  have hfI := blk_frozen hbI2
  have hgB : w.grownBy w2 (some B) := ((World.grownBy_alloc w _ _).trans hg1).trans ((World.grownBy_alloc w1 _ _).trans hg2)
  have hne : w1.heap.size ≠ w.heap.size := by omega
  have hneB : w1.heap.size ≠ B := by omega
  have hneB2 : B ≠ w1.heap.size := by omega
  have hbRs : ∀ u, (w2.setCell ⟨w1.heap.size, 2, none⟩ u).heap[w.heap.size]? = some (.cells #[.int .i64 0, .int .u32 0, .int .i64 0] 74 (0, 0)) := fun u => heap_set_ne (by dsimp only; omega) hbR2
  have hR4 := Lib.hid (fun u a b c => (((hR2.set hbI2 (by decide) (by decide) 2 u).set (hbRs u) (by decide) (by decide) 0 a).set (blk_set (hbRs u) 0 a) (by decide) (by decide) 1 b).set (blk_set (blk_set (hbRs u) 0 a) 1 b) (by decide) (by decide) 2 c)
  have r0 := blk_cell hbR2 0
  have r1 := blk_cell hbR2 1
  have r2 := blk_cell hbR2 2
  simp at r0 r1 r2
  have hfR := blk_frozen hbR2
  clear hg1 hg2 hR1 hbR1 hbRs hbR2 hbI2 c1 c2
  by_cases hf : S2.fe = 0
  · have hTT := hTH.out
    rw [if_neg (by simp [hf])] at hTT
    obtain ⟨rfl, rfl⟩ := Prod.mk.inj hTT
    clear hTT hTH
    obtain ⟨ev, hbz, hez⟩ := hR2
    obtain ⟨_, rfl⟩ := hez.resolve_right (fun h9 => absurd (by assumption) h9.1)
    have hltz := blk_lt hbz
    have z0 := blk_cell hbz 0
    have z1 := blk_cell hbz 1
    have z2 := blk_cell hbz 2
    simp at z0 z1 z2
    clear hbz hez
    go_wp2
    refine bodyPost_ret (v := .agg #[.int .i64 i.1, .int .u32 i.2, .int .i64 (s : Int)]) (by simp [results, Tryz.results101, go_sem, r0, r1, r2]) rfl ⟨rfl, hR4.out _ _ _ _, gr_set_new (gr_set_new (gr_set_new (gr_set_new hgB (by omega) 2 _) (Nat.le_refl _) 0 _) (Nat.le_refl _) 1 _) (Nat.le_refl _) 2 _⟩
  · have hTT := hTH.out
    rw [if_pos hf] at hTT
    obtain ⟨rfl, rfl⟩ := Prod.mk.inj hTT
    clear hTT hTH
    obtain ⟨ev, hbz, hez⟩ := hR2
    obtain ⟨hne, Fz, rfl, hFz⟩ : S2.fe ≠ 0 ∧ ∃ F, ev = .iface 120 (.pointer (some ⟨F, 0, none⟩)) ∧ _ := hez.resolve_left (fun h9 => absurd h9.1 (by assumption))
    have hltz := blk_lt hbz
    have z0 := blk_cell hbz 0
    have z1 := blk_cell hbz 1
    have z2 := blk_cell hbz 2
    simp at z0 z1 z2
    clear hbz hFz hne hez
    go_wp2
    refine bodyPost_ret (v := .agg #[.int .i64 0, .int .u32 0, .int .i64 0]) (by simp [results, Tryz.results101, go_sem, r0, r1, r2]) rfl ⟨rfl, hR4.out _ _ _ _, gr_set_new (gr_set_new (gr_set_new (gr_set_new hgB (by omega) 2 _) (Nat.le_refl _) 0 _) (Nat.le_refl _) 1 _) (Nat.le_refl _) 2 _⟩
set_option maxRecDepth 100000 in
set_option maxHeartbeats 1000000 in
theorem dtag_any (B : Nat) (S : Rs) (w : World) (h : RdrD w B S) (hS : S.wf) :
    Calls Tryz.prog 105 #[.pointer (some ⟨B, 0, none⟩)] w
      fun r w' => r = .returned (.agg #[.int .i64 (readT S).1.1.1, .int .u32 (readT S).1.1.2, .int .i64 (readT S).1.2]) ∧ RdrD w' B (readT S).2 ∧ w.grownBy w' (some B) := by
  have hw0 := readI_wf hS
  have c1 := dread_any B S (w.alloc (.cells #[.int .i64 0, .int .u32 0, .int .i64 0] 74)) (h.below ((Below.refl _ w).alloc (Nat.le_refl _) _)) hS
  have c2 := fun w h => dint_any 15 B (by omega) (readI S).2 w h hw0.1
  have hle2 := intS_le 15 (readI S).2
  obtain ⟨x, T, hT⟩ : ∃ x T, readT S = (x, T) := ⟨_, _, rfl⟩
  rw [hT]
  unfold readT at hT
  dsimp only at hT
  generalize readI S = p at *
  obtain ⟨i, S1⟩ := p
  dsimp only at *
  generalize intS 15 S1 = q at *
  obtain ⟨s, S2⟩ := q
  dsimp only at *
  have hBlt := h.lt
  have c1 := Lib.hid c1
  have c2 := Lib.hid c2
  have s0 : (0 : Int) ≤ (s : Int) := by omega
  have s1 : (s : Int) ≤ 15 := by omega
  have hTH := Lib.hid hT
  clear hw0 hT hS h hle2
  go_enter Tryz.func105, Tryz.ntmps105
  go_wp2_with fail
  refine c1.out.mono ?_
  rintro e w1 ⟨rfl, hR1, hg1⟩
  have hz1 := hg1.size
  simp only [World.size_alloc] at hz1
  have hbR1 : w1.heap[w.heap.size]? = some (.cells #[.int .i64 0, .int .u32 0, .int .i64 0] 74 (0, 0)) := (hg1.block _ (by simp) (by simp; omega)).trans (heap_at _ _ rfl)
  have hlR1 := blk_lt hbR1
  go_wp2_with fail
  refine (c2.out _ (hR1.below ((Below.refl _ w1).alloc (Nat.le_refl _) _))).mono ?_
  rintro e w2 ⟨rfl, hR2, hg2⟩
  have hz2 := hg2.size
  simp only [World.size_alloc] at hz2
  have hbR2 : w2.heap[w.heap.size]? = some (.cells #[.int .i64 0, .int .u32 0, .int .i64 0] 74 (0, 0)) := (hg2.block _ (by simp; omega) (by simp; omega)).trans (heap_old _ hlR1 hbR1)
  have hbI2 : w2.heap[w1.heap.size]? = some (.cells #[.int .i64 i.1, .int .u32 i.2, .int .i64 0] 74 (0, 0)) := (hg2.block _ (by simp) (by simp; omega)).trans (heap_at _ _ rfl)
  have hlR2 := blk_lt hbR2
  have hlI2 := blk_lt hbI2
  have i0 := blk_cell hbI2 0
  have i1 := blk_cell hbI2 1
  have i2 := blk_cell hbI2 2
  simp at i0 i1 i2
  have hfI := blk_frozen hbI2
  have hgB : w.grownBy w2 (some B) := ((World.grownBy_alloc w _ _).trans hg1).trans ((World.grownBy_alloc w1 _ _).trans hg2)
  have hne : w1.heap.size ≠ w.heap.size := by omega
  have hneB : w1.heap.size ≠ B := by omega
  have hneB2 : B ≠ w1.heap.size := by omega
  have hbRs : ∀ u, (w2.setCell ⟨w1.heap.size, 2, none⟩ u).heap[w.heap.size]? = some (.cells #[.int .i64 0, .int .u32 0, .int .i64 0] 74 (0, 0)) := fun u => heap_set_ne (by dsimp only; omega) hbR2
  have hR4 := Lib.hid (fun u a b c => (((hR2.set hbI2 (by decide) (by decide) 2 u).set (hbRs u) (by decide) (by decide) 0 a).set (blk_set (hbRs u) 0 a) (by decide) (by decide) 1 b).set (blk_set (blk_set (hbRs u) 0 a) 1 b) (by decide) (by decide) 2 c)
  have r0 := blk_cell hbR2 0
  have r1 := blk_cell hbR2 1
  have r2 := blk_cell hbR2 2
  simp at r0 r1 r2
  have hfR := blk_frozen hbR2
  clear hg1 hg2 hR1 hbR1 hbRs hbR2 hbI2 c1 c2
  by_cases hf : S2.fe = 0
  · have hTT := hTH.out
    rw [if_neg (by simp [hf])] at hTT
    obtain ⟨rfl, rfl⟩ := Prod.mk.inj hTT
    clear hTT hTH
    have hbz := hR2
    unfold RdrD at hbz
    rw [(by assumption : S2.fe = 0)] at hbz
    have hltz := blk_lt hbz
    have z0 := blk_cell hbz 0
    have z1 := blk_cell hbz 1
    have z2 := blk_cell hbz 2
    have z3 := blk_cell hbz 3
    simp at z0 z1 z2 z3
    clear hbz
    go_wp2
    refine bodyPost_ret (v := .agg #[.int .i64 i.1, .int .u32 i.2, .int .i64 (s : Int)]) (by simp [results, Tryz.results105, go_sem, r0, r1, r2]) rfl ⟨rfl, hR4.out _ _ _ _, gr_set_new (gr_set_new (gr_set_new (gr_set_new hgB (by omega) 2 _) (Nat.le_refl _) 0 _) (Nat.le_refl _) 1 _) (Nat.le_refl _) 2 _⟩
  · have hTT := hTH.out
    rw [if_pos hf] at hTT
    obtain ⟨rfl, rfl⟩ := Prod.mk.inj hTT
    clear hTT hTH
    have hbz := hR2
    unfold RdrD at hbz
    have hltz := blk_lt hbz
    have z0 := blk_cell hbz 0
    have z1 := blk_cell hbz 1
    have z2 := blk_cell hbz 2
    have z3 := blk_cell hbz 3
    simp at z0 z1 z2 z3
    have hen : (S2.fe != 0) = true := by rw [bne_iff_ne]; assumption
    clear hbz
    go_wp2
    refine bodyPost_ret (v := .agg #[.int .i64 0, .int .u32 0, .int .i64 0]) (by simp [results, Tryz.results105, go_sem, r0, r1, r2]) rfl ⟨rfl, hR4.out _ _ _ _, gr_set_new (gr_set_new (gr_set_new (gr_set_new hgB (by omega) 2 _) (Nat.le_refl _) 0 _) (Nat.le_refl _) 1 _) (Nat.le_refl _) 2 _⟩
set_option maxRecDepth 100000 in
set_option maxHeartbeats 1000000 in
theorem dtext_any (m B : Nat) (hm : m ≤ 1099511627776) (S : Rs) (w : World) (h : RdrD w B S) (hS : S.wf) :
    Calls Tryz.prog 56 #[.pointer (some ⟨B, 0, none⟩), .int .i64 (m : Int)] w
      fun r w' => r = .returned (.string (bs (textS m S).1)) ∧ RdrD w' B (textS m S).2 ∧ w.grownBy w' (some B) := by
  have c1 := dint_any m B hm S w h hS
  have hw1 := Rs.wf_next hS (fun v => if m < v then 2 else 0)
  have hle := intS_le m S
  obtain ⟨x, T, hT⟩ : ∃ x T, textS m S = (x, T) := ⟨_, _, rfl⟩
  rw [hT]
  unfold textS at hT
  dsimp only at hT
  unfold intS at c1 hle hT
  generalize nextS (fun v => if m < v then 2 else 0) S = p at *
  obtain ⟨n, S1⟩ := p
  dsimp only at *
  have hBlt := h.lt
  have hb0 := h
  unfold RdrD at hb0
  have q0 := blk_cell hb0 0
  have q1 := blk_cell hb0 1
  have q2 := blk_cell hb0 2
  have q3 := blk_cell hb0 3
  simp at q0 q1 q2 q3
  have c1 := Lib.hid c1
  have hTH := Lib.hid hT
  have n0 : (0 : Int) ≤ (n : Int) := by omega
  have n1 : (n : Int) ≤ 1099511627776 := by omega
  clear hT hb0
  by_cases hf : S1.fe = 0
  · have hTT := hTH.out
    rw [if_neg (by simp [hf])] at hTT
    have hal := hw1.1
    have hll := hw1.2.1
    have hsz : (bs S1.l).size = S1.l.length := bs_size _
    have hsub : IntKind.i64.wrap ((((bs S1.l).size : Nat) : Int) - (S1.a : Int)) = (((bs S1.l).size : Nat) : Int) - (S1.a : Int) := IntWalk.i64_in _ (by omega)
    by_cases hlt : S1.l.length - S1.a < n
    · rw [if_pos hlt] at hTT
      obtain ⟨rfl, rfl⟩ := Prod.mk.inj hTT
      have hd : decide ((((bs S1.l).size : Nat) : Int) - (S1.a : Int) < (n : Int)) = true := decide_eq_true (by omega)
      clear hTT hTH hsz
      go_enter Tryz.func56, Tryz.ntmps56
      go_wp2_with fail
      refine c1.out.mono ?_
      rintro e w1 ⟨rfl, hR1, hg1⟩
      have hR1k := Lib.hid hR1
      clear q0 q1 q2 q3
      have hR3 : Hid (RdrD ((w1.drew).setCell ⟨B, 1, none⟩ (.int .i64 (S.a : Int))) B { S1 with a := S.a }) := Lib.hid (by
        have hb := hR1
        unfold RdrD at hb ⊢
        rw [blk_set (heap_drew hb)]
        rfl)
      have hfz := blk_frozen (by have hb := hR1; unfold RdrD at hb; exact hb)
      have hbz := hR1
      unfold RdrD at hbz
      rw [(by assumption : S1.fe = 0)] at hbz
      have hltz := blk_lt hbz
      have z0 := blk_cell hbz 0
      have z1 := blk_cell hbz 1
      have z2 := blk_cell hbz 2
      have z3 := blk_cell hbz 3
      simp at z0 z1 z2 z3
      clear hbz
      have hq0 : KQ w1.heap.size w1 w1 := kq (Below.refl _ _)
      go_wp2_with fail
      go_region_held3 (fun w' => KQ w1.heap.size w1 w') (first
      | with_reducible exact kq_call (by assumption) (by simp) (by assumption)
      | with_reducible exact kq_grown (by assumption) (by simp) (by assumption) (by simp [Value.ownBlock])
      | ((with_reducible refine kq ?_); (repeat (first | (with_reducible exact Below.refl _ _) | (with_reducible refine Below.drew ?_) | (with_reducible refine Below.alloc ?_ (by simp) _) | (with_reducible refine Below.setCell ?_ (by simp) _) | (with_reducible exact (by assumption : KQ _ _ _).1))); done)) (first | (go_at_call 0; skip))
      go_wp2_with fail
      refine (dfail_any B _ 1 _ hR3.out).mono ?_
      rintro e w3 ⟨rfl, hR4, hg4⟩
      have hR4k := Lib.hid hR4
      have hf4 := failS_fe (S := { S1 with a := S.a }) (e := 1) (by decide)
      have hgr := ((hg1.trans (gr_below (Below.refl _ _).drew _)).trans (gr_set (World.grownBy.refl _ _) 1 (.int .i64 (S.a : Int)))).trans hg4
      clear z0 z1 z2 z3 hltz
      have hbz := hR4
      unfold RdrD at hbz
      have hltz := blk_lt hbz
      have z0 := blk_cell hbz 0
      have z1 := blk_cell hbz 1
      have z2 := blk_cell hbz 2
      have z3 := blk_cell hbz 3
      simp at z0 z1 z2 z3
      have hen : ((failS { S1 with a := S.a } 1).fe != 0) = true := by rw [bne_iff_ne]; assumption
      clear hbz
      go_wp2
      go_ret
      exact ⟨rfl, hR4k.out, hgr⟩
    · rw [if_neg hlt] at hTT
      obtain ⟨rfl, rfl⟩ := Prod.mk.inj hTT
      have hd : decide ((((bs S1.l).size : Nat) : Int) - (S1.a : Int) < (n : Int)) = false := decide_eq_false (by omega)
      have ha0 : (0 : Int) ≤ (S1.a : Int) := by omega
      have hws : IntKind.i64.wrap ((S1.a : Int) + (n : Int)) = (S1.a : Int) + (n : Int) := IntWalk.i64_in _ (by omega)
      have hs0 : (0 : Int) ≤ (S1.a : Int) + (n : Int) := by omega
      have hs1 : (S1.a : Int) ≤ (S1.a : Int) + (n : Int) := by omega
      have hs2 : (S1.a : Int) + (n : Int) ≤ (((bs S1.l).size : Nat) : Int) := by omega
      have hs3 : ((S1.a : Int) + (n : Int)).toNat = S1.a + n := by omega
      have hs4 : (S1.a : Int) ≤ (((bs S1.l).size : Nat) : Int) := by omega
      have hX : Hid ((bs S1.l).extract S1.a (S1.a + n) = bs ((S1.l.drop S1.a).take n)) := Lib.hid (bs_mid _ _ _ (by omega))
      clear hTT hTH hsz
      go_enter Tryz.func56, Tryz.ntmps56
      go_wp2_with fail
      refine c1.out.mono ?_
      rintro e w1 ⟨rfl, hR1, hg1⟩
      clear q0 q1 q2 q3
      have hR3 : Hid (RdrD ((w1.drew.drew).setCell ⟨B, 1, none⟩ (.int .i64 ((S1.a : Int) + (n : Int)))) B { S1 with a := S1.a + n }) := Lib.hid (by
        have hb := hR1
        unfold RdrD at hb ⊢
        rw [blk_set (heap_drew (heap_drew hb))]
        simp)
      have hfz := blk_frozen (by have hb := hR1; unfold RdrD at hb; exact hb)
      have hbz := hR1
      unfold RdrD at hbz
      rw [(by assumption : S1.fe = 0)] at hbz
      have hltz := blk_lt hbz
      have z0 := blk_cell hbz 0
      have z1 := blk_cell hbz 1
      have z2 := blk_cell hbz 2
      have z3 := blk_cell hbz 3
      simp at z0 z1 z2 z3
      clear hbz
      have hq0 : KQ w1.heap.size w1 w1 := kq (Below.refl _ _)
      go_wp2_with fail
      go_region_held3 (fun w' => KQ w1.heap.size w1 w') (first
      | with_reducible exact kq_call (by assumption) (by simp) (by assumption)
      | with_reducible exact kq_grown (by assumption) (by simp) (by assumption) (by simp [Value.ownBlock])
      | ((with_reducible refine kq ?_); (repeat (first | (with_reducible exact Below.refl _ _) | (with_reducible refine Below.drew ?_) | (with_reducible refine Below.alloc ?_ (by simp) _) | (with_reducible refine Below.setCell ?_ (by simp) _) | (with_reducible exact (by assumption : KQ _ _ _).1))); done)) (first | (go_at_call 0; skip))
      go_wp2_with fail
      go_region_held3 (fun w' => KQ w1.heap.size w1 w') (first
      | with_reducible exact kq_call (by assumption) (by simp) (by assumption)
      | with_reducible exact kq_grown (by assumption) (by simp) (by assumption) (by simp [Value.ownBlock])
      | ((with_reducible refine kq ?_); (repeat (first | (with_reducible exact Below.refl _ _) | (with_reducible refine Below.drew ?_) | (with_reducible refine Below.alloc ?_ (by simp) _) | (with_reducible refine Below.setCell ?_ (by simp) _) | (with_reducible exact (by assumption : KQ _ _ _).1))); done)) (first | (go_at_call 0; skip))
      go_wp2
      go_ret
      exact ⟨ret_strn hX.out, hR3.out, ((hg1.trans (gr_below (Below.refl _ _).drew _)).trans (gr_below (Below.refl _ _).drew _)).trans (gr_set (World.grownBy.refl _ _) 1 _)⟩
  · have hTT := hTH.out
    rw [if_pos hf] at hTT
    obtain ⟨rfl, rfl⟩ := Prod.mk.inj hTT
    have hdf : (S1.fe == 0) = false := by simpa using hf
    clear hTT hTH
    go_enter Tryz.func56, Tryz.ntmps56
    go_wp2_with fail
    refine c1.out.mono ?_
    rintro e w1 ⟨rfl, hR1, hg1⟩
    have hR1k := Lib.hid hR1
    clear q0 q1 q2 q3
    have hbz := hR1
    unfold RdrD at hbz
    have hltz := blk_lt hbz
    have z0 := blk_cell hbz 0
    have z1 := blk_cell hbz 1
    have z2 := blk_cell hbz 2
    have z3 := blk_cell hbz 3
    simp at z0 z1 z2 z3
    have hen : (S1.fe != 0) = true := by rw [bne_iff_ne]; assumption
    clear hbz
    go_wp2_with fail
    refine wp_region_M (fun w' => KQ w1.heap.size w1 w') (fun _ => True) 99 (by kernel_rfl) (kq (Below.refl _ _).drew) trivial ?_
    intro hcl
    have hC : KQ w1.heap.size w1 w1.drew := kq (Below.refl _ _).drew
    have hE := trivial
    (refine wpM_take (i := 0) (v := ?_) rfl (by kernel_rfl) (by kernel_rfl) (by kernel_rfl) (by decide) (fun _ _ _ h => h) hcl hC (fun _ => hE) (Or.inl ⟨by rfl, ?_⟩) ?_; rotate_left; (· (intro w hSw; (try dsimp only at hSw); go_simp; (try with_reducible rfl))); clear hcl; intro hcl; (try simp only [Act.put, List.getElem_toArray, List.getElem_cons_zero, List.setIfInBounds_toArray, List.set_cons_zero, List.set_cons_succ]))
    (refine wpM_take (i := 1) (v := ?_) rfl (by kernel_rfl) (by kernel_rfl) (by kernel_rfl) (by decide) (fun _ _ _ h => h) hcl hC (fun _ => hE) (Or.inl ⟨by rfl, ?_⟩) ?_; rotate_left; (· (intro w hSw; (try dsimp only at hSw); go_simp; (try with_reducible rfl))); clear hcl; intro hcl; (try simp only [Act.put, List.getElem_toArray, List.getElem_cons_zero, List.getElem_cons_succ, List.setIfInBounds_toArray, List.set_cons_zero, List.set_cons_succ]))
    (refine wpM_take (i := 2) (v := ?_) rfl (by kernel_rfl) (by kernel_rfl) (by kernel_rfl) (by decide) (fun _ _ _ h => h) hcl hC (fun _ => hE) (Or.inl ⟨by rfl, ?_⟩) ?_; rotate_left; (· (intro w hSw; (try dsimp only at hSw); go_simp; (try with_reducible rfl))); clear hcl; intro hcl; (try simp only [Act.put, List.getElem_toArray, List.getElem_cons_zero, List.getElem_cons_succ, List.setIfInBounds_toArray, List.set_cons_zero, List.set_cons_succ]))
    (refine wpM_take (i := 3) (v := ?_) rfl (by kernel_rfl) (by kernel_rfl) (by kernel_rfl) (by decide) (fun _ _ _ h => h) hcl hC (fun _ => hE) (Or.inl ⟨by rfl, ?_⟩) ?_; rotate_left; (· (intro w hSw; (try dsimp only at hSw); go_simp; (try with_reducible rfl))); clear hcl; intro hcl; (try simp only [Act.put, List.getElem_toArray, List.getElem_cons_zero, List.getElem_cons_succ, List.setIfInBounds_toArray, List.set_cons_zero, List.set_cons_succ]))
    (refine wpM_take (i := 4) (v := ?_) rfl (by kernel_rfl) (by kernel_rfl) (by kernel_rfl) (by decide) (fun _ _ _ h => h) hcl hC (fun _ => hE) (Or.inl ⟨by rfl, ?_⟩) ?_; rotate_left; (· (intro w hSw; (try dsimp only at hSw); go_simp; (try with_reducible rfl))); clear hcl; intro hcl; (try simp only [Act.put, List.getElem_toArray, List.getElem_cons_zero, List.getElem_cons_succ, List.setIfInBounds_toArray, List.set_cons_zero, List.set_cons_succ]))
    (refine wpM_take (i := 5) (v := ?_) rfl (by kernel_rfl) (by kernel_rfl) (by kernel_rfl) (by decide) (fun _ _ _ h => h) hcl hC (fun _ => hE) (Or.inl ⟨by rfl, ?_⟩) ?_; rotate_left; (· (intro w hSw; (try dsimp only at hSw); go_simp; (try with_reducible rfl))); clear hcl; intro hcl; (try simp only [Act.put, List.getElem_toArray, List.getElem_cons_zero, List.getElem_cons_succ, List.setIfInBounds_toArray, List.set_cons_zero, List.set_cons_succ]))
    (refine wpM_take (i := 6) (v := ?_) rfl (by kernel_rfl) (by kernel_rfl) (by kernel_rfl) (by decide) (fun _ _ _ h => h) hcl hC (fun _ => hE) (Or.inl ⟨by rfl, ?_⟩) ?_; rotate_left; (· (intro w hSw; (try dsimp only at hSw); go_simp; (try with_reducible rfl))); clear hcl; intro hcl; (try simp only [Act.put, List.getElem_toArray, List.getElem_cons_zero, List.getElem_cons_succ, List.setIfInBounds_toArray, List.set_cons_zero, List.set_cons_succ]))
    (refine wpM_take (i := 7) (v := undef) rfl (by kernel_rfl) (by kernel_rfl) (by kernel_rfl) (by decide) (fun _ _ _ h => h) hcl hC (fun _ => hE) (Or.inr ⟨by rfl, rfl⟩) ?_; clear hcl; intro hcl; (try simp only [Act.put, List.getElem_toArray, List.getElem_cons_zero, List.getElem_cons_succ, List.setIfInBounds_toArray, List.set_cons_zero, List.set_cons_succ]))
    (refine wpM_take (i := 8) (v := undef) rfl (by kernel_rfl) (by kernel_rfl) (by kernel_rfl) (by decide) (fun _ _ _ h => h) hcl hC (fun _ => hE) (Or.inr ⟨by rfl, rfl⟩) ?_; clear hcl; intro hcl; (try simp only [Act.put, List.getElem_toArray, List.getElem_cons_zero, List.getElem_cons_succ, List.setIfInBounds_toArray, List.set_cons_zero, List.set_cons_succ]))
    (refine wpM_take (i := 9) (v := undef) rfl (by kernel_rfl) (by kernel_rfl) (by kernel_rfl) (by decide) (fun _ _ _ h => h) hcl hC (fun _ => hE) (Or.inr ⟨by rfl, rfl⟩) ?_; clear hcl; intro hcl; (try simp only [Act.put, List.getElem_toArray, List.getElem_cons_zero, List.getElem_cons_succ, List.setIfInBounds_toArray, List.set_cons_zero, List.set_cons_succ]))
    (refine wpM_take (i := 10) (v := undef) rfl (by kernel_rfl) (by kernel_rfl) (by kernel_rfl) (by decide) (fun _ _ _ h => h) hcl hC (fun _ => hE) (Or.inr ⟨by rfl, rfl⟩) ?_; clear hcl; intro hcl; (try simp only [Act.put, List.getElem_toArray, List.getElem_cons_zero, List.getElem_cons_succ, List.setIfInBounds_toArray, List.set_cons_zero, List.set_cons_succ]))
    (refine wpM_take (i := 11) (v := undef) rfl (by kernel_rfl) (by kernel_rfl) (by kernel_rfl) (by decide) (fun _ _ _ h => h) hcl hC (fun _ => hE) (Or.inr ⟨by rfl, rfl⟩) ?_; clear hcl; intro hcl; (try simp only [Act.put, List.getElem_toArray, List.getElem_cons_zero, List.getElem_cons_succ, List.setIfInBounds_toArray, List.set_cons_zero, List.set_cons_succ]))
    (refine wpM_take (i := 12) (v := undef) rfl (by kernel_rfl) (by kernel_rfl) (by kernel_rfl) (by decide) (fun _ _ _ h => h) hcl hC (fun _ => hE) (Or.inr ⟨by rfl, rfl⟩) ?_; clear hcl; intro hcl; (try simp only [Act.put, List.getElem_toArray, List.getElem_cons_zero, List.getElem_cons_succ, List.setIfInBounds_toArray, List.set_cons_zero, List.set_cons_succ]))
    (refine wpM_take (i := 13) (v := undef) rfl (by kernel_rfl) (by kernel_rfl) (by kernel_rfl) (by decide) (fun _ _ _ h => h) hcl hC (fun _ => hE) (Or.inr ⟨by rfl, rfl⟩) ?_; clear hcl; intro hcl; (try simp only [Act.put, List.getElem_toArray, List.getElem_cons_zero, List.getElem_cons_succ, List.setIfInBounds_toArray, List.set_cons_zero, List.set_cons_succ]))
    (refine wpM_take (i := 14) (v := undef) rfl (by kernel_rfl) (by kernel_rfl) (by kernel_rfl) (by decide) (fun _ _ _ h => h) hcl hC (fun _ => hE) (Or.inr ⟨by rfl, rfl⟩) ?_; clear hcl; intro hcl; (try simp only [Act.put, List.getElem_toArray, List.getElem_cons_zero, List.getElem_cons_succ, List.setIfInBounds_toArray, List.set_cons_zero, List.set_cons_succ]))
    (refine wpM_take (i := 15) (v := undef) rfl (by kernel_rfl) (by kernel_rfl) (by kernel_rfl) (by decide) (fun _ _ _ h => h) hcl hC (fun _ => hE) (Or.inr ⟨by rfl, rfl⟩) ?_; clear hcl; intro hcl; (try simp only [Act.put, List.getElem_toArray, List.getElem_cons_zero, List.getElem_cons_succ, List.setIfInBounds_toArray, List.set_cons_zero, List.set_cons_succ]))
    (refine wpM_take (i := 16) (v := undef) rfl (by kernel_rfl) (by kernel_rfl) (by kernel_rfl) (by decide) (fun _ _ _ h => h) hcl hC (fun _ => hE) (Or.inr ⟨by rfl, rfl⟩) ?_; clear hcl; intro hcl; (try simp only [Act.put, List.getElem_toArray, List.getElem_cons_zero, List.getElem_cons_succ, List.setIfInBounds_toArray, List.set_cons_zero, List.set_cons_succ]))
    (refine wpM_take (i := 17) (v := undef) rfl (by kernel_rfl) (by kernel_rfl) (by kernel_rfl) (by decide) (fun _ _ _ h => h) hcl hC (fun _ => hE) (Or.inr ⟨by rfl, rfl⟩) ?_; clear hcl; intro hcl; (try simp only [Act.put, List.getElem_toArray, List.getElem_cons_zero, List.getElem_cons_succ, List.setIfInBounds_toArray, List.set_cons_zero, List.set_cons_succ]))
    (refine wpM_take (i := 18) (v := undef) rfl (by kernel_rfl) (by kernel_rfl) (by kernel_rfl) (by decide) (fun _ _ _ h => h) hcl hC (fun _ => hE) (Or.inr ⟨by rfl, rfl⟩) ?_; clear hcl; intro hcl; (try simp only [Act.put, List.getElem_toArray, List.getElem_cons_zero, List.getElem_cons_succ, List.setIfInBounds_toArray, List.set_cons_zero, List.set_cons_succ]))
    (refine wpM_take (i := 19) (v := ?_) rfl (by kernel_rfl) (by kernel_rfl) (by kernel_rfl) (by decide) (fun _ _ _ h => h) hcl hC (fun _ => hE) (Or.inl ⟨by rfl, ?_⟩) ?_; rotate_left; (· (intro w hSw; (try dsimp only at hSw); go_simp; (try with_reducible rfl))); clear hcl; intro hcl; (try simp only [Act.put, List.getElem_toArray, List.getElem_cons_zero, List.getElem_cons_succ, List.setIfInBounds_toArray, List.set_cons_zero, List.set_cons_succ]))
    refine wpM_done (by kernel_rfl) ?_
    clear hcl
    try simp only [Act.put, List.getElem_toArray, List.getElem_cons_zero, List.getElem_cons_succ, List.setIfInBounds_toArray, List.set_cons_zero, List.set_cons_succ]
    go_wp2
    go_ret
    exact ⟨rfl, hR1k.out.below (Below.refl _ _).drew, hg1.trans (gr_below (Below.refl _ _).drew _)⟩
end Go.Proofs.YtpolplmniaoikaaGreatDoor
