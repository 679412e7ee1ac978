/- The readers' tags, both; the document's texts. Readers of numbers with a sign, of stamps, of puts. -/
import Derived.Test.YtfhandglpjnonaaGreatDoorN36
import Derived.Test.YtfhandglpjnonaaGreatDoorN29
set_option maxRecDepth 100000
set_option maxHeartbeats 16000000
namespace Go.Proofs.YtfhandglpjnonaaGreatDoor
open Go.RowKit
theorem ptag_any (B : Nat) (S : Rs) (w : World) (h : RdrP w B S) (hS : S.wf) :
 Calls Tryz.prog 155 #[.pointer (some ⟨B, 0, none⟩)] w
  fun r w' => r = .returned (.agg #[.int .i64 (readT S).1.1.1, .int .u32 (readT S).1.1.2, .int .i64 (readT S).1.2]) ∧ RdrP w' B (readT S).2 ∧ w.grownBy w' (some B) := by
 have hw0 := readI_wf hS
 have c1 := pread_any B S (w.alloc (.cells #[.int .i64 0, .int .u32 0, .int .i64 0] 131)) (h.below ((Below.refl _ w).alloc (Nat.le_refl _) _)) hS
 have c2 := fun w h => pint_any 15 B (by omega) (readI S).2 w h hw0.1
 have hle2 := yA 15 (readI S).2
 obtain ⟨x, T, hT⟩ : ∃ x T, readT S = (x, T) := ⟨_, _, rfl⟩
 rw [hT]
 unfold readT at hT
 dsimp only at hT
 generalize readI S = p at *
 obtain ⟨i, S1⟩ := p
 dsimp only at *
 generalize intS 15 S1 = q at *
 obtain ⟨s, S2⟩ := q
 dsimp only at *
 have hBlt := h.lt
 have c1 := jH c1
 have c2 := jH c2
 have s0 : (0 : Int) ≤ (s : Int) := by omega
 have s1 : (s : Int) ≤ 15 := by omega
 have hTH := jH hT
 clear hw0 hT hS h hle2
 go_enter Tryz.func155, Tryz.ntmps155
 go_wp2_with fail
 refine c1.out.mono ?_
 rintro e w1 ⟨rfl, hR1, hg1⟩
 have hz1 := hg1.size
 simp only [World.size_alloc] at hz1
 have hbR1 : w1.heap[w.heap.size]? = some (.cells #[.int .i64 0, .int .u32 0, .int .i64 0] 131 (0, 0)) := (hg1.block _ (by simp) (by simp; omega)).trans (jT _ _ rfl)
 have hlR1 := jB hbR1
 go_wp2_with fail
 refine (c2.out _ (hR1.below ((Below.refl _ w1).alloc (Nat.le_refl _) _))).mono ?_
 rintro e w2 ⟨rfl, hR2, hg2⟩
 have hz2 := hg2.size
 simp only [World.size_alloc] at hz2
 have hbR2 : w2.heap[w.heap.size]? = some (.cells #[.int .i64 0, .int .u32 0, .int .i64 0] 131 (0, 0)) := (hg2.block _ (by simp; omega) (by simp; omega)).trans (yE _ hlR1 hbR1)
 have hbI2 : w2.heap[w1.heap.size]? = some (.cells #[.int .i64 i.1, .int .u32 i.2, .int .i64 0] 131 (0, 0)) := (hg2.block _ (by simp) (by simp; omega)).trans (jT _ _ rfl)
 have hlR2 := jB hbR2
 have hlI2 := jB hbI2
 have i0 := jA hbI2 0
 have i1 := jA hbI2 1
 have i2 := jA hbI2 2
 simp at i0 i1 i2
 have hfI := jE hbI2
 have hgB : w.grownBy w2 (some B) := ((World.grownBy_alloc w _ _).trans hg1).trans ((World.grownBy_alloc w1 _ _).trans hg2)
 have hne : w1.heap.size ≠ w.heap.size := by omega
 have hneB : w1.heap.size ≠ B := by omega
 have hneB2 : B ≠ w1.heap.size := by omega
 have hbRs : ∀ u, (w2.setCell ⟨w1.heap.size, 2, none⟩ u).heap[w.heap.size]? = some (.cells #[.int .i64 0, .int .u32 0, .int .i64 0] 131 (0, 0)) := fun u => yG (by dsimp only; omega) hbR2
 have hR4 := jH (fun u a b c => (((hR2.set hbI2 (by decide) (by decide) 2 u).set (hbRs u) (by decide) (by decide) 0 a).set (jO (hbRs u) 0 a) (by decide) (by decide) 1 b).set (jO (jO (hbRs u) 0 a) 1 b) (by decide) (by decide) 2 c)
 have r0 := jA hbR2 0
 have r1 := jA hbR2 1
 have r2 := jA hbR2 2
 simp at r0 r1 r2
 have hfR := jE hbR2
 clear hg1 hg2 hR1 hbR1 hbRs hbR2 hbI2 c1 c2
 by_cases hf : S2.fe = 0
 ·
  have hTT := hTH.out
  rw [if_neg (by simp [hf])] at hTT
  obtain ⟨rfl, rfl⟩ := Prod.mk.inj hTT
  clear hTT hTH
  obtain ⟨ev, hbz, hez⟩ := hR2
  obtain ⟨_, rfl⟩ := hez.resolve_right (fun h9 => absurd (by assumption) h9.1)
  have hltz := jB hbz
  have z0 := jA hbz 0
  have z1 := jA hbz 1
  have z2 := jA hbz 2
  simp at z0 z1 z2
  clear hbz hez
  go_wp2
  refine bodyPost_ret (v := .agg #[.int .i64 i.1, .int .u32 i.2, .int .i64 (s : Int)]) (by simp [results, Tryz.results155, go_sem, r0, r1, r2]) rfl ⟨rfl, hR4.out _ _ _ _, jS (jS (jS (jS hgB (by omega) 2 _) (Nat.le_refl _) 0 _) (Nat.le_refl _) 1 _) (Nat.le_refl _) 2 _⟩
 ·
  have hTT := hTH.out
  rw [if_pos hf] at hTT
  obtain ⟨rfl, rfl⟩ := Prod.mk.inj hTT
  clear hTT hTH
  obtain ⟨ev, hbz, hez⟩ := hR2
  obtain ⟨hne, Fz, rfl, hFz⟩ : S2.fe ≠ 0 ∧ ∃ F, ev = .iface 125 (.pointer (some ⟨F, 0, none⟩)) ∧ _ := hez.resolve_left (fun h9 => absurd h9.1 (by assumption))
  have hltz := jB hbz
  have z0 := jA hbz 0
  have z1 := jA hbz 1
  have z2 := jA hbz 2
  simp at z0 z1 z2
  clear hbz hFz hne hez
  go_wp2
  refine bodyPost_ret (v := .agg #[.int .i64 0, .int .u32 0, .int .i64 0]) (by simp [results, Tryz.results155, go_sem, r0, r1, r2]) rfl ⟨rfl, hR4.out _ _ _ _, jS (jS (jS (jS hgB (by omega) 2 _) (Nat.le_refl _) 0 _) (Nat.le_refl _) 1 _) (Nat.le_refl _) 2 _⟩
theorem dtag_any (B : Nat) (S : Rs) (w : World) (h : RdrD w B S) (hS : S.wf) :
 Calls Tryz.prog 158 #[.pointer (some ⟨B, 0, none⟩)] w
  fun r w' => r = .returned (.agg #[.int .i64 (readT S).1.1.1, .int .u32 (readT S).1.1.2, .int .i64 (readT S).1.2]) ∧ RdrD w' B (readT S).2 ∧ w.grownBy w' (some B) := by
 have hw0 := readI_wf hS
 have c1 := dread_any B S (w.alloc (.cells #[.int .i64 0, .int .u32 0, .int .i64 0] 131)) (h.below ((Below.refl _ w).alloc (Nat.le_refl _) _)) hS
 have c2 := fun w h => dint_any 15 B (by omega) (readI S).2 w h hw0.1
 have hle2 := yA 15 (readI S).2
 obtain ⟨x, T, hT⟩ : ∃ x T, readT S = (x, T) := ⟨_, _, rfl⟩
 rw [hT]
 unfold readT at hT
 dsimp only at hT
 generalize readI S = p at *
 obtain ⟨i, S1⟩ := p
 dsimp only at *
 generalize intS 15 S1 = q at *
 obtain ⟨s, S2⟩ := q
 dsimp only at *
 have hBlt := h.lt
 have c1 := jH c1
 have c2 := jH c2
 have s0 : (0 : Int) ≤ (s : Int) := by omega
 have s1 : (s : Int) ≤ 15 := by omega
 have hTH := jH hT
 clear hw0 hT hS h hle2
 go_enter Tryz.func158, Tryz.ntmps158
 go_wp2_with fail
 refine c1.out.mono ?_
 rintro e w1 ⟨rfl, hR1, hg1⟩
 have hz1 := hg1.size
 simp only [World.size_alloc] at hz1
 have hbR1 : w1.heap[w.heap.size]? = some (.cells #[.int .i64 0, .int .u32 0, .int .i64 0] 131 (0, 0)) := (hg1.block _ (by simp) (by simp; omega)).trans (jT _ _ rfl)
 have hlR1 := jB hbR1
 go_wp2_with fail
 refine (c2.out _ (hR1.below ((Below.refl _ w1).alloc (Nat.le_refl _) _))).mono ?_
 rintro e w2 ⟨rfl, hR2, hg2⟩
 have hz2 := hg2.size
 simp only [World.size_alloc] at hz2
 have hbR2 : w2.heap[w.heap.size]? = some (.cells #[.int .i64 0, .int .u32 0, .int .i64 0] 131 (0, 0)) := (hg2.block _ (by simp; omega) (by simp; omega)).trans (yE _ hlR1 hbR1)
 have hbI2 : w2.heap[w1.heap.size]? = some (.cells #[.int .i64 i.1, .int .u32 i.2, .int .i64 0] 131 (0, 0)) := (hg2.block _ (by simp) (by simp; omega)).trans (jT _ _ rfl)
 have hlR2 := jB hbR2
 have hlI2 := jB hbI2
 have i0 := jA hbI2 0
 have i1 := jA hbI2 1
 have i2 := jA hbI2 2
 simp at i0 i1 i2
 have hfI := jE hbI2
 have hgB : w.grownBy w2 (some B) := ((World.grownBy_alloc w _ _).trans hg1).trans ((World.grownBy_alloc w1 _ _).trans hg2)
 have hne : w1.heap.size ≠ w.heap.size := by omega
 have hneB : w1.heap.size ≠ B := by omega
 have hneB2 : B ≠ w1.heap.size := by omega
 have hbRs : ∀ u, (w2.setCell ⟨w1.heap.size, 2, none⟩ u).heap[w.heap.size]? = some (.cells #[.int .i64 0, .int .u32 0, .int .i64 0] 131 (0, 0)) := fun u => yG (by dsimp only; omega) hbR2
 have hR4 := jH (fun u a b c => (((hR2.set hbI2 (by decide) (by decide) 2 u).set (hbRs u) (by decide) (by decide) 0 a).set (jO (hbRs u) 0 a) (by decide) (by decide) 1 b).set (jO (jO (hbRs u) 0 a) 1 b) (by decide) (by decide) 2 c)
 have r0 := jA hbR2 0
 have r1 := jA hbR2 1
 have r2 := jA hbR2 2
 simp at r0 r1 r2
 have hfR := jE hbR2
 clear hg1 hg2 hR1 hbR1 hbRs hbR2 hbI2 c1 c2
 by_cases hf : S2.fe = 0
 ·
  have hTT := hTH.out
  rw [if_neg (by simp [hf])] at hTT
  obtain ⟨rfl, rfl⟩ := Prod.mk.inj hTT
  clear hTT hTH
  have hbz := hR2
  unfold RdrD at hbz
  rw [(by assumption : S2.fe = 0)] at hbz
  have hltz := jB hbz
  have z0 := jA hbz 0
  have z1 := jA hbz 1
  have z2 := jA hbz 2
  have z3 := jA hbz 3
  simp at z0 z1 z2 z3
  clear hbz
  go_wp2
  refine bodyPost_ret (v := .agg #[.int .i64 i.1, .int .u32 i.2, .int .i64 (s : Int)]) (by simp [results, Tryz.results158, go_sem, r0, r1, r2]) rfl ⟨rfl, hR4.out _ _ _ _, jS (jS (jS (jS hgB (by omega) 2 _) (Nat.le_refl _) 0 _) (Nat.le_refl _) 1 _) (Nat.le_refl _) 2 _⟩
 ·
  have hTT := hTH.out
  rw [if_pos hf] at hTT
  obtain ⟨rfl, rfl⟩ := Prod.mk.inj hTT
  clear hTT hTH
  have hbz := hR2
  unfold RdrD at hbz
  have hltz := jB hbz
  have z0 := jA hbz 0
  have z1 := jA hbz 1
  have z2 := jA hbz 2
  have z3 := jA hbz 3
  simp at z0 z1 z2 z3
  have hen : (S2.fe != 0) = true := by rw [bne_iff_ne]; assumption
  clear hbz
  go_wp2
  refine bodyPost_ret (v := .agg #[.int .i64 0, .int .u32 0, .int .i64 0]) (by simp [results, Tryz.results158, go_sem, r0, r1, r2]) rfl ⟨rfl, hR4.out _ _ _ _, jS (jS (jS (jS hgB (by omega) 2 _) (Nat.le_refl _) 0 _) (Nat.le_refl _) 1 _) (Nat.le_refl _) 2 _⟩
theorem dtext_any (m B : Nat) (hm : m ≤ 1099511627776) (S : Rs) (w : World) (h : RdrD w B S) (hS : S.wf) :
 Calls Tryz.prog 135 #[.pointer (some ⟨B, 0, none⟩), .int .i64 (m : Int)] w
  fun r w' => r = .returned (.string (bs (textS m S).1)) ∧ RdrD w' B (textS m S).2 ∧ w.grownBy w' (some B) := by
 have c1 := dint_any m B hm S w h hS
 have hw1 := Rs.wf_next hS (fun v => if m < v then 2 else 0)
 have hle := yA m S
 obtain ⟨x, T, hT⟩ : ∃ x T, textS m S = (x, T) := ⟨_, _, rfl⟩
 rw [hT]
 unfold textS at hT
 dsimp only at hT
 unfold intS at c1 hle hT
 generalize nextS (fun v => if m < v then 2 else 0) S = p at *
 obtain ⟨n, S1⟩ := p
 dsimp only at *
 have hBlt := h.lt
 have hb0 := h
 unfold RdrD at hb0
 have q0 := jA hb0 0
 have q1 := jA hb0 1
 have q2 := jA hb0 2
 have q3 := jA hb0 3
 simp at q0 q1 q2 q3
 have c1 := jH c1
 have hTH := jH hT
 have n0 : (0 : Int) ≤ (n : Int) := by omega
 have n1 : (n : Int) ≤ 1099511627776 := by omega
 clear hT hb0
 by_cases hf : S1.fe = 0
 ·
  have hTT := hTH.out
  rw [if_neg (by simp [hf])] at hTT
  have hal := hw1.1
  have hll := hw1.2.1
  have hsz : (bs S1.l).size = S1.l.length := jG _
  have hsub : IntKind.i64.wrap ((((bs S1.l).size : Nat) : Int) - (S1.a : Int)) = (((bs S1.l).size : Nat) : Int) - (S1.a : Int) := IntWalk.i64_in _ (by omega)
  by_cases hlt : S1.l.length - S1.a < n
  ·
   rw [if_pos hlt] at hTT
   obtain ⟨rfl, rfl⟩ := Prod.mk.inj hTT
   have hd : decide ((((bs S1.l).size : Nat) : Int) - (S1.a : Int) < (n : Int)) = true := decide_eq_true (by omega)
   clear hTT hTH hsz
   go_enter Tryz.func135, Tryz.ntmps135
   go_wp2_with fail
   refine c1.out.mono ?_
   rintro e w1 ⟨rfl, hR1, hg1⟩
   have hR1k := jH hR1
   clear q0 q1 q2 q3
   have hR3 : Hid (RdrD ((w1.drew).setCell ⟨B, 1, none⟩ (.int .i64 (S.a : Int))) B { S1 with a := S.a }) := jH (by
    have hb := hR1
    unfold RdrD at hb ⊢
    rw [jO (heap_drew hb)]
    rfl)
   have hfz := jE (by have hb := hR1; unfold RdrD at hb; exact hb)
   have hbz := hR1
   unfold RdrD at hbz
   rw [(by assumption : S1.fe = 0)] at hbz
   have hltz := jB hbz
   have z0 := jA hbz 0
   have z1 := jA hbz 1
   have z2 := jA hbz 2
   have z3 := jA hbz 3
   simp at z0 z1 z2 z3
   clear hbz
   have hq0 : KQ w1.heap.size w1 w1 := kq (Below.refl _ _)
   go_wp2_with fail
   go_region_held3 (fun w' => KQ w1.heap.size w1 w') (first
    | with_reducible exact jP (by assumption) (by simp) (by assumption)
    | with_reducible exact yB (by assumption) (by simp) (by assumption) (by simp [Value.ownBlock])
    | ((with_reducible refine kq ?_); (repeat (first | (with_reducible exact Below.refl _ _) | (with_reducible refine Below.drew ?_) | (with_reducible refine Below.alloc ?_ (by simp) _) | (with_reducible refine Below.setCell ?_ (by simp) _) | (with_reducible exact (by assumption : KQ _ _ _).1))); done)) (first | (go_at_call 0; skip))
   go_wp2_with fail
   refine (dfail_any B _ 1 _ hR3.out).mono ?_
   rintro e w3 ⟨rfl, hR4, hg4⟩
   have hR4k := jH hR4
   have hf4 := failS_fe (S := { S1 with a := S.a }) (e := 1) (by decide)
   have hgr := ((hg1.trans (yD (Below.refl _ _).drew _)).trans (gr_set (World.grownBy.refl _ _) 1 (.int .i64 (S.a : Int)))).trans hg4
   clear z0 z1 z2 z3 hltz
   have hbz := hR4
   unfold RdrD at hbz
   have hltz := jB hbz
   have z0 := jA hbz 0
   have z1 := jA hbz 1
   have z2 := jA hbz 2
   have z3 := jA hbz 3
   simp at z0 z1 z2 z3
   have hen : ((failS { S1 with a := S.a } 1).fe != 0) = true := by rw [bne_iff_ne]; assumption
   clear hbz
   go_wp2
   go_ret
   exact ⟨rfl, hR4k.out, hgr⟩
  ·
   rw [if_neg hlt] at hTT
   obtain ⟨rfl, rfl⟩ := Prod.mk.inj hTT
   have hd : decide ((((bs S1.l).size : Nat) : Int) - (S1.a : Int) < (n : Int)) = false := decide_eq_false (by omega)
   have ha0 : (0 : Int) ≤ (S1.a : Int) := by omega
   have hws : IntKind.i64.wrap ((S1.a : Int) + (n : Int)) = (S1.a : Int) + (n : Int) := IntWalk.i64_in _ (by omega)
   have hs0 : (0 : Int) ≤ (S1.a : Int) + (n : Int) := by omega
   have hs1 : (S1.a : Int) ≤ (S1.a : Int) + (n : Int) := by omega
   have hs2 : (S1.a : Int) + (n : Int) ≤ (((bs S1.l).size : Nat) : Int) := by omega
   have hs3 : ((S1.a : Int) + (n : Int)).toNat = S1.a + n := by omega
   have hs4 : (S1.a : Int) ≤ (((bs S1.l).size : Nat) : Int) := by omega
   have hX : Hid ((bs S1.l).extract S1.a (S1.a + n) = bs ((S1.l.drop S1.a).take n)) := jH (bs_mid _ _ _ (by omega))
   clear hTT hTH hsz
   go_enter Tryz.func135, Tryz.ntmps135
   go_wp2_with fail
   refine c1.out.mono ?_
   rintro e w1 ⟨rfl, hR1, hg1⟩
   clear q0 q1 q2 q3
   have hR3 : Hid (RdrD ((w1.drew.drew).setCell ⟨B, 1, none⟩ (.int .i64 ((S1.a : Int) + (n : Int)))) B { S1 with a := S1.a + n }) := jH (by
    have hb := hR1
    unfold RdrD at hb ⊢
    rw [jO (heap_drew (heap_drew hb))]
    simp)
   have hfz := jE (by have hb := hR1; unfold RdrD at hb; exact hb)
   have hbz := hR1
   unfold RdrD at hbz
   rw [(by assumption : S1.fe = 0)] at hbz
   have hltz := jB hbz
   have z0 := jA hbz 0
   have z1 := jA hbz 1
   have z2 := jA hbz 2
   have z3 := jA hbz 3
   simp at z0 z1 z2 z3
   clear hbz
   have hq0 : KQ w1.heap.size w1 w1 := kq (Below.refl _ _)
   go_wp2_with fail
   go_region_held3 (fun w' => KQ w1.heap.size w1 w') (first
    | with_reducible exact jP (by assumption) (by simp) (by assumption)
    | with_reducible exact yB (by assumption) (by simp) (by assumption) (by simp [Value.ownBlock])
    | ((with_reducible refine kq ?_); (repeat (first | (with_reducible exact Below.refl _ _) | (with_reducible refine Below.drew ?_) | (with_reducible refine Below.alloc ?_ (by simp) _) | (with_reducible refine Below.setCell ?_ (by simp) _) | (with_reducible exact (by assumption : KQ _ _ _).1))); done)) (first | (go_at_call 0; skip))
   go_wp2_with fail
   go_region_held3 (fun w' => KQ w1.heap.size w1 w') (first
    | with_reducible exact jP (by assumption) (by simp) (by assumption)
    | with_reducible exact yB (by assumption) (by simp) (by assumption) (by simp [Value.ownBlock])
    | ((with_reducible refine kq ?_); (repeat (first | (with_reducible exact Below.refl _ _) | (with_reducible refine Below.drew ?_) | (with_reducible refine Below.alloc ?_ (by simp) _) | (with_reducible refine Below.setCell ?_ (by simp) _) | (with_reducible exact (by assumption : KQ _ _ _).1))); done)) (first | (go_at_call 0; skip))
   go_wp2
   go_ret
   exact ⟨ret_strn hX.out, hR3.out, ((hg1.trans (yD (Below.refl _ _).drew _)).trans (yD (Below.refl _ _).drew _)).trans (gr_set (World.grownBy.refl _ _) 1 _)⟩
 ·
  have hTT := hTH.out
  rw [if_pos hf] at hTT
  obtain ⟨rfl, rfl⟩ := Prod.mk.inj hTT
  have hdf : (S1.fe == 0) = false := by simpa using hf
  clear hTT hTH
  go_enter Tryz.func135, Tryz.ntmps135
  go_wp2_with fail
  refine c1.out.mono ?_
  rintro e w1 ⟨rfl, hR1, hg1⟩
  have hR1k := jH hR1
  clear q0 q1 q2 q3
  have hbz := hR1
  unfold RdrD at hbz
  have hltz := jB hbz
  have z0 := jA hbz 0
  have z1 := jA hbz 1
  have z2 := jA hbz 2
  have z3 := jA hbz 3
  simp at z0 z1 z2 z3
  have hen : (S1.fe != 0) = true := by rw [bne_iff_ne]; assumption
  clear hbz
  go_wp2_with fail
  refine jW (fun w' => KQ w1.heap.size w1 w') (fun _ => True) 99 (by kernel_rfl) (kq (Below.refl _ _).drew) trivial ?_
  intro hcl
  have hC : KQ w1.heap.size w1 w1.drew := kq (Below.refl _ _).drew
  have hE := trivial
  (refine mT 0 ?_ rfl hcl hC hE ?_ ?_; rotate_left; (· (intro w hSw; (try dsimp only at hSw); go_simp; (try with_reducible rfl))); clear hcl; intro hcl; (try simp only [Act.put, List.getElem_toArray, List.getElem_cons_zero, List.setIfInBounds_toArray, List.set_cons_zero, List.set_cons_succ]))
  (refine mT 1 ?_ rfl hcl hC hE ?_ ?_; rotate_left; (· (intro w hSw; (try dsimp only at hSw); go_simp; (try with_reducible rfl))); clear hcl; intro hcl; (try simp only [Act.put, nA, nB, nC, nD, nE, nF]))
  (refine mT 2 ?_ rfl hcl hC hE ?_ ?_; rotate_left; (· (intro w hSw; (try dsimp only at hSw); go_simp; (try with_reducible rfl))); clear hcl; intro hcl; (try simp only [Act.put, nA, nB, nC, nD, nE, nF]))
  (refine mT 3 ?_ rfl hcl hC hE ?_ ?_; rotate_left; (· (intro w hSw; (try dsimp only at hSw); go_simp; (try with_reducible rfl))); clear hcl; intro hcl; (try simp only [Act.put, nA, nB, nC, nD, nE, nF]))
  (refine mT 4 ?_ rfl hcl hC hE ?_ ?_; rotate_left; (· (intro w hSw; (try dsimp only at hSw); go_simp; (try with_reducible rfl))); clear hcl; intro hcl; (try simp only [Act.put, nA, nB, nC, nD, nE, nF]))
  (refine mT 5 ?_ rfl hcl hC hE ?_ ?_; rotate_left; (· (intro w hSw; (try dsimp only at hSw); go_simp; (try with_reducible rfl))); clear hcl; intro hcl; (try simp only [Act.put, nA, nB, nC, nD, nE, nF]))
  (refine mT 6 ?_ rfl hcl hC hE ?_ ?_; rotate_left; (· (intro w hSw; (try dsimp only at hSw); go_simp; (try with_reducible rfl))); clear hcl; intro hcl; (try simp only [Act.put, nA, nB, nC, nD, nE, nF]))
  (refine wpM_take (i := 7) (v := undef) rfl (by kernel_rfl) (by kernel_rfl) (by kernel_rfl) (by decide) (fun _ _ _ h => h) hcl hC (fun _ => hE) (Or.inr ⟨by rfl, rfl⟩) ?_; clear hcl; intro hcl; (try simp only [Act.put, nA, nB, nC, nD, nE, nF]))
  (refine wpM_take (i := 8) (v := undef) rfl (by kernel_rfl) (by kernel_rfl) (by kernel_rfl) (by decide) (fun _ _ _ h => h) hcl hC (fun _ => hE) (Or.inr ⟨by rfl, rfl⟩) ?_; clear hcl; intro hcl; (try simp only [Act.put, nA, nB, nC, nD, nE, nF]))
  (refine wpM_take (i := 9) (v := undef) rfl (by kernel_rfl) (by kernel_rfl) (by kernel_rfl) (by decide) (fun _ _ _ h => h) hcl hC (fun _ => hE) (Or.inr ⟨by rfl, rfl⟩) ?_; clear hcl; intro hcl; (try simp only [Act.put, nA, nB, nC, nD, nE, nF]))
  (refine wpM_take (i := 10) (v := undef) rfl (by kernel_rfl) (by kernel_rfl) (by kernel_rfl) (by decide) (fun _ _ _ h => h) hcl hC (fun _ => hE) (Or.inr ⟨by rfl, rfl⟩) ?_; clear hcl; intro hcl; (try simp only [Act.put, nA, nB, nC, nD, nE, nF]))
  (refine wpM_take (i := 11) (v := undef) rfl (by kernel_rfl) (by kernel_rfl) (by kernel_rfl) (by decide) (fun _ _ _ h => h) hcl hC (fun _ => hE) (Or.inr ⟨by rfl, rfl⟩) ?_; clear hcl; intro hcl; (try simp only [Act.put, nA, nB, nC, nD, nE, nF]))
  (refine wpM_take (i := 12) (v := undef) rfl (by kernel_rfl) (by kernel_rfl) (by kernel_rfl) (by decide) (fun _ _ _ h => h) hcl hC (fun _ => hE) (Or.inr ⟨by rfl, rfl⟩) ?_; clear hcl; intro hcl; (try simp only [Act.put, nA, nB, nC, nD, nE, nF]))
  (refine wpM_take (i := 13) (v := undef) rfl (by kernel_rfl) (by kernel_rfl) (by kernel_rfl) (by decide) (fun _ _ _ h => h) hcl hC (fun _ => hE) (Or.inr ⟨by rfl, rfl⟩) ?_; clear hcl; intro hcl; (try simp only [Act.put, nA, nB, nC, nD, nE, nF]))
  (refine wpM_take (i := 14) (v := undef) rfl (by kernel_rfl) (by kernel_rfl) (by kernel_rfl) (by decide) (fun _ _ _ h => h) hcl hC (fun _ => hE) (Or.inr ⟨by rfl, rfl⟩) ?_; clear hcl; intro hcl; (try simp only [Act.put, nA, nB, nC, nD, nE, nF]))
  (refine wpM_take (i := 15) (v := undef) rfl (by kernel_rfl) (by kernel_rfl) (by kernel_rfl) (by decide) (fun _ _ _ h => h) hcl hC (fun _ => hE) (Or.inr ⟨by rfl, rfl⟩) ?_; clear hcl; intro hcl; (try simp only [Act.put, nA, nB, nC, nD, nE, nF]))
  (refine wpM_take (i := 16) (v := undef) rfl (by kernel_rfl) (by kernel_rfl) (by kernel_rfl) (by decide) (fun _ _ _ h => h) hcl hC (fun _ => hE) (Or.inr ⟨by rfl, rfl⟩) ?_; clear hcl; intro hcl; (try simp only [Act.put, nA, nB, nC, nD, nE, nF]))
  (refine wpM_take (i := 17) (v := undef) rfl (by kernel_rfl) (by kernel_rfl) (by kernel_rfl) (by decide) (fun _ _ _ h => h) hcl hC (fun _ => hE) (Or.inr ⟨by rfl, rfl⟩) ?_; clear hcl; intro hcl; (try simp only [Act.put, nA, nB, nC, nD, nE, nF]))
  (refine wpM_take (i := 18) (v := undef) rfl (by kernel_rfl) (by kernel_rfl) (by kernel_rfl) (by decide) (fun _ _ _ h => h) hcl hC (fun _ => hE) (Or.inr ⟨by rfl, rfl⟩) ?_; clear hcl; intro hcl; (try simp only [Act.put, nA, nB, nC, nD, nE, nF]))
  (refine mT 19 ?_ rfl hcl hC hE ?_ ?_; rotate_left; (· (intro w hSw; (try dsimp only at hSw); go_simp; (try with_reducible rfl))); clear hcl; intro hcl; (try simp only [Act.put, nA, nB, nC, nD, nE, nF]))
  refine wpM_done (by kernel_rfl) ?_
  clear hcl
  try simp only [Act.put, nA, nB, nC, nD, nE, nF]
  go_wp2
  go_ret
  exact ⟨rfl, hR1k.out.below (Below.refl _ _).drew, hg1.trans (yD (Below.refl _ _).drew _)⟩
def Oth (w : World) (g : Nat) : Prop := ∃ cs t, w.heap[g]? = some (.cells cs t (0, 0)) ∧ t ≠ 129 ∧ t ≠ 176 ∧ t ≠ 115
theorem Oth.mk' {w : World} {g : Nat} {cs : Array Value} {t : TypeId} (h : w.heap[g]? = some (.cells cs t (0, 0))) (h1 : t ≠ 129) (h2 : t ≠ 176) (h3 : t ≠ 115) : Oth w g := ⟨cs, t, h, h1, h2, h3⟩
theorem Oth.set {w : World} {g : Nat} (h : Oth w g) (g' i : Nat) (u : Value) : Oth (w.setCell ⟨g', i, none⟩ u) g := by
 obtain ⟨cs, t, hb, hr⟩ := h
 by_cases e : g' = g
 ·
  subst e
  exact ⟨_, t, jO hb i u, hr⟩
 ·
  exact ⟨cs, t, yG (by dsimp only; exact e) hb, hr⟩
theorem RdrD.seto {w : World} {B g : Nat} {S : Rs} (h : RdrD w B S) (ho : Oth w g) (i : Nat) (u : Value) : RdrD (w.setCell ⟨g, i, none⟩ u) B S := by
 obtain ⟨cs, t, hb, h1, h2, h3⟩ := ho
 exact h.set hb trivial h3 i u
theorem pnum_any (B : Nat) (S : Rs) (w : World) (h : RdrP w B S) (hS : S.wf) :
 Calls Tryz.prog 170 #[.pointer (some ⟨B, 0, none⟩)] w
  fun r w' => r = .returned (.int .u64 ((numS S).1 : Int)) ∧ RdrP w' B (numS S).2 ∧ w.grownBy w' (some B) := by
 have hn := next_any 175 #[] (fun _ => 0) (enters_of Tryz.func175 (by kernel_rfl) rfl) (fun v hv w => every_any v w) B S w h hS
 change Calls _ _ _ _ (fun r w' => r = .returned (.int .u64 ((numS S).1 : Int)) ∧ RdrP w' B (numS S).2 ∧ w.grownBy w' (some B)) at hn
 generalize numS S = r at hn ⊢
 obtain ⟨v, S'⟩ := r
 dsimp only at hn
 have hn := jH hn
 clear h hS
 go_enter Tryz.func170, Tryz.ntmps170
 go_wp2_with fail
 refine hn.out.mono ?_
 rintro e w1 ⟨rfl, hR, hg⟩
 go_wp2
 go_ret
 exact ⟨rfl, hR, hg⟩
theorem readZ_wf {S : Rs} (h : S.wf) : (readZ S).2.wf := Rs.wf_next h _
theorem psig_any (B : Nat) (S : Rs) (w : World) (h : RdrP w B S) (hS : S.wf) :
 Calls Tryz.prog 154 #[.pointer (some ⟨B, 0, none⟩)] w
  fun r w' => r = .returned (.int .i64 (readZ S).1) ∧ RdrP w' B (readZ S).2 ∧ w.grownBy w' (some B) := by
 have hn := pnum_any B S w h hS
 have hlt := numS_lt S
 unfold readZ
 generalize numS S = r at hn hlt ⊢
 obtain ⟨n, S'⟩ := r
 dsimp only at hn hlt ⊢
 have hn := jH hn
 clear h hS
 have n0 : (0 : Int) ≤ (n : Int) := by omega
 have n1 : (n : Int) < 18446744073709551616 := by omega
 have ha := Lib.u64_and1 (n : Int) n0 n1
 by_cases ho : n % 2 = 1
 ·
  rw [if_pos ho]
  rw [show (n : Int) % 2 = 1 by omega] at ha
  have hx : Hid (bits .xor .i64 ((n : Int) / 2) (-1) = -((n / 2 : Nat) : Int) - 1) := jH (by rw [xor_ones_i64 (by omega) (by omega)]; omega)
  clear hlt
  have hoH := jH ho
  clear ho
  go_enter Tryz.func154, Tryz.ntmps154
  go_wp2_with fail
  refine hn.out.mono ?_
  rintro e w1 ⟨rfl, hR, hg⟩
  go_wp2
  go_ret
  exact ⟨jJ hx.out, hR, hg⟩
 ·
  rw [if_neg ho]
  rw [show (n : Int) % 2 = 0 by omega] at ha
  have hx : Hid (bits .xor .i64 ((n : Int) / 2) 0 = ((n / 2 : Nat) : Int)) := jH (by rw [xor_zero64 (by omega) (by omega)]; omega)
  clear hlt
  have hoH := jH ho
  clear ho
  go_enter Tryz.func154, Tryz.ntmps154
  go_wp2_with fail
  refine hn.out.mono ?_
  rintro e w1 ⟨rfl, hR, hg⟩
  go_wp2
  go_ret
  exact ⟨jJ hx.out, hR, hg⟩
theorem dsig_any (B : Nat) (S : Rs) (w : World) (h : RdrD w B S) (hS : S.wf) :
 Calls Tryz.prog 157 #[.pointer (some ⟨B, 0, none⟩)] w
  fun r w' => r = .returned (.int .i64 (readZ S).1) ∧ RdrD w' B (readZ S).2 ∧ w.grownBy w' (some B) := by
 have hn := dnum_any B S w h hS
 have hlt := numS_lt S
 unfold readZ
 generalize numS S = r at hn hlt ⊢
 obtain ⟨n, S'⟩ := r
 dsimp only at hn hlt ⊢
 have hn := jH hn
 clear h hS
 have n0 : (0 : Int) ≤ (n : Int) := by omega
 have n1 : (n : Int) < 18446744073709551616 := by omega
 by_cases ho : n % 2 = 1
 ·
  rw [if_pos ho]
  have ha : (n : Int) % 2 = 1 := by omega
  have hx : Hid (-((n : Int) / 2) - 1 = -((n / 2 : Nat) : Int) - 1) := jH (by omega)
  clear hlt
  have hoH := jH ho
  clear ho
  go_enter Tryz.func157, Tryz.ntmps157
  go_wp2_with fail
  refine hn.out.mono ?_
  rintro e w1 ⟨rfl, hR, hg⟩
  go_wp2
  go_ret
  exact ⟨jJ hx.out, hR, hg⟩
 ·
  rw [if_neg ho]
  have ha : ((n : Int) % 2 == 1) = false := by rw [beq_eq_false_iff_ne]; omega
  have hx : Hid ((n : Int) / 2 = ((n / 2 : Nat) : Int)) := jH (by omega)
  clear hlt
  have hoH := jH ho
  clear ho
  go_enter Tryz.func157, Tryz.ntmps157
  go_wp2_with fail
  refine hn.out.mono ?_
  rintro e w1 ⟨rfl, hR, hg⟩
  go_wp2
  go_ret
  exact ⟨jJ hx.out, hR, hg⟩
theorem plread_any (B : Nat) (S : Rs) (w : World) (h : RdrP w B S) (hS : S.wf) :
 Calls Tryz.prog 156 #[.pointer (some ⟨B, 0, none⟩)] w
  fun r w' => r = .returned (.agg #[.int .u32 (readSt' S).1.1, .int .i64 (readSt' S).1.2]) ∧ RdrP w' B (readSt' S).2 ∧ w.grownBy w' (some B) := by
 have hw1 := Rs.wf_next hS (fun v => if 1048576 < v then 2 else 0)
 have c1 := pint_any 1048576 B (by omega) S (w.alloc (.cells #[.int .u32 0, .int .i64 0] 133)) (h.below ((Below.refl _ w).alloc (Nat.le_refl _) _)) hS
 have c2 := fun w h => pint_any 7 B (by omega) (intS 1048576 S).2 w h hw1
 have hle1 := yA 1048576 S
 have hle2 := yA 7 (intS 1048576 S).2
 obtain ⟨x, T, hT⟩ : ∃ x T, readSt' S = (x, T) := ⟨_, _, rfl⟩
 rw [hT]
 unfold readSt' at hT
 dsimp only at hT
 generalize intS 1048576 S = p at *
 obtain ⟨i, S1⟩ := p
 dsimp only at *
 generalize intS 7 S1 = q at *
 obtain ⟨s, S2⟩ := q
 dsimp only at *
 have hBlt := h.lt
 have c1 := jH c1
 have c2 := jH c2
 have i0 : (0 : Int) ≤ (i : Int) := by omega
 have i1 : (i : Int) ≤ 1048576 := by omega
 have s0 : (0 : Int) ≤ (s : Int) := by omega
 have s1 : (s : Int) ≤ 7 := by omega
 have hTH := jH hT
 clear hw1 hT hS h hle1 hle2
 go_enter Tryz.func156, Tryz.ntmps156
 go_wp2_with fail
 refine c1.out.mono ?_
 rintro e w1 ⟨rfl, hR1, hg1⟩
 have hz1 := hg1.size
 simp only [World.size_alloc] at hz1
 have hbR1 : w1.heap[w.heap.size]? = some (.cells #[.int .u32 0, .int .i64 0] 133 (0, 0)) := (hg1.block _ (by simp) (by simp; omega)).trans (jT _ _ rfl)
 have hlR1 := jB hbR1
 go_wp2_with fail
 refine (c2.out _ hR1).mono ?_
 rintro e w2 ⟨rfl, hR2, hg2⟩
 have hz2 := hg2.size
 have hbR2 : w2.heap[w.heap.size]? = some (.cells #[.int .u32 0, .int .i64 0] 133 (0, 0)) := (hg2.block _ hlR1 (by simp; omega)).trans hbR1
 have hlR2 := jB hbR2
 have hgB : w.grownBy w2 (some B) := ((World.grownBy_alloc w _ _).trans hg1).trans hg2
 have hneB : B ≠ w.heap.size := by omega
 have hR4 := jH (fun c d => (hR2.set hbR2 (by decide) (by decide) 0 c).set (jO hbR2 0 c) (by decide) (by decide) 1 d)
 have r0 := jA hbR2 0
 have r1 := jA hbR2 1
 simp at r0 r1
 have hfR := jE hbR2
 clear hg1 hg2 hR1 hbR1 hbR2 c1 c2
 by_cases hf : S2.fe = 0
 ·
  have hTT := hTH.out
  rw [if_neg (by simp [hf])] at hTT
  obtain ⟨rfl, rfl⟩ := Prod.mk.inj hTT
  clear hTT hTH
  obtain ⟨ev, hbz, hez⟩ := hR2
  obtain ⟨_, rfl⟩ := hez.resolve_right (fun h9 => absurd (by assumption) h9.1)
  have hltz := jB hbz
  have z0 := jA hbz 0
  have z1 := jA hbz 1
  have z2 := jA hbz 2
  simp at z0 z1 z2
  clear hbz hez
  go_wp2
  refine bodyPost_ret (v := .agg #[.int .u32 (i : Int), .int .i64 (s : Int)]) (by simp [results, Tryz.results156, go_sem, r0, r1]) rfl ⟨rfl, hR4.out _ _, jS (jS hgB (Nat.le_refl _) 0 _) (Nat.le_refl _) 1 _⟩
 ·
  have hTT := hTH.out
  rw [if_pos hf] at hTT
  obtain ⟨rfl, rfl⟩ := Prod.mk.inj hTT
  clear hTT hTH
  obtain ⟨ev, hbz, hez⟩ := hR2
  obtain ⟨hne, Fz, rfl, hFz⟩ : S2.fe ≠ 0 ∧ ∃ F, ev = .iface 125 (.pointer (some ⟨F, 0, none⟩)) ∧ _ := hez.resolve_left (fun h9 => absurd h9.1 (by assumption))
  have hltz := jB hbz
  have z0 := jA hbz 0
  have z1 := jA hbz 1
  have z2 := jA hbz 2
  simp at z0 z1 z2
  clear hbz hFz hne hez
  go_wp2
  refine bodyPost_ret (v := .agg #[.int .u32 0, .int .i64 0]) (by simp [results, Tryz.results156, go_sem, r0, r1]) rfl ⟨rfl, hR4.out _ _, jS (jS hgB (Nat.le_refl _) 0 _) (Nat.le_refl _) 1 _⟩
theorem dlread_any (B : Nat) (S : Rs) (w : World) (h : RdrD w B S) (hS : S.wf) :
 Calls Tryz.prog 159 #[.pointer (some ⟨B, 0, none⟩)] w
  fun r w' => r = .returned (.agg #[.int .u32 (readSt' S).1.1, .int .i64 (readSt' S).1.2]) ∧ RdrD w' B (readSt' S).2 ∧ w.grownBy w' (some B) := by
 have hw1 := Rs.wf_next hS (fun v => if 1048576 < v then 2 else 0)
 have c1 := dint_any 1048576 B (by omega) S (w.alloc (.cells #[.int .u32 0, .int .i64 0] 133)) (h.below ((Below.refl _ w).alloc (Nat.le_refl _) _)) hS
 have c2 := fun w h => dint_any 7 B (by omega) (intS 1048576 S).2 w h hw1
 have hle1 := yA 1048576 S
 have hle2 := yA 7 (intS 1048576 S).2
 obtain ⟨x, T, hT⟩ : ∃ x T, readSt' S = (x, T) := ⟨_, _, rfl⟩
 rw [hT]
 unfold readSt' at hT
 dsimp only at hT
 generalize intS 1048576 S = p at *
 obtain ⟨i, S1⟩ := p
 dsimp only at *
 generalize intS 7 S1 = q at *
 obtain ⟨s, S2⟩ := q
 dsimp only at *
 have hBlt := h.lt
 have c1 := jH c1
 have c2 := jH c2
 have i0 : (0 : Int) ≤ (i : Int) := by omega
 have i1 : (i : Int) ≤ 1048576 := by omega
 have s0 : (0 : Int) ≤ (s : Int) := by omega
 have s1 : (s : Int) ≤ 7 := by omega
 have hTH := jH hT
 clear hw1 hT hS h hle1 hle2
 go_enter Tryz.func159, Tryz.ntmps159
 go_wp2_with fail
 refine c1.out.mono ?_
 rintro e w1 ⟨rfl, hR1, hg1⟩
 have hz1 := hg1.size
 simp only [World.size_alloc] at hz1
 have hbR1 : w1.heap[w.heap.size]? = some (.cells #[.int .u32 0, .int .i64 0] 133 (0, 0)) := (hg1.block _ (by simp) (by simp; omega)).trans (jT _ _ rfl)
 have hlR1 := jB hbR1
 go_wp2_with fail
 refine (c2.out _ (hR1.below ((Below.refl _ w1).alloc (Nat.le_refl _) _))).mono ?_
 rintro e w2 ⟨rfl, hR2, hg2⟩
 have hz2 := hg2.size
 simp only [World.size_alloc] at hz2
 have hbR2 : w2.heap[w.heap.size]? = some (.cells #[.int .u32 0, .int .i64 0] 133 (0, 0)) := (hg2.block _ (by simp; omega) (by simp; omega)).trans (yE _ hlR1 hbR1)
 have hbI2 : w2.heap[w1.heap.size]? = some (.cells #[.int .u32 (i : Int), .int .i64 0] 133 (0, 0)) := (hg2.block _ (by simp) (by simp; omega)).trans (jT _ _ rfl)
 have hlR2 := jB hbR2
 have hlI2 := jB hbI2
 have j0 := jA hbI2 0
 have j1 := jA hbI2 1
 simp at j0 j1
 have hfI := jE hbI2
 have hgB : w.grownBy w2 (some B) := ((World.grownBy_alloc w _ _).trans hg1).trans ((World.grownBy_alloc w1 _ _).trans hg2)
 have hneB : B ≠ w.heap.size := by omega
 have hne : w1.heap.size ≠ w.heap.size := by omega
 have hneB1 : w1.heap.size ≠ B := by omega
 have hneB2 : B ≠ w1.heap.size := by omega
 have hoI := Oth.mk' hbI2 (by decide) (by decide) (by decide)
 have hoR := Oth.mk' hbR2 (by decide) (by decide) (by decide)
 have hR4 := jH (fun u c d => ((hR2.seto hoI 1 u).seto (hoR.set w1.heap.size 1 u) 0 c).seto ((hoR.set w1.heap.size 1 u).set w.heap.size 0 c) 1 d)
 have r0 := jA hbR2 0
 have r1 := jA hbR2 1
 simp at r0 r1
 have hfR := jE hbR2
 clear hg1 hg2 hR1 hbR1 hbR2 hbI2 c1 c2 hoI hoR
 by_cases hf : S2.fe = 0
 ·
  have hTT := hTH.out
  rw [if_neg (by simp [hf])] at hTT
  obtain ⟨rfl, rfl⟩ := Prod.mk.inj hTT
  clear hTT hTH
  have hbz := hR2
  unfold RdrD at hbz
  rw [(by assumption : S2.fe = 0)] at hbz
  have hltz := jB hbz
  have z0 := jA hbz 0
  have z1 := jA hbz 1
  have z2 := jA hbz 2
  have z3 := jA hbz 3
  simp at z0 z1 z2 z3
  clear hbz
  go_wp2
  refine bodyPost_ret (v := .agg #[.int .u32 (i : Int), .int .i64 (s : Int)]) (by simp [results, Tryz.results159, go_sem, r0, r1]) rfl ⟨rfl, hR4.out _ _ _, jS (jS (jS hgB (by omega) 1 _) (Nat.le_refl _) 0 _) (Nat.le_refl _) 1 _⟩
 ·
  have hTT := hTH.out
  rw [if_pos hf] at hTT
  obtain ⟨rfl, rfl⟩ := Prod.mk.inj hTT
  clear hTT hTH
  have hbz := hR2
  unfold RdrD at hbz
  have hltz := jB hbz
  have z0 := jA hbz 0
  have z1 := jA hbz 1
  have z2 := jA hbz 2
  have z3 := jA hbz 3
  simp at z0 z1 z2 z3
  have hen : (S2.fe != 0) = true := by rw [bne_iff_ne]; assumption
  clear hbz
  go_wp2
  refine bodyPost_ret (v := .agg #[.int .u32 0, .int .i64 0]) (by simp [results, Tryz.results159, go_sem, r0, r1]) rfl ⟨rfl, hR4.out _ _ _, jS (jS (jS hgB (by omega) 1 _) (Nat.le_refl _) 0 _) (Nat.le_refl _) 1 _⟩
end Go.Proofs.YtfhandglpjnonaaGreatDoor
