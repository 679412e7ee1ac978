/- The program's reader: New, At, Left. The document's Read of names: the next name that a reader has. The document's Read of sets: the next set that a reader has. The readers' texts and tags, both. -/
import Derived.Test.YtfhandglpjnonaaGreatDoorN04
import Derived.BigRegion
import Derived.Test.YtfhandglpjnonaaGreatDoorRy
set_option maxRecDepth 100000
set_option maxHeartbeats 16000000
namespace Go.Proofs.YtfhandglpjnonaaGreatDoor
open Go.RowKit
theorem pnew_any (s : ByteArray) (w : World) :
 Calls Tryz.prog 59 #[.string s] w fun e w' => e = .returned (.pointer (some ⟨w.heap.size, 0, none⟩)) ∧ w' = w.alloc (.cells #[.string s, .int .i64 0, .nilIface] 176) := by
 go_enter Tryz.func59, Tryz.ntmps59
 go_wp2
 go_ret
 exact ⟨rfl, rfl⟩
theorem ret_i64 {a b : Int} (h : a = b) : Ending.returned (.int .i64 a) = .returned (.int .i64 b) := by rw [h]
theorem pleft_any (B : Nat) (S : Rs) (w : World) (h : RdrP w B S) (hS : S.wf) :
 Calls Tryz.prog 104 #[.pointer (some ⟨B, 0, none⟩)] w fun e w' => e = .returned (.int .i64 ((S.l.length - S.a : Nat) : Int)) ∧ Below w.heap.size w w' := by
 obtain ⟨ev, hb, he⟩ := h
 have hlt := jB hb
 have q0 := jA hb 0
 have q1 := jA hb 1
 have q2 := jA hb 2
 simp at q0 q1 q2
 have hT : Hid ((((bs S.l).size : Nat) : Int) - (S.a : Int) = ((S.l.length - S.a : Nat) : Int)) := jH (by rw [jG]; have := hS.1; omega)
 have hw1 : IntKind.i64.wrap ((((bs S.l).size : Nat) : Int) - (S.a : Int)) = (((bs S.l).size : Nat) : Int) - (S.a : Int) := IntWalk.i64_in _ (by rw [jG]; have := hS.1; have := hS.2.1; omega)
 clear hb he hS
 go_enter Tryz.func104, Tryz.ntmps104
 go_wp2_with fail
 go_region
 go_wp2
 go_ret
 exact ⟨ret_i64 hT.out, (Below.refl _ _).drew⟩
theorem RdrD.set {w : World} {B g : Nat} {S : Rs} {cs : Array Value} {t : TypeId} (h : RdrD w B S) (hg : w.heap[g]? = some (.cells cs t (0, 0))) (_ : True) (h2 : t ≠ 115) (i : Nat) (u : Value) : RdrD (w.setCell ⟨g, i, none⟩ u) B S :=
 h.grown (gr_set (World.grownBy.refl w _) i u) (fun g' cs' t' e hb => by
  injection e with e; subst e
  rw [hg] at hb
  injection hb with hb; injection hb with _ ht
  exact ht ▸ h2)
theorem dread_any (B : Nat) (S : Rs) (w : World) (h : RdrD w B S) (hS : S.wf) :
 Calls Tryz.prog 69 #[.pointer (some ⟨B, 0, none⟩)] w
  fun r w' => r = .returned (.agg #[.int .i64 (readI S).1.1, .int .u32 (readI S).1.2]) ∧ RdrD w' B (readI S).2 ∧ w.grownBy w' (some B) := by
 have hw1 := Rs.wf_next hS (fun v => if 7 < v then 2 else 0)
 have c1 := fun w h => dint_any 7 B (by omega) S w h hS
 have c2 := fun w h => dint_any 1048576 B (by omega) (intS 7 S).2 w h hw1
 have hle1 := yA 7 S
 have hle2 := yA 1048576 (intS 7 S).2
 have her := @intS_err (intS 7 S).2 1048576
 obtain ⟨x, T, hT⟩ : ∃ x T, readI S = (x, T) := ⟨_, _, rfl⟩
 rw [hT]
 unfold readI at hT
 dsimp only at hT
 generalize intS 7 S = p at *
 obtain ⟨o, S1⟩ := p
 dsimp only at *
 generalize intS 1048576 S1 = q at *
 obtain ⟨s, S2⟩ := q
 dsimp only at *
 have hBlt := h.lt
 have c1 := jH c1
 have c2 := jH c2
 have hwH := jH hw1
 have o0 : (0 : Int) ≤ (o : Int) := by omega
 have o1 : (o : Int) ≤ 7 := by omega
 have s0 : (0 : Int) ≤ (s : Int) := by omega
 have s1 : (s : Int) ≤ 1048576 := by omega
 have hH := jH h
 have herH := jH her
 have hTH := jH hT
 clear her hw1 hT hS h hle1 hle2
 go_enter Tryz.func69, Tryz.ntmps69
 go_wp2_with fail
 refine (c1.out _ (hH.out.below ((Below.refl _ w).alloc (Nat.le_refl _) _))).mono ?_
 rintro e w1 ⟨rfl, hR1, hg1⟩
 have hz1 := hg1.size
 simp only [World.size_alloc] at hz1
 have hbR1 : w1.heap[w.heap.size]? = some (.cells #[.int .i64 0, .int .u32 0] 24 (0, 0)) := (hg1.block _ (by simp) (by simp; omega)).trans (jT _ _ rfl)
 have hlR1 := jB hbR1
 go_wp2_with fail
 refine (c2.out _ (hR1.below ((Below.refl _ w1).alloc (Nat.le_refl _) _))).mono ?_
 rintro e w2 ⟨rfl, hR2, hg2⟩
 have hz2 := hg2.size
 simp only [World.size_alloc] at hz2
 have hbR2 : w2.heap[w.heap.size]? = some (.cells #[.int .i64 0, .int .u32 0] 24 (0, 0)) := (hg2.block _ (by simp; omega) (by simp; omega)).trans (yE _ hlR1 hbR1)
 have hbI2 : w2.heap[w1.heap.size]? = some (.cells #[.int .i64 (o : Int), .int .u32 0] 24 (0, 0)) := (hg2.block _ (by simp) (by simp; omega)).trans (jT _ _ rfl)
 have hlR2 := jB hbR2
 have hlI2 := jB hbI2
 have i0 := jA hbI2 0
 have i1 := jA hbI2 1
 simp at i0 i1
 have hfI := jE hbI2
 have hgA : w.grownBy w1 (some B) := (World.grownBy_alloc w _ _).trans hg1
 have hgB : w.grownBy w2 (some B) := hgA.trans ((World.grownBy_alloc w1 _ _).trans hg2)
 have hR2s := fun u => hR2.set hbI2 (by decide) (by decide) 1 u
 have hbI3 := fun u => jO hbI2 1 u
 have hne : w1.heap.size ≠ w.heap.size := by omega
 clear hg1 hg2 hR1 hbR1 hgA
 by_cases hs : s = 0
 ·
  have hTT := hTH.out
  rw [if_pos hs] at hTT
  obtain ⟨rfl, rfl⟩ := Prod.mk.inj hTT
  subst hs
  clear hTT
  have hfe := failS_fe (S := S2) (e := 2) (by decide)
  have hR2H := jH hR2s
  have hbI3H := jH hbI3
  clear hR2s hbI3
  go_wp2_with fail
  refine (dfail_any B S2 2 _ (hR2H.out _)).mono ?_
  rintro e w3 ⟨rfl, hR3, hg3⟩
  have hbR3 : w3.heap[w.heap.size]? = some (.cells #[.int .i64 0, .int .u32 0] 24 (0, 0)) := (hg3.block _ (by first | (simp; done) | (simp; omega) | omega) (by simp; omega)).trans (yG (by dsimp only; omega) hbR2)
  have hlR3 := jB hbR3
  have r0 := jA hbR3 0
  have r1 := jA hbR3 1
  simp at r0 r1
  have hfR := jE hbR3
  have hgC : w.grownBy w3 (some B) := (jS hgB (by omega) 1 _).trans hg3
  have hR4 := (hR3.set hbR3 (by decide) (by decide) 0 (.int .i64 0)).set (jO hbR3 0 (.int .i64 0)) (by decide) (by decide) 1 (.int .u32 0)
  have hR4 := jH hR4
  clear i0 i1 hfI hg3 hbR3 hgB hbR2 hbI2 hR2
  have hbz := hR3
  unfold RdrD at hbz
  have hltz := jB hbz
  have z0 := jA hbz 0
  have z1 := jA hbz 1
  have z2 := jA hbz 2
  have z3 := jA hbz 3
  simp at z0 z1 z2 z3
  have hen : ((failS S2 2).fe != 0) = true := by rw [bne_iff_ne]; assumption
  clear hbz
  go_wp2
  refine bodyPost_ret (v := .agg #[.int .i64 0, .int .u32 0]) (by simp [results, Tryz.results69, go_sem, r0, r1]) rfl ⟨rfl, hR4.out, jS (jS hgC (Nat.le_refl _) 0 _) (Nat.le_refl _) 1 _⟩
 ·
  have hTT := hTH.out
  rw [if_neg hs] at hTT
  obtain ⟨rfl, rfl⟩ := Prod.mk.inj hTT
  have hfe := herH.out hs
  have hsn : ((s : Int) == 0) = false := by rw [beq_eq_false_iff_ne]; omega
  clear hTT hs
  have hbRs : ∀ u, (w2.setCell ⟨w1.heap.size, 1, none⟩ u).heap[w.heap.size]? = some (.cells #[.int .i64 0, .int .u32 0] 24 (0, 0)) := fun u => yG (by dsimp only; omega) hbR2
  have hR4 := fun u a b => ((hR2s u).set (hbRs u) (by decide) (by decide) 0 a).set (jO (hbRs u) 0 a) (by decide) (by decide) 1 b
  have hR4 := jH hR4
  have r0 := jA hbR2 0
  have r1 := jA hbR2 1
  simp at r0 r1
  have hfR := jE hbR2
  clear hbRs hR2s hbI3 hbR2 hbI2
  have hbz := hR2
  unfold RdrD at hbz
  rw [(by assumption : S2.fe = 0)] at hbz
  have hltz := jB hbz
  have z0 := jA hbz 0
  have z1 := jA hbz 1
  have z2 := jA hbz 2
  have z3 := jA hbz 3
  simp at z0 z1 z2 z3
  clear hbz
  go_wp2
  refine bodyPost_ret (v := .agg #[.int .i64 (o : Int), .int .u32 (s : Int)]) (by simp [results, Tryz.results69, go_sem, r0, r1]) rfl ⟨rfl, hR4.out _ _ _, jS (jS (jS hgB (by omega) 1 _) (Nat.le_refl _) 0 _) (Nat.le_refl _) 1 _⟩
theorem RdrD.appended {w w' : World} {B : Nat} {S : Rs} {base : Nat} {e : TypeId} {sz : Nat} {v : Value} {xs : List (List Value)} (h : RdrD w B S) (ho : Ow w base e sz v xs) (hg : w.grownBy w' v.ownBlock) (_ : True) (h2 : e ≠ 115) : RdrD w' B S :=
 h.grown hg (fun g cs t er hb => by
  rcases ho.2.2 with ⟨rfl, _⟩ | ⟨g', cap, cur, rfl, _, hh, _⟩
  ·
   cases er
  ·
   simp only [Value.ownBlock, Option.some.injEq] at er
   subst er
   rw [hh] at hb
   injection hb with hb; injection hb with _ ht
   exact ht ▸ h2)
theorem ret_strn {a b : ByteArray} (h : a = b) : Ending.returned (.string a) = .returned (.string b) := by rw [h]
theorem bs_mid (l : List UInt8) (a n : Nat) (_h : a + n ≤ l.length) : (bs l).extract a (a + n) = bs ((l.drop a).take n) := by
 apply ByteArray.ext
 unfold bs
 rw [ByteArray.data_extract]
 simp only [List.extract_toArray, List.extract_eq_take_drop]
 congr 3
 omega
theorem ptext_any (m B : Nat) (hm : m ≤ 1099511627776) (S : Rs) (w : World) (h : RdrP w B S) (hS : S.wf) :
 Calls Tryz.prog 133 #[.pointer (some ⟨B, 0, none⟩), .int .i64 (m : Int)] w
  fun r w' => r = .returned (.string (bs (textS m S).1)) ∧ RdrP w' B (textS m S).2 ∧ w.grownBy w' (some B) := by
 have c1 := pint_any m B hm S w h hS
 have hw1 := Rs.wf_next hS (fun v => if m < v then 2 else 0)
 have hle := yA m S
 obtain ⟨x, T, hT⟩ : ∃ x T, textS m S = (x, T) := ⟨_, _, rfl⟩
 rw [hT]
 unfold textS at hT
 dsimp only at hT
 unfold intS at c1 hle hT
 generalize nextS (fun v => if m < v then 2 else 0) S = p at *
 obtain ⟨n, S1⟩ := p
 dsimp only at *
 have hBlt := h.lt
 obtain ⟨ev0, hb0, he0⟩ := h
 have q0 := jA hb0 0
 have q1 := jA hb0 1
 have q2 := jA hb0 2
 simp at q0 q1 q2
 have c1 := jH c1
 have hTH := jH hT
 have n0 : (0 : Int) ≤ (n : Int) := by omega
 have n1 : (n : Int) ≤ 1099511627776 := by omega
 clear hT hb0 he0
 by_cases hf : S1.fe = 0
 ·
  have hTT := hTH.out
  rw [if_neg (by simp [hf])] at hTT
  by_cases hlt : S1.l.length - S1.a < n
  ·
   rw [if_pos hlt] at hTT
   obtain ⟨rfl, rfl⟩ := Prod.mk.inj hTT
   have hd : decide (((S1.l.length - S1.a : Nat) : Int) < (n : Int)) = true := decide_eq_true (by omega)
   clear hTT hTH
   have hw1H := jH hw1
   have hfH := jH hf
   go_enter Tryz.func133, Tryz.ntmps133
   go_wp2_with fail
   refine c1.out.mono ?_
   rintro e w1 ⟨rfl, hR1, hg1⟩
   have hR1k := jH hR1
   have hlt1 := hR1.lt
   clear q0 q1 q2
   obtain ⟨ev, hbz, hez⟩ := hR1
   obtain ⟨_, rfl⟩ := hez.resolve_right (fun h9 => absurd (by assumption) h9.1)
   have hltz := jB hbz
   have z0 := jA hbz 0
   have z1 := jA hbz 1
   have z2 := jA hbz 2
   simp at z0 z1 z2
   clear hbz hez
   go_wp2_with fail
   refine (pleft_any B S1 w1 hR1k.out hw1H.out).mono ?_
   rintro e w2 ⟨rfl, hb2⟩
   clear z0 z1 z2 hltz
   have hR2 := hR1k.out.below hb2
   obtain ⟨ev2, hB2, hE2⟩ := hR2
   have hlt2 := jB hB2
   have z0 := jA hB2 0
   have z1 := jA hB2 1
   have z2 := jA hB2 2
   simp at z0 z1 z2
   have hfz := jE hB2
   have hR3 : Hid (RdrP (w2.setCell ⟨B, 1, none⟩ (.int .i64 (S.a : Int))) B { S1 with a := S.a }) := jH ⟨ev2, by rw [jO hB2]; rfl, hE2.grown (gr_set (World.grownBy.refl w2 _) 1 _) (fun g cs e hh => by injection e with e; subst e; rw [hB2] at hh; injection hh with hh; injection hh with _ ht; revert ht; decide)⟩
   have hg2 : w.grownBy w2 (some B) := hg1.trans (yD hb2 _)
   clear hB2 hE2
   go_wp2_with fail
   refine (pfail_any B _ 1 _ hR3.out).mono ?_
   rintro e w3 ⟨rfl, hR4, hg4⟩
   go_wp2
   go_ret
   exact ⟨rfl, hR4, (gr_set hg2 1 _).trans hg4⟩
  ·
   rw [if_neg hlt] at hTT
   obtain ⟨rfl, rfl⟩ := Prod.mk.inj hTT
   have hd : decide (((S1.l.length - S1.a : Nat) : Int) < (n : Int)) = false := decide_eq_false (by omega)
   clear hTT hTH
   have hw1H := jH hw1
   have hal := hw1.1
   have hll := hw1.2.1
   have hsz : (bs S1.l).size = S1.l.length := jG _
   have ha0 : (0 : Int) ≤ (S1.a : Int) := by omega
   have hws : IntKind.i64.wrap ((S1.a : Int) + (n : Int)) = (S1.a : Int) + (n : Int) := IntWalk.i64_in _ (by omega)
   have hs0 : (0 : Int) ≤ (S1.a : Int) + (n : Int) := by omega
   have hs1 : (S1.a : Int) ≤ (S1.a : Int) + (n : Int) := by omega
   have hs2 : (S1.a : Int) + (n : Int) ≤ (((bs S1.l).size : Nat) : Int) := by omega
   have hs3 : ((S1.a : Int) + (n : Int)).toNat = S1.a + n := by omega
   have hs4 : (S1.a : Int) ≤ (((bs S1.l).size : Nat) : Int) := by omega
   have hX : Hid ((bs S1.l).extract S1.a (S1.a + n) = bs ((S1.l.drop S1.a).take n)) := jH (bs_mid _ _ _ (by omega))
   have hszH := jH hsz
   clear hw1 hsz
   go_enter Tryz.func133, Tryz.ntmps133
   go_wp2_with fail
   refine c1.out.mono ?_
   rintro e w1 ⟨rfl, hR1, hg1⟩
   have hR1k := jH hR1
   have hlt1 := hR1.lt
   clear q0 q1 q2
   obtain ⟨ev, hbz, hez⟩ := hR1
   obtain ⟨_, rfl⟩ := hez.resolve_right (fun h9 => absurd (by assumption) h9.1)
   have hltz := jB hbz
   have z0 := jA hbz 0
   have z1 := jA hbz 1
   have z2 := jA hbz 2
   simp at z0 z1 z2
   clear hbz hez
   go_wp2_with fail
   refine (pleft_any B S1 w1 hR1k.out hw1H.out).mono ?_
   rintro e w2 ⟨rfl, hb2⟩
   clear z0 z1 z2 hltz
   have hR2 := hR1k.out.below hb2
   obtain ⟨ev2, hB2, hE2⟩ := hR2
   have hlt2 := jB hB2
   have z0 := jA hB2 0
   have z1 := jA hB2 1
   have z2 := jA hB2 2
   simp at z0 z1 z2
   have hfz := jE hB2
   have hR3 : Hid (RdrP ((w2.drew).setCell ⟨B, 1, none⟩ (.int .i64 ((S1.a : Int) + (n : Int)))) B { S1 with a := S1.a + n }) := jH ⟨ev2, by rw [jO (heap_drew hB2)]; simp, hE2.grown ((yD (Below.refl _ _).drew (some B)).trans (gr_set (World.grownBy.refl _ _) 1 _)) (fun g cs e hh => by injection e with e; subst e; rw [hB2] at hh; injection hh with hh; injection hh with _ ht; revert ht; decide)⟩
   have hg2 : w.grownBy w2 (some B) := hg1.trans (yD hb2 _)
   have hq0 : KQ w2.heap.size w2 w2 := kq (Below.refl _ _)
   clear hB2 hE2
   go_wp2_with fail
   go_region_held3 (fun w' => KQ w2.heap.size w2 w') (first
    | with_reducible exact jP (by assumption) (by simp) (by assumption)
    | with_reducible exact yB (by assumption) (by simp) (by assumption) (by simp [Value.ownBlock])
    | ((with_reducible refine kq ?_); (repeat (first | (with_reducible exact Below.refl _ _) | (with_reducible refine Below.drew ?_) | (with_reducible refine Below.alloc ?_ (by simp) _) | (with_reducible refine Below.setCell ?_ (by simp) _) | (with_reducible exact (by assumption : KQ _ _ _).1))); done)) (first | (go_at_call 0; skip))
   go_wp2
   go_ret
   exact ⟨ret_strn hX.out, hR3.out, (hg2.trans (yD (Below.refl _ _).drew _)).trans (gr_set (World.grownBy.refl _ _) 1 _)⟩
 ·
  have hTT := hTH.out
  rw [if_pos hf] at hTT
  obtain ⟨rfl, rfl⟩ := Prod.mk.inj hTT
  clear hTT hTH
  go_enter Tryz.func133, Tryz.ntmps133
  go_wp2_with fail
  refine c1.out.mono ?_
  rintro e w1 ⟨rfl, hR1, hg1⟩
  have hR1k := jH hR1
  clear q0 q1 q2
  obtain ⟨ev, hbz, hez⟩ := hR1
  obtain ⟨hne, Fz, rfl, hFz⟩ : S1.fe ≠ 0 ∧ ∃ F, ev = .iface 125 (.pointer (some ⟨F, 0, none⟩)) ∧ _ := hez.resolve_left (fun h9 => absurd h9.1 (by assumption))
  have hltz := jB hbz
  have z0 := jA hbz 0
  have z1 := jA hbz 1
  have z2 := jA hbz 2
  simp at z0 z1 z2
  clear hbz hFz hne hez
  go_wp2
  go_ret
  exact ⟨rfl, hR1k.out, hg1⟩
end Go.Proofs.YtfhandglpjnonaaGreatDoor
