/- The readers' texts and tags, both. -/
import Derived.Test.YtelipindcacphaaGreatDoorOsD
import Derived.Test.YtelipindcacphaaGreatDoorRsN
import Derived.Test.YtelipindcacphaaGreatDoorRz
namespace Go.Proofs.YtelipindcacphaaGreatDoor
open Go.RowKit

theorem ret_strn {a b : ByteArray} (h : a = b) : Ending.returned (.string a) = .returned (.string b) := by rw [h]
theorem bs_mid (l : List UInt8) (a n : Nat) (_h : a + n ≤ l.length) : (bs l).extract a (a + n) = bs ((l.drop a).take n) := by
  apply ByteArray.ext
  unfold bs
  rw [ByteArray.data_extract]
  simp only [List.extract_toArray, List.extract_eq_take_drop]
  congr 3
  omega
set_option maxRecDepth 100000 in
set_option maxHeartbeats 1000000 in
theorem ptext_any (m B : Nat) (hm : m ≤ 1099511627776) (S : Rs) (w : World) (h : RdrP w B S) (hS : S.wf) :
    Calls Tryz.prog 22 #[.pointer (some ⟨B, 0, none⟩), .int .i64 (m : Int)] w
      fun r w' => r = .returned (.string (bs (textS m S).1)) ∧ RdrP w' B (textS m S).2 ∧ w.grownBy w' (some B) := by
  have c1 := pint_any m B hm S w h hS
  have hw1 := Rs.wf_next hS (fun v => if m < v then 2 else 0)
  have hle := intS_le m S
  obtain ⟨x, T, hT⟩ : ∃ x T, textS m S = (x, T) := ⟨_, _, rfl⟩
  rw [hT]
  unfold textS at hT
  dsimp only at hT
  unfold intS at c1 hle hT
  generalize nextS (fun v => if m < v then 2 else 0) S = p at *
  obtain ⟨n, S1⟩ := p
  dsimp only at *
  have hBlt := h.lt
  obtain ⟨ev0, hb0, he0⟩ := h
  have q0 := blk_cell hb0 0
  have q1 := blk_cell hb0 1
  have q2 := blk_cell hb0 2
  simp at q0 q1 q2
  have c1 := Lib.hid c1
  have hTH := Lib.hid hT
  have n0 : (0 : Int) ≤ (n : Int) := by omega
  have n1 : (n : Int) ≤ 1099511627776 := by omega
  clear hT hb0 he0
  by_cases hf : S1.fe = 0
  · have hTT := hTH.out
    rw [if_neg (by simp [hf])] at hTT
    by_cases hlt : S1.l.length - S1.a < n
    · rw [if_pos hlt] at hTT
      obtain ⟨rfl, rfl⟩ := Prod.mk.inj hTT
      have hd : decide (((S1.l.length - S1.a : Nat) : Int) < (n : Int)) = true := decide_eq_true (by omega)
      clear hTT hTH
      have hw1H := Lib.hid hw1
      have hfH := Lib.hid hf
      go_enter Tryz.func22, Tryz.ntmps22
      go_wp2_with fail
      refine c1.out.mono ?_
      rintro e w1 ⟨rfl, hR1, hg1⟩
      have hR1k := Lib.hid hR1
      have hlt1 := hR1.lt
      clear q0 q1 q2
      obtain ⟨ev, hbz, hez⟩ := hR1
      obtain ⟨_, rfl⟩ := hez.resolve_right (fun h9 => absurd (by assumption) h9.1)
      have hltz := blk_lt hbz
      have z0 := blk_cell hbz 0
      have z1 := blk_cell hbz 1
      have z2 := blk_cell hbz 2
      simp at z0 z1 z2
      clear hbz hez
      go_wp2_with fail
      refine (pleft_any B S1 w1 hR1k.out hw1H.out).mono ?_
      rintro e w2 ⟨rfl, hb2⟩
      clear z0 z1 z2 hltz
      have hR2 := hR1k.out.below hb2
      obtain ⟨ev2, hB2, hE2⟩ := hR2
      have hlt2 := blk_lt hB2
      have z0 := blk_cell hB2 0
      have z1 := blk_cell hB2 1
      have z2 := blk_cell hB2 2
      simp at z0 z1 z2
      have hfz := blk_frozen hB2
      have hR3 : Hid (RdrP (w2.setCell ⟨B, 1, none⟩ (.int .i64 (S.a : Int))) B { S1 with a := S.a }) := Lib.hid ⟨ev2, by rw [blk_set hB2]; rfl, hE2.grown (gr_set (World.grownBy.refl w2 _) 1 _) (fun g cs e hh => by injection e with e; subst e; rw [hB2] at hh; injection hh with hh; injection hh with _ ht; revert ht; decide)⟩
      have hg2 : w.grownBy w2 (some B) := hg1.trans (gr_below hb2 _)
      clear hB2 hE2
      go_wp2_with fail
      refine (pfail_any B _ 1 _ hR3.out).mono ?_
      rintro e w3 ⟨rfl, hR4, hg4⟩
      go_wp2
      go_ret
      exact ⟨rfl, hR4, (gr_set hg2 1 _).trans hg4⟩
    · rw [if_neg hlt] at hTT
      obtain ⟨rfl, rfl⟩ := Prod.mk.inj hTT
      have hd : decide (((S1.l.length - S1.a : Nat) : Int) < (n : Int)) = false := decide_eq_false (by omega)
      clear hTT hTH
      have hw1H := Lib.hid hw1
      have hal := hw1.1
      have hll := hw1.2.1
      have hsz : (bs S1.l).size = S1.l.length := bs_size _
      have ha0 : (0 : Int) ≤ (S1.a : Int) := by omega
      have hws : IntKind.i64.wrap ((S1.a : Int) + (n : Int)) = (S1.a : Int) + (n : Int) := IntWalk.i64_in _ (by omega)
      have hs0 : (0 : Int) ≤ (S1.a : Int) + (n : Int) := by omega
      have hs1 : (S1.a : Int) ≤ (S1.a : Int) + (n : Int) := by omega
      have hs2 : (S1.a : Int) + (n : Int) ≤ (((bs S1.l).size : Nat) : Int) := by omega
      have hs3 : ((S1.a : Int) + (n : Int)).toNat = S1.a + n := by omega
      have hs4 : (S1.a : Int) ≤ (((bs S1.l).size : Nat) : Int) := by omega
      have hX : Hid ((bs S1.l).extract S1.a (S1.a + n) = bs ((S1.l.drop S1.a).take n)) := Lib.hid (bs_mid _ _ _ (by omega))
      have hszH := Lib.hid hsz
      clear hw1 hsz
      go_enter Tryz.func22, Tryz.ntmps22
      go_wp2_with fail
      refine c1.out.mono ?_
      rintro e w1 ⟨rfl, hR1, hg1⟩
      have hR1k := Lib.hid hR1
      have hlt1 := hR1.lt
      clear q0 q1 q2
      obtain ⟨ev, hbz, hez⟩ := hR1
      obtain ⟨_, rfl⟩ := hez.resolve_right (fun h9 => absurd (by assumption) h9.1)
      have hltz := blk_lt hbz
      have z0 := blk_cell hbz 0
      have z1 := blk_cell hbz 1
      have z2 := blk_cell hbz 2
      simp at z0 z1 z2
      clear hbz hez
      go_wp2_with fail
      refine (pleft_any B S1 w1 hR1k.out hw1H.out).mono ?_
      rintro e w2 ⟨rfl, hb2⟩
      clear z0 z1 z2 hltz
      have hR2 := hR1k.out.below hb2
      obtain ⟨ev2, hB2, hE2⟩ := hR2
      have hlt2 := blk_lt hB2
      have z0 := blk_cell hB2 0
      have z1 := blk_cell hB2 1
      have z2 := blk_cell hB2 2
      simp at z0 z1 z2
      have hfz := blk_frozen hB2
      have hR3 : Hid (RdrP ((w2.drew).setCell ⟨B, 1, none⟩ (.int .i64 ((S1.a : Int) + (n : Int)))) B { S1 with a := S1.a + n }) := Lib.hid ⟨ev2, by rw [blk_set (heap_drew hB2)]; simp, hE2.grown ((gr_below (Below.refl _ _).drew (some B)).trans (gr_set (World.grownBy.refl _ _) 1 _)) (fun g cs e hh => by injection e with e; subst e; rw [hB2] at hh; injection hh with hh; injection hh with _ ht; revert ht; decide)⟩
      have hg2 : w.grownBy w2 (some B) := hg1.trans (gr_below hb2 _)
      have hq0 : KQ w2.heap.size w2 w2 := kq (Below.refl _ _)
      clear hB2 hE2
      go_wp2_with fail
      go_region_held3 (fun w' => KQ w2.heap.size w2 w') (first
      | with_reducible exact kq_call (by assumption) (by simp) (by assumption)
      | with_reducible exact kq_grown (by assumption) (by simp) (by assumption) (by simp [Value.ownBlock])
      | ((with_reducible refine kq ?_); (repeat (first | (with_reducible exact Below.refl _ _) | (with_reducible refine Below.drew ?_) | (with_reducible refine Below.alloc ?_ (by simp) _) | (with_reducible refine Below.setCell ?_ (by simp) _) | (with_reducible exact (by assumption : KQ _ _ _).1))); done)) (first | (go_at_call 0; skip))
      go_wp2
      go_ret
      exact ⟨ret_strn hX.out, hR3.out, (hg2.trans (gr_below (Below.refl _ _).drew _)).trans (gr_set (World.grownBy.refl _ _) 1 _)⟩
  · have hTT := hTH.out
    rw [if_pos hf] at hTT
    obtain ⟨rfl, rfl⟩ := Prod.mk.inj hTT
    clear hTT hTH
    go_enter Tryz.func22, Tryz.ntmps22
    go_wp2_with fail
    refine c1.out.mono ?_
    rintro e w1 ⟨rfl, hR1, hg1⟩
    have hR1k := Lib.hid hR1
    clear q0 q1 q2
    obtain ⟨ev, hbz, hez⟩ := hR1
    obtain ⟨hne, Fz, rfl, hFz⟩ : S1.fe ≠ 0 ∧ ∃ F, ev = .iface 54 (.pointer (some ⟨F, 0, none⟩)) ∧ _ := hez.resolve_left (fun h9 => absurd h9.1 (by assumption))
    have hltz := blk_lt hbz
    have z0 := blk_cell hbz 0
    have z1 := blk_cell hbz 1
    have z2 := blk_cell hbz 2
    simp at z0 z1 z2
    clear hbz hFz hne hez
    go_wp2
    go_ret
    exact ⟨rfl, hR1k.out, hg1⟩
end Go.Proofs.YtelipindcacphaaGreatDoor
