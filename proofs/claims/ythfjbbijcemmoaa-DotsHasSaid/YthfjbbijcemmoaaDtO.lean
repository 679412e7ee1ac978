/- Package dots' merge: an iterator over two sets. -/
import Derived.Test.YthfjbbijcemmoaaDtN
import Derived.Test.YthfjbbijcemmoaaPda
import Derived.Test.YthfjbbijcemmoaaRng
import Derived.OwnWalkIn
import Derived.TacticsInMore
import Derived.LoopNIn
import Derived.LoopIn
import Derived.BigRegion
import Derived.RegionTactic
namespace Go.Proofs.Ythfjbbijcemmoaa
open Go.RowKit

attribute [local go_sem] Oper.semAt_some

theorem merge_any (A B : Option Addr) (n c m d : Nat) (w : World) :
    Calls Try.prog 97 #[.slice A n c, .slice B m d] w fun e w' => e = .returned (.func (.func 113) #[] #[.pointer (some ⟨w.heap.size, 0, none⟩), .pointer (some ⟨w.heap.size + 1, 0, none⟩)]) ∧ w' = (w.alloc (.cells #[.slice A n c] 22)).alloc (.cells #[.slice B m d] 22) := by
  go_enter Try.func97, Try.ntmps97
  go_wp2
  go_ret
  exact ⟨rfl, rfl⟩
/-- The rest of a list that is read. -/
theorem RdI.tail {n0 n : Nat} {w : World} {b o : Nat} {A : Option Addr} {x : Im} {xs : List Im} (h : RdI w n0 (some ⟨b, o, none⟩) (n + 1) (x :: xs)) (hA : 0 < n → A = some ⟨b, o + 2, none⟩) : RdI w n0 A n xs := by
  refine ⟨by have := h.1; simpa using this, fun hn => ?_⟩
  obtain ⟨b', o', he, hb, hc⟩ := h.2 (by omega)
  injection he with he
  injection he with e1 e2
  subst e1; subst e2
  refine ⟨b, o + 2, hA hn, hb, fun k y hy j u hu => ?_⟩
  have := hc (k + 1) y (by simpa using hy) j u hu
  rw [← this]
  congr 2
  omega

abbrev enU (u : Im × Int) : Array Value := #[.agg #[.int .i64 u.1.1, .int .u32 u.1.2], .int .i64 u.2]

set_option maxRecDepth 100000 in
set_option maxHeartbeats 2000000 in
theorem merge1_seq (n Ba Bb Bl N n0 : Nat) (A B : Option Addr) (la lb c d : Nat) (xs ys : List Im) (w0 : World) (hn : 1 ≤ n)
    (ha : w0.heap[Ba]? = some (.cells #[.slice A la c] 22 (0, 0))) (hb : w0.heap[Bb]? = some (.cells #[.slice B lb d] 22 (0, 0))) (hne : Ba ≠ Bb) (hNa : Ba < N) (hNb : Bb < N) (hBa : Ba ≠ Bl) (hBb : Bb ≠ Bl)
    (hN : N ≤ w0.heap.size) (h0 : n0 ≤ Bl) (h0N : n0 ≤ N) (h0a : n0 ≤ Ba) (h0b : n0 ≤ Bb) (hA : RdI w0 n0 A la xs) (hB : RdI w0 n0 B lb ys) (hlc : la ≤ c) (hld : lb ≤ d) (hc : c ≤ maxLen) (hd : d ≤ maxLen) :
    SeqZ Fence.wide n Try.prog 113 #[.pointer (some ⟨Ba, 0, none⟩), .pointer (some ⟨Bb, 0, none⟩)] enU (fun r => r = Ba ∨ r = Bb) (KpB N Bl) (mergeI xs ys) w0 := by
  intro l J W hW hJ hY hj0
  refine callsIn_wide.2 ?_
  show Calls Try.prog _ #[.func (.yield l) #[] #[], .pointer (some ⟨Ba, 0, none⟩), .pointer (some ⟨Bb, 0, none⟩)] W _
  replace ha := (hW.block _ (by omega)).trans ha
  replace hb := (hW.block _ (by omega)).trans hb
  replace hA : RdI W n0 A la xs := hA.below (hW.mono (by omega))
  replace hB : RdI W n0 B lb ys := hB.below (hW.mono (by omega))
  have hNW : N ≤ W.heap.size := Nat.le_trans hN hW.size
  clear hW hN
  unfold maxLen at hc hd
  have hJ := Lib.hid hJ
  have hY := Lib.hid hY
  go_enter Try.func113, Try.ntmps113
  go_wp2_with fail
  go_loopg [] (la + lb + 1) (fun g wr => ∃ (pre : List (Im × Int)) (ta tb : List Im) (A' B' : Option Addr) (n' m' c' d' : Nat), g = n' + m' + 1 ∧ mergeI xs ys = pre ++ mergeI ta tb ∧
    wr.heap[Ba]? = some (.cells #[.slice A' n' c'] 22 (0, 0)) ∧ wr.heap[Bb]? = some (.cells #[.slice B' m' d'] 22 (0, 0)) ∧ RdI wr n0 A' n' ta ∧ RdI wr n0 B' m' tb ∧ n' ≤ c' ∧ m' ≤ d' ∧ c' ≤ 2 ^ 63 - 1 ∧ d' ≤ 2 ^ 63 - 1 ∧ N ≤ wr.heap.size ∧ J pre wr)
  case atStart => exact ⟨[], xs, ys, A, B, la, lb, c, d, rfl, rfl, ha, hb, hA, hB, hlc, hld, hc, hd, hNW, hj0⟩
  case round =>
    obtain ⟨pre, ta, tb, A', B', n', m', c', d', rfl, hmg, ha', hb', hA', hB', hnc, hmd, hc', hd', hNr, hj⟩ := hrel
    have hla := hA'.len
    have hlb := hB'.len
    have ca := blk_cell ha' 0
    have cb := blk_cell hb' 0
    have fa := blk_frozen ha' 0
    have fb := blk_frozen hb' 0
    simp at ca cb
    cases ta with
    | nil =>
      cases tb with
      | nil =>
        obtain rfl : n' = 0 := by simpa using hla.symm
        obtain rfl : m' = 0 := by simpa using hlb.symm
        have hmgH := Lib.hid hmg
        clear hmg hla hlb
        go_wp2
        go_end0
        exact ⟨⟨_, rfl⟩, by rw [hmgH.out, mergeI, List.append_nil]; exact hj⟩
      | cons y tb =>
        obtain rfl : n' = 0 := by simpa using hla.symm
        obtain ⟨m, rfl⟩ : ∃ m, m' = m + 1 := ⟨m' - 1, by simp at hlb; omega⟩
        have hmgH := Lib.hid hmg
        obtain ⟨bB, oB, y', rfl, hbB, hyy, hcq⟩ := hB'.at_ (show 0 < m + 1 by omega)
        obtain rfl : y = y' := by simpa using hyy
        have q0 := hcq 0 _ rfl
        have q1 := hcq 1 _ rfl
        simp only [Nat.zero_mul, Nat.add_zero] at q0 q1
        have hbBr : bB < wr.heap.size := by omega
        clear hmg hla hlb hcq hyy
        have hmgF : Hid (mergeI xs ys = (pre ++ [(y, 2)]) ++ mergeI [] tb) := Lib.hid (by rw [hmgH.out, mergeI]; simp)
        go_upto_region 12 with (fail)
        have hBbr : Bb < wr.heap.size := by omega
        go_region
        go_upto_region 15 with (fail)
        have hgr : wr.grownBy ((wr.setCell ⟨Bb, 0, none⟩ (.slice (if d' = 1 then some ⟨bB, oB, none⟩ else some ⟨bB, oB + 2, none⟩) m (d' - 1))).alloc (.cells #[.int .i64 y.1, .int .u32 y.2] 35)).drew (some Bb) :=
          ((gr_set (World.grownBy.refl wr _) 0 _).trans (World.grownBy_alloc _ _ _)).trans (gr_below (Below.refl _ _).drew _)
        have hTl : RdI wr n0 (if d' = 1 then some ⟨bB, oB, none⟩ else some ⟨bB, oB + 2, none⟩) m tb := hB'.tail (fun h => if_neg (by omega))
        have hb2 : ((wr.setCell ⟨Bb, 0, none⟩ (.slice (if d' = 1 then some ⟨bB, oB, none⟩ else some ⟨bB, oB + 2, none⟩) m (d' - 1))).alloc (.cells #[.int .i64 y.1, .int .u32 y.2] 35)).drew.heap[Bb]? = some (.cells #[.slice (if d' = 1 then some ⟨bB, oB, none⟩ else some ⟨bB, oB + 2, none⟩) m (d' - 1)] 22 (0, 0)) :=
          heap_drew (heap_old _ (by simp; omega) (by rw [blk_set hb']; rfl))
        generalize (if d' = 1 then some (⟨bB, oB, none⟩ : Addr) else some ⟨bB, oB + 2, none⟩) = AB at hgr hTl hb2 ⊢
        have ha2 := hgr.block Ba (by omega) (by simpa using hne)
        have hj2 := hJ.out pre _ _ _ hj hgr (by rintro r e; injection e with e; exact .inr e.symm)
        have hzz := hgr.size
        have hrd2 : RdI _ n0 AB m tb := hTl.keep (w' := ((wr.setCell ⟨Bb, 0, none⟩ (.slice AB m (d' - 1))).alloc (.cells #[.int .i64 y.1, .int .u32 y.2] 35)).drew) (fun b o hb => World.cell?_of_block (a := ⟨b, o, none⟩) (hgr.block b (by omega) (by simp; omega)))
        have hra2 : RdI _ n0 A' 0 ([]) := hA'.keep (w' := ((wr.setCell ⟨Bb, 0, none⟩ (.slice AB m (d' - 1))).alloc (.cells #[.int .i64 y.1, .int .u32 y.2] 35)).drew) (fun b o hb => World.cell?_of_block (a := ⟨b, o, none⟩) (hgr.block b (by omega) (by simp; omega)))
        obtain ⟨fn, tmps, assign, body, hy, hR⟩ := hY.out pre (y, 2) _ hj2 (by rw [hmgF.out]; exact List.prefix_append _ _)
        clear hgr hj2
        refine (wpIn_wide (n := n)).1 ?_
        gi_wp2
        refine hR.mono ?_
        rintro e W3 ⟨rfl, hj3, hk3⟩
        have hfa : W3.heap[Ba]? = some (.cells #[.slice A' (0) c'] 22 (0, 0)) := (hk3.block _ hNa hBa).trans (ha2.trans ha')
        have hfb := (hk3.block _ hNb hBb).trans hb2
        have hsz : N ≤ W3.heap.size := Nat.le_trans (Nat.le_trans hNr hzz) hk3.size
        have hA3 : RdI W3 n0 A' (0) ([]) := hra2.kp hk3 h0N h0
        have hB3 : RdI W3 n0 AB m tb := hrd2.kp hk3 h0N h0
        gi_wp2
        go_wp2
        go_roundg (0 + m + 1)
        case measure => omega
        case rel => exact ⟨pre ++ [(y, 2)], [], tb, A', AB, 0, m, c', d' - 1, by omega, hmgF.out, hfa, hfb, hA3, hB3, by omega, by omega, by omega, by omega, hsz, hj3⟩
    | cons x ta =>
      obtain ⟨k, rfl⟩ : ∃ k, n' = k + 1 := ⟨n' - 1, by simp at hla; omega⟩
      obtain ⟨bA, oA, x', rfl, hbA, hxx, hcp⟩ := hA'.at_ (show 0 < k + 1 by omega)
      obtain rfl : x = x' := by simpa using hxx
      have p0 := hcp 0 _ rfl
      have p1 := hcp 1 _ rfl
      simp only [Nat.zero_mul, Nat.add_zero] at p0 p1
      have hbAr : bA < wr.heap.size := by omega
      clear hla hcp hxx
      cases tb with
      | nil =>
        obtain rfl : m' = 0 := by simpa using hlb.symm
        have hmgF : Hid (mergeI xs ys = (pre ++ [(x, 1)]) ++ mergeI ta []) := Lib.hid (by rw [hmg, mergeI]; simp)
        clear hmg hlb
        go_upto_region 14 with (fail)
        have hBar : Ba < wr.heap.size := by omega
        go_region
        go_upto_region 15 with (fail)
        have hgr : wr.grownBy ((wr.setCell ⟨Ba, 0, none⟩ (.slice (if c' = 1 then some ⟨bA, oA, none⟩ else some ⟨bA, oA + 2, none⟩) k (c' - 1))).alloc (.cells #[.int .i64 x.1, .int .u32 x.2] 35)).drew (some Ba) :=
          ((gr_set (World.grownBy.refl wr _) 0 _).trans (World.grownBy_alloc _ _ _)).trans (gr_below (Below.refl _ _).drew _)
        have hTl : RdI wr n0 (if c' = 1 then some ⟨bA, oA, none⟩ else some ⟨bA, oA + 2, none⟩) k ta := hA'.tail (fun h => if_neg (by omega))
        have ha2 : ((wr.setCell ⟨Ba, 0, none⟩ (.slice (if c' = 1 then some ⟨bA, oA, none⟩ else some ⟨bA, oA + 2, none⟩) k (c' - 1))).alloc (.cells #[.int .i64 x.1, .int .u32 x.2] 35)).drew.heap[Ba]? = some (.cells #[.slice (if c' = 1 then some ⟨bA, oA, none⟩ else some ⟨bA, oA + 2, none⟩) k (c' - 1)] 22 (0, 0)) :=
          heap_drew (heap_old _ (by simp; omega) (by rw [blk_set ha']; rfl))
        generalize (if c' = 1 then some (⟨bA, oA, none⟩ : Addr) else some ⟨bA, oA + 2, none⟩) = AA at hgr hTl ha2 ⊢
        have hb2 := hgr.block Bb (by omega) (by simpa using Ne.symm hne)
        have hj2 := hJ.out pre _ _ _ hj hgr (by rintro r e; injection e with e; exact .inl e.symm)
        have hzz := hgr.size
        have hra2 : RdI _ n0 AA k ta := hTl.keep (w' := ((wr.setCell ⟨Ba, 0, none⟩ (.slice AA k (c' - 1))).alloc (.cells #[.int .i64 x.1, .int .u32 x.2] 35)).drew) (fun b o hb => World.cell?_of_block (a := ⟨b, o, none⟩) (hgr.block b (by omega) (by simp; omega)))
        have hrd2 : RdI _ n0 B' 0 ([]) := hB'.keep (w' := ((wr.setCell ⟨Ba, 0, none⟩ (.slice AA k (c' - 1))).alloc (.cells #[.int .i64 x.1, .int .u32 x.2] 35)).drew) (fun b o hb => World.cell?_of_block (a := ⟨b, o, none⟩) (hgr.block b (by omega) (by simp; omega)))
        obtain ⟨fn, tmps, assign, body, hy, hR⟩ := hY.out pre (x, 1) _ hj2 (by rw [hmgF.out]; exact List.prefix_append _ _)
        clear hgr hj2
        refine (wpIn_wide (n := n)).1 ?_
        gi_wp2
        refine hR.mono ?_
        rintro e W3 ⟨rfl, hj3, hk3⟩
        have hfa := (hk3.block _ hNa hBa).trans ha2
        have hfb : W3.heap[Bb]? = some (.cells #[.slice B' (0) d'] 22 (0, 0)) := (hk3.block _ hNb hBb).trans (hb2.trans hb')
        have hsz : N ≤ W3.heap.size := Nat.le_trans (Nat.le_trans hNr hzz) hk3.size
        have hA3 : RdI W3 n0 AA k ta := hra2.kp hk3 h0N h0
        have hB3 : RdI W3 n0 B' (0) ([]) := hrd2.kp hk3 h0N h0
        gi_wp2
        go_wp2
        go_roundg (k + 0 + 1)
        case measure => omega
        case rel => exact ⟨pre ++ [(x, 1)], ta, [], AA, B', k, 0, c' - 1, d', by omega, hmgF.out, hfa, hfb, hA3, hB3, by omega, by omega, by omega, by omega, hsz, hj3⟩
      | cons y tb =>
        obtain ⟨m, rfl⟩ : ∃ m, m' = m + 1 := ⟨m' - 1, by simp at hlb; omega⟩
        obtain ⟨bB, oB, y', rfl, hbB, hyy, hcq⟩ := hB'.at_ (show 0 < m + 1 by omega)
        obtain rfl : y = y' := by simpa using hyy
        have q0 := hcq 0 _ rfl
        have q1 := hcq 1 _ rfl
        simp only [Nat.zero_mul, Nat.add_zero] at q0 q1
        have hbBr : bB < wr.heap.size := by omega
        clear hlb hcq hyy
        have hcm := fun w' => cmp_any x y w'
        have hq0 : KQ wr.heap.size wr wr := kq (Below.refl _ _)
        have hBar : Ba < wr.heap.size := by omega
        have hBbr : Bb < wr.heap.size := by omega
        by_cases h1 : cmpI x y < 0
        · have hmgF : Hid (mergeI xs ys = (pre ++ [(x, 1)]) ++ mergeI ta (y :: tb)) := Lib.hid (by rw [hmg, mergeI, if_pos h1]; simp)
          generalize cmpI x y = z at hcm h1
          have hcm := Lib.hid hcm
          clear hmg
          go_upto_region 6 with (fail)
          go_region_held3 (fun w' => KQ wr.heap.size wr w') (first
      | with_reducible exact kq_call (by assumption) (by simp) (by assumption)
      | with_reducible exact kq_grown (by assumption) (by simp) (by assumption) (by simp [Value.ownBlock])
      | ((with_reducible refine kq ?_); (repeat (first | (with_reducible exact Below.refl _ _) | (with_reducible refine Below.drew ?_) | (with_reducible refine Below.alloc ?_ (by simp) _) | (with_reducible refine Below.setCell ?_ (by simp) _) | (with_reducible exact (by assumption : KQ _ _ _).1))); done)) (first | (go_at_call 72; refine (hcm.out _).mono ?_; rintro e w2 ⟨rfl, hb2⟩))
          have hbn : Below wr.heap.size wr w2 := (by with_reducible assumption : KQ wr.heap.size wr w2).1
          have hj' := hJ.out _ _ _ none hj (gr_below hbn none) (by rintro r e; cases e)
          replace ha' := (hbn.block Ba (by omega)).trans ha'
          replace hb' := (hbn.block Bb (by omega)).trans hb'
          replace hA' := hA'.below (hbn.mono (by omega))
          replace hB' := hB'.below (hbn.mono (by omega))
          have caw2 := (hbn.cell (p := ⟨Ba, 0, none⟩) (by simp; omega)).trans ca
          have cbw2 := (hbn.cell (p := ⟨Bb, 0, none⟩) (by simp; omega)).trans cb
          have p0w2 := (hbn.cell (p := ⟨bA, _, none⟩) hbAr).trans p0
          have p1w2 := (hbn.cell (p := ⟨bA, _, none⟩) hbAr).trans p1
          have q0w2 := (hbn.cell (p := ⟨bB, _, none⟩) hbBr).trans q0
          have q1w2 := (hbn.cell (p := ⟨bB, _, none⟩) hbBr).trans q1
          replace fa := (hbn.frozen (p := ⟨Ba, 0, none⟩) (by simp; omega)).trans fa
          replace fb := (hbn.frozen (p := ⟨Bb, 0, none⟩) (by simp; omega)).trans fb
          have hbArw2 := Nat.lt_of_lt_of_le hbAr hbn.size
          have hbBrw2 := Nat.lt_of_lt_of_le hbBr hbn.size
          have hBarw2 : Ba < w2.heap.size := Nat.lt_of_lt_of_le hBar hbn.size
          have hBbrw2 : Bb < w2.heap.size := Nat.lt_of_lt_of_le hBbr hbn.size
          replace hNr := Nat.le_trans hNr hbn.size
          replace hj := hj'
          clear hj' hbn
          go_upto_region 14 with (fail)
          go_region
          go_upto_region 15 with (fail)
          have hgr : w2.grownBy ((w2.setCell ⟨Ba, 0, none⟩ (.slice (if c' = 1 then some ⟨bA, oA, none⟩ else some ⟨bA, oA + 2, none⟩) k (c' - 1))).alloc (.cells #[.int .i64 x.1, .int .u32 x.2] 35)).drew (some Ba) :=
            ((gr_set (World.grownBy.refl w2 _) 0 _).trans (World.grownBy_alloc _ _ _)).trans (gr_below (Below.refl _ _).drew _)
          have hTl : RdI w2 n0 (if c' = 1 then some ⟨bA, oA, none⟩ else some ⟨bA, oA + 2, none⟩) k ta := hA'.tail (fun h => if_neg (by omega))
          have ha2 : ((w2.setCell ⟨Ba, 0, none⟩ (.slice (if c' = 1 then some ⟨bA, oA, none⟩ else some ⟨bA, oA + 2, none⟩) k (c' - 1))).alloc (.cells #[.int .i64 x.1, .int .u32 x.2] 35)).drew.heap[Ba]? = some (.cells #[.slice (if c' = 1 then some ⟨bA, oA, none⟩ else some ⟨bA, oA + 2, none⟩) k (c' - 1)] 22 (0, 0)) :=
            heap_drew (heap_old _ (by simp; omega) (by rw [blk_set ha']; rfl))
          generalize (if c' = 1 then some (⟨bA, oA, none⟩ : Addr) else some ⟨bA, oA + 2, none⟩) = AA at hgr hTl ha2 ⊢
          have hb2 := hgr.block Bb (by omega) (by simpa using Ne.symm hne)
          have hj2 := hJ.out pre _ _ _ hj hgr (by rintro r e; injection e with e; exact .inl e.symm)
          have hzz := hgr.size
          have hra2 : RdI _ n0 AA k ta := hTl.keep (w' := ((w2.setCell ⟨Ba, 0, none⟩ (.slice AA k (c' - 1))).alloc (.cells #[.int .i64 x.1, .int .u32 x.2] 35)).drew) (fun b o hb => World.cell?_of_block (a := ⟨b, o, none⟩) (hgr.block b (by omega) (by simp; omega)))
          have hrd2 : RdI _ n0 (some ⟨bB, oB, none⟩) (m + 1) (y :: tb) := hB'.keep (w' := ((w2.setCell ⟨Ba, 0, none⟩ (.slice AA k (c' - 1))).alloc (.cells #[.int .i64 x.1, .int .u32 x.2] 35)).drew) (fun b o hb => World.cell?_of_block (a := ⟨b, o, none⟩) (hgr.block b (by omega) (by simp; omega)))
          obtain ⟨fn, tmps, assign, body, hy, hR⟩ := hY.out pre (x, 1) _ hj2 (by rw [hmgF.out]; exact List.prefix_append _ _)
          clear hgr hj2
          refine (wpIn_wide (n := n)).1 ?_
          gi_wp2
          refine hR.mono ?_
          rintro e W3 ⟨rfl, hj3, hk3⟩
          have hfa := (hk3.block _ hNa hBa).trans ha2
          have hfb : W3.heap[Bb]? = some (.cells #[.slice (some ⟨bB, oB, none⟩) ((m + 1)) d'] 22 (0, 0)) := (hk3.block _ hNb hBb).trans (hb2.trans hb')
          have hsz : N ≤ W3.heap.size := Nat.le_trans (Nat.le_trans hNr hzz) hk3.size
          have hA3 : RdI W3 n0 AA k ta := hra2.kp hk3 h0N h0
          have hB3 : RdI W3 n0 (some ⟨bB, oB, none⟩) ((m + 1)) (y :: tb) := hrd2.kp hk3 h0N h0
          gi_wp2
          go_wp2
          go_roundg (k + (m + 1) + 1)
          case measure => omega
          case rel => exact ⟨pre ++ [(x, 1)], ta, y :: tb, AA, (some ⟨bB, oB, none⟩), k, (m + 1), c' - 1, d', by omega, hmgF.out, hfa, hfb, hA3, hB3, by omega, by omega, by omega, by omega, hsz, hj3⟩
        by_cases h2 : 0 < cmpI x y
        · have hmgF : Hid (mergeI xs ys = (pre ++ [(y, 2)]) ++ mergeI (x :: ta) tb) := Lib.hid (by rw [hmg, mergeI, if_neg h1, if_pos h2]; simp)
          generalize cmpI x y = z at hcm h1 h2
          have hcm := Lib.hid hcm
          have hdz : decide (z < 0) = false := by simpa using h1
          clear hmg
          go_upto_region 6 with (fail)
          go_region_held3 (fun w' => KQ wr.heap.size wr w') (first
      | with_reducible exact kq_call (by assumption) (by simp) (by assumption)
      | with_reducible exact kq_grown (by assumption) (by simp) (by assumption) (by simp [Value.ownBlock])
      | ((with_reducible refine kq ?_); (repeat (first | (with_reducible exact Below.refl _ _) | (with_reducible refine Below.drew ?_) | (with_reducible refine Below.alloc ?_ (by simp) _) | (with_reducible refine Below.setCell ?_ (by simp) _) | (with_reducible exact (by assumption : KQ _ _ _).1))); done)) (first | (go_at_call 72; refine (hcm.out _).mono ?_; rintro e w2 ⟨rfl, hb2⟩))
          have hbn : Below wr.heap.size wr w2 := (by with_reducible assumption : KQ wr.heap.size wr w2).1
          have hj' := hJ.out _ _ _ none hj (gr_below hbn none) (by rintro r e; cases e)
          replace ha' := (hbn.block Ba (by omega)).trans ha'
          replace hb' := (hbn.block Bb (by omega)).trans hb'
          replace hA' := hA'.below (hbn.mono (by omega))
          replace hB' := hB'.below (hbn.mono (by omega))
          have caw2 := (hbn.cell (p := ⟨Ba, 0, none⟩) (by simp; omega)).trans ca
          have cbw2 := (hbn.cell (p := ⟨Bb, 0, none⟩) (by simp; omega)).trans cb
          have p0w2 := (hbn.cell (p := ⟨bA, _, none⟩) hbAr).trans p0
          have p1w2 := (hbn.cell (p := ⟨bA, _, none⟩) hbAr).trans p1
          have q0w2 := (hbn.cell (p := ⟨bB, _, none⟩) hbBr).trans q0
          have q1w2 := (hbn.cell (p := ⟨bB, _, none⟩) hbBr).trans q1
          replace fa := (hbn.frozen (p := ⟨Ba, 0, none⟩) (by simp; omega)).trans fa
          replace fb := (hbn.frozen (p := ⟨Bb, 0, none⟩) (by simp; omega)).trans fb
          have hbArw2 := Nat.lt_of_lt_of_le hbAr hbn.size
          have hbBrw2 := Nat.lt_of_lt_of_le hbBr hbn.size
          have hBarw2 : Ba < w2.heap.size := Nat.lt_of_lt_of_le hBar hbn.size
          have hBbrw2 : Bb < w2.heap.size := Nat.lt_of_lt_of_le hBbr hbn.size
          replace hNr := Nat.le_trans hNr hbn.size
          replace hj := hj'
          clear hj' hbn
          have hq02 : KQ w2.heap.size w2 w2 := kq (Below.refl _ _)
          go_upto_region 8 with (fail)
          go_region_held3 (fun w' => KQ w2.heap.size w2 w') (first
      | with_reducible exact kq_call (by assumption) (by simp) (by assumption)
      | with_reducible exact kq_grown (by assumption) (by simp) (by assumption) (by simp [Value.ownBlock])
      | ((with_reducible refine kq ?_); (repeat (first | (with_reducible exact Below.refl _ _) | (with_reducible refine Below.drew ?_) | (with_reducible refine Below.alloc ?_ (by simp) _) | (with_reducible refine Below.setCell ?_ (by simp) _) | (with_reducible exact (by assumption : KQ _ _ _).1))); done)) (first | (go_at_call 72; refine (hcm.out _).mono ?_; rintro e w3 ⟨rfl, hb2⟩))
          have hbn : Below w2.heap.size w2 w3 := (by with_reducible assumption : KQ w2.heap.size w2 w3).1
          have hj' := hJ.out _ _ _ none hj (gr_below hbn none) (by rintro r e; cases e)
          replace ha' := (hbn.block Ba (by omega)).trans ha'
          replace hb' := (hbn.block Bb (by omega)).trans hb'
          replace hA' := hA'.below (hbn.mono (by omega))
          replace hB' := hB'.below (hbn.mono (by omega))
          have caw3 := (hbn.cell (p := ⟨Ba, 0, none⟩) (by simp; omega)).trans caw2
          have cbw3 := (hbn.cell (p := ⟨Bb, 0, none⟩) (by simp; omega)).trans cbw2
          have p0w3 := (hbn.cell (p := ⟨bA, _, none⟩) hbArw2).trans p0w2
          have p1w3 := (hbn.cell (p := ⟨bA, _, none⟩) hbArw2).trans p1w2
          have q0w3 := (hbn.cell (p := ⟨bB, _, none⟩) hbBrw2).trans q0w2
          have q1w3 := (hbn.cell (p := ⟨bB, _, none⟩) hbBrw2).trans q1w2
          replace fa := (hbn.frozen (p := ⟨Ba, 0, none⟩) (by simp; omega)).trans fa
          replace fb := (hbn.frozen (p := ⟨Bb, 0, none⟩) (by simp; omega)).trans fb
          have hbArw3 := Nat.lt_of_lt_of_le hbArw2 hbn.size
          have hbBrw3 := Nat.lt_of_lt_of_le hbBrw2 hbn.size
          have hBarw3 : Ba < w3.heap.size := Nat.lt_of_lt_of_le hBarw2 hbn.size
          have hBbrw3 : Bb < w3.heap.size := Nat.lt_of_lt_of_le hBbrw2 hbn.size
          replace hNr := Nat.le_trans hNr hbn.size
          replace hj := hj'
          clear hj' hbn
          go_upto_region 12 with (fail)
          go_region
          go_upto_region 15 with (fail)
          have hgr : w3.grownBy ((w3.setCell ⟨Bb, 0, none⟩ (.slice (if d' = 1 then some ⟨bB, oB, none⟩ else some ⟨bB, oB + 2, none⟩) m (d' - 1))).alloc (.cells #[.int .i64 y.1, .int .u32 y.2] 35)).drew (some Bb) :=
            ((gr_set (World.grownBy.refl w3 _) 0 _).trans (World.grownBy_alloc _ _ _)).trans (gr_below (Below.refl _ _).drew _)
          have hTl : RdI w3 n0 (if d' = 1 then some ⟨bB, oB, none⟩ else some ⟨bB, oB + 2, none⟩) m tb := hB'.tail (fun h => if_neg (by omega))
          have hb2 : ((w3.setCell ⟨Bb, 0, none⟩ (.slice (if d' = 1 then some ⟨bB, oB, none⟩ else some ⟨bB, oB + 2, none⟩) m (d' - 1))).alloc (.cells #[.int .i64 y.1, .int .u32 y.2] 35)).drew.heap[Bb]? = some (.cells #[.slice (if d' = 1 then some ⟨bB, oB, none⟩ else some ⟨bB, oB + 2, none⟩) m (d' - 1)] 22 (0, 0)) :=
            heap_drew (heap_old _ (by simp; omega) (by rw [blk_set hb']; rfl))
          generalize (if d' = 1 then some (⟨bB, oB, none⟩ : Addr) else some ⟨bB, oB + 2, none⟩) = AB at hgr hTl hb2 ⊢
          have ha2 := hgr.block Ba (by omega) (by simpa using hne)
          have hj2 := hJ.out pre _ _ _ hj hgr (by rintro r e; injection e with e; exact .inr e.symm)
          have hzz := hgr.size
          have hrd2 : RdI _ n0 AB m tb := hTl.keep (w' := ((w3.setCell ⟨Bb, 0, none⟩ (.slice AB m (d' - 1))).alloc (.cells #[.int .i64 y.1, .int .u32 y.2] 35)).drew) (fun b o hb => World.cell?_of_block (a := ⟨b, o, none⟩) (hgr.block b (by omega) (by simp; omega)))
          have hra2 : RdI _ n0 (some ⟨bA, oA, none⟩) (k + 1) (x :: ta) := hA'.keep (w' := ((w3.setCell ⟨Bb, 0, none⟩ (.slice AB m (d' - 1))).alloc (.cells #[.int .i64 y.1, .int .u32 y.2] 35)).drew) (fun b o hb => World.cell?_of_block (a := ⟨b, o, none⟩) (hgr.block b (by omega) (by simp; omega)))
          obtain ⟨fn, tmps, assign, body, hy, hR⟩ := hY.out pre (y, 2) _ hj2 (by rw [hmgF.out]; exact List.prefix_append _ _)
          clear hgr hj2
          refine (wpIn_wide (n := n)).1 ?_
          gi_wp2
          refine hR.mono ?_
          rintro e W3 ⟨rfl, hj3, hk3⟩
          have hfa : W3.heap[Ba]? = some (.cells #[.slice (some ⟨bA, oA, none⟩) ((k + 1)) c'] 22 (0, 0)) := (hk3.block _ hNa hBa).trans (ha2.trans ha')
          have hfb := (hk3.block _ hNb hBb).trans hb2
          have hsz : N ≤ W3.heap.size := Nat.le_trans (Nat.le_trans hNr hzz) hk3.size
          have hA3 : RdI W3 n0 (some ⟨bA, oA, none⟩) ((k + 1)) (x :: ta) := hra2.kp hk3 h0N h0
          have hB3 : RdI W3 n0 AB m tb := hrd2.kp hk3 h0N h0
          gi_wp2
          go_wp2
          go_roundg ((k + 1) + m + 1)
          case measure => omega
          case rel => exact ⟨pre ++ [(y, 2)], x :: ta, tb, (some ⟨bA, oA, none⟩), AB, (k + 1), m, c', d' - 1, by omega, hmgF.out, hfa, hfb, hA3, hB3, by omega, by omega, by omega, by omega, hsz, hj3⟩
        · obtain rfl := cmpI_eq h1 h2
          have hmgF : Hid (mergeI xs ys = (pre ++ [(x, 3)]) ++ mergeI ta tb) := Lib.hid (by rw [hmg, mergeI, if_neg h1, if_neg h2]; simp)
          generalize cmpI x x = z at hcm h1 h2
          have hcm := Lib.hid hcm
          have hdz : decide (z < 0) = false := by simpa using h1
          have hdz2 : decide (0 < z) = false := by simpa using h2
          clear hmg
          go_upto_region 6 with (fail)
          go_region_held3 (fun w' => KQ wr.heap.size wr w') (first
      | with_reducible exact kq_call (by assumption) (by simp) (by assumption)
      | with_reducible exact kq_grown (by assumption) (by simp) (by assumption) (by simp [Value.ownBlock])
      | ((with_reducible refine kq ?_); (repeat (first | (with_reducible exact Below.refl _ _) | (with_reducible refine Below.drew ?_) | (with_reducible refine Below.alloc ?_ (by simp) _) | (with_reducible refine Below.setCell ?_ (by simp) _) | (with_reducible exact (by assumption : KQ _ _ _).1))); done)) (first | (go_at_call 72; refine (hcm.out _).mono ?_; rintro e w2 ⟨rfl, hb2⟩))
          have hbn : Below wr.heap.size wr w2 := (by with_reducible assumption : KQ wr.heap.size wr w2).1
          have hj' := hJ.out _ _ _ none hj (gr_below hbn none) (by rintro r e; cases e)
          replace ha' := (hbn.block Ba (by omega)).trans ha'
          replace hb' := (hbn.block Bb (by omega)).trans hb'
          replace hA' := hA'.below (hbn.mono (by omega))
          replace hB' := hB'.below (hbn.mono (by omega))
          have caw2 := (hbn.cell (p := ⟨Ba, 0, none⟩) (by simp; omega)).trans ca
          have cbw2 := (hbn.cell (p := ⟨Bb, 0, none⟩) (by simp; omega)).trans cb
          have p0w2 := (hbn.cell (p := ⟨bA, _, none⟩) hbAr).trans p0
          have p1w2 := (hbn.cell (p := ⟨bA, _, none⟩) hbAr).trans p1
          have q0w2 := (hbn.cell (p := ⟨bB, _, none⟩) hbBr).trans q0
          have q1w2 := (hbn.cell (p := ⟨bB, _, none⟩) hbBr).trans q1
          replace fa := (hbn.frozen (p := ⟨Ba, 0, none⟩) (by simp; omega)).trans fa
          replace fb := (hbn.frozen (p := ⟨Bb, 0, none⟩) (by simp; omega)).trans fb
          have hbArw2 := Nat.lt_of_lt_of_le hbAr hbn.size
          have hbBrw2 := Nat.lt_of_lt_of_le hbBr hbn.size
          have hBarw2 : Ba < w2.heap.size := Nat.lt_of_lt_of_le hBar hbn.size
          have hBbrw2 : Bb < w2.heap.size := Nat.lt_of_lt_of_le hBbr hbn.size
          replace hNr := Nat.le_trans hNr hbn.size
          replace hj := hj'
          clear hj' hbn
          have hq02 : KQ w2.heap.size w2 w2 := kq (Below.refl _ _)
          go_upto_region 8 with (fail)
          go_region_held3 (fun w' => KQ w2.heap.size w2 w') (first
      | with_reducible exact kq_call (by assumption) (by simp) (by assumption)
      | with_reducible exact kq_grown (by assumption) (by simp) (by assumption) (by simp [Value.ownBlock])
      | ((with_reducible refine kq ?_); (repeat (first | (with_reducible exact Below.refl _ _) | (with_reducible refine Below.drew ?_) | (with_reducible refine Below.alloc ?_ (by simp) _) | (with_reducible refine Below.setCell ?_ (by simp) _) | (with_reducible exact (by assumption : KQ _ _ _).1))); done)) (first | (go_at_call 72; refine (hcm.out _).mono ?_; rintro e w3 ⟨rfl, hb2⟩))
          have hbn : Below w2.heap.size w2 w3 := (by with_reducible assumption : KQ w2.heap.size w2 w3).1
          have hj' := hJ.out _ _ _ none hj (gr_below hbn none) (by rintro r e; cases e)
          replace ha' := (hbn.block Ba (by omega)).trans ha'
          replace hb' := (hbn.block Bb (by omega)).trans hb'
          replace hA' := hA'.below (hbn.mono (by omega))
          replace hB' := hB'.below (hbn.mono (by omega))
          have caw3 := (hbn.cell (p := ⟨Ba, 0, none⟩) (by simp; omega)).trans caw2
          have cbw3 := (hbn.cell (p := ⟨Bb, 0, none⟩) (by simp; omega)).trans cbw2
          have p0w3 := (hbn.cell (p := ⟨bA, _, none⟩) hbArw2).trans p0w2
          have p1w3 := (hbn.cell (p := ⟨bA, _, none⟩) hbArw2).trans p1w2
          have q0w3 := (hbn.cell (p := ⟨bB, _, none⟩) hbBrw2).trans q0w2
          have q1w3 := (hbn.cell (p := ⟨bB, _, none⟩) hbBrw2).trans q1w2
          replace fa := (hbn.frozen (p := ⟨Ba, 0, none⟩) (by simp; omega)).trans fa
          replace fb := (hbn.frozen (p := ⟨Bb, 0, none⟩) (by simp; omega)).trans fb
          have hbArw3 := Nat.lt_of_lt_of_le hbArw2 hbn.size
          have hbBrw3 := Nat.lt_of_lt_of_le hbBrw2 hbn.size
          have hBarw3 : Ba < w3.heap.size := Nat.lt_of_lt_of_le hBarw2 hbn.size
          have hBbrw3 : Bb < w3.heap.size := Nat.lt_of_lt_of_le hBbrw2 hbn.size
          replace hNr := Nat.le_trans hNr hbn.size
          replace hj := hj'
          clear hj' hbn
          go_upto_region 12 with (fail)
          have hne2 : Bb ≠ Ba := Ne.symm hne
          go_region
          go_upto_region 14 with (fail)
          go_region
          go_upto_region 15 with (fail)
          have hTa : RdI w3 n0 (if c' = 1 then some ⟨bA, oA, none⟩ else some ⟨bA, oA + 2, none⟩) k ta := hA'.tail (fun h => if_neg (by omega))
          have hTb : RdI w3 n0 (if d' = 1 then some ⟨bB, oB, none⟩ else some ⟨bB, oB + 2, none⟩) m tb := hB'.tail (fun h => if_neg (by omega))
          generalize (if c' = 1 then some (⟨bA, oA, none⟩ : Addr) else some ⟨bA, oA + 2, none⟩) = AA at hTa ⊢
          generalize (if d' = 1 then some (⟨bB, oB, none⟩ : Addr) else some ⟨bB, oB + 2, none⟩) = AB at hTb ⊢
          have hg1 : w3.grownBy (w3.setCell ⟨Bb, 0, none⟩ (.slice AB m (d' - 1))) (some Bb) := gr_set (World.grownBy.refl w3 _) 0 _
          have hg2 : (w3.setCell ⟨Bb, 0, none⟩ (.slice AB m (d' - 1))).grownBy (((w3.setCell ⟨Bb, 0, none⟩ (.slice AB m (d' - 1))).setCell ⟨Ba, 0, none⟩ (.slice AA k (c' - 1))).alloc (.cells #[.int .i64 x.1, .int .u32 x.2] 35)).drew.drew (some Ba) :=
            (((gr_set (World.grownBy.refl _ _) 0 _).trans (World.grownBy_alloc _ _ _)).trans (gr_below (Below.refl _ _).drew _)).trans (gr_below (Below.refl _ _).drew _)
          have hj2 := hJ.out pre _ _ _ (hJ.out pre _ _ _ hj hg1 (by rintro r e; injection e with e; exact .inr e.symm)) hg2 (by rintro r e; injection e with e; exact .inl e.symm)
          have ha1 := (hg1.block Ba (by omega) (by simpa using hne)).trans ha'
          have hb1 : (w3.setCell ⟨Bb, 0, none⟩ (.slice AB m (d' - 1))).heap[Bb]? = some (.cells #[.slice AB m (d' - 1)] 22 (0, 0)) := by rw [blk_set hb']; rfl
          have hz1 := hg1.size
          have ha2 : (((w3.setCell ⟨Bb, 0, none⟩ (.slice AB m (d' - 1))).setCell ⟨Ba, 0, none⟩ (.slice AA k (c' - 1))).alloc (.cells #[.int .i64 x.1, .int .u32 x.2] 35)).drew.drew.heap[Ba]? = some (.cells #[.slice AA k (c' - 1)] 22 (0, 0)) :=
            heap_drew (heap_drew (heap_old _ (by simp; omega) (by rw [blk_set ha1]; rfl)))
          have hb2 := (hg2.block Bb (by omega) (by simpa using Ne.symm hne)).trans hb1
          have hzz := Nat.le_trans hz1 hg2.size
          have hra2 := hTa.keep (w' := (((w3.setCell ⟨Bb, 0, none⟩ (.slice AB m (d' - 1))).setCell ⟨Ba, 0, none⟩ (.slice AA k (c' - 1))).alloc (.cells #[.int .i64 x.1, .int .u32 x.2] 35)).drew.drew) (fun b o hb => World.cell?_of_block (a := ⟨b, o, none⟩) ((hg2.block b (by omega) (by simp; omega)).trans (hg1.block b (by omega) (by simp; omega))))
          have hrd2 := hTb.keep (w' := (((w3.setCell ⟨Bb, 0, none⟩ (.slice AB m (d' - 1))).setCell ⟨Ba, 0, none⟩ (.slice AA k (c' - 1))).alloc (.cells #[.int .i64 x.1, .int .u32 x.2] 35)).drew.drew) (fun b o hb => World.cell?_of_block (a := ⟨b, o, none⟩) ((hg2.block b (by omega) (by simp; omega)).trans (hg1.block b (by omega) (by simp; omega))))
          obtain ⟨fn, tmps, assign, body, hy, hR⟩ := hY.out pre (x, 3) _ hj2 (by rw [hmgF.out]; exact List.prefix_append _ _)
          clear hg1 hg2 hj2
          refine (wpIn_wide (n := n)).1 ?_
          gi_wp2
          refine hR.mono ?_
          rintro e W3 ⟨rfl, hj3, hk3⟩
          have hfa := (hk3.block _ hNa hBa).trans ha2
          have hfb := (hk3.block _ hNb hBb).trans hb2
          have hsz : N ≤ W3.heap.size := Nat.le_trans (Nat.le_trans hNr hzz) hk3.size
          have hA3 : RdI W3 n0 AA k ta := RdI.kp hra2 hk3 h0N h0
          have hB3 : RdI W3 n0 AB m tb := RdI.kp hrd2 hk3 h0N h0
          gi_wp2
          go_wp2
          go_roundg (k + m + 1)
          case measure => omega
          case rel => exact ⟨pre ++ [(x, 3)], ta, tb, AA, AB, k, m, c' - 1, d' - 1, by omega, hmgF.out, hfa, hfb, hA3, hB3, by omega, by omega, by omega, by omega, hsz, hj3⟩
end Go.Proofs.Ythfjbbijcemmoaa
