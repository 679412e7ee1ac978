/- slices.Values, AppendSeq, Collect, Sorted at texts. -/
import Derived.Test.YtelipindcacphaaDoorHb
import Derived.Test.YtelipindcacphaaDoorRng
import Derived.Test.YtelipindcacphaaDoorGc
import Derived.TacticsInMore
import Derived.LoopNIn
import Derived.LoopIn
import Derived.Shelf.Abstract
namespace Go.Proofs.YtelipindcacphaaDoor
open Go.RowKit

attribute [local go_sem] Oper.semAt_some

theorem valuesS_any (A : Option Addr) (n c : Nat) (w : World) :
    Calls Tryd.prog 56 #[.slice A n c] w fun e w' => e = .returned (.func (.func 63) #[] #[.pointer (some ⟨w.heap.size, 0, none⟩)]) ∧ w' = w.alloc (.cells #[.slice A n c] 22) := by
  go_enter Tryd.func56, Tryd.ntmps56
  go_wp2
  go_ret
  exact ⟨rfl, rfl⟩

set_option maxRecDepth 100000 in
set_option maxHeartbeats 1000000 in
theorem values1S_seq (n Bs Bl N n0 : Nat) (A : Option Addr) (la c : Nat) (xs : List (List UInt8)) (w0 : World) (hn : 1 ≤ n)
    (hs : w0.heap[Bs]? = some (.cells #[.slice A la c] 22 (0, 0))) (hNs : Bs < N) (hN : N ≤ w0.heap.size) (h0 : n0 ≤ Bl) (h0N : n0 ≤ N) (hA : RdS w0 n0 A la xs) (hla : la ≤ 100000) :
    SeqZ Fence.wide n Tryd.prog 63 #[.pointer (some ⟨Bs, 0, none⟩)] (fun x : List UInt8 => #[.string (bs x)]) (fun _ => False) (KpB N Bl) xs w0 := by
  intro l J W hW hJ hY hj0
  refine callsIn_wide.2 ?_
  show Calls Tryd.prog _ #[.func (.yield l) #[] #[], .pointer (some ⟨Bs, 0, none⟩)] W _
  replace hs := (hW.block _ (by omega)).trans hs
  replace hA : RdS W n0 A la xs := hA.below (hW.mono (by omega))
  have hNW : N ≤ W.heap.size := Nat.le_trans hN hW.size
  have hl := hA.len
  have cs := blk_cell hs 0
  simp at cs
  clear hW hN hs
  have hJ := Lib.hid hJ
  have hY := Lib.hid hY
  have hlH := Lib.hid hl
  clear hl
  go_enter Tryd.func63, Tryd.ntmps63
  go_wp2_with fail
  go_loopg [7] (la + 1) (fun g i wr => ∃ (k : Nat), k ≤ la ∧ g = la + 1 - k ∧ i = .int .i64 k ∧ RdS wr n0 A la xs ∧ N ≤ wr.heap.size ∧ J (xs.take k) wr)
  case atStart => exact ⟨0, Nat.zero_le _, rfl, rfl, hA, hNW, by simpa using hj0⟩
  case round =>
    obtain ⟨k, hk, rfl, rfl, hA', hNr, hj⟩ := hrel
    by_cases hlt : k < la
    · obtain ⟨bA, oA, u, rfl, hbA, hp, hcp⟩ := hA'.at_ hlt
      have p0 := hcp 0 _ rfl
      rw [Nat.add_zero, Nat.mul_one] at p0
      have hbA2 : bA < wr.heap.size := by omega
      have htk : Hid (xs.take (k + 1) = xs.take k ++ [u]) := Lib.hid (by rw [List.take_add_one, hp]; rfl)
      clear hcp hp
      go_upto_region 3 with (fail)
      have hgr : wr.grownBy wr none := World.grownBy.refl _ _
      have hj2 := hJ.out _ _ _ none hj hgr (by rintro r e; cases e)
      have hA2 := hA'
      obtain ⟨fn, tmps, assign, body, hy, hR⟩ := hY.out (xs.take k) u _ hj2 (by rw [← htk.out]; exact List.take_prefix _ _)
      refine (wpIn_wide (n := n)).1 ?_
      gi_wp2
      refine hR.mono ?_
      rintro e W3 ⟨rfl, hj3, hk3⟩
      have hsz : N ≤ W3.heap.size := Nat.le_trans hNr hk3.size
      have hA3 : RdS W3 n0 (some ⟨bA, oA, none⟩) la xs := hA2.kp hk3 h0N h0
      rw [← htk.out] at hj3
      gi_wp2
      go_wp2
      go_roundg (la + 1 - (k + 1))
      case measure => omega
      case rel => exact ⟨k + 1, by omega, rfl, by go_num, hA3, hsz, hj3⟩
    · have hfin : Hid (xs.take k = xs) := Lib.hid (List.take_of_length_le (by rw [hlH.out]; omega))
      go_wp2
      go_end0
      exact ⟨⟨_, rfl⟩, by rw [← hfin.out]; exact hj⟩

set_option maxRecDepth 100000 in
set_option maxHeartbeats 2000000 in
theorem appseqS_any (Bs : Nat) (A : Option Addr) (la c : Nat) (xs : List (List UInt8)) (w : World) (hs : w.heap[Bs]? = some (.cells #[.slice A la c] 22 (0, 0))) (hA : RdS w w.heap.size A la xs) (hla : la ≤ 100000) :
    Calls Tryd.prog 67 #[.slice none 0 0, .func (.func 63) #[] #[.pointer (some ⟨Bs, 0, none⟩)]] w
      fun e w' => ∃ A' c', e = .returned (.slice A' la c') ∧ Ow w' w.heap.size 9 1 (.slice A' la c') (xs.map encS) ∧ Below w.heap.size w w' := by
  have hl := hA.len
  have hBs := blk_lt hs
  refine (callsIn_wide (n := 6)).1 ?_
  refine callsIn_of_wp_marks Tryd.func67 rfl trivial ?_ rfl
  simp only [Tryd.ntmps67, List.size_toArray, List.length_cons, List.length_nil, Nat.reduceAdd, Nat.reduceSub, Array.replicate_succ, Array.replicate_zero, List.push_toArray, List.append_toArray, List.nil_append, List.cons_append]
  refine wpIn_wide.2 ?_
  have hlH := Lib.hid hl
  clear hl
  go_wp2_with fail
  obtain ⟨W0, hW0⟩ : ∃ W0, w.alloc (.cells #[.slice none 0 0] 22) = W0 := ⟨_, rfl⟩
  rw [hW0]
  have hs0 : W0.heap.size = w.heap.size + 1 := by rw [← hW0]; simp
  have hb0 : Below w.heap.size w W0 := by rw [← hW0]; exact (Below.refl _ _).alloc (Nat.le_refl _) _
  have bL : W0.heap[w.heap.size]? = some (.cells #[.slice none 0 0] 22 (0, 0)) := by rw [← hW0]; exact heap_at _ _ rfl
  have bS : W0.heap[Bs]? = some (.cells #[.slice A la c] 22 (0, 0)) := (hb0.block _ hBs).trans hs
  have hseq := values1S_seq (6 - 1) Bs w.heap.size w.heap.size w.heap.size A la c xs W0 (by decide) bS hBs hb0.size (Nat.le_refl _) (Nat.le_refl _) (hA.below hb0) hla
  clear hW0
  refine (wpIn_wide (n := 6)).1 ?_
  refine wpIn_rangeFunc_Z rfl (by decide) (gf := 63) (lb := #[.pointer (some ⟨Bs, 0, none⟩)]) rfl trivial (enters_of Tryd.func63 (by kernel_rfl) rfl)
    hseq (fun h k => h.trans k) (fun W l o o' hl h h1 h2 => KpB.of_below (belowK_b (w := W0) (by omega) W l o o' hl h h1 h2)) (Below.refl _ _) (fun _ => rfl)
    (fun pre W => (∃ A' n' c', W.heap[w.heap.size]? = some (.cells #[.slice A' n' c'] 22 (0, 0)) ∧ Ow W (w.heap.size + 1) 9 1 (.slice A' n' c') (pre.map encS)) ∧
      w.heap.size + 1 ≤ W.heap.size ∧ Below w.heap.size w W)
    ?hI ?hIZ (by rintro r h; exact h.elim) ⟨⟨none, 0, 0, bL, Ow.nil_ _ _ _ _⟩, by omega, hb0⟩
    (fun x a' W => a' = { tmps := #[.slice none 0 0, .func (.func 63) #[] #[.pointer (some ⟨Bs, 0, none⟩)], .pointer (some ⟨w.heap.size, 0, none⟩), undef, .slice none 0 0, .string (bs x), .func (.func 63) #[] #[.pointer (some ⟨Bs, 0, none⟩)], .string (bs x), undef, undef, undef, undef, undef], defers := [] })
    ?hAx ?assign ?body ?done
  case hI =>
    rintro pre X Y row ⟨⟨A', n', c', h1, h2⟩, h5, h4⟩ hg hr
    refine ⟨⟨A', n', c', (hg.block _ (blk_lt h1) (fun e => by have := (hr _ e.symm).1; omega)).trans h1, h2.kept hg (fun g cs t _ _ hh e => ?_)⟩, Nat.le_trans h5 hg.size, h4.grown hg h4.size (fun k e => by have := (hr _ e).1; omega)⟩
    obtain ⟨o, ho, hc⟩ := (hr g e).2
    rw [hh] at ho; cases ho; cases hc
  case hIZ =>
    rintro pre X Y row ⟨⟨A', n', c', h1, h2⟩, h5, h4⟩ hg hr
    exact ⟨⟨A', n', c', (hg.block _ (blk_lt h1) (fun e => (hr _ e.symm).elim)).trans h1, h2.kept hg (fun g cs t _ hb hh e => (hr _ e).elim)⟩, Nat.le_trans h5 hg.size, h4.grown hg h4.size (fun k e => (hr _ e).elim)⟩
  case hAx =>
    rintro x a' _ X Y row h hg hr
    exact h
  case assign =>
    rintro l pre x W K ⟨⟨A', n', c', i1, i2⟩, i5, i4⟩ hK
    gi_wp2
    exact hK _ _ ((KeepsOthers.refl _).from _) (KpB.of_below (Below.refl _ W)) ⟨⟨A', n', c', i1, i2⟩, i5, i4⟩ rfl
  case body =>
    rintro l pre x a' W hl ⟨r, hr⟩ ⟨⟨A', n', c', i1, i2⟩, i5, i4⟩ rfl hpre
    have hpl := List.IsPrefix.length_le hpre
    have cL := blk_cell i1 0
    have fL := blk_frozen i1 0
    simp at cL hpl
    have hBl : w.heap.size < W.heap.size := blk_lt i1
    have hlen1 : ∀ y ∈ ([[.string (bs x)]] : List (List Value)), y.length = 1 := by simp
    have hone1 : ∀ y ∈ ([[.string (bs x)]] : List (List Value)), ∀ v ∈ y, v.oneCell' = true := by simp [Value.oneCell']
    have hmw : Below W.heap.size W (W.alloc (.cells #[.string (bs x)] 9)) := (Below.refl _ _).alloc (Nat.le_refl _) _
    have hplb : pre.length ≤ 100000 := by have := hlH.out; omega
    clear hpl
    gi_wp2_with (gi_at_builtin; refine wpListIn_append_rd _ rfl _ _ _ rfl eStr (base := w.heap.size + 1) (v := .slice A' n' c') rfl (i2.below hmw) rfl (Rd.one' [.string (bs x)] rfl) hlen1 hone1 (by simp [maxLen]; omega) (by simp; omega) (by simp; omega) ?_; intro A4 n4 c4 w4 hn4 hown4 hg4 hat4; (have hB4 : w4.heap[w.heap.size]? = some (.cells #[.slice A' n' c'] 22 (0, 0)) := (hg4.block _ (by simp; omega) (fun e => by have := (i2.block _ e.symm).1; omega)).trans (heap_old _ (blk_lt i1) i1)); (have c4L : w4.cell? ⟨w.heap.size, 0, none⟩ = some (.slice A' n' c') := blk_cell hB4 0); (have f4L := blk_frozen hB4 0); (have hn4H := Lib.hid hn4); clear hn4)
    have hg5 : W.grownBy w4 (Value.slice A' n' c').ownBlock := (World.grownBy_alloc W _ _).trans hg4
    have hbl := i2.block
    have hKp : KpB w.heap.size w.heap.size W (w4.setCell ⟨w.heap.size, 0, none⟩ (.slice A4 n4 c4)) :=
      (KpB.of_below ((Below.refl _ W).grown hg5 (by omega) (fun k e => by have := (hbl k e).1; omega))).trans ⟨by simp [World.setCell], fun k h1 h2 => Below.heap_setCell _ _ _ k (by simpa using h2)⟩
    have hKf : KeepsFrom W0.heap.size W (w4.setCell ⟨w.heap.size, 0, none⟩ (.slice A4 n4 c4)) := by
      refine ((KeepsOthers.of_grownBy hg5 (fun j o ej hj => ?_)).trans (KeepsOthers.setCell _ _ _)).from _
      rcases i2.2.2 with ⟨h, _⟩ | ⟨g, cap, cur, h, _, hgb, _⟩
      · rw [h] at ej; simp [Value.ownBlock] at ej
      · rw [h] at ej
        obtain rfl : g = j := by simpa [Value.ownBlock] using ej
        rw [hgb] at hj; cases hj; rfl
    refine ⟨hKf, hKp, ⟨A4, n4, c4, by rw [blk_set hB4]; rfl, ?_⟩, Nat.le_trans i5 hKp.size, ?_⟩
    · have h6 := Ow.kept hown4 (gr_set (g := w.heap.size) (World.grownBy.refl w4 _) 0 (.slice A4 n4 c4)) (fun g cs t _ hb _ e => by injection e with e; omega)
      simpa [encS] using h6
    · exact (i4.grown hg5 i4.size (fun k e => by have := (hbl k e).1; omega)).setCell (by simp) _
  case done =>
    rintro D W hD ⟨⟨A', n', c', i1, i2⟩, i5, i4⟩ hK
    have cL : W.cell? ⟨w.heap.size, 0, none⟩ = some (.slice A' n' c') := blk_cell i1 0
    have hnl : n' = la := by have := i2.rd.2.1; have := hlH.out; simp at *; omega
    subst hnl
    have hbD : Below w.heap.size w (W.putObj D (.deferred none)) := i4.trans (belowK_b (w := W0) (by omega) W D _ _ hD hK rfl rfl)
    have hownD : Ow (W.putObj D (.deferred none)) (w.heap.size + 1) 9 1 (.slice A' n' c') (xs.map encS) :=
      i2.kept (grownBy_putObj' W D _) (fun g cs t _ _ hh e => by injection e with e; subst e; rw [hK] at hh; cases hh)
    go_wp2
    refine ⟨by simp, .inl ⟨_, _, rfl, run_takeDeferred hK, ?_⟩⟩
    exact ⟨.slice A' n' c', by simp [results, Tryd.results67, go_sem], A', c', rfl, hownD.base (by omega), hbD⟩
theorem collectS_any (Bs : Nat) (A : Option Addr) (la c : Nat) (xs : List (List UInt8)) (w : World) (hs : w.heap[Bs]? = some (.cells #[.slice A la c] 22 (0, 0))) (hA : RdS w w.heap.size A la xs) (hla : la ≤ 100000) :
    Calls Tryd.prog 61 #[.func (.func 63) #[] #[.pointer (some ⟨Bs, 0, none⟩)]] w
      fun e w' => ∃ A' c', e = .returned (.slice A' la c') ∧ Ow w' w.heap.size 9 1 (.slice A' la c') (xs.map encS) ∧ Below w.heap.size w w' := by
  have h := appseqS_any Bs A la c xs w hs hA hla
  clear hs
  go_enter Tryd.func61, Tryd.ntmps61
  go_wp2_with fail
  refine h.mono ?_
  rintro e w1 ⟨A1, c1, rfl, hown, hb⟩
  go_wp2
  go_ret
  exact ⟨A1, c1, rfl, hown, hb⟩
theorem sortedS_any (Bs : Nat) (A : Option Addr) (la c : Nat) (xs : List (List UInt8)) (w : World) (hs : w.heap[Bs]? = some (.cells #[.slice A la c] 22 (0, 0))) (hA : RdS w w.heap.size A la xs) (hla : la ≤ 100000) :
    Calls Tryd.prog 55 #[.func (.func 63) #[] #[.pointer (some ⟨Bs, 0, none⟩)]] w
      fun e w' => ∃ A' c', e = .returned (.slice A' la c') ∧ Ow w' w.heap.size 9 1 (.slice A' la c') ((sortS xs).map encS) ∧ Below w.heap.size w w' := by
  have h := collectS_any Bs A la c xs w hs hA hla
  clear hs
  go_enter Tryd.func55, Tryd.ntmps55
  go_wp2_with fail
  refine h.mono ?_
  rintro e w1 ⟨A1, c1, rfl, hown, hb⟩
  have cs := Lib.hid (sortS_any w.heap.size A1 la c1 xs w1 hown (by omega))
  have hbk := hown.block
  go_wp2_with fail
  refine cs.out.mono ?_
  rintro e w2 ⟨rfl, ho2, hg2⟩
  have hG2 : Below w.heap.size w w2 := hb.grown hg2 hb.size (fun g e => (hbk g e).1)
  go_wp2
  go_ret
  exact ⟨A1, c1, rfl, ho2, hG2⟩
end Go.Proofs.YtelipindcacphaaDoor
