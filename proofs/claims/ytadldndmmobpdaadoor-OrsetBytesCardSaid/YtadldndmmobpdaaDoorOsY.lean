/- The document's Write of a set of additions: its bytes. -/
import Derived.Test.YtadldndmmobpdaaDoorOsW
import Derived.Test.YtadldndmmobpdaaDoorOsR
namespace Go.Proofs.YtadldndmmobpdaaDoor
open Go.RowKit

set_option maxRecDepth 100000 in
set_option maxHeartbeats 4000000 in
theorem rwriteO_any (A : Option Addr) (n c : Nat) (xs : List Am) (B : Option Addr) (m d : Nat) (gs : List Tm) (w : World) (hA : RdA w w.heap.size A n xs) (hB : RdT w w.heap.size B m gs) (hn : n ≤ 100000) (hm : m ≤ 100000) (hx : ∀ a ∈ xs, a.wf) (hg : ∀ t ∈ gs, t.wf) (hl : ∀ a ∈ xs, a.2.length ≤ maxLen) :
    Calls Tryd.prog 7 #[.agg #[.slice A n c, .slice B m d]] w fun e w' => e = .returned (.tuple #[.string (bs (writeO xs gs)), .int .i64 (oErr xs gs)]) ∧ Below w.heap.size w w' := by
  have hb0 : Below w.heap.size w (w.alloc (.cells #[.slice A n c, .slice B m d] 25)) := (Below.refl _ w).alloc (Nat.le_refl _) _
  have hbx : (w.alloc (.cells #[.slice A n c, .slice B m d] 25)).heap[w.heap.size]? = some (.cells #[.slice A n c, .slice B m d] 25 (0, 0)) := heap_at _ _ rfl
  generalize hW : w.alloc (.cells #[.slice A n c, .slice B m d] 25) = W at hb0 hbx
  have hbxH := Lib.hid hbx
  have hltx := blk_lt hbx
  have s0 := blk_cell hbx 0
  have s1 := blk_cell hbx 1
  simp at s0 s1
  have hnl := Lib.hid hA.len
  have hml := Lib.hid hB.len
  have hck := Lib.hid (rocheck_any A n c xs B m d gs W ((hA.below hb0).more hb0.size) ((hB.below hb0).more hb0.size) hn (by simp [maxLen]; omega) hx hg hl)
  have hAr := Lib.hid (fun w' (h : Below w.heap.size w w') => hA.below h)
  have hBr := Lib.hid (fun w' (h : Below w.heap.size w w') => hB.below h)
  generalize hr : writeO xs gs = out
  unfold writeO at hr
  generalize hpe : oErr xs gs = p at hck hr ⊢
  by_cases hp : p = 0
  case neg =>
    rw [if_pos hp] at hr
    subst hr
    have hpn : (p != 0) = true := by simpa using hp
    clear hpe hp hbx hA hB
    go_enter Tryd.func7, Tryd.ntmps7
    go_wp2_with fail
    refine hck.out.mono ?_
    rintro e w1 ⟨rfl, hv1⟩
    have hG := hb0.trans (hv1.mono hb0.size)
    go_wp2
    refine bodyPost_ret (v := .tuple #[.string (bs []), .int .i64 p]) (by simp [results, Tryd.results7, go_sem, bs_nil]) rfl ⟨rfl, hG⟩
  subst hp
  rw [if_neg (by simp)] at hr
  have hrH := Lib.hid hr
  obtain ⟨hn4, hm4, hcx, hcg, _, _, hbad⟩ := sErr_zero.1 hpe
  rw [List.length_map, hnl.out] at hn4
  rw [hml.out] at hm4
  have hel := badA_elem hbad
  have hlen48 : ∀ a ∈ xs, (writeA a).length ≤ 48 := fun a ha => writeA_len (hel a ha).2
  have hPN := Lib.hid (fun k (hk : k ≤ n) => partN_len hlen48 n k hn4 (by omega))
  have hPS := Lib.hid (fun k (hk : k ≤ m) => partS_len hlen48 gs n m k hn4 hm4 (by omega))
  have cN := Lib.hid (fun w => rnum_any n (by omega) w)
  have cM := Lib.hid (fun w => rnum_any m (by omega) w)
  have wn : IntKind.u64.wrap (n : Int) = n := IntWalk.u64_in _ (by omega)
  have wm : IntKind.u64.wrap (m : Int) = m := IntWalk.u64_in _ (by omega)
  have cT := Lib.hid (fun (t : Tm) (ht : t.wf) => rwtag_any t ht)
  have hxH := Lib.hid hx
  have hgH := Lib.hid hg
  have helH := Lib.hid hel
  have hzW := hb0.size
  clear hpe hr hbx hA hB hcx hcg hbad hel hlen48 hx hg hl
  go_enter Tryd.func7, Tryd.ntmps7
  go_wp2_with fail
  refine hck.out.mono ?_
  rintro e w1 ⟨rfl, hv1⟩
  have hs1 := blk_below hbxH.out hv1
  clear s0 s1
  have hltx := blk_lt hs1
  have s0 := blk_cell hs1 0
  have s1 := blk_cell hs1 1
  simp at s0 s1
  go_wp2_with fail
  refine (cN.out _).mono ?_
  rintro e w2 ⟨rfl, hv2⟩
  have hG2 : Below W.heap.size W w2 := hv1.trans (hv2.mono hv1.size)
  have hp0 : Hid (partN writeA xs n 0 = numB n) := Lib.hid (by simp [partN])
  clear hs1 hck s0 s1 hltx cN wn hv1 hv2
  go_wp2_with fail
  go_loopg [5, 6] (n + 1) (fun g b i wr => ∃ (k : Nat), k ≤ n ∧ g = n + 1 - k ∧ i = .int .i64 (k : Int) ∧ b = .string (bs (partN writeA xs n k)) ∧ Below W.heap.size W wr)
  case atStart => exact ⟨0, Nat.zero_le _, rfl, rfl, by rw [hp0.out], hG2⟩
  case round =>
    clear hG2
    obtain ⟨k, hk, rfl, rfl, rfl, hbr⟩ := hrel
    have hz := hbr.size
    have hGw := hb0.trans (hbr.mono hzW)
    have hsr := blk_below hbxH.out hbr
    have hltx := blk_lt hsr
    have s0 := blk_cell hsr 0
    have s1 := blk_cell hsr 1
    simp at s0 s1
    by_cases hlt : k < n
    · obtain ⟨bA, oA, u, rfl, hbA, hq, hcp⟩ := (hAr.out wr hGw).at_ hlt
      have p0 := hcp 0 _ rfl
      have p1 := hcp 1 _ rfl
      have p2 := hcp 2 _ rfl
      have p3 := hcp 3 _ rfl
      rw [Nat.add_zero] at p0
      clear hcp hsr
      have hlti : (k : Int) < (n : Int) := by omega
      have hbA2 : bA < wr.heap.size := by omega
      have huw := hxH.out u (List.mem_of_getElem? hq)
      have hue := helH.out u (List.mem_of_getElem? hq)
      have hst : Hid (bs (partN writeA xs n k) ++ bs (writeT u.1) ++ bs (textB u.2) = bs (partN writeA xs n (k + 1))) := Lib.hid (by rw [← partN_succ writeA hq, bs_append, bs_append]; unfold writeA; rw [List.append_assoc])
      have hpl := hPN.out k (by omega)
      have hwl := writeT_len u.1
      have htl := textB_len (e := u.2) (by omega)
      have hsz : ¬ 9223372036854775807 < (bs (partN writeA xs n k)).size + (bs (writeT u.1)).size := by rw [bs_size, bs_size]; omega
      have hsz2 : ¬ 9223372036854775807 < (bs (partN writeA xs n k)).size + (bs (writeT u.1)).size + (bs (textB u.2)).size := by rw [bs_size, bs_size, bs_size]; omega
      have c1 := Lib.hid (cT.out u.1 huw)
      have c2 := Lib.hid (fun w => rwtext_any u.2 (by omega) w)
      clear hq huw hpl hwl htl
      have hq0 : KQ wr.heap.size wr wr := kq (Below.refl _ _)
      go_wp2_with fail
      go_region_held3 (fun w' => KQ wr.heap.size wr w') (first
      | with_reducible exact kq_call (by assumption) (by simp) (by assumption)
      | with_reducible exact kq_alloc (by with_reducible assumption) (Nat.le_refl _) _
      | with_reducible exact kq_alloc (kq_drew (by assumption)) (Nat.le_refl _) _
      | ((with_reducible refine kq ?_); (repeat (first | (with_reducible exact Below.refl _ _) | (with_reducible refine Below.drew ?_) | (with_reducible refine Below.alloc ?_ (by simp) _) | (with_reducible refine Below.setCell ?_ (by simp) _) | (with_reducible exact (by assumption : KQ _ _ _).1))); done))
        (first
          | (go_at_call 22; ((with_reducible refine (c1.out _).mono ?_); rintro e v1 ⟨rfl, hv1⟩))
          | (go_at_call 23; ((with_reducible refine (c2.out _).mono ?_); rintro e v2 ⟨rfl, hv2⟩)))
      have hF : KQ wr.heap.size wr v2 := by with_reducible assumption
      have hGr := hbr.trans (hF.1.mono hz)
      clear hF
      go_wp2
      go_roundg (n + 1 - (k + 1))
      case measure => omega
      case rel => exact ⟨k + 1, by omega, rfl, by go_num, val_str hst.out, hGr⟩
    · obtain rfl : k = n := by omega
      have hnli : ¬ (k : Int) < (k : Int) := by omega
      have hpl := hPN.out k (by omega)
      have hmb := numB_len m (by omega)
      have hsz : ¬ 9223372036854775807 < (bs (partN writeA xs k k)).size + (bs (numB m)).size := by rw [bs_size, bs_size]; omega
      have hp1 : Hid (bs (partN writeA xs k k) ++ bs (numB m) = bs (partS writeA xs gs k m 0)) := Lib.hid (by rw [bs_append]; simp [partS])
      clear hpl hmb
      go_wp2_with fail
      refine (cM.out _).mono ?_
      rintro e w5 ⟨rfl, hv5⟩
      have hG5 := hbr.trans (hv5.mono hz)
      clear hsr s0 s1 hltx hv5
      go_wp2_with fail
      rw [hp1.out]
      go_loopg [5, 7] (m + 1) (fun g b i wr => ∃ (q : Nat), q ≤ m ∧ g = m + 1 - q ∧ i = .int .i64 (q : Int) ∧ b = .string (bs (partS writeA xs gs k m q)) ∧ Below W.heap.size W wr)
      case atStart => exact ⟨0, Nat.zero_le _, rfl, rfl, rfl, hG5⟩
      case round =>
        clear hG5 hbr hGw hz hsz
        obtain ⟨q, hk, rfl, rfl, rfl, hbr⟩ := hrel
        have hz := hbr.size
        have hGw := hb0.trans (hbr.mono hzW)
        have hsr := blk_below hbxH.out hbr
        have hltx := blk_lt hsr
        have s0 := blk_cell hsr 0
        have s1 := blk_cell hsr 1
        simp at s0 s1
        by_cases hlt : q < m
        · obtain ⟨bA, oA, u, rfl, hbA, hq, hcp⟩ := (hBr.out wr hGw).at_ hlt
          have p0 := hcp 0 _ rfl
          have p1 := hcp 1 _ rfl
          have p2 := hcp 2 _ rfl
          rw [Nat.add_zero] at p0
          clear hcp hsr
          have hlti : (q : Int) < (m : Int) := by omega
          have hbA2 : bA < wr.heap.size := by omega
          have huw := hgH.out u (List.mem_of_getElem? hq)
          have hst : Hid (bs (partS writeA xs gs k m q) ++ bs (writeT u) = bs (partS writeA xs gs k m (q + 1))) := Lib.hid (by rw [← partS_succ writeA (xs := xs) (n := k) (m := m) hq, bs_append])
          have hpl := hPS.out q (by omega)
          have hwl := writeT_len u
          have hsz : ¬ 9223372036854775807 < (bs (partS writeA xs gs k m q)).size + (bs (writeT u)).size := by rw [bs_size, bs_size]; omega
          have c1 := Lib.hid (cT.out u huw)
          clear hq huw hpl hwl
          go_wp2_with fail
          refine (c1.out _).mono ?_
          rintro e v1 ⟨rfl, hv1⟩
          have hGr := hbr.trans (hv1.mono hz)
          go_wp2
          go_roundg (m + 1 - (q + 1))
          case measure => omega
          case rel => exact ⟨q + 1, by omega, rfl, by go_num, val_str hst.out, hGr⟩
        · obtain rfl : q = m := by omega
          have hnli : ¬ (q : Int) < (q : Int) := by omega
          have hT : Hid (partS writeA xs gs k q q = out) := Lib.hid (by have := hrH.out; rw [hnl.out, hml.out] at this; exact this)
          rw [hT.out]
          clear hsr
          go_wp2
          refine bodyPost_ret (v := .tuple #[.string (bs out), .int .i64 0]) (by simp [results, Tryd.results7, go_sem]) rfl ⟨rfl, hGw⟩
end Go.Proofs.YtadldndmmobpdaaDoor
