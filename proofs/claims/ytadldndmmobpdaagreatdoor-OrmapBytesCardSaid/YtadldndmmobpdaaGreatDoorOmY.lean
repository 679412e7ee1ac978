/- The document's Write of a map of puts: its bytes. -/
import Derived.Test.YtadldndmmobpdaaGreatDoorOmW
import Derived.Test.YtadldndmmobpdaaGreatDoorOmR
namespace Go.Proofs.YtadldndmmobpdaaGreatDoor
open Go.RowKit

set_option maxRecDepth 100000 in
set_option maxHeartbeats 4000000 in
theorem rwriteM_any (A : Option Addr) (n c : Nat) (xs : List Pm) (B : Option Addr) (m d : Nat) (gs : List Tm) (w : World) (hA : RdP w w.heap.size A n xs) (hB : RdT w w.heap.size B m gs) (hn : n ≤ 100000) (hm : m ≤ 100000) (hx : ∀ a ∈ xs, a.wf) (hg : ∀ t ∈ gs, t.wf) (hl : ∀ a ∈ xs, a.2.1.length ≤ maxLen) :
    Calls Tryz.prog 7 #[.agg #[.slice A n c, .slice B m d]] w fun e w' => e = .returned (.tuple #[.string (bs (writeM xs gs)), .int .i64 (mErr xs gs)]) ∧ Below w.heap.size w w' := by
  have hb0 : Below w.heap.size w (w.alloc (.cells #[.slice A n c, .slice B m d] 25)) := (Below.refl _ w).alloc (Nat.le_refl _) _
  have hbx : (w.alloc (.cells #[.slice A n c, .slice B m d] 25)).heap[w.heap.size]? = some (.cells #[.slice A n c, .slice B m d] 25 (0, 0)) := heap_at _ _ rfl
  generalize hW : w.alloc (.cells #[.slice A n c, .slice B m d] 25) = W at hb0 hbx
  have hbxH := Lib.hid hbx
  have hltx := blk_lt hbx
  have s0 := blk_cell hbx 0
  have s1 := blk_cell hbx 1
  simp at s0 s1
  have hnl := Lib.hid hA.len
  have hml := Lib.hid hB.len
  have hck := Lib.hid (rmcheck_any A n c xs B m d gs W ((hA.below hb0).more hb0.size) ((hB.below hb0).more hb0.size) (by simp [maxLen]; omega) (by simp [maxLen]; omega) hx hg hl)
  have hAr := Lib.hid (fun w' (h : Below w.heap.size w w') => hA.below h)
  have hBr := Lib.hid (fun w' (h : Below w.heap.size w w') => hB.below h)
  generalize hr : writeM xs gs = out
  unfold writeM at hr
  generalize hpe : mErr xs gs = p at hck hr ⊢
  by_cases hp : p = 0
  case neg =>
    rw [if_pos hp] at hr
    subst hr
    have hpn : (p != 0) = true := by simpa using hp
    clear hpe hp hbx hA hB
    go_enter Tryz.func7, Tryz.ntmps7
    go_wp2_with fail
    refine hck.out.mono ?_
    rintro e w1 ⟨rfl, hv1⟩
    have hG := hb0.trans (hv1.mono hb0.size)
    go_wp2
    refine bodyPost_ret (v := .tuple #[.string (bs []), .int .i64 p]) (by simp [results, Tryz.results7, go_sem, bs_nil]) rfl ⟨rfl, hG⟩
  subst hp
  rw [if_neg (by simp)] at hr
  have hrH := Lib.hid hr
  obtain ⟨hn4, hm4, hcx, hcg, _, _, hbad⟩ := sErr_zero.1 hpe
  rw [List.length_map, hnl.out] at hn4
  rw [hml.out] at hm4
  have hel := badP_elem hbad
  have hlen48 : ∀ a ∈ xs, (writeP a).length ≤ 75 := fun a ha => writeP_len (hel a ha).2 (hx a ha)
  have hPN := Lib.hid (fun k (hk : k ≤ n) => partN_len hlen48 n k hn4 (by omega))
  have hPS := Lib.hid (fun k (hk : k ≤ m) => partS_len hlen48 gs n m k hn4 hm4 (by omega))
  have cN := Lib.hid (fun w => rnum_any n (by omega) w)
  have cM := Lib.hid (fun w => rnum_any m (by omega) w)
  have wn : IntKind.u64.wrap (n : Int) = n := IntWalk.u64_in _ (by omega)
  have wm : IntKind.u64.wrap (m : Int) = m := IntWalk.u64_in _ (by omega)
  have cT := Lib.hid (fun (t : Tm) (ht : t.wf) => rwtag_any t ht)
  have hxH := Lib.hid hx
  have hgH := Lib.hid hg
  have helH := Lib.hid hel
  have hzW := hb0.size
  clear hpe hr hbx hA hB hcx hcg hbad hel hlen48 hx hg hl
  go_enter Tryz.func7, Tryz.ntmps7
  go_wp2_with fail
  refine hck.out.mono ?_
  rintro e w1 ⟨rfl, hv1⟩
  have hs1 := blk_below hbxH.out hv1
  clear s0 s1
  have hltx := blk_lt hs1
  have s0 := blk_cell hs1 0
  have s1 := blk_cell hs1 1
  simp at s0 s1
  go_wp2_with fail
  refine (cN.out _).mono ?_
  rintro e w2 ⟨rfl, hv2⟩
  have hG2 : Below W.heap.size W w2 := hv1.trans (hv2.mono hv1.size)
  have hp0 : Hid (partN writeP xs n 0 = numB n) := Lib.hid (by simp [partN])
  clear hs1 hck s0 s1 hltx cN wn hv1 hv2
  go_wp2_with fail
  go_loopg [5, 6] (n + 1) (fun g b i wr => ∃ (k : Nat), k ≤ n ∧ g = n + 1 - k ∧ i = .int .i64 (k : Int) ∧ b = .string (bs (partN writeP xs n k)) ∧ Below W.heap.size W wr)
  case atStart => exact ⟨0, Nat.zero_le _, rfl, rfl, by rw [hp0.out], hG2⟩
  case round =>
    clear hG2
    obtain ⟨k, hk, rfl, rfl, rfl, hbr⟩ := hrel
    have hz := hbr.size
    have hGw := hb0.trans (hbr.mono hzW)
    have hsr := blk_below hbxH.out hbr
    have hltx := blk_lt hsr
    have s0 := blk_cell hsr 0
    have s1 := blk_cell hsr 1
    simp at s0 s1
    by_cases hlt : k < n
    · obtain ⟨bA, oA, u, rfl, hbA, hq, hcp⟩ := (hAr.out wr hGw).at_ hlt
      have p0 := hcp 0 _ rfl
      have p1 := hcp 1 _ rfl
      have p2 := hcp 2 _ rfl
      have p3 := hcp 3 _ rfl
      have p4 := hcp 4 _ rfl
      have p5 := hcp 5 _ rfl
      have p6 := hcp 6 _ rfl
      rw [Nat.add_zero] at p0
      clear hcp hsr
      have hlti : (k : Int) < (n : Int) := by omega
      have hbA2 : bA < wr.heap.size := by omega
      have huw := hxH.out u (List.mem_of_getElem? hq)
      have hue := helH.out u (List.mem_of_getElem? hq)
      have hst : Hid (bs (partN writeP xs n k) ++ bs (writeT u.1) ++ bs (textB u.2.1) ++ bs (writeZ u.2.2.1) ++ bs (writeS u.2.2.2) = bs (partN writeP xs n (k + 1))) := Lib.hid (by rw [← partN_succ writeP hq, bs_append, bs_append, bs_append, bs_append]; unfold writeP; simp only [List.append_assoc])
      have hpl := hPN.out k (by omega)
      have hwl := writeT_len u.1
      have htl := textB_len (e := u.2.1) (by omega)
      have hzl : (writeZ u.2.2.1).length ≤ 9 := numB_len _ (zig_lt huw.2.2.1 huw.2.2.2)
      have hsl := writeS_len u.2.2.2 huw.2.1
      have hsz : ¬ 9223372036854775807 < (bs (partN writeP xs n k)).size + (bs (writeT u.1)).size := by rw [bs_size, bs_size]; omega
      have hsz2 : ¬ 9223372036854775807 < (bs (partN writeP xs n k)).size + (bs (writeT u.1)).size + (bs (textB u.2.1)).size := by rw [bs_size, bs_size, bs_size]; omega
      have hsz3 : ¬ 9223372036854775807 < (bs (partN writeP xs n k)).size + (bs (writeT u.1)).size + (bs (textB u.2.1)).size + (bs (writeZ u.2.2.1)).size := by rw [bs_size, bs_size, bs_size, bs_size]; omega
      have hsz4 : ¬ 9223372036854775807 < (bs (partN writeP xs n k)).size + (bs (writeT u.1)).size + (bs (textB u.2.1)).size + (bs (writeZ u.2.2.1)).size + (bs (writeS u.2.2.2)).size := by rw [bs_size, bs_size, bs_size, bs_size, bs_size]; omega
      have c1 := Lib.hid (cT.out u.1 huw.1)
      have c2 := Lib.hid (fun w => rwtext_any u.2.1 (by omega) w)
      have c3 := Lib.hid (rsg_any u.2.2.1 huw.2.2.1 huw.2.2.2)
      have c4 := Lib.hid (rlw_any u.2.2.2 huw.2.1)
      clear hq huw hue hpl hwl htl hzl hsl
      go_upto_region 9 with (fail)
      clear s0 s1 hltx
      obtain ⟨wb, hwb⟩ : ∃ wb, wr.alloc (.cells #[.int .i64 u.1.1.1, .int .u32 u.1.1.2, .int .i64 u.1.2, .string (bs u.2.1), .int .i64 u.2.2.1, .int .u32 u.2.2.2.1, .int .i64 u.2.2.2.2] 70) = wb := ⟨_, rfl⟩
      have hbb : wb.heap[wr.heap.size]? = some (.cells #[.int .i64 u.1.1.1, .int .u32 u.1.1.2, .int .i64 u.1.2, .string (bs u.2.1), .int .i64 u.2.2.1, .int .u32 u.2.2.2.1, .int .i64 u.2.2.2.2] 70 (0, 0)) := by rw [← hwb]; exact heap_at _ _ rfl
      have hvb : Below wr.heap.size wr wb := by rw [← hwb]; exact (Below.refl _ wr).alloc (Nat.le_refl _) _
      rw [hwb]
      clear hwb p0 p1 p2 p3 p4 p5 p6
      have hbrb := hbr.trans (hvb.mono hz)
      have hlb := blk_lt hbb
      have r0 := blk_cell hbb 0
      have r1 := blk_cell hbb 1
      have r2 := blk_cell hbb 2
      have r3 := blk_cell hbb 3
      have r4 := blk_cell hbb 4
      have r5 := blk_cell hbb 5
      have r6 := blk_cell hbb 6
      simp at r0 r1 r2 r3 r4 r5 r6
      clear hbb hvb
      have hq0 : KQ wb.heap.size wb wb := kq (Below.refl _ _)
      go_region_held3 (fun w' => KQ wb.heap.size wb w') (first
      | with_reducible exact kq_call (by assumption) (by simp) (by assumption)
      | with_reducible exact kq_alloc (by with_reducible assumption) (Nat.le_refl _) _
      | with_reducible exact kq_alloc (kq_drew (by assumption)) (Nat.le_refl _) _
      | ((with_reducible refine kq ?_); (repeat (first | (with_reducible exact Below.refl _ _) | (with_reducible refine Below.drew ?_) | (with_reducible refine Below.alloc ?_ (by simp) _) | (with_reducible refine Below.setCell ?_ (by simp) _) | (with_reducible exact (by assumption : KQ _ _ _).1))); done))
        (first
          | (go_at_call 25; ((with_reducible refine (c1.out _).mono ?_); rintro e v1 ⟨rfl, hv1⟩))
          | (go_at_call 26; ((with_reducible refine (c2.out _).mono ?_); rintro e v2 ⟨rfl, hv2⟩))
          | (go_at_call 27; ((with_reducible refine (c3.out _).mono ?_); rintro e v3 ⟨rfl, hv3⟩))
          | (go_at_call 28; ((with_reducible refine (c4.out _).mono ?_); rintro e v4 ⟨rfl, hv4⟩)))
      have hF : KQ wb.heap.size wb v4 := by with_reducible assumption
      have hGr := hbrb.trans (hF.1.mono hbrb.size)
      clear hF
      go_wp2
      go_roundg (n + 1 - (k + 1))
      case measure => omega
      case rel => exact ⟨k + 1, by omega, rfl, by go_num, val_str hst.out, hGr⟩
    · obtain rfl : k = n := by omega
      have hnli : ¬ (k : Int) < (k : Int) := by omega
      have hpl := hPN.out k (by omega)
      have hmb := numB_len m (by omega)
      have hsz : ¬ 9223372036854775807 < (bs (partN writeP xs k k)).size + (bs (numB m)).size := by rw [bs_size, bs_size]; omega
      have hp1 : Hid (bs (partN writeP xs k k) ++ bs (numB m) = bs (partS writeP xs gs k m 0)) := Lib.hid (by rw [bs_append]; simp [partS])
      clear hpl hmb
      go_wp2_with fail
      refine (cM.out _).mono ?_
      rintro e w5 ⟨rfl, hv5⟩
      have hG5 := hbr.trans (hv5.mono hz)
      clear hsr s0 s1 hltx hv5
      go_wp2_with fail
      rw [hp1.out]
      go_loopg [5, 8] (m + 1) (fun g b i wr => ∃ (q : Nat), q ≤ m ∧ g = m + 1 - q ∧ i = .int .i64 (q : Int) ∧ b = .string (bs (partS writeP xs gs k m q)) ∧ Below W.heap.size W wr)
      case atStart => exact ⟨0, Nat.zero_le _, rfl, rfl, rfl, hG5⟩
      case round =>
        clear hG5 hbr hGw hz hsz
        obtain ⟨q, hk, rfl, rfl, rfl, hbr⟩ := hrel
        have hz := hbr.size
        have hGw := hb0.trans (hbr.mono hzW)
        have hsr := blk_below hbxH.out hbr
        have hltx := blk_lt hsr
        have s0 := blk_cell hsr 0
        have s1 := blk_cell hsr 1
        simp at s0 s1
        by_cases hlt : q < m
        · obtain ⟨bA, oA, u, rfl, hbA, hq, hcp⟩ := (hBr.out wr hGw).at_ hlt
          have p0 := hcp 0 _ rfl
          have p1 := hcp 1 _ rfl
          have p2 := hcp 2 _ rfl
          rw [Nat.add_zero] at p0
          clear hcp hsr
          have hlti : (q : Int) < (m : Int) := by omega
          have hbA2 : bA < wr.heap.size := by omega
          have huw := hgH.out u (List.mem_of_getElem? hq)
          have hst : Hid (bs (partS writeP xs gs k m q) ++ bs (writeT u) = bs (partS writeP xs gs k m (q + 1))) := Lib.hid (by rw [← partS_succ writeP (xs := xs) (n := k) (m := m) hq, bs_append])
          have hpl := hPS.out q (by omega)
          have hwl := writeT_len u
          have hsz : ¬ 9223372036854775807 < (bs (partS writeP xs gs k m q)).size + (bs (writeT u)).size := by rw [bs_size, bs_size]; omega
          have c1 := Lib.hid (cT.out u huw)
          clear hq huw hpl hwl
          go_wp2_with fail
          refine (c1.out _).mono ?_
          rintro e v1 ⟨rfl, hv1⟩
          have hGr := hbr.trans (hv1.mono hz)
          go_wp2
          go_roundg (m + 1 - (q + 1))
          case measure => omega
          case rel => exact ⟨q + 1, by omega, rfl, by go_num, val_str hst.out, hGr⟩
        · obtain rfl : q = m := by omega
          have hnli : ¬ (q : Int) < (q : Int) := by omega
          have hT : Hid (partS writeP xs gs k q q = out) := Lib.hid (by have := hrH.out; rw [hnl.out, hml.out] at this; exact this)
          rw [hT.out]
          clear hsr
          go_wp2
          refine bodyPost_ret (v := .tuple #[.string (bs out), .int .i64 0]) (by simp [results, Tryz.results7, go_sem]) rfl ⟨rfl, hGw⟩
end Go.Proofs.YtadldndmmobpdaaGreatDoor
