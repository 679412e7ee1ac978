/- Keys of transactions, both: in order, each once. -/
import Derived.Test.YtpolplmniaoikaaGreatDoorM39
import Derived.Test.YtpolplmniaoikaaGreatDoorM29
import Derived.Deep.DeepCutAuto
import Derived.Deep.LoopGhost
namespace Go.Proofs.YtpolplmniaoikaaGreatDoor
open Go.RowKit

/-- A transaction's keys. -/
def keysT (ps : List Pv) : List (List UInt8) := (ps.map Prod.fst).foldl insS []
theorem bytesLess_k (x y : List UInt8) : Op.bytesLess (bs x).toList (bs y).toList = decide (x < y) := by rw [bs_toL, bs_toL]; exact bytesLess_eq x y
theorem Rd.frontK {w : World} {B sz n q : Nat} {A : Option Addr} {xs : List (List Value)} (h : Rd w B sz A n xs) (hq : q ≤ n) : Rd w B sz A q (xs.take q) :=
  ⟨by rw [List.length_take, h.1]; omega, fun h0 => by
    obtain ⟨b, o, e, hb, hc⟩ := h.2 (by omega)
    refine ⟨b, o, e, hb, fun k x hx j u hu => hc k x ?_ j u hu⟩
    have hk := (List.getElem?_eq_some_iff.1 hx).1
    rw [List.length_take] at hk
    rwa [List.getElem?_take_of_lt (by omega)] at hx⟩
theorem Rd.backK {w : World} {B sz n q b o : Nat} {xs : List (List Value)} (h : Rd w B sz (some ⟨b, o, none⟩) n xs) (hq : q ≤ n) : Rd w B sz (some ⟨b, o + q * sz, none⟩) (n - q) (xs.drop q) :=
  ⟨by rw [List.length_drop, h.1], fun h0 => by
    obtain ⟨b', o', e, hb, hc⟩ := h.2 (by omega)
    injection e with e
    injection e with e1 e2
    subst e1; subst e2
    refine ⟨b, o + q * sz, rfl, hb, fun k x hx j u hu => ?_⟩
    rw [List.getElem?_drop] at hx
    have := hc (q + k) x hx j u hu
    rw [show o + q * sz + k * sz + j = o + (q + k) * sz + j by rw [Nat.add_mul]; omega]
    exact this⟩
set_option maxRecDepth 100000 in
set_option maxHeartbeats 4000000 in
theorem txkeys_any (x : Im) (v : Vm) (t0 : Bool) (A : Option Addr) (n c : Nat) (xs : List Pe) (w : World) (hA : RdE w w.heap.size A n xs) (hn : n ≤ 1000) :
    Calls Tryz.prog 22 #[.agg #[.int .i64 x.1, .int .u32 x.2, .int .u32 v.d0, .int .u32 v.d1, .int .u32 v.d2, .int .u32 v.d3, .int .u32 v.d4, .int .u32 v.d5, .int .u32 v.d6, .int .u32 v.d7, .bool t0, .slice A n c]] w fun r w' => ∃ T t c', r = .returned (.slice T t c') ∧ Ow w' w.heap.size 9 1 (.slice T t c') ((keysT (xs.map Pe.core)).map encS) ∧ Below w.heap.size w w' := by
  have hb0 : Below w.heap.size w (w.alloc (.cells #[.int .i64 x.1, .int .u32 x.2, .int .u32 v.d0, .int .u32 v.d1, .int .u32 v.d2, .int .u32 v.d3, .int .u32 v.d4, .int .u32 v.d5, .int .u32 v.d6, .int .u32 v.d7, .bool t0, .slice A n c] 36)) := (Below.refl _ w).alloc (Nat.le_refl _) _
  have hbx : (w.alloc (.cells #[.int .i64 x.1, .int .u32 x.2, .int .u32 v.d0, .int .u32 v.d1, .int .u32 v.d2, .int .u32 v.d3, .int .u32 v.d4, .int .u32 v.d5, .int .u32 v.d6, .int .u32 v.d7, .bool t0, .slice A n c] 36)).heap[w.heap.size]? = some (.cells #[.int .i64 x.1, .int .u32 x.2, .int .u32 v.d0, .int .u32 v.d1, .int .u32 v.d2, .int .u32 v.d3, .int .u32 v.d4, .int .u32 v.d5, .int .u32 v.d6, .int .u32 v.d7, .bool t0, .slice A n c] 36 (0, 0)) := heap_at _ _ rfl
  generalize hW : w.alloc (.cells #[.int .i64 x.1, .int .u32 x.2, .int .u32 v.d0, .int .u32 v.d1, .int .u32 v.d2, .int .u32 v.d3, .int .u32 v.d4, .int .u32 v.d5, .int .u32 v.d6, .int .u32 v.d7, .bool t0, .slice A n c] 36) = W at hb0 hbx
  have hbxH := Lib.hid hbx
  have hltx := blk_lt hbx
  have s11 := blk_cell hbx 11
  simp at s11
  have hnl := Lib.hid hA.len
  have hAr := Lib.hid (fun w' (h : Below w.heap.size w w') => hA.below h)
  have hv1 : Below W.heap.size W W := Below.refl _ _
  generalize hr : keysT (xs.map Pe.core) = out
  have hrH : Hid ((xs.map Pe.key).foldl insS [] = out) := Lib.hid (by rw [← hr]; unfold keysT; rw [List.map_map]; rfl)
  have hzW := hb0.size
  clear hr hbx hA
  go_enter Tryz.func22, Tryz.ntmps22
  go_wp2_with fail
  clear s11 hltx
  go_loopg [3, 9] (n + 1) (fun g o i wr => ∃ (k : Nat) (T : Option Addr) (c' : Nat), k ≤ n ∧ g = n + 1 - k ∧ i = .int .i64 (k : Int) ∧ o = .slice T k c' ∧ Ow wr W.heap.size 9 1 (.slice T k c') (((xs.take k).map Pe.key).map encS) ∧ Below W.heap.size W wr)
  case atStart => exact ⟨0, none, 0, Nat.zero_le _, rfl, rfl, rfl, Ow.nil_ _ _ _ _, hv1⟩
  case round =>
    clear hv1
    obtain ⟨k, T, c', hk, rfl, rfl, rfl, hown, hbr⟩ := hrel
    have hz := hbr.size
    have hGw := hb0.trans (hbr.mono hzW)
    have hsr := blk_below hbxH.out hbr
    have hltx := blk_lt hsr
    have s11 := blk_cell hsr 11
    simp at s11
    by_cases hlt : k < n
    · obtain ⟨bA, oA, u, rfl, hbA, hq, hcp⟩ := (hAr.out wr hGw).1.at_ hlt
      have p0 := hcp 0 _ rfl
      have p1 := hcp 1 _ rfl
      have p2 := hcp 2 _ rfl
      have p3 := hcp 3 _ rfl
      have p4 := hcp 4 _ rfl
      have p5 := hcp 5 _ rfl
      have p6 := hcp 6 _ rfl
      have p7 := hcp 7 _ rfl
      have p8 := hcp 8 _ rfl
      have p9 := hcp 9 _ rfl
      rw [Nat.add_zero] at p0
      clear hcp hsr
      have hlti : (k : Int) < (n : Int) := by omega
      have hbA2 : bA < wr.heap.size := by omega
      have hst : Hid (((xs.take (k + 1)).map Pe.key).map encS = ((xs.take k).map Pe.key).map encS ++ [[.string (bs u.key)]]) := Lib.hid (by rw [List.take_add_one, hq]; simp [encS])
      have hlk : Hid ((((xs.take k).map Pe.key).map encS).length = k) := Lib.hid (by simp; have := hnl.out; omega)
      clear hq
      have hbO : Below wr.heap.size wr ((wr.alloc (.cells #[.string (bs u.key), .int .i64 u.e.act, .string (bs u.e.name), .int .i64 u.e.val, .int .i64 u.e.tag.1.1, .int .u32 u.e.tag.1.2, .int .i64 u.e.tag.2, .int .u32 u.e.st.1, .int .i64 u.e.st.2, .slice u.A u.l u.c] 101)).alloc (.cells #[.string (bs u.key)] 9)) := ((Below.refl _ wr).alloc (Nat.le_refl _) _).alloc (by simp) _
      have hlen1 : ∀ y ∈ ([[.string (bs u.key)]] : List (List Value)), y.length = 1 := by simp
      have hone1 : ∀ y ∈ ([[.string (bs u.key)]] : List (List Value)), ∀ v ∈ y, v.oneCell' = true := by simp [Value.oneCell']
      go_wp2_with (at_builtin; refine wpList_append_rd _ rfl _ _ _ rfl eStr (base := W.heap.size) (v := .slice T k c') (xs := ((xs.take k).map Pe.key).map encS) rfl (hown.below hbO) rfl (Rd.one' [.string (bs u.key)] (by simp)) hlen1 hone1 (by rw [hlk.out]; unfold maxLen; omega) (by rw [hlk.out]; omega) (by simp; omega) ?_; intro A2 n2 c2 w4 hn2 hown4 hg4 hat4; (obtain rfl : n2 = k + 1 := (by rw [hn2, hlk.out])); clear hn2)
      have hG : Below W.heap.size W w4 := ((hbr.alloc hz _).alloc (by simp; omega) _).grown hg4 (by simp; omega) (fun g e => (hown.block g e).1)
      go_roundg (n + 1 - (k + 1))
      case measure => omega
      case rel => exact ⟨k + 1, A2, c2, by omega, rfl, by go_num, rfl, by rw [hst.out]; exact hown4, hG⟩
    · obtain rfl : k = n := by omega
      have hnli : ¬ (k : Int) < (k : Int) := by omega
      rw [List.take_of_length_le (by have := hnl.out; omega)] at hown
      have cs := Lib.hid (sortS_any W.heap.size T k c' (xs.map Pe.key) wr hown (by omega))
      have hbk := hown.block
      clear hsr s11 hltx
      go_wp2_with fail
      refine cs.out.mono ?_
      rintro e w2 ⟨rfl, ho2, hg2⟩
      have cc := Lib.hid (compactS_any W.heap.size T k c' (sortS (xs.map Pe.key)) w2 ho2 (by omega))
      go_wp2_with fail
      refine cc.out.mono ?_
      rintro e w3 ⟨n3, rfl, ho3, hg3⟩
      have hT : Hid (Lib.compact (sortS (xs.map Pe.key)) = out) := Lib.hid (by rw [sorted_ins]; exact hrH.out)
      rw [hT.out] at ho3
      have hG2 : Below W.heap.size W w2 := hbr.grown hg2 hz (fun g e => (hbk g e).1)
      have hG3 : Below W.heap.size W w3 := hG2.grown hg3 hG2.size (fun g e => (hbk g e).1)
      go_wp2
      go_ret
      exact ⟨T, n3, c', rfl, ho3.base hzW, hb0.trans (hG3.mono hzW)⟩
set_option maxRecDepth 100000 in
set_option maxHeartbeats 4000000 in
theorem rtxkeys_any (x : Im) (v : Vm) (t0 : Bool) (A : Option Addr) (n c : Nat) (xs : List Pe) (w : World) (hA : RdE w w.heap.size A n xs) (hn : n ≤ 1000) :
    Calls Tryz.prog 23 #[.agg #[.int .i64 x.1, .int .u32 x.2, .int .u32 v.d0, .int .u32 v.d1, .int .u32 v.d2, .int .u32 v.d3, .int .u32 v.d4, .int .u32 v.d5, .int .u32 v.d6, .int .u32 v.d7, .bool t0, .slice A n c]] w fun r w' => ∃ T t c', r = .returned (.slice T t c') ∧ Ow w' w.heap.size 9 1 (.slice T t c') ((keysT (xs.map Pe.core)).map encS) ∧ Below w.heap.size w w' := by
  have hb0 : Below w.heap.size w (w.alloc (.cells #[.int .i64 x.1, .int .u32 x.2, .int .u32 v.d0, .int .u32 v.d1, .int .u32 v.d2, .int .u32 v.d3, .int .u32 v.d4, .int .u32 v.d5, .int .u32 v.d6, .int .u32 v.d7, .bool t0, .slice A n c] 29)) := (Below.refl _ w).alloc (Nat.le_refl _) _
  have hbx : (w.alloc (.cells #[.int .i64 x.1, .int .u32 x.2, .int .u32 v.d0, .int .u32 v.d1, .int .u32 v.d2, .int .u32 v.d3, .int .u32 v.d4, .int .u32 v.d5, .int .u32 v.d6, .int .u32 v.d7, .bool t0, .slice A n c] 29)).heap[w.heap.size]? = some (.cells #[.int .i64 x.1, .int .u32 x.2, .int .u32 v.d0, .int .u32 v.d1, .int .u32 v.d2, .int .u32 v.d3, .int .u32 v.d4, .int .u32 v.d5, .int .u32 v.d6, .int .u32 v.d7, .bool t0, .slice A n c] 29 (0, 0)) := heap_at _ _ rfl
  generalize hW : w.alloc (.cells #[.int .i64 x.1, .int .u32 x.2, .int .u32 v.d0, .int .u32 v.d1, .int .u32 v.d2, .int .u32 v.d3, .int .u32 v.d4, .int .u32 v.d5, .int .u32 v.d6, .int .u32 v.d7, .bool t0, .slice A n c] 29) = W at hb0 hbx
  have hbxH := Lib.hid hbx
  have hltx := blk_lt hbx
  have s11 := blk_cell hbx 11
  simp at s11
  have hnl := Lib.hid hA.len
  have hAr := Lib.hid (fun w' (h : Below w.heap.size w w') => hA.below h)
  have hv1 : Below W.heap.size W W := Below.refl _ _
  generalize hr : keysT (xs.map Pe.core) = out
  have hrH : Hid ((xs.map Pe.key).foldl insS [] = out) := Lib.hid (by rw [← hr]; unfold keysT; rw [List.map_map]; rfl)
  have hzW := hb0.size
  clear hr hbx hA
  go_enter Tryz.func23, Tryz.ntmps23
  go_wp2_with fail
  clear s11 hltx
  go_loopg [3, 4] (n + 1) (fun g o i wr => ∃ (k t : Nat) (T : Option Addr) (c' : Nat), k ≤ n ∧ g = n + 1 - k ∧ i = .int .i64 (k : Int) ∧ o = .slice T t c' ∧ Ow wr W.heap.size 9 1 (.slice T t c') ((((xs.take k).map Pe.key).foldl insS []).map encS) ∧ Below W.heap.size W wr)
  case atStart => exact ⟨0, 0, none, 0, Nat.zero_le _, rfl, rfl, rfl, Ow.nil_ _ _ _ _, hv1⟩
  case round =>
    clear hv1
    obtain ⟨k, t, T, c', hk, rfl, rfl, rfl, hown, hbr⟩ := hrel
    have hz := hbr.size
    have hGw := hb0.trans (hbr.mono hzW)
    have hsr := blk_below hbxH.out hbr
    have hltx := blk_lt hsr
    have s11 := blk_cell hsr 11
    simp at s11
    by_cases hlt : k < n
    · obtain ⟨bA, oA, u, rfl, hbA, hq, hcp⟩ := (hAr.out wr hGw).1.at_ hlt
      have p0 := hcp 0 _ rfl
      have p1 := hcp 1 _ rfl
      have p2 := hcp 2 _ rfl
      have p3 := hcp 3 _ rfl
      have p4 := hcp 4 _ rfl
      have p5 := hcp 5 _ rfl
      have p6 := hcp 6 _ rfl
      have p7 := hcp 7 _ rfl
      have p8 := hcp 8 _ rfl
      have p9 := hcp 9 _ rfl
      rw [Nat.add_zero] at p0
      clear hcp hsr
      have hlti : (k : Int) < (n : Int) := by omega
      have hbA2 : bA < wr.heap.size := by omega
      have hst : Hid (((xs.take (k + 1)).map Pe.key).foldl insS [] = insS (((xs.take k).map Pe.key).foldl insS []) u.key) := Lib.hid (by rw [List.take_add_one, hq]; simp)
      have hil := insAll_len ((xs.take k).map Pe.key) []
      rw [List.length_map, List.length_take, List.length_nil] at hil
      clear hq
      generalize ((xs.take k).map Pe.key).foldl insS [] = L at hown hst hil
      have hLl : L.length = t := by simpa using hown.rd.2.1
      have htk : t ≤ k := by omega
      have htc := hown.rd.2.2.1
      have hcm := hown.rd.2.2.2
      unfold maxLen at hcm
      have hLH := Lib.hid hLl
      have hRd := Lib.hid hown.rd.1
      clear hLl hil
      go_wp2_with fail
      clear p0 p1 p2 p3 p4 p5 p6 p7 p8 p9 s11 hltx
      obtain ⟨wo, hwo⟩ : ∃ wo, wr = wo := ⟨_, rfl⟩
      subst hwo
      go_loopg [6] (t + 1) (fun g i wq => (∃ q : Nat, q ≤ t ∧ g = t + 1 - q ∧ i = .int .i64 (q : Int) ∧ (∀ x ∈ L.take q, x < u.key)) ∧ wr = wq)
      case atStart => exact ⟨⟨0, Nat.zero_le _, rfl, rfl, by simp⟩, rfl⟩
      case round =>
        obtain ⟨⟨q, hq, rfl, rfl, hless⟩, rfl⟩ := hrel
        have hlessH := Lib.hid hless
        clear hless
        by_cases hqt : q < t
        · obtain ⟨bT, oT, y, rfl, hbT, hy, hcy⟩ := hRd.out.at_ hqt
          have y0 := hcy 0 _ rfl
          rw [Nat.add_zero, Nat.mul_one] at y0
          have hyH := Lib.hid hy
          clear hcy hy
          have hqti : (q : Int) < (t : Int) := by omega
          by_cases hyx : y < u.key
          · have hcmp : Op.bytesLess (bs y).toList (bs u.key).toList = true := by rw [bytesLess_k]; exact decide_eq_true hyx
            have hT : Hid (∀ x ∈ L.take (q + 1), x < u.key) := Lib.hid (all_take_succ hlessH.out hyH.out hyx)
            go_wp2
            go_roundg (t + 1 - (q + 1))
            case measure => omega
            case rel => exact ⟨⟨q + 1, by omega, rfl, by go_num, hT.out⟩, rfl⟩
          · have hcmp : Op.bytesLess (bs y).toList (bs u.key).toList = false := by rw [bytesLess_k]; exact decide_eq_false hyx
            have hpos : Hid (q = posS L u.key) := Lib.hid (posS_of hlessH.out (fun x hx => by rw [hyH.out] at hx; injection hx with hx; rw [← hx]; exact hyx) (by have := hLH.out; omega))
            by_cases heq : y = u.key
            · have hqb : ((bs y).toList == (bs u.key).toList) = true := by rw [bs_toL, bs_toL, heq]; simp
              have hT : Hid (insS L u.key = L) := Lib.hid (by unfold insS; rw [if_pos]; rw [← hpos.out, hyH.out, heq])
              clear heq hyx
              go_wp2
              go_roundg (n + 1 - (k + 1))
              case measure => omega
              case rel => exact ⟨k + 1, t, _, c', by omega, rfl, by go_num, rfl, by rw [hst.out, hT.out]; exact hown, hbr⟩
            · have hqb : ((bs y).toList == (bs u.key).toList) = false := by rw [bs_toL, bs_toL, beq_eq_false_iff_ne]; exact heq
              have hT : Hid (insS L u.key = L.take q ++ u.key :: L.drop q) := Lib.hid (by unfold insS; rw [if_neg, ← hpos.out]; rw [← hpos.out, hyH.out]; intro e; injection e with e; exact heq e)
              clear heq hyx
              have r1 : RdS wr wr.heap.size (some ⟨bT, oT, none⟩) q (L.take q) := by
                have := hRd.out.frontK (q := q) (by omega)
                rw [← List.map_take] at this; exact this
              have r3 : RdS wr wr.heap.size (some ⟨bT, oT + q, none⟩) (t - q) (L.drop q) := by
                have := hRd.out.backK (q := q) (by omega)
                rw [Nat.mul_one, ← List.map_drop] at this; exact this
              have hl5H : Hid (((L.take q).map encS).length = q) := Lib.hid (by rw [List.length_map, List.length_take]; have := hLH.out; omega)
              have r1H := Lib.hid r1
              have r3H := Lib.hid r3
              clear r1 r3
              have e1H := Lib.hid (r1H.out.below ((Below.refl _ wr).alloc (Nat.le_refl _) (.cells #[] 9)))
              have e2H : Hid (0 + q ≤ maxLen ∧ (0 + q) * 16 ≤ 140737488355328 ∧ wr.heap.size ≤ (wr.alloc (.cells #[] 9)).heap.size) := Lib.hid ⟨by (simp [maxLen]; try omega), by (first | omega | decide | simp), by simp⟩
              go_upto_region 11 with ((at_builtin; refine wpList_append_rd _ rfl (.tmp 47) (.tmp 50) _ rfl eStr (base := wr.heap.size) (v := .slice (some ⟨wr.heap.size, 0, none⟩) 0 0) (xs := []) rfl (Ow.made0 _ _ _ (Nat.le_refl _)) rfl e1H.out encS_len encS_one e2H.out.1 e2H.out.2.1 e2H.out.2.2 ?_; intro A5 n5 c5 w5 hn5 ho5 hg5 hat5; (obtain rfl : q = n5 := by rw [hn5]; simp); clear hn5 hat5; rw [List.nil_append] at ho5))
              have hb5 : Below wr.heap.size wr w5 := ((Below.refl _ wr).alloc (Nat.le_refl _) _).grown hg5 (by simp) (fun g e => by simp [Value.ownBlock] at e; omega)
              have hz5 := hb5.size
              have e3H := Lib.hid (ho5.below ((Below.refl _ w5).alloc (Nat.le_refl _) (.cells #[.string (bs u.key)] 9)))
              have e4H : Hid (((L.take q).map encS).length + 1 ≤ maxLen ∧ (((L.take q).map encS).length + 1) * 16 ≤ 140737488355328 ∧ wr.heap.size ≤ (w5.alloc (.cells #[.string (bs u.key)] 9)).heap.size) := Lib.hid ⟨by (rw [hl5H.out]; simp [maxLen]; try omega), by (rw [hl5H.out]; try omega), by (simp; omega)⟩
              have hlen1 : ∀ y ∈ ([[.string (bs u.key)]] : List (List Value)), y.length = 1 := by simp
              have hone1 : ∀ y ∈ ([[.string (bs u.key)]] : List (List Value)), ∀ v ∈ y, v.oneCell' = true := by simp [Value.oneCell']
              have hbk5 := ho5.block
              clear e1H e2H hg5 ho5
              go_upto_region 12 with ((at_builtin; refine wpList_append_rd _ rfl (.tmp 52) (.tmp 54) _ rfl eStr (base := wr.heap.size) (v := .slice A5 q c5) (xs := (L.take q).map encS) rfl e3H.out rfl (Rd.one' [.string (bs u.key)] rfl) hlen1 hone1 e4H.out.1 e4H.out.2.1 e4H.out.2.2 ?_; intro A6 n6 c6 w6 hn6 ho6 hg6 hat6; (obtain rfl : n6 = q + 1 := by rw [hn6, hl5H.out]); clear hn6 hat6))
              have hb6 : Below wr.heap.size wr w6 := (hb5.trans (((Below.refl _ w5).alloc (Nat.le_refl _) _).mono hz5)).grown hg6 (by simp; omega) (fun g e => (hbk5 g e).1)
              have hz6 := hb6.size
              have hl6 : ((L.take q).map encS ++ [([.string (bs u.key)] : List Value)]).length = q + 1 := by rw [List.length_append, hl5H.out]; rfl
              have e5H : Hid (((L.take q).map encS ++ [([.string (bs u.key)] : List Value)]).length + (t - q) ≤ maxLen ∧ (((L.take q).map encS ++ [([.string (bs u.key)] : List Value)]).length + (t - q)) * 16 ≤ 140737488355328) := Lib.hid ⟨by (rw [hl6]; simp [maxLen]; try omega), by (rw [hl6]; try omega)⟩
              have e6H := Lib.hid (r3H.out.below hb6)
              have hbk6 := ho6.block
              have hl6H := Lib.hid hl6
              clear e3H e4H hg6 hl6
              go_wp2_with ((at_builtin; refine wpList_append_rd _ rfl (.tmp 56) (.tmp 59) _ rfl eStr (base := wr.heap.size) (v := .slice A6 (q + 1) c6) (xs := (L.take q).map encS ++ [([.string (bs u.key)] : List Value)]) rfl ho6 rfl e6H.out encS_len encS_one e5H.out.1 e5H.out.2 hz6 ?_; intro A7 n7 c7 w7 hn7 ho7 hg7 hat7; (obtain rfl : n7 = q + 1 + (t - q) := by rw [hn7, hl6H.out]); clear hn7 hat7))
              have hb7 : Below wr.heap.size wr w7 := hb6.grown hg7 hz6 (fun g e => (hbk6 g e).1)
              have hG7 : Below W.heap.size W w7 := hbr.trans (hb7.mono hz)
              have hins : Hid ((insS L u.key).map encS = (L.take q).map encS ++ [([.string (bs u.key)] : List Value)] ++ (L.drop q).map encS) := Lib.hid (by rw [hT.out]; simp [encS])
              go_roundg (n + 1 - (k + 1))
              case measure => omega
              case rel => exact ⟨k + 1, q + 1 + (t - q), A7, c7, by omega, rfl, by go_num, rfl, by rw [hst.out, hins.out]; exact ho7.base hz, hG7⟩
        · have hqe : q = t := by omega
          have hnli : ¬ (q : Int) < (t : Int) := by omega
          have hpos : Hid (q = posS L u.key) := Lib.hid (posS_of hlessH.out (fun x hx => by have := (List.getElem?_eq_some_iff.1 hx).1; have := hLH.out; omega) (by have := hLH.out; omega))
          have hT : Hid (insS L u.key = L.take q ++ u.key :: L.drop q) := Lib.hid (by unfold insS; rw [if_neg, ← hpos.out]; rw [← hpos.out, List.getElem?_eq_none (by have := hLH.out; omega)]; intro e; cases e)
          have hl5H : Hid (((L.take q).map encS).length = q) := Lib.hid (by rw [List.length_map, List.length_take]; have := hLH.out; omega)
          have r3H : ∀ A : Option Addr, Hid (RdS wr wr.heap.size A (t - q) (L.drop q)) := fun A => Lib.hid ⟨by rw [List.length_map, List.length_drop]; have := hLH.out; omega, fun h => absurd h (by omega)⟩
          have r1H : Hid (RdS wr wr.heap.size T q (L.take q)) := Lib.hid (by
            have := hRd.out.frontK (q := q) (by omega)
            rw [← List.map_take] at this; exact this)
          rcases hown.2.2 with ⟨hv, h0⟩ | ⟨g, cap, cur, hv, hgb, hgg, _⟩
          · injection hv with h1 h2 h3
            obtain rfl : t = 0 := by have := hLH.out; omega
            subst h1
            subst h3
            subst hqe
            clear hnli h2 h0
            have r3H := r3H none
            have e1H := Lib.hid (r1H.out.below ((Below.refl _ wr).alloc (Nat.le_refl _) (.cells #[] 9)))
            have e2H : Hid (0 + 0 ≤ maxLen ∧ (0 + 0) * 16 ≤ 140737488355328 ∧ wr.heap.size ≤ (wr.alloc (.cells #[] 9)).heap.size) := Lib.hid ⟨by (simp [maxLen]; try omega), by (first | omega | decide | simp), by simp⟩
            go_upto_region 11 with ((at_builtin; refine wpList_append_rd _ rfl (.tmp 47) (.tmp 50) _ rfl eStr (base := wr.heap.size) (v := .slice (some ⟨wr.heap.size, 0, none⟩) 0 0) (xs := []) rfl (Ow.made0 _ _ _ (Nat.le_refl _)) rfl e1H.out encS_len encS_one e2H.out.1 e2H.out.2.1 e2H.out.2.2 ?_; intro A5 n5 c5 w5 hn5 ho5 hg5 hat5; (obtain rfl : 0 = n5 := by rw [hn5]; simp); clear hn5 hat5; rw [List.nil_append] at ho5))
            have hb5 : Below wr.heap.size wr w5 := ((Below.refl _ wr).alloc (Nat.le_refl _) _).grown hg5 (by simp) (fun g e => by simp [Value.ownBlock] at e; omega)
            have hz5 := hb5.size
            have e3H := Lib.hid (ho5.below ((Below.refl _ w5).alloc (Nat.le_refl _) (.cells #[.string (bs u.key)] 9)))
            have e4H : Hid (((L.take 0).map encS).length + 1 ≤ maxLen ∧ (((L.take 0).map encS).length + 1) * 16 ≤ 140737488355328 ∧ wr.heap.size ≤ (w5.alloc (.cells #[.string (bs u.key)] 9)).heap.size) := Lib.hid ⟨by (rw [hl5H.out]; simp [maxLen]; try omega), by (rw [hl5H.out]; try omega), by (simp; omega)⟩
            have hlen1 : ∀ y ∈ ([[.string (bs u.key)]] : List (List Value)), y.length = 1 := by simp
            have hone1 : ∀ y ∈ ([[.string (bs u.key)]] : List (List Value)), ∀ v ∈ y, v.oneCell' = true := by simp [Value.oneCell']
            have hbk5 := ho5.block
            clear e1H e2H hg5 ho5
            go_upto_region 12 with ((at_builtin; refine wpList_append_rd _ rfl (.tmp 52) (.tmp 54) _ rfl eStr (base := wr.heap.size) (v := .slice A5 0 c5) (xs := (L.take 0).map encS) rfl e3H.out rfl (Rd.one' [.string (bs u.key)] rfl) hlen1 hone1 e4H.out.1 e4H.out.2.1 e4H.out.2.2 ?_; intro A6 n6 c6 w6 hn6 ho6 hg6 hat6; (obtain rfl : n6 = 0 + 1 := by rw [hn6, hl5H.out]); clear hn6 hat6))
            have hb6 : Below wr.heap.size wr w6 := (hb5.trans (((Below.refl _ w5).alloc (Nat.le_refl _) _).mono hz5)).grown hg6 (by simp; omega) (fun g e => (hbk5 g e).1)
            have hz6 := hb6.size
            have hl6 : ((L.take 0).map encS ++ [([.string (bs u.key)] : List Value)]).length = 0 + 1 := by rw [List.length_append, hl5H.out]; rfl
            have e5H : Hid (((L.take 0).map encS ++ [([.string (bs u.key)] : List Value)]).length + 0 ≤ maxLen ∧ (((L.take 0).map encS ++ [([.string (bs u.key)] : List Value)]).length + 0) * 16 ≤ 140737488355328) := Lib.hid ⟨by (rw [hl6]; simp [maxLen]; try omega), by (rw [hl6]; try omega)⟩
            have e6H := Lib.hid (r3H.out.below hb6)
            have hbk6 := ho6.block
            have hl6H := Lib.hid hl6
            clear e3H e4H hg6 hl6
            go_wp2_with ((at_builtin; refine wpList_append_rd _ rfl (.tmp 56) (.tmp 59) _ rfl eStr (base := wr.heap.size) (v := .slice A6 (0 + 1) c6) (xs := (L.take 0).map encS ++ [([.string (bs u.key)] : List Value)]) rfl ho6 rfl e6H.out encS_len encS_one e5H.out.1 e5H.out.2 hz6 ?_; intro A7 n7 c7 w7 hn7 ho7 hg7 hat7; (obtain rfl : n7 = 0 + 1 + 0 := by rw [hn7, hl6H.out]); clear hn7 hat7))
            have hb7 : Below wr.heap.size wr w7 := hb6.grown hg7 hz6 (fun g e => (hbk6 g e).1)
            have hG7 : Below W.heap.size W w7 := hbr.trans (hb7.mono hz)
            have hins : Hid ((insS L u.key).map encS = (L.take 0).map encS ++ [([.string (bs u.key)] : List Value)] ++ (L.drop 0).map encS) := Lib.hid (by rw [hT.out]; simp [encS])
            go_roundg (n + 1 - (k + 1))
            case measure => omega
            case rel => exact ⟨k + 1, 0 + 1 + 0, A7, c7, by omega, rfl, by go_num, rfl, by rw [hst.out, hins.out]; exact ho7.base hz, hG7⟩
          · injection hv with h1 h2 h3
            subst h1
            subst h3
            have hqeH := Lib.hid hqe
            have hqt1 : (q : Int) ≤ (t : Int) := by omega
            clear hqe h2
            by_cases hcq : c' = q
            · have r3H := r3H (some ⟨g, 0, none⟩)
              obtain rfl : c' = t := by have := hqeH.out; omega
              obtain rfl : c' = q := hcq
              clear hqeH
              have r3H : Hid (RdS wr wr.heap.size (some ⟨g, 0, none⟩) 0 (L.drop c')) := by have := r3H; rw [Nat.sub_self] at this; exact this
              have e1H := Lib.hid (r1H.out.below ((Below.refl _ wr).alloc (Nat.le_refl _) (.cells #[] 9)))
              have e2H : Hid (0 + c' ≤ maxLen ∧ (0 + c') * 16 ≤ 140737488355328 ∧ wr.heap.size ≤ (wr.alloc (.cells #[] 9)).heap.size) := Lib.hid ⟨by (simp [maxLen]; try omega), by (first | omega | decide | simp), by simp⟩
              go_upto_region 11 with ((at_builtin; refine wpList_append_rd _ rfl (.tmp 47) (.tmp 50) _ rfl eStr (base := wr.heap.size) (v := .slice (some ⟨wr.heap.size, 0, none⟩) 0 0) (xs := []) rfl (Ow.made0 _ _ _ (Nat.le_refl _)) rfl e1H.out encS_len encS_one e2H.out.1 e2H.out.2.1 e2H.out.2.2 ?_; intro A5 n5 c5 w5 hn5 ho5 hg5 hat5; (obtain rfl : c' = n5 := by rw [hn5]; simp); clear hn5 hat5; rw [List.nil_append] at ho5))
              have hb5 : Below wr.heap.size wr w5 := ((Below.refl _ wr).alloc (Nat.le_refl _) _).grown hg5 (by simp) (fun g e => by simp [Value.ownBlock] at e; omega)
              have hz5 := hb5.size
              have e3H := Lib.hid (ho5.below ((Below.refl _ w5).alloc (Nat.le_refl _) (.cells #[.string (bs u.key)] 9)))
              have e4H : Hid (((L.take c').map encS).length + 1 ≤ maxLen ∧ (((L.take c').map encS).length + 1) * 16 ≤ 140737488355328 ∧ wr.heap.size ≤ (w5.alloc (.cells #[.string (bs u.key)] 9)).heap.size) := Lib.hid ⟨by (rw [hl5H.out]; simp [maxLen]; try omega), by (rw [hl5H.out]; try omega), by (simp; omega)⟩
              have hlen1 : ∀ y ∈ ([[.string (bs u.key)]] : List (List Value)), y.length = 1 := by simp
              have hone1 : ∀ y ∈ ([[.string (bs u.key)]] : List (List Value)), ∀ v ∈ y, v.oneCell' = true := by simp [Value.oneCell']
              have hbk5 := ho5.block
              clear e1H e2H hg5 ho5
              go_upto_region 12 with ((at_builtin; refine wpList_append_rd _ rfl (.tmp 52) (.tmp 54) _ rfl eStr (base := wr.heap.size) (v := .slice A5 c' c5) (xs := (L.take c').map encS) rfl e3H.out rfl (Rd.one' [.string (bs u.key)] rfl) hlen1 hone1 e4H.out.1 e4H.out.2.1 e4H.out.2.2 ?_; intro A6 n6 c6 w6 hn6 ho6 hg6 hat6; (obtain rfl : n6 = c' + 1 := by rw [hn6, hl5H.out]); clear hn6 hat6))
              have hb6 : Below wr.heap.size wr w6 := (hb5.trans (((Below.refl _ w5).alloc (Nat.le_refl _) _).mono hz5)).grown hg6 (by simp; omega) (fun g e => (hbk5 g e).1)
              have hz6 := hb6.size
              have hl6 : ((L.take c').map encS ++ [([.string (bs u.key)] : List Value)]).length = c' + 1 := by rw [List.length_append, hl5H.out]; rfl
              have e5H : Hid (((L.take c').map encS ++ [([.string (bs u.key)] : List Value)]).length + 0 ≤ maxLen ∧ (((L.take c').map encS ++ [([.string (bs u.key)] : List Value)]).length + 0) * 16 ≤ 140737488355328) := Lib.hid ⟨by (rw [hl6]; simp [maxLen]; try omega), by (rw [hl6]; try omega)⟩
              have e6H := Lib.hid (r3H.out.below hb6)
              have hbk6 := ho6.block
              have hl6H := Lib.hid hl6
              clear e3H e4H hg6 hl6
              go_wp2_with ((at_builtin; refine wpList_append_rd _ rfl (.tmp 56) (.tmp 59) _ rfl eStr (base := wr.heap.size) (v := .slice A6 (c' + 1) c6) (xs := (L.take c').map encS ++ [([.string (bs u.key)] : List Value)]) rfl ho6 rfl e6H.out encS_len encS_one e5H.out.1 e5H.out.2 hz6 ?_; intro A7 n7 c7 w7 hn7 ho7 hg7 hat7; (obtain rfl : n7 = c' + 1 + 0 := by rw [hn7, hl6H.out]); clear hn7 hat7))
              have hb7 : Below wr.heap.size wr w7 := hb6.grown hg7 hz6 (fun g e => (hbk6 g e).1)
              have hG7 : Below W.heap.size W w7 := hbr.trans (hb7.mono hz)
              have hins : Hid ((insS L u.key).map encS = (L.take c').map encS ++ [([.string (bs u.key)] : List Value)] ++ (L.drop c').map encS) := Lib.hid (by rw [hT.out]; simp [encS])
              go_roundg (n + 1 - (k + 1))
              case measure => omega
              case rel => exact ⟨k + 1, c' + 1 + 0, A7, c7, by omega, rfl, by go_num, rfl, by rw [hst.out, hins.out]; exact ho7.base hz, hG7⟩
            · have r3H := r3H (some ⟨g, q, none⟩)
              have hcq2 : (c' == q) = false := by rw [beq_eq_false_iff_ne]; exact hcq
              have hcq3 : ¬ q = c' := fun e => hcq e.symm
              have hcq4 : (q : Int) ≤ (c' : Int) := by omega
              have e1H := Lib.hid (r1H.out.below ((Below.refl _ wr).alloc (Nat.le_refl _) (.cells #[] 9)))
              have e2H : Hid (0 + q ≤ maxLen ∧ (0 + q) * 16 ≤ 140737488355328 ∧ wr.heap.size ≤ (wr.alloc (.cells #[] 9)).heap.size) := Lib.hid ⟨by (simp [maxLen]; try omega), by (first | omega | decide | simp), by simp⟩
              go_upto_region 11 with ((at_builtin; refine wpList_append_rd _ rfl (.tmp 47) (.tmp 50) _ rfl eStr (base := wr.heap.size) (v := .slice (some ⟨wr.heap.size, 0, none⟩) 0 0) (xs := []) rfl (Ow.made0 _ _ _ (Nat.le_refl _)) rfl e1H.out encS_len encS_one e2H.out.1 e2H.out.2.1 e2H.out.2.2 ?_; intro A5 n5 c5 w5 hn5 ho5 hg5 hat5; (obtain rfl : q = n5 := by rw [hn5]; simp); clear hn5 hat5; rw [List.nil_append] at ho5))
              have hb5 : Below wr.heap.size wr w5 := ((Below.refl _ wr).alloc (Nat.le_refl _) _).grown hg5 (by simp) (fun g e => by simp [Value.ownBlock] at e; omega)
              have hz5 := hb5.size
              have e3H := Lib.hid (ho5.below ((Below.refl _ w5).alloc (Nat.le_refl _) (.cells #[.string (bs u.key)] 9)))
              have e4H : Hid (((L.take q).map encS).length + 1 ≤ maxLen ∧ (((L.take q).map encS).length + 1) * 16 ≤ 140737488355328 ∧ wr.heap.size ≤ (w5.alloc (.cells #[.string (bs u.key)] 9)).heap.size) := Lib.hid ⟨by (rw [hl5H.out]; simp [maxLen]; try omega), by (rw [hl5H.out]; try omega), by (simp; omega)⟩
              have hlen1 : ∀ y ∈ ([[.string (bs u.key)]] : List (List Value)), y.length = 1 := by simp
              have hone1 : ∀ y ∈ ([[.string (bs u.key)]] : List (List Value)), ∀ v ∈ y, v.oneCell' = true := by simp [Value.oneCell']
              have hbk5 := ho5.block
              clear e1H e2H hg5 ho5
              go_upto_region 12 with ((at_builtin; refine wpList_append_rd _ rfl (.tmp 52) (.tmp 54) _ rfl eStr (base := wr.heap.size) (v := .slice A5 q c5) (xs := (L.take q).map encS) rfl e3H.out rfl (Rd.one' [.string (bs u.key)] rfl) hlen1 hone1 e4H.out.1 e4H.out.2.1 e4H.out.2.2 ?_; intro A6 n6 c6 w6 hn6 ho6 hg6 hat6; (obtain rfl : n6 = q + 1 := by rw [hn6, hl5H.out]); clear hn6 hat6))
              have hb6 : Below wr.heap.size wr w6 := (hb5.trans (((Below.refl _ w5).alloc (Nat.le_refl _) _).mono hz5)).grown hg6 (by simp; omega) (fun g e => (hbk5 g e).1)
              have hz6 := hb6.size
              have hl6 : ((L.take q).map encS ++ [([.string (bs u.key)] : List Value)]).length = q + 1 := by rw [List.length_append, hl5H.out]; rfl
              have e5H : Hid (((L.take q).map encS ++ [([.string (bs u.key)] : List Value)]).length + (t - q) ≤ maxLen ∧ (((L.take q).map encS ++ [([.string (bs u.key)] : List Value)]).length + (t - q)) * 16 ≤ 140737488355328) := Lib.hid ⟨by (rw [hl6]; simp [maxLen]; try omega), by (rw [hl6]; try omega)⟩
              have e6H := Lib.hid (r3H.out.below hb6)
              have hbk6 := ho6.block
              have hl6H := Lib.hid hl6
              clear e3H e4H hg6 hl6
              go_wp2_with ((at_builtin; refine wpList_append_rd _ rfl (.tmp 56) (.tmp 59) _ rfl eStr (base := wr.heap.size) (v := .slice A6 (q + 1) c6) (xs := (L.take q).map encS ++ [([.string (bs u.key)] : List Value)]) rfl ho6 rfl e6H.out encS_len encS_one e5H.out.1 e5H.out.2 hz6 ?_; intro A7 n7 c7 w7 hn7 ho7 hg7 hat7; (obtain rfl : n7 = q + 1 + (t - q) := by rw [hn7, hl6H.out]); clear hn7 hat7))
              have hb7 : Below wr.heap.size wr w7 := hb6.grown hg7 hz6 (fun g e => (hbk6 g e).1)
              have hG7 : Below W.heap.size W w7 := hbr.trans (hb7.mono hz)
              have hins : Hid ((insS L u.key).map encS = (L.take q).map encS ++ [([.string (bs u.key)] : List Value)] ++ (L.drop q).map encS) := Lib.hid (by rw [hT.out]; simp [encS])
              go_roundg (n + 1 - (k + 1))
              case measure => omega
              case rel => exact ⟨k + 1, q + 1 + (t - q), A7, c7, by omega, rfl, by go_num, rfl, by rw [hst.out, hins.out]; exact ho7.base hz, hG7⟩
    · obtain rfl : k = n := by omega
      have hnli : ¬ (k : Int) < (k : Int) := by omega
      have hT : Hid (((xs.take k).map Pe.key).foldl insS [] = out) := Lib.hid (by rw [List.take_of_length_le (by have := hnl.out; omega)]; exact hrH.out)
      rw [hT.out] at hown
      clear hsr
      go_wp2
      go_ret
      exact ⟨T, t, c', rfl, hown.base hzW, hGw⟩
end Go.Proofs.YtpolplmniaoikaaGreatDoor
