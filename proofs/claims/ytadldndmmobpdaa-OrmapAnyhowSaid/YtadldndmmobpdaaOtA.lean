/- The additions of an element that hold: Tags, both; Has. -/
import Derived.Test.YtadldndmmobpdaaM27
import Derived.Test.YtadldndmmobpdaaM9
namespace Go.Proofs.Ytadldndmmobpdaa
open Go.RowKit

/-- The additions of an element that hold. -/
def tagsO (xs : List Am) (gs : List Tm) (e : List UInt8) : List Tm := if oErr xs gs ≠ 0 then [] else (xs.filter fun a => decide (a.2 = e)).map Prod.fst
def hasO (xs : List Am) (gs : List Tm) (e : List UInt8) : Bool := decide (0 < (tagsO xs gs e).length)
set_option maxRecDepth 100000 in
set_option maxHeartbeats 2000000 in
theorem otags_any (A : Option Addr) (n c : Nat) (xs : List Am) (B : Option Addr) (m d : Nat) (gs : List Tm) (e : List UInt8) (w : World) (hA : RdA w w.heap.size A n xs) (hB : RdT w w.heap.size B m gs) (hn : n ≤ 100000) (hm : m ≤ 100000) (hx : ∀ a ∈ xs, a.wf) (hg : ∀ t ∈ gs, t.wf) (hl : ∀ a ∈ xs, a.2.length ≤ maxLen) :
    Calls Try.prog 15 #[.agg #[.slice A n c, .slice B m d], .string (bs e)] w fun r w' => ∃ T t c', r = .returned (.slice T t c') ∧ Ow w' w.heap.size 79 3 (.slice T t c') ((tagsO xs gs e).map Tm.enc) ∧ Below w.heap.size w w' := by
  have hb0 : Below w.heap.size w (w.alloc (.cells #[.slice A n c, .slice B m d] 32)) := (Below.refl _ w).alloc (Nat.le_refl _) _
  have hbx : (w.alloc (.cells #[.slice A n c, .slice B m d] 32)).heap[w.heap.size]? = some (.cells #[.slice A n c, .slice B m d] 32 (0, 0)) := heap_at _ _ rfl
  generalize hW : w.alloc (.cells #[.slice A n c, .slice B m d] 32) = W at hb0 hbx
  have hbxH := Lib.hid hbx
  have hltx := blk_lt hbx
  have s0 := blk_cell hbx 0
  have s1 := blk_cell hbx 1
  simp at s0 s1
  have hnl := Lib.hid hA.len
  have hck := Lib.hid (ocheck_any A n c xs B m d gs W ((hA.below hb0).more hb0.size) ((hB.below hb0).more hb0.size) (by first | omega | (simp [maxLen]; omega)) (by first | omega | (simp [maxLen]; omega)) hx hg hl)
  have hAr := Lib.hid (fun w' (h : Below w.heap.size w w') => hA.below h)
  generalize hr : tagsO xs gs e = out
  unfold tagsO at hr
  generalize hpe : oErr xs gs = p at hck hr
  by_cases hp : p = 0
  case neg =>
    rw [if_pos hp] at hr
    subst hr
    have hpn : (p != 0) = true := by simpa using hp
    clear hpe hp hbx hA hB
    go_enter Try.func15, Try.ntmps15
    go_wp2_with fail
    refine hck.out.mono ?_
    rintro e w1 ⟨rfl, hv1⟩
    have hG := hb0.trans (hv1.mono hb0.size)
    go_wp2
    go_ret
    exact ⟨none, 0, 0, rfl, Ow.nil_ _ _ _ _, hG⟩
  subst hp
  rw [if_neg (by simp)] at hr
  have hrH := Lib.hid hr
  have hzW := hb0.size
  clear hpe hr hbx hA hB hx hg hl
  go_enter Try.func15, Try.ntmps15
  go_wp2_with fail
  refine hck.out.mono ?_
  rintro e' w1 ⟨rfl, hv1⟩
  have hs1 := blk_below hbxH.out hv1
  clear s0 s1
  have hltx := blk_lt hs1
  have s0 := blk_cell hs1 0
  have s1 := blk_cell hs1 1
  simp at s0 s1
  clear hck
  go_wp2_with fail
  clear s0 s1 hltx hs1
  go_loopg [5, 14] (n + 1) (fun g o i wr => ∃ (k t : Nat) (T : Option Addr) (c' : Nat), k ≤ n ∧ g = n + 1 - k ∧ i = .int .i64 (k : Int) ∧ o = .slice T t c' ∧ Ow wr W.heap.size 79 3 (.slice T t c') ((((xs.take k).filter fun a => decide (a.2 = e)).map Prod.fst).map Tm.enc) ∧ Below W.heap.size W wr)
  case atStart => exact ⟨0, 0, none, 0, Nat.zero_le _, rfl, rfl, rfl, Ow.nil_ _ _ _ _, hv1⟩
  case round =>
    clear hv1
    obtain ⟨k, t, T, c', hk, rfl, rfl, rfl, hown, hbr⟩ := hrel
    have hz := hbr.size
    have hGw := hb0.trans (hbr.mono hzW)
    have hsr := blk_below hbxH.out hbr
    have hltx := blk_lt hsr
    have s0 := blk_cell hsr 0
    have s1 := blk_cell hsr 1
    simp at s0 s1
    by_cases hlt : k < n
    · obtain ⟨bA, oA, u, rfl, hbA, hq, hcp⟩ := (hAr.out wr hGw).at_ hlt
      have p0 := hcp 0 _ rfl
      have p1 := hcp 1 _ rfl
      have p2 := hcp 2 _ rfl
      have p3 := hcp 3 _ rfl
      rw [Nat.add_zero] at p0
      clear hcp hsr
      have hlti : (k : Int) < (n : Int) := by omega
      have hbA2 : bA < wr.heap.size := by omega
      have htk : Hid (t ≤ k) := Lib.hid (by
        have h1 := hown.rd.2.1
        rw [List.length_map, List.length_map] at h1
        have h2 := List.length_filter_le (fun a : Am => decide (a.2 = e)) (xs.take k)
        rw [List.length_take] at h2
        omega)
      have hst := Lib.hid (filter_takeG (p := fun a : Am => decide (a.2 = e)) hq)
      have hlt2 : Hid (((((xs.take k).filter fun a => decide (a.2 = e)).map Prod.fst).map Tm.enc).length = t) := Lib.hid hown.rd.2.1
      clear hq
      by_cases heq : u.2 = e
      · have hqb : ((bs u.2).toList == (bs e).toList) = true := by rw [bs_empty, bs_empty, heq]; simp
        have hT : Hid (((((xs.take (k + 1)).filter fun a => decide (a.2 = e)).map Prod.fst).map Tm.enc) = ((((xs.take k).filter fun a => decide (a.2 = e)).map Prod.fst).map Tm.enc) ++ [[.int .i64 u.1.1.1, .int .u32 u.1.1.2, .int .i64 u.1.2]]) := Lib.hid (by rw [hst.out, decide_eq_true heq, if_pos rfl]; simp [Tm.enc])
        have hbO : Below wr.heap.size wr ((wr.alloc (.cells #[.int .i64 u.1.1.1, .int .u32 u.1.1.2, .int .i64 u.1.2, .string (bs u.2)] 83)).alloc (.cells #[.int .i64 u.1.1.1, .int .u32 u.1.1.2, .int .i64 u.1.2] 79)) := ((Below.refl _ wr).alloc (Nat.le_refl _) _).alloc (by simp) _
        have hlen1 : ∀ y ∈ ([[.int .i64 u.1.1.1, .int .u32 u.1.1.2, .int .i64 u.1.2]] : List (List Value)), y.length = 3 := by simp
        have hone1 : ∀ y ∈ ([[.int .i64 u.1.1.1, .int .u32 u.1.1.2, .int .i64 u.1.2]] : List (List Value)), ∀ v ∈ y, v.oneCell' = true := by simp [Value.oneCell']
        have hkn : k ≤ 100000 := by omega
        clear heq
        go_wp2_with (at_builtin; refine wpList_append_rd _ rfl _ _ _ rfl eTag (base := W.heap.size) (v := .slice T t c') (xs := (((xs.take k).filter fun a => decide (a.2 = e)).map Prod.fst).map Tm.enc) rfl (hown.below hbO) rfl (Rd.one' [.int .i64 u.1.1.1, .int .u32 u.1.1.2, .int .i64 u.1.2] (by first | rfl | simp)) hlen1 hone1 (by rw [hlt2.out]; have := htk.out; unfold maxLen; omega) (by rw [hlt2.out]; have := htk.out; omega) (by simp; omega) ?_; intro A2 n2 c2 w4 hn2 hown4 hg4 hat4; (obtain rfl : n2 = t + 1 := (by rw [hn2, hlt2.out])); clear hn2)
        have hG : Below W.heap.size W w4 := ((hbr.alloc hz _).alloc (by simp; omega) _).grown hg4 (by simp; omega) (fun g e => (hown.block g e).1)
        go_roundg (n + 1 - (k + 1))
        case measure => omega
        case rel => exact ⟨k + 1, t + 1, A2, c2, by omega, rfl, by go_num, rfl, by rw [hT.out]; exact hown4, hG⟩
      · have hqb : ((bs u.2).toList == (bs e).toList) = false := by rw [bs_empty, bs_empty, beq_eq_false_iff_ne]; exact heq
        have hT : Hid (((((xs.take (k + 1)).filter fun a => decide (a.2 = e)).map Prod.fst).map Tm.enc) = ((((xs.take k).filter fun a => decide (a.2 = e)).map Prod.fst).map Tm.enc)) := Lib.hid (by rw [hst.out, decide_eq_false heq]; simp)
        have hG : Below W.heap.size W (wr.alloc (.cells #[.int .i64 u.1.1.1, .int .u32 u.1.1.2, .int .i64 u.1.2, .string (bs u.2)] 83)) := hbr.alloc hz _
        have hbO : Below wr.heap.size wr (wr.alloc (.cells #[.int .i64 u.1.1.1, .int .u32 u.1.1.2, .int .i64 u.1.2, .string (bs u.2)] 83)) := (Below.refl _ wr).alloc (Nat.le_refl _) _
        clear heq
        go_wp2
        go_roundg (n + 1 - (k + 1))
        case measure => omega
        case rel => exact ⟨k + 1, t, T, c', by omega, rfl, by go_num, rfl, by rw [hT.out]; exact hown.below hbO, hG⟩
    · obtain rfl : k = n := by omega
      have hnli : ¬ (k : Int) < (k : Int) := by omega
      have hT : Hid ((((xs.take k).filter fun a => decide (a.2 = e)).map Prod.fst) = out) := Lib.hid (by rw [List.take_of_length_le (by have := hnl.out; omega)]; exact hrH.out)
      rw [hT.out] at hown
      clear hsr
      go_wp2
      go_ret
      exact ⟨T, t, c', rfl, hown.base hzW, hGw⟩
set_option maxRecDepth 100000 in
set_option maxHeartbeats 2000000 in
theorem rotags_any (A : Option Addr) (n c : Nat) (xs : List Am) (B : Option Addr) (m d : Nat) (gs : List Tm) (e : List UInt8) (w : World) (hA : RdA w w.heap.size A n xs) (hB : RdT w w.heap.size B m gs) (hn : n ≤ 100000) (hm : m ≤ 100000) (hx : ∀ a ∈ xs, a.wf) (hg : ∀ t ∈ gs, t.wf) (hl : ∀ a ∈ xs, a.2.length ≤ maxLen) :
    Calls Try.prog 19 #[.agg #[.slice A n c, .slice B m d], .string (bs e)] w fun r w' => ∃ T t c', r = .returned (.slice T t c') ∧ Ow w' w.heap.size 79 3 (.slice T t c') ((tagsO xs gs e).map Tm.enc) ∧ Below w.heap.size w w' := by
  have hb0 : Below w.heap.size w (w.alloc (.cells #[.slice A n c, .slice B m d] 25)) := (Below.refl _ w).alloc (Nat.le_refl _) _
  have hbx : (w.alloc (.cells #[.slice A n c, .slice B m d] 25)).heap[w.heap.size]? = some (.cells #[.slice A n c, .slice B m d] 25 (0, 0)) := heap_at _ _ rfl
  generalize hW : w.alloc (.cells #[.slice A n c, .slice B m d] 25) = W at hb0 hbx
  have hbxH := Lib.hid hbx
  have hltx := blk_lt hbx
  have s0 := blk_cell hbx 0
  have s1 := blk_cell hbx 1
  simp at s0 s1
  have hnl := Lib.hid hA.len
  have hck := Lib.hid (rocheck_any A n c xs B m d gs W ((hA.below hb0).more hb0.size) ((hB.below hb0).more hb0.size) (by first | omega | (simp [maxLen]; omega)) (by first | omega | (simp [maxLen]; omega)) hx hg hl)
  have hAr := Lib.hid (fun w' (h : Below w.heap.size w w') => hA.below h)
  generalize hr : tagsO xs gs e = out
  unfold tagsO at hr
  generalize hpe : oErr xs gs = p at hck hr
  by_cases hp : p = 0
  case neg =>
    rw [if_pos hp] at hr
    subst hr
    have hpn : (p != 0) = true := by simpa using hp
    clear hpe hp hbx hA hB
    go_enter Try.func19, Try.ntmps19
    go_wp2_with fail
    refine hck.out.mono ?_
    rintro e w1 ⟨rfl, hv1⟩
    have hG := hb0.trans (hv1.mono hb0.size)
    go_wp2
    go_ret
    exact ⟨none, 0, 0, rfl, Ow.nil_ _ _ _ _, hG⟩
  subst hp
  rw [if_neg (by simp)] at hr
  have hrH := Lib.hid hr
  have hzW := hb0.size
  clear hpe hr hbx hA hB hx hg hl
  go_enter Try.func19, Try.ntmps19
  go_wp2_with fail
  refine hck.out.mono ?_
  rintro e' w1 ⟨rfl, hv1⟩
  have hs1 := blk_below hbxH.out hv1
  clear s0 s1
  have hltx := blk_lt hs1
  have s0 := blk_cell hs1 0
  have s1 := blk_cell hs1 1
  simp at s0 s1
  clear hck
  go_wp2_with fail
  clear s0 s1 hltx hs1
  go_loopg [5, 6] (n + 1) (fun g o i wr => ∃ (k t : Nat) (T : Option Addr) (c' : Nat), k ≤ n ∧ g = n + 1 - k ∧ i = .int .i64 (k : Int) ∧ o = .slice T t c' ∧ Ow wr W.heap.size 79 3 (.slice T t c') ((((xs.take k).filter fun a => decide (a.2 = e)).map Prod.fst).map Tm.enc) ∧ Below W.heap.size W wr)
  case atStart => exact ⟨0, 0, none, 0, Nat.zero_le _, rfl, rfl, rfl, Ow.nil_ _ _ _ _, hv1⟩
  case round =>
    clear hv1
    obtain ⟨k, t, T, c', hk, rfl, rfl, rfl, hown, hbr⟩ := hrel
    have hz := hbr.size
    have hGw := hb0.trans (hbr.mono hzW)
    have hsr := blk_below hbxH.out hbr
    have hltx := blk_lt hsr
    have s0 := blk_cell hsr 0
    have s1 := blk_cell hsr 1
    simp at s0 s1
    by_cases hlt : k < n
    · obtain ⟨bA, oA, u, rfl, hbA, hq, hcp⟩ := (hAr.out wr hGw).at_ hlt
      have p0 := hcp 0 _ rfl
      have p1 := hcp 1 _ rfl
      have p2 := hcp 2 _ rfl
      have p3 := hcp 3 _ rfl
      rw [Nat.add_zero] at p0
      clear hcp hsr
      have hlti : (k : Int) < (n : Int) := by omega
      have hbA2 : bA < wr.heap.size := by omega
      have htk : Hid (t ≤ k) := Lib.hid (by
        have h1 := hown.rd.2.1
        rw [List.length_map, List.length_map] at h1
        have h2 := List.length_filter_le (fun a : Am => decide (a.2 = e)) (xs.take k)
        rw [List.length_take] at h2
        omega)
      have hst := Lib.hid (filter_takeG (p := fun a : Am => decide (a.2 = e)) hq)
      have hlt2 : Hid (((((xs.take k).filter fun a => decide (a.2 = e)).map Prod.fst).map Tm.enc).length = t) := Lib.hid hown.rd.2.1
      clear hq
      by_cases heq : u.2 = e
      · have hqb : ((bs u.2).toList == (bs e).toList) = true := by rw [bs_empty, bs_empty, heq]; simp
        have hT : Hid (((((xs.take (k + 1)).filter fun a => decide (a.2 = e)).map Prod.fst).map Tm.enc) = ((((xs.take k).filter fun a => decide (a.2 = e)).map Prod.fst).map Tm.enc) ++ [[.int .i64 u.1.1.1, .int .u32 u.1.1.2, .int .i64 u.1.2]]) := Lib.hid (by rw [hst.out, decide_eq_true heq, if_pos rfl]; simp [Tm.enc])
        have hbO : Below wr.heap.size wr (wr.alloc (.cells #[.int .i64 u.1.1.1, .int .u32 u.1.1.2, .int .i64 u.1.2] 79)) := (Below.refl _ wr).alloc (Nat.le_refl _) _
        have hlen1 : ∀ y ∈ ([[.int .i64 u.1.1.1, .int .u32 u.1.1.2, .int .i64 u.1.2]] : List (List Value)), y.length = 3 := by simp
        have hone1 : ∀ y ∈ ([[.int .i64 u.1.1.1, .int .u32 u.1.1.2, .int .i64 u.1.2]] : List (List Value)), ∀ v ∈ y, v.oneCell' = true := by simp [Value.oneCell']
        have hkn : k ≤ 100000 := by omega
        clear heq
        go_wp2_with (at_builtin; refine wpList_append_rd _ rfl _ _ _ rfl eTag (base := W.heap.size) (v := .slice T t c') (xs := (((xs.take k).filter fun a => decide (a.2 = e)).map Prod.fst).map Tm.enc) rfl (hown.below hbO) rfl (Rd.one' [.int .i64 u.1.1.1, .int .u32 u.1.1.2, .int .i64 u.1.2] (by first | rfl | simp)) hlen1 hone1 (by rw [hlt2.out]; have := htk.out; unfold maxLen; omega) (by rw [hlt2.out]; have := htk.out; omega) (by simp; omega) ?_; intro A2 n2 c2 w4 hn2 hown4 hg4 hat4; (obtain rfl : n2 = t + 1 := (by rw [hn2, hlt2.out])); clear hn2)
        have hG : Below W.heap.size W w4 := (hbr.alloc hz _).grown hg4 (by simp; omega) (fun g e => (hown.block g e).1)
        go_roundg (n + 1 - (k + 1))
        case measure => omega
        case rel => exact ⟨k + 1, t + 1, A2, c2, by omega, rfl, by go_num, rfl, by rw [hT.out]; exact hown4, hG⟩
      · have hqb : ((bs u.2).toList == (bs e).toList) = false := by rw [bs_empty, bs_empty, beq_eq_false_iff_ne]; exact heq
        have hT : Hid (((((xs.take (k + 1)).filter fun a => decide (a.2 = e)).map Prod.fst).map Tm.enc) = ((((xs.take k).filter fun a => decide (a.2 = e)).map Prod.fst).map Tm.enc)) := Lib.hid (by rw [hst.out, decide_eq_false heq]; simp)
        have hG : Below W.heap.size W wr := hbr
        have hbO : Below wr.heap.size wr wr := Below.refl _ wr
        clear heq
        go_wp2
        go_roundg (n + 1 - (k + 1))
        case measure => omega
        case rel => exact ⟨k + 1, t, T, c', by omega, rfl, by go_num, rfl, by rw [hT.out]; exact hown.below hbO, hG⟩
    · obtain rfl : k = n := by omega
      have hnli : ¬ (k : Int) < (k : Int) := by omega
      have hT : Hid ((((xs.take k).filter fun a => decide (a.2 = e)).map Prod.fst) = out) := Lib.hid (by rw [List.take_of_length_le (by have := hnl.out; omega)]; exact hrH.out)
      rw [hT.out] at hown
      clear hsr
      go_wp2
      go_ret
      exact ⟨T, t, c', rfl, hown.base hzW, hGw⟩
set_option maxRecDepth 100000 in
theorem ohas_any (A : Option Addr) (n c : Nat) (xs : List Am) (B : Option Addr) (m d : Nat) (gs : List Tm) (e : List UInt8) (w : World) (hA : RdA w w.heap.size A n xs) (hB : RdT w w.heap.size B m gs) (hn : n ≤ 100000) (hm : m ≤ 100000) (hx : ∀ a ∈ xs, a.wf) (hg : ∀ t ∈ gs, t.wf) (hl : ∀ a ∈ xs, a.2.length ≤ maxLen) :
    Calls Try.prog 20 #[.agg #[.slice A n c, .slice B m d], .string (bs e)] w fun r w' => r = .returned (.bool (hasO xs gs e)) ∧ Below w.heap.size w w' := by
  have hb0 : Below w.heap.size w (w.alloc (.cells #[.slice A n c, .slice B m d] 32)) := (Below.refl _ w).alloc (Nat.le_refl _) _
  have ht := Lib.hid (otags_any A n c xs B m d gs e (w.alloc (.cells #[.slice A n c, .slice B m d] 32)) ((hA.below hb0).more hb0.size) ((hB.below hb0).more hb0.size) hn hm hx hg hl)
  clear hA hB hx hg hl
  go_enter Try.func20, Try.ntmps20
  go_wp2_with fail
  refine ht.out.mono ?_
  rintro r w1 ⟨T, t, c', rfl, hown, hv⟩
  have hG := hb0.trans (hv.mono hb0.size)
  have hlt : (tagsO xs gs e).length = t := by simpa using hown.rd.2.1
  have hT : Hid (decide (0 < t) = hasO xs gs e) := Lib.hid (by unfold hasO; rw [hlt])
  clear hlt hown
  go_wp2
  go_ret
  exact ⟨ret_bool hT.out, hG⟩
end Go.Proofs.Ytadldndmmobpdaa
