/- The statements' own From and Great of maps. The document's Same of maps of puts. -/
import Derived.Test.YtadldndmmobpdaaM13
import Derived.Test.YtadldndmmobpdaaM11
import Derived.Test.YtadldndmmobpdaaOsT
namespace Go.Proofs.Ytadldndmmobpdaa
open Go.RowKit

set_option maxRecDepth 100000 in
set_option maxHeartbeats 2000000 in
theorem mfrom_any (A : Option Addr) (n c : Nat) (xs : List Pm) (B : Option Addr) (m d : Nat) (gs : List Tm) (w : World) (hA : RdP w w.heap.size A n xs) (hB : RdT w w.heap.size B m gs) (hn : n ≤ 100000) (hm : m ≤ 100000) :
    Calls Try.prog 31 #[.agg #[.slice A n c, .slice B m d]] w fun e w' => ∃ A' c' B' d', e = .returned (.agg #[.slice A' n c', .slice B' m d']) ∧ Ow w' w.heap.size 94 (6 + 1) (.slice A' n c') (xs.map Pm.enc) ∧ Ow w' w.heap.size 79 3 (.slice B' m d') (gs.map Tm.enc) ∧ Below w.heap.size w w' := by
  have hlH := Lib.hid hA.len
  have hAr := Lib.hid (fun w' (h : Below w.heap.size w w') => hA.below h)
  have hBr := Lib.hid (fun w' (h : Below w.heap.size w w') => hB.below h)
  clear hA hB
  have hb0 : Below w.heap.size w (((w.alloc (.cells #[.slice A n c, .slice B m d] 56)).alloc (.cells #[.slice none 0 0, .slice none 0 0] 52)).alloc (.cells #[.slice none 0 0, .slice none 0 0] 52)) := (((Below.refl _ w).alloc (Nat.le_refl _) _).alloc (by simp) _).alloc (by simp; omega) _
  have hs0 : (((w.alloc (.cells #[.slice A n c, .slice B m d] 56)).alloc (.cells #[.slice none 0 0, .slice none 0 0] 52)).alloc (.cells #[.slice none 0 0, .slice none 0 0] 52)).heap[w.heap.size]? = some (.cells #[.slice A n c, .slice B m d] 56 (0, 0)) := heap_old _ (by simp; omega) (heap_old _ (by simp) (heap_at _ _ rfl))
  have hr0 : (((w.alloc (.cells #[.slice A n c, .slice B m d] 56)).alloc (.cells #[.slice none 0 0, .slice none 0 0] 52)).alloc (.cells #[.slice none 0 0, .slice none 0 0] 52)).heap[w.heap.size + 1]? = some (.cells #[.slice none 0 0, .slice none 0 0] 52 (0, 0)) := heap_old _ (by simp) (heap_at _ _ (by simp))
  have ho0 : (((w.alloc (.cells #[.slice A n c, .slice B m d] 56)).alloc (.cells #[.slice none 0 0, .slice none 0 0] 52)).alloc (.cells #[.slice none 0 0, .slice none 0 0] 52)).heap[w.heap.size + 1 + 1]? = some (.cells #[.slice none 0 0, .slice none 0 0] 52 (0, 0)) := heap_at _ _ (by simp)
  go_enter Try.func31, Try.ntmps31
  go_wp2_with fail
  go_loopg [4] (n + 1) (fun g i wr => ∃ (k : Nat) (A' : Option Addr) (c' : Nat), k ≤ n ∧ g = n + 1 - k ∧ i = .int .i64 (k : Int) ∧ wr.heap[w.heap.size]? = some (.cells #[.slice A n c, .slice B m d] 56 (0, 0)) ∧ wr.heap[w.heap.size + 1]? = some (.cells #[.slice none 0 0, .slice none 0 0] 52 (0, 0)) ∧ wr.heap[w.heap.size + 1 + 1]? = some (.cells #[.slice A' k c', .slice none 0 0] 52 (0, 0)) ∧ Ow wr (w.heap.size + 1 + 1 + 1) 94 (6 + 1) (.slice A' k c') ((xs.take k).map Pm.enc) ∧ Below w.heap.size w wr)
  case atStart => exact ⟨0, none, 0, Nat.zero_le _, rfl, rfl, hs0, hr0, ho0, Ow.nil_ _ _ _ _, hb0⟩
  case round =>
    clear hs0 hr0 ho0 hb0
    obtain ⟨k, A', c', hk, rfl, rfl, hs, hr, ho, hown, hbr⟩ := hrel
    have hz := hbr.size
    have hls := blk_lt hs
    have hlr := blk_lt hr
    have hlo := blk_lt ho
    have s0 := blk_cell hs 0
    have s1 := blk_cell hs 1
    have o0 := blk_cell ho 0
    have o1 := blk_cell ho 1
    have of := blk_frozen ho
    simp at s0 s1 o0 o1
    have hsH := Lib.hid hs
    have hrH := Lib.hid hr
    have hoH := Lib.hid ho
    clear hs hr ho
    by_cases hlt : k < n
    · obtain ⟨bA, oA, u, rfl, hbA, hq, hcp⟩ := (hAr.out wr hbr).at_ hlt
      have p0 := hcp 0 _ rfl
      have p1 := hcp 1 _ rfl
      have p2 := hcp 2 _ rfl
      have p3 := hcp 3 _ rfl
      have p4 := hcp 4 _ rfl
      have p5 := hcp 5 _ rfl
      have p6 := hcp 6 _ rfl
      rw [Nat.add_zero] at p0
      clear hcp
      have hst : Hid ((xs.take (k + 1)).map Pm.enc = (xs.take k).map Pm.enc ++ [[.int .i64 u.1.1.1, .int .u32 u.1.1.2, .int .i64 u.1.2, .string (bs u.2.1), .int .i64 u.2.2.1, .int .u32 u.2.2.2.1, .int .i64 u.2.2.2.2]]) := Lib.hid (by rw [List.take_add_one, hq]; simp [Pm.enc])
      have hlk : Hid (((xs.take k).map Pm.enc).length = k) := Lib.hid (by simp; have := hlH.out; omega)
      have hlti : (k : Int) < (n : Int) := by omega
      clear hq
      have hlen1 : ∀ y ∈ ([[.int .i64 u.1.1.1, .int .u32 u.1.1.2, .int .i64 u.1.2, .string (bs u.2.1), .int .i64 u.2.2.1, .int .u32 u.2.2.2.1, .int .i64 u.2.2.2.2]] : List (List Value)), y.length = 6 + 1 := by simp
      have hone1 : ∀ y ∈ ([[.int .i64 u.1.1.1, .int .u32 u.1.1.2, .int .i64 u.1.2, .string (bs u.2.1), .int .i64 u.2.2.1, .int .u32 u.2.2.2.1, .int .i64 u.2.2.2.2]] : List (List Value)), ∀ v ∈ y, v.oneCell' = true := by simp [Value.oneCell']
      have hbA2 : bA < wr.heap.size := by omega
      have hbO : Below wr.heap.size wr ((wr.alloc (.cells #[.int .i64 u.1.1.1, .int .u32 u.1.1.2, .int .i64 u.1.2, .string (bs u.2.1), .int .i64 u.2.2.1, .int .u32 u.2.2.2.1, .int .i64 u.2.2.2.2] 96)).alloc (.cells #[.int .i64 u.1.1.1, .int .u32 u.1.1.2, .int .i64 u.1.2, .string (bs u.2.1), .int .i64 u.2.2.1, .int .u32 u.2.2.2.1, .int .i64 u.2.2.2.2] 94)) := ((Below.refl _ wr).alloc (Nat.le_refl _) _).alloc (by simp) _
      have hbk := hown.block
      go_wp2_with (at_builtin; refine wpList_append_rd _ rfl _ _ _ rfl ePutR (base := w.heap.size + 1 + 1 + 1) (v := .slice A' k c') (xs := (xs.take k).map Pm.enc) rfl (hown.below hbO) rfl (Rd.one' [.int .i64 u.1.1.1, .int .u32 u.1.1.2, .int .i64 u.1.2, .string (bs u.2.1), .int .i64 u.2.2.1, .int .u32 u.2.2.2.1, .int .i64 u.2.2.2.2] (by simp)) hlen1 hone1 (by rw [hlk.out]; unfold maxLen; omega) (by rw [hlk.out]; omega) (by simp; omega) ?_; intro A2 n2 c2 w4 hn2 hown4 hg4 hat4; (obtain rfl : n2 = k + 1 := by rw [hn2, hlk.out]); clear hn2; (have hW6 : w4.heap[w.heap.size + 1 + 1]? = some (.cells #[.slice A' k c', .slice none 0 0] 52 (0, 0)) := (hg4.block _ (by simp; omega) (fun e => by have := (hbk _ e.symm).1; omega)).trans (blk_below hoH.out hbO)); (have hs6 : w4.heap[w.heap.size]? = some (.cells #[.slice (some ⟨bA, oA, none⟩) n c, .slice B m d] 56 (0, 0)) := (hg4.block _ (by simp; omega) (fun e => by have := (hbk _ e.symm).1; omega)).trans (blk_below hsH.out hbO)); (have hr6 : w4.heap[w.heap.size + 1]? = some (.cells #[.slice none 0 0, .slice none 0 0] 52 (0, 0)) := (hg4.block _ (by simp; omega) (fun e => by have := (hbk _ e.symm).1; omega)).trans (blk_below hrH.out hbO)); (have hof6 := blk_frozen hW6); (have hlt6 := blk_lt hW6); (have z0 := blk_cell hW6 0); (have z1 := blk_cell hW6 1); (simp at z0 z1); (have hW6H := Lib.hid hW6); (have hs6H := Lib.hid hs6); (have hr6H := Lib.hid hr6); clear hW6 hs6 hr6)
      have hG6 : Below w.heap.size w w4 := (hbr.trans (hbO.mono hz)).grown hg4 (by simp; omega) (fun g e => by have := (hbk g e).1; omega)
      go_roundg (n + 1 - (k + 1))
      case measure => omega
      case rel =>
        refine ⟨k + 1, A2, c2, by omega, rfl, by go_num, heap_set_ne (by dsimp only; omega) hs6H.out, heap_set_ne (by dsimp only; omega) hr6H.out, by rw [blk_set hW6H.out]; rfl, ?_, hG6.setCell (by dsimp only; omega) _⟩
        rw [hst.out]
        exact hown4.set_blk hW6H.out (by decide) 0 _
    · obtain rfl : k = n := by omega
      have hfin : Hid ((xs.take k).map Pm.enc = xs.map Pm.enc) := Lib.hid (by rw [List.take_of_length_le (by have := hlH.out; omega)])
      have hnli : ¬ (k : Int) < (k : Int) := by omega
      have hlg : (gs.map Tm.enc).length = m := by have := (hBr.out w (Below.refl _ _)).len; simpa using this
      have hBw := (hBr.out wr hbr)
      have hlgH := Lib.hid hlg
      clear hlg
      go_wp2_with (at_builtin; refine wpList_append_rd _ rfl _ _ _ rfl eTag (base := w.heap.size + 1 + 1 + 1) (v := .slice none 0 0) (xs := []) rfl (Ow.nil_ _ _ _ _) rfl hBw Tm.len Tm.one (by unfold maxLen; simp; omega) (by simp; omega) (by omega) ?_; intro A2 n2 c2 w4 hn2 hown4 hg4 hat4; (obtain rfl : n2 = m := (by rw [hn2]; simp)); (have hW6 : w4.heap[w.heap.size + 1 + 1]? = some (.cells #[.slice A' k c', .slice none 0 0] 52 (0, 0)) := (hg4.block _ hlo (by simp [Value.ownBlock])).trans hoH.out); (have hr6 : w4.heap[w.heap.size + 1]? = some (.cells #[.slice none 0 0, .slice none 0 0] 52 (0, 0)) := (hg4.block _ hlr (by simp [Value.ownBlock])).trans hrH.out); (have z0 := blk_cell hW6 0); (have z1 := blk_cell hW6 1); (have y0 := blk_cell hr6 0); (have y1 := blk_cell hr6 1); (simp at z0 z1 y0 y1); (have zf := blk_frozen hW6); (have yf := blk_frozen hr6); (have hlW := blk_lt hW6); (have hlR := blk_lt hr6); (have hW6H := Lib.hid hW6); (have hr6H := Lib.hid hr6); clear hn2 hW6 hr6)
      have hoA : Ow w4 (w.heap.size + 1 + 1 + 1) 94 (6 + 1) (.slice A' k c') (xs.map Pm.enc) := by rw [← hfin.out]; exact hown.other (Ow.nil_ wr (w.heap.size + 1 + 1 + 1) 79 3) (by decide) hg4
      have hoB : Ow w4 (w.heap.size + 1 + 1 + 1) 79 3 (.slice A2 n2 c2) (gs.map Tm.enc) := by simpa using hown4
      refine bodyPost_ret (v := .agg #[.slice A' k c', .slice A2 n2 c2]) (by simp [results, Try.results31, go_sem, y0, y1]) rfl ⟨A', c', A2, c2, rfl, ?_, ?_, ?_⟩
      · refine Ow.base (base := w.heap.size + 1 + 1 + 1) ?_ (by omega)
        repeat (with_reducible refine Ow.setCell ?_ (by simp) _)
        exact hoA
      · refine Ow.base (base := w.heap.size + 1 + 1 + 1) ?_ (by omega)
        repeat (with_reducible refine Ow.setCell ?_ (by simp) _)
        exact hoB
      · repeat (with_reducible refine Below.setCell ?_ (by first | (simp; done) | (simp; omega) | omega) _)
        exact hbr.grown hg4 hz (by simp [Value.ownBlock])
def grM (n m : Nat) : Bool := decide (100 < n ∨ 200 < m)
set_option maxRecDepth 100000 in
theorem mgreat_any (A : Option Addr) (n c : Nat) (B : Option Addr) (m d : Nat) (w : World) :
    Calls Try.prog 24 #[.agg #[.slice A n c, .slice B m d]] w fun e w' => e = .returned (.bool (grM n m)) ∧ Below w.heap.size w w' := by
  generalize hr : grM n m = r
  unfold grM at hr
  have hrH := Lib.hid hr
  clear hr
  have hB0 : Below w.heap.size w (w.alloc (.cells #[.slice A n c, .slice B m d] 52)) := (Below.refl _ w).alloc (Nat.le_refl _) _
  by_cases h1 : (100 : Int) < (n : Int)
  · have hT : Hid (true = r) := Lib.hid (by rw [← hrH.out]; symm; exact decide_eq_true (by omega))
    go_enter Try.func24, Try.ntmps24
    go_wp2
    go_ret
    exact ⟨ret_bool hT.out, hB0⟩
  · have hd1 : decide ((100 : Int) < (n : Int)) = false := decide_eq_false h1
    by_cases h2 : (200 : Int) < (m : Int)
    · have hT : Hid (true = r) := Lib.hid (by rw [← hrH.out]; symm; exact decide_eq_true (by omega))
      go_enter Try.func24, Try.ntmps24
      go_wp2
      go_ret
      exact ⟨ret_bool hT.out, hB0⟩
    · have hd2 : decide ((200 : Int) < (m : Int)) = false := decide_eq_false h2
      have hT : Hid (false = r) := Lib.hid (by rw [← hrH.out]; symm; exact decide_eq_false (by omega))
      go_enter Try.func24, Try.ntmps24
      go_wp2
      go_ret
      exact ⟨ret_bool hT.out, hB0⟩
end Go.Proofs.Ytadldndmmobpdaa
namespace Go.Proofs.Ytadldndmmobpdaa
open Go.RowKit

set_option maxRecDepth 100000 in
set_option maxHeartbeats 1000000 in
theorem msame_any (A : Option Addr) (n c : Nat) (xs : List Pm) (B : Option Addr) (m d : Nat) (gs : List Tm) (A2 : Option Addr) (n2 c2 : Nat) (ys : List Pm) (B2 : Option Addr) (m2 d2 : Nat) (hs : List Tm) (w : World) (hA : RdP w w.heap.size A n xs) (hB : RdT w w.heap.size B m gs) (hA2 : RdP w w.heap.size A2 n2 ys) (hB2 : RdT w w.heap.size B2 m2 hs) (hn : n ≤ maxLen) (hm : m ≤ maxLen) (hn2 : n2 ≤ maxLen) (hm2 : m2 ≤ maxLen) :
    Calls Try.prog 30 #[.agg #[.slice A n c, .slice B m d], .agg #[.slice A2 n2 c2, .slice B2 m2 d2]] w fun e w' => e = .returned (.bool (decide (xs = ys) && decide (gs = hs))) ∧ Below w.heap.size w w' := by
  have hb0 : Below w.heap.size w ((w.alloc (.cells #[.slice A n c, .slice B m d] 52)).alloc (.cells #[.slice A2 n2 c2, .slice B2 m2 d2] 52)) := ((Below.refl _ w).alloc (Nat.le_refl _) _).alloc (by simp) _
  have hbA : ((w.alloc (.cells #[.slice A n c, .slice B m d] 52)).alloc (.cells #[.slice A2 n2 c2, .slice B2 m2 d2] 52)).heap[w.heap.size]? = some (.cells #[.slice A n c, .slice B m d] 52 (0, 0)) := heap_old _ (by simp) (heap_at _ _ rfl)
  have hbB : ((w.alloc (.cells #[.slice A n c, .slice B m d] 52)).alloc (.cells #[.slice A2 n2 c2, .slice B2 m2 d2] 52)).heap[w.heap.size + 1]? = some (.cells #[.slice A2 n2 c2, .slice B2 m2 d2] 52 (0, 0)) := heap_at _ _ (by simp)
  generalize hW : ((w.alloc (.cells #[.slice A n c, .slice B m d] 52)).alloc (.cells #[.slice A2 n2 c2, .slice B2 m2 d2] 52)) = W at hb0 hbA hbB
  have cS := Lib.hid (sametags_any B B2 m m2 d d2 gs hs W ((hB.below hb0).more hb0.size) ((hB2.below hb0).more hb0.size) hm hm2)
  have hl := hA.len
  have hl2 := hA2.len
  have hAr := Lib.hid (fun w' (h : Below w.heap.size w w') => hA.below h)
  have hA2r := Lib.hid (fun w' (h : Below w.heap.size w w') => hA2.below h)
  have hltA := blk_lt hbA
  have hltB := blk_lt hbB
  have s0 := blk_cell hbA 0
  have s1 := blk_cell hbA 1
  have t0 := blk_cell hbB 0
  have t1 := blk_cell hbB 1
  simp at s0 s1 t0 t1
  have hbAH := Lib.hid hbA
  have hbBH := Lib.hid hbB
  generalize hr : (decide (xs = ys) && decide (gs = hs)) = r
  have hrH := Lib.hid hr
  unfold maxLen at hn hn2
  clear hA hA2 hB hB2 hbA hbB hr
  by_cases hnm : (n : Int) = (n2 : Int)
  case neg =>
    have hT : Hid (false = r) := Lib.hid (by
      rw [← hrH.out]; symm; rw [decide_eq_false (by rintro rfl; omega)]; rfl)
    have hd : ((n : Int) != (n2 : Int)) = true := by simpa using hnm
    clear hl hl2
    go_enter Try.func30, Try.ntmps30
    go_wp2
    go_ret
    exact ⟨ret_bool hT.out, hb0⟩
  obtain rfl : n = n2 := by omega
  clear hnm
  by_cases hg : gs = hs
  case neg =>
    rw [decide_eq_false hg] at cS
    have hT : Hid (false = r) := Lib.hid (by rw [← hrH.out, decide_eq_false hg]; simp)
    clear hl hl2
    go_enter Try.func30, Try.ntmps30
    go_wp2_with fail
    refine cS.out.mono ?_
    rintro e w1 ⟨rfl, hb1⟩
    have hG := hb0.trans (hb1.mono hb0.size)
    go_wp2
    go_ret
    exact ⟨ret_bool hT.out, hG⟩
  rw [decide_eq_true hg] at cS
  have hrX : Hid (decide (xs = ys) = r) := Lib.hid (by rw [← hrH.out, decide_eq_true hg]; simp)
  have hlH := Lib.hid hl
  have hl2H := Lib.hid hl2
  clear hl hl2 hg
  go_enter Try.func30, Try.ntmps30
  go_wp2_with fail
  refine cS.out.mono ?_
  rintro e w1 ⟨rfl, hb1⟩
  have hG1 := hb0.trans (hb1.mono hb0.size)
  clear s0 s1 t0 t1
  go_wp2_with fail
  go_loopg [5] (n + 1) (fun g i wr => ∃ k : Nat, k ≤ n ∧ g = n + 1 - k ∧ i = .int .i64 (k : Int) ∧ xs.take k = ys.take k ∧ Below w1.heap.size w1 wr)
  case atStart => exact ⟨0, Nat.zero_le _, rfl, rfl, rfl, Below.refl _ _⟩
  case round =>
    obtain ⟨k, hk, rfl, rfl, htk, hbr⟩ := hrel
    have hG := hG1.trans (hbr.mono hG1.size)
    have hz := hG.size
    have hbA1 := blk_below (blk_below hbAH.out hb1) hbr
    have hbB1 := blk_below (blk_below hbBH.out hb1) hbr
    have hltA1 := blk_lt hbA1
    have hltB1 := blk_lt hbB1
    have s0 := blk_cell hbA1 0
    have t0 := blk_cell hbB1 0
    simp at s0 t0
    clear hbA1 hbB1
    have htkH := Lib.hid htk
    clear htk
    by_cases hlt : k < n
    · obtain ⟨bA, oA, x, rfl, hbA, hp, hcp⟩ := (hAr.out wr hG).at_ hlt
      obtain ⟨bB, oB, y, rfl, hbB, hq, hcq⟩ := (hA2r.out wr hG).at_ hlt
      have p0 := hcp 0 _ rfl
      have p1 := hcp 1 _ rfl
      have p2 := hcp 2 _ rfl
      have p3 := hcp 3 _ rfl
      have p4 := hcp 4 _ rfl
      have p5 := hcp 5 _ rfl
      have p6 := hcp 6 _ rfl
      have q0 := hcq 0 _ rfl
      have q1 := hcq 1 _ rfl
      have q2 := hcq 2 _ rfl
      have q3 := hcq 3 _ rfl
      have q4 := hcq 4 _ rfl
      have q5 := hcq 5 _ rfl
      have q6 := hcq 6 _ rfl
      rw [Nat.add_zero] at p0 q0
      clear hcp hcq
      have hbA2 : bA < wr.heap.size := by omega
      have hbB2 : bB < wr.heap.size := by omega
      have hlti : (k : Int) < (n : Int) := by omega
      have hpH := Lib.hid hp
      have hqH := Lib.hid hq
      clear hp hq
      have hq0 : KQ wr.heap.size wr wr := kq (Below.refl _ _)
      by_cases he : x = y
      · subst he
        have hT : Hid (xs.take (k + 1) = ys.take (k + 1)) := Lib.hid (by rw [List.take_add_one, List.take_add_one, htkH.out, hpH.out, hqH.out])
        go_wp2
        go_region_held3 (fun w' => KQ wr.heap.size wr w') (first
      | with_reducible exact kq_call (by assumption) (by simp) (by assumption)
      | with_reducible exact kq_grown (by assumption) (by simp) (by assumption) (by simp [Value.ownBlock])
      | ((with_reducible refine kq ?_); (repeat (first | (with_reducible exact Below.refl _ _) | (with_reducible refine Below.drew ?_) | (with_reducible refine Below.alloc ?_ (by simp) _) | (with_reducible refine Below.setCell ?_ (by simp) _) | (with_reducible exact (by assumption : KQ _ _ _).1))); done)) (first | (go_at_call 0; skip))
        have hGr : Below w1.heap.size w1 wr.drew := hbr.drew
        go_wp2
        go_roundg (n + 1 - (k + 1))
        case measure => omega
        case rel => exact ⟨k + 1, by omega, rfl, by go_num, hT.out, hGr⟩
      · have hT : Hid (false = r) := Lib.hid (by
          rw [← hrX.out]; symm; apply decide_eq_false; intro e; subst e
          have := hpH.out.symm.trans hqH.out
          injection this with this; exact he this)
        obtain ⟨⟨⟨x1, x2⟩, x3⟩, ⟨x4, ⟨x5, ⟨x6, x7⟩⟩⟩⟩ := x
        obtain ⟨⟨⟨y1, y2⟩, y3⟩, ⟨y4, ⟨y5, ⟨y6, y7⟩⟩⟩⟩ := y
        dsimp only at p0 p1 p2 p3 p4 p5 p6 q0 q1 q2 q3 q4 q5 q6
        by_cases h1 : x1 = y1
        case neg =>
          skip
          clear he
          go_wp2
          go_region_held3 (fun w' => KQ wr.heap.size wr w') (first
      | with_reducible exact kq_call (by assumption) (by simp) (by assumption)
      | with_reducible exact kq_grown (by assumption) (by simp) (by assumption) (by simp [Value.ownBlock])
      | ((with_reducible refine kq ?_); (repeat (first | (with_reducible exact Below.refl _ _) | (with_reducible refine Below.drew ?_) | (with_reducible refine Below.alloc ?_ (by simp) _) | (with_reducible refine Below.setCell ?_ (by simp) _) | (with_reducible exact (by assumption : KQ _ _ _).1))); done)) (first | (go_at_call 0; skip))
          have hGr : Below w.heap.size w wr.drew := hG.drew
          go_wp2
          go_ret
          exact ⟨ret_bool hT.out, hGr⟩
        subst h1
        by_cases h2 : x2 = y2
        case neg =>
          skip
          clear he
          go_wp2
          go_region_held3 (fun w' => KQ wr.heap.size wr w') (first
      | with_reducible exact kq_call (by assumption) (by simp) (by assumption)
      | with_reducible exact kq_grown (by assumption) (by simp) (by assumption) (by simp [Value.ownBlock])
      | ((with_reducible refine kq ?_); (repeat (first | (with_reducible exact Below.refl _ _) | (with_reducible refine Below.drew ?_) | (with_reducible refine Below.alloc ?_ (by simp) _) | (with_reducible refine Below.setCell ?_ (by simp) _) | (with_reducible exact (by assumption : KQ _ _ _).1))); done)) (first | (go_at_call 0; skip))
          have hGr : Below w.heap.size w wr.drew := hG.drew
          go_wp2
          go_ret
          exact ⟨ret_bool hT.out, hGr⟩
        subst h2
        by_cases h3 : x3 = y3
        case neg =>
          skip
          clear he
          go_wp2
          go_region_held3 (fun w' => KQ wr.heap.size wr w') (first
      | with_reducible exact kq_call (by assumption) (by simp) (by assumption)
      | with_reducible exact kq_grown (by assumption) (by simp) (by assumption) (by simp [Value.ownBlock])
      | ((with_reducible refine kq ?_); (repeat (first | (with_reducible exact Below.refl _ _) | (with_reducible refine Below.drew ?_) | (with_reducible refine Below.alloc ?_ (by simp) _) | (with_reducible refine Below.setCell ?_ (by simp) _) | (with_reducible exact (by assumption : KQ _ _ _).1))); done)) (first | (go_at_call 0; skip))
          have hGr : Below w.heap.size w wr.drew := hG.drew
          go_wp2
          go_ret
          exact ⟨ret_bool hT.out, hGr⟩
        subst h3
        by_cases h4 : x4 = y4
        case neg =>
          have hs4 : ((bs x4).toList == (bs y4).toList) = false := by
            rw [bs_empty, bs_empty, beq_eq_false_iff_ne]; exact h4
          clear he
          go_wp2
          go_region_held3 (fun w' => KQ wr.heap.size wr w') (first
      | with_reducible exact kq_call (by assumption) (by simp) (by assumption)
      | with_reducible exact kq_grown (by assumption) (by simp) (by assumption) (by simp [Value.ownBlock])
      | ((with_reducible refine kq ?_); (repeat (first | (with_reducible exact Below.refl _ _) | (with_reducible refine Below.drew ?_) | (with_reducible refine Below.alloc ?_ (by simp) _) | (with_reducible refine Below.setCell ?_ (by simp) _) | (with_reducible exact (by assumption : KQ _ _ _).1))); done)) (first | (go_at_call 0; skip))
          have hGr : Below w.heap.size w wr.drew := hG.drew
          go_wp2
          go_ret
          exact ⟨ret_bool hT.out, hGr⟩
        subst h4
        by_cases h5 : x5 = y5
        case neg =>
          skip
          clear he
          go_wp2
          go_region_held3 (fun w' => KQ wr.heap.size wr w') (first
      | with_reducible exact kq_call (by assumption) (by simp) (by assumption)
      | with_reducible exact kq_grown (by assumption) (by simp) (by assumption) (by simp [Value.ownBlock])
      | ((with_reducible refine kq ?_); (repeat (first | (with_reducible exact Below.refl _ _) | (with_reducible refine Below.drew ?_) | (with_reducible refine Below.alloc ?_ (by simp) _) | (with_reducible refine Below.setCell ?_ (by simp) _) | (with_reducible exact (by assumption : KQ _ _ _).1))); done)) (first | (go_at_call 0; skip))
          have hGr : Below w.heap.size w wr.drew := hG.drew
          go_wp2
          go_ret
          exact ⟨ret_bool hT.out, hGr⟩
        subst h5
        by_cases h6 : x6 = y6
        case neg =>
          skip
          clear he
          go_wp2
          go_region_held3 (fun w' => KQ wr.heap.size wr w') (first
      | with_reducible exact kq_call (by assumption) (by simp) (by assumption)
      | with_reducible exact kq_grown (by assumption) (by simp) (by assumption) (by simp [Value.ownBlock])
      | ((with_reducible refine kq ?_); (repeat (first | (with_reducible exact Below.refl _ _) | (with_reducible refine Below.drew ?_) | (with_reducible refine Below.alloc ?_ (by simp) _) | (with_reducible refine Below.setCell ?_ (by simp) _) | (with_reducible exact (by assumption : KQ _ _ _).1))); done)) (first | (go_at_call 0; skip))
          have hGr : Below w.heap.size w wr.drew := hG.drew
          go_wp2
          go_ret
          exact ⟨ret_bool hT.out, hGr⟩
        subst h6
        have h7 : ¬ x7 = y7 := fun e => he (by rw [e])
        clear he
        go_wp2
        go_region_held3 (fun w' => KQ wr.heap.size wr w') (first
      | with_reducible exact kq_call (by assumption) (by simp) (by assumption)
      | with_reducible exact kq_grown (by assumption) (by simp) (by assumption) (by simp [Value.ownBlock])
      | ((with_reducible refine kq ?_); (repeat (first | (with_reducible exact Below.refl _ _) | (with_reducible refine Below.drew ?_) | (with_reducible refine Below.alloc ?_ (by simp) _) | (with_reducible refine Below.setCell ?_ (by simp) _) | (with_reducible exact (by assumption : KQ _ _ _).1))); done)) (first | (go_at_call 0; skip))
        have hGr : Below w.heap.size w wr.drew := hG.drew
        go_wp2
        go_ret
        exact ⟨ret_bool hT.out, hGr⟩
    · have hT : Hid (true = r) := Lib.hid (by
        rw [← hrX.out]; symm; apply decide_eq_true
        have := htkH.out
        rw [List.take_of_length_le (by have := hlH.out; omega), List.take_of_length_le (by have := hl2H.out; omega)] at this
        exact this)
      go_wp2
      go_ret
      exact ⟨ret_bool hT.out, hG⟩
end Go.Proofs.Ytadldndmmobpdaa
