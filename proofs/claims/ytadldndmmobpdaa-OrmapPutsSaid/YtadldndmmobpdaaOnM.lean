/- The document's Apply of maps. -/
import Derived.Test.YtadldndmmobpdaaOnJ
import Derived.Test.YtadldndmmobpdaaOmR
namespace Go.Proofs.Ytadldndmmobpdaa
open Go.RowKit

/-- The puts behind k rounds: ahead of place P as they were, the new one at P. -/
def preK (xs : List Pm) (a : Pm) (P k : Nat) : List Pm := if k ≤ P then xs.take k else xs.take P ++ a :: (xs.take k).drop P
theorem preK_len {xs : List Pm} {a : Pm} {P k : Nat} (h : k ≤ xs.length) : (preK xs a P k).length = if P < k then k + 1 else k := by
  unfold preK
  by_cases hk : k ≤ P
  · rw [if_pos hk, if_neg (by omega), List.length_take]; omega
  · rw [if_neg hk, if_pos (by omega), List.length_append, List.length_cons, List.length_drop, List.length_take, List.length_take]; omega
theorem preK_lt {xs : List Pm} {a u : Pm} {P k : Nat} (h : k < P) (hu : xs[k]? = some u) : preK xs a P (k + 1) = preK xs a P k ++ [u] := by
  unfold preK
  rw [if_pos (by omega), if_pos (by omega), List.take_add_one, hu]; rfl
theorem drop_take_succ {xs : List Pm} {u : Pm} {P k : Nat} (h : P ≤ k) (hu : xs[k]? = some u) : (xs.take (k + 1)).drop P = (xs.take k).drop P ++ [u] := by
  have hl := (List.getElem?_eq_some_iff.1 hu).1
  rw [List.take_add_one, hu, List.drop_append]
  simp only [Option.toList]
  rw [List.length_take, show P - min k xs.length = 0 by omega]; rfl
theorem preK_gt {xs : List Pm} {a u : Pm} {P k : Nat} (h : P < k) (hu : xs[k]? = some u) : preK xs a P (k + 1) = preK xs a P k ++ [u] := by
  unfold preK
  rw [if_neg (by omega), if_neg (by omega), drop_take_succ (by omega) hu]; simp
theorem preK_eq {xs : List Pm} {a u : Pm} {P : Nat} (hu : xs[P]? = some u) : preK xs a P (P + 1) = preK xs a P P ++ [a] ++ [u] := by
  have hl := (List.getElem?_eq_some_iff.1 hu).1
  unfold preK
  rw [if_neg (by omega), if_pos (Nat.le_refl _), drop_take_succ (Nat.le_refl _) hu, List.drop_eq_nil_of_le (by rw [List.length_take]; omega)]; simp
theorem preK_fin {xs : List Pm} {a : Pm} {P n : Nat} (h : P < n) (hl : xs.length = n) : preK xs a P n = xs.take P ++ a :: xs.drop P := by
  unfold preK
  rw [if_neg (by omega), List.take_of_length_le (by omega : xs.length ≤ n)]
theorem preK_end {xs : List Pm} {a : Pm} {P : Nat} (hl : xs.length = P) : preK xs a P P ++ [a] = xs.take P ++ a :: xs.drop P := by
  unfold preK
  rw [if_pos (Nat.le_refl _), List.drop_eq_nil_of_le (by omega : xs.length ≤ P)]
set_option maxRecDepth 100000 in
set_option maxHeartbeats 8000000 in
theorem rmapply_any (A : Option Addr) (n c : Nat) (xs : List Pm) (B : Option Addr) (m d : Nat) (gs : List Tm) (a : Pm) (w : World) (hA : RdP w w.heap.size A n xs) (hB : RdT w w.heap.size B m gs) (hn : n ≤ 100000) (hm : m ≤ 100000) (hx : ∀ a ∈ xs, a.wf) (hg : ∀ t ∈ gs, t.wf) (hl : ∀ a ∈ xs, a.2.1.length ≤ maxLen) (ha : a.wf) (hal : a.2.1.length ≤ maxLen) (hnc : n ≤ c) (hcm : c ≤ maxLen) (hmd : m ≤ d) (hdm : d ≤ maxLen) :
    Calls Try.prog 48 #[.agg #[.slice A n c, .slice B m d], .agg #[.int .i64 a.1.1.1, .int .u32 a.1.1.2, .int .i64 a.1.2, .string (bs a.2.1), .int .i64 a.2.2.1, .int .u32 a.2.2.2.1, .int .i64 a.2.2.2.2]] w (PostM w (putM xs gs a).1 (putM xs gs a).2) := by
  have hb0 : Below w.heap.size w (((w.alloc (.cells #[.slice A n c, .slice B m d] 52)).alloc (.cells #[.int .i64 a.1.1.1, .int .u32 a.1.1.2, .int .i64 a.1.2, .string (bs a.2.1), .int .i64 a.2.2.1, .int .u32 a.2.2.2.1, .int .i64 a.2.2.2.2] 94)).alloc (.cells #[.slice none 0 0, .slice none 0 0] 52)) := (((Below.refl _ w).alloc (Nat.le_refl _) _).alloc (by simp) _).alloc (by simp; omega) _
  have hbx : (((w.alloc (.cells #[.slice A n c, .slice B m d] 52)).alloc (.cells #[.int .i64 a.1.1.1, .int .u32 a.1.1.2, .int .i64 a.1.2, .string (bs a.2.1), .int .i64 a.2.2.1, .int .u32 a.2.2.2.1, .int .i64 a.2.2.2.2] 94)).alloc (.cells #[.slice none 0 0, .slice none 0 0] 52)).heap[w.heap.size]? = some (.cells #[.slice A n c, .slice B m d] 52 (0, 0)) := heap_old _ (by simp; omega) (heap_old _ (by simp) (heap_at _ _ rfl))
  have hba : (((w.alloc (.cells #[.slice A n c, .slice B m d] 52)).alloc (.cells #[.int .i64 a.1.1.1, .int .u32 a.1.1.2, .int .i64 a.1.2, .string (bs a.2.1), .int .i64 a.2.2.1, .int .u32 a.2.2.2.1, .int .i64 a.2.2.2.2] 94)).alloc (.cells #[.slice none 0 0, .slice none 0 0] 52)).heap[w.heap.size + 1]? = some (.cells #[.int .i64 a.1.1.1, .int .u32 a.1.1.2, .int .i64 a.1.2, .string (bs a.2.1), .int .i64 a.2.2.1, .int .u32 a.2.2.2.1, .int .i64 a.2.2.2.2] 94 (0, 0)) := heap_old _ (by simp) (heap_at _ _ (by simp))
  have hbr : (((w.alloc (.cells #[.slice A n c, .slice B m d] 52)).alloc (.cells #[.int .i64 a.1.1.1, .int .u32 a.1.1.2, .int .i64 a.1.2, .string (bs a.2.1), .int .i64 a.2.2.1, .int .u32 a.2.2.2.1, .int .i64 a.2.2.2.2] 94)).alloc (.cells #[.slice none 0 0, .slice none 0 0] 52)).heap[w.heap.size + 1 + 1]? = some (.cells #[.slice none 0 0, .slice none 0 0] 52 (0, 0)) := heap_at _ _ (by simp)
  generalize hW : (((w.alloc (.cells #[.slice A n c, .slice B m d] 52)).alloc (.cells #[.int .i64 a.1.1.1, .int .u32 a.1.1.2, .int .i64 a.1.2, .string (bs a.2.1), .int .i64 a.2.2.1, .int .u32 a.2.2.2.1, .int .i64 a.2.2.2.2] 94)).alloc (.cells #[.slice none 0 0, .slice none 0 0] 52)) = W at hb0 hbx hba hbr
  have hbxH := Lib.hid hbx
  have hbaH := Lib.hid hba
  have hbrH := Lib.hid hbr
  have hltx := blk_lt hbx
  have hlta := blk_lt hba
  have hltr := blk_lt hbr
  have s0 := blk_cell hbx 0
  have s1 := blk_cell hbx 1
  have r0 := blk_cell hbr 0
  have r1 := blk_cell hbr 1
  simp at s0 s1 r0 r1
  have hfr := blk_frozen hbr
  have hck := Lib.hid (rmcheck_any A n c xs B m d gs W ((hA.below hb0).more hb0.size) ((hB.below hb0).more hb0.size) (by first | omega | (simp [maxLen]; omega)) (by first | omega | (simp [maxLen]; omega)) hx hg hl)
  have hnt := Lib.hid (rchkt_any a.1 ha.1)
  have hel := Lib.hid (rfits_any a ha hal)
  generalize hr : putM xs gs a = out
  unfold putM at hr
  have hxl := hA.len
  rw [hxl] at hr
  generalize hpe : mErr xs gs = p at hck hr
  by_cases hp : p = 0
  case neg =>
    rw [if_pos hp] at hr
    subst hr
    have hpn : (p != 0) = true := by simpa using hp
    clear hpe hp hbx hbr hA hB hba
    go_enter Try.func48, Try.ntmps48
    go_wp2_with fail
    refine hck.out.mono ?_
    rintro e w1 ⟨rfl, hv1⟩
    have hG := hb0.trans (hv1.mono hb0.size)
    have hr1 := blk_below hbrH.out hv1
    have hlr1 := blk_lt hr1
    clear r0 r1 hfr
    have r0 := blk_cell hr1 0
    have r1 := blk_cell hr1 1
    have hfr := blk_frozen hr1
    simp at r0 r1
    have hGs : Below w.heap.size w ((w1.setCell ⟨w.heap.size + 1 + 1, 0, none⟩ (.slice none 0 0)).setCell ⟨w.heap.size + 1 + 1, 1, none⟩ (.slice none 0 0)) := (hG.setCell (by dsimp only; omega) _).setCell (by dsimp only; omega) _
    go_wp2
    exact bodyPost_ret (v := .tuple #[.agg #[.slice none 0 0, .slice none 0 0], .int .i64 p]) (by simp [results, Try.results48, go_sem, r0, r1]) rfl (PostM.nil_ hGs)
  subst hp
  rw [if_neg (by simp)] at hr
  obtain ⟨hn4, hm4, _, _, hascA, hasc, _⟩ := sErr_zero.1 hpe
  rw [List.length_map, hA.len] at hn4
  rw [hB.len] at hm4
  have herr : ∀ b, errI b = if b = true then 0 else 2 := fun b => by cases b <;> rfl
  rw [herr] at hnt
  cases hc1 : chkT a.1
  case false =>
    rw [hc1] at hnt hr
    rw [if_pos rfl] at hr
    rw [if_neg (by simp)] at hnt
    subst hr
    clear hpe hbx hbr hA hB hasc hascA hba
    go_enter Try.func48, Try.ntmps48
    go_wp2_with fail
    refine hck.out.mono ?_
    rintro e w1 ⟨rfl, hv1⟩
    have hG1 := hb0.trans (hv1.mono hb0.size)
    have ha1 := blk_below hbaH.out hv1
    have a0 := blk_cell ha1 0
    have a1 := blk_cell ha1 1
    have a2 := blk_cell ha1 2
    have a3 := blk_cell ha1 3
    have a4 := blk_cell ha1 4
    have a5 := blk_cell ha1 5
    have a6 := blk_cell ha1 6
    simp at a0 a1 a2 a3 a4 a5 a6
    have hlta := blk_lt ha1
    go_wp2_with fail
    refine (hnt.out _).mono ?_
    rintro e w2 ⟨rfl, hv2⟩
    have hG := hG1.trans (hv2.mono hG1.size)
    have hr1 := blk_below (blk_below hbrH.out hv1) hv2
    have hlr1 := blk_lt hr1
    clear r0 r1 hfr
    have r0 := blk_cell hr1 0
    have r1 := blk_cell hr1 1
    have hfr := blk_frozen hr1
    simp at r0 r1
    have hGs : Below w.heap.size w ((w2.setCell ⟨w.heap.size + 1 + 1, 0, none⟩ (.slice none 0 0)).setCell ⟨w.heap.size + 1 + 1, 1, none⟩ (.slice none 0 0)) := (hG.setCell (by dsimp only; omega) _).setCell (by dsimp only; omega) _
    go_wp2
    exact bodyPost_ret (v := .tuple #[.agg #[.slice none 0 0, .slice none 0 0], .int .i64 2]) (by simp [results, Try.results48, go_sem, r0, r1]) rfl (PostM.nil_ hGs)
  rw [hc1] at hnt hr
  rw [if_neg (by simp)] at hr
  rw [if_pos rfl] at hnt
  cases he1 : fitsP a
  case false =>
    rw [he1] at hel hr
    rw [if_pos rfl] at hr
    subst hr
    clear hpe hbx hbr hA hB hasc hascA hba
    go_enter Try.func48, Try.ntmps48
    go_wp2_with fail
    refine hck.out.mono ?_
    rintro e w1 ⟨rfl, hv1⟩
    have hG1 := hb0.trans (hv1.mono hb0.size)
    have ha1 := blk_below hbaH.out hv1
    have a0 := blk_cell ha1 0
    have a1 := blk_cell ha1 1
    have a2 := blk_cell ha1 2
    have a3 := blk_cell ha1 3
    have a4 := blk_cell ha1 4
    have a5 := blk_cell ha1 5
    have a6 := blk_cell ha1 6
    simp at a0 a1 a2 a3 a4 a5 a6
    have hlta := blk_lt ha1
    go_wp2_with fail
    refine (hnt.out _).mono ?_
    rintro e w2 ⟨rfl, hv2⟩
    have hG := hG1.trans (hv2.mono hG1.size)
    have ha2 := blk_below ha1 hv2
    clear a0 a1 a2 a3 a4 a5 a6 hlta
    have a0 := blk_cell ha2 0
    have a1 := blk_cell ha2 1
    have a2 := blk_cell ha2 2
    have a3 := blk_cell ha2 3
    have a4 := blk_cell ha2 4
    have a5 := blk_cell ha2 5
    have a6 := blk_cell ha2 6
    simp at a0 a1 a2 a3 a4 a5 a6
    have hlta := blk_lt ha2
    go_wp2_with fail
    refine (hel.out _).mono ?_
    rintro e w3 ⟨rfl, hv3⟩
    have hG3 := hG.trans (hv3.mono hG.size)
    have hr1 := blk_below (blk_below (blk_below hbrH.out hv1) hv2) hv3
    have hlr1 := blk_lt hr1
    clear r0 r1 hfr
    have r0 := blk_cell hr1 0
    have r1 := blk_cell hr1 1
    have hfr := blk_frozen hr1
    simp at r0 r1
    have hGs : Below w.heap.size w ((w3.setCell ⟨w.heap.size + 1 + 1, 0, none⟩ (.slice none 0 0)).setCell ⟨w.heap.size + 1 + 1, 1, none⟩ (.slice none 0 0)) := (hG3.setCell (by dsimp only; omega) _).setCell (by dsimp only; omega) _
    go_wp2
    exact bodyPost_ret (v := .tuple #[.agg #[.slice none 0 0, .slice none 0 0], .int .i64 3]) (by simp [results, Try.results48, go_sem, r0, r1]) rfl (PostM.nil_ hGs)
  rw [he1] at hel hr
  rw [if_neg (by simp)] at hr
  have hAr := Lib.hid (fun w' (h : Below w.heap.size w w') => hA.below h)
  have hBr := Lib.hid (fun w' (h : Below w.heap.size w w') => hB.below h)
  have cg := Lib.hid (fun w' (h : Below w.heap.size w w') => hastag_any B m d gs a.1 w' ((hB.below h).more h.size) (by simp [maxLen]; omega))
  have hcmp := Lib.hid (fun (x : Pm) (hxm : x ∈ xs) => rcmpt_any x.1 a.1 (hx x hxm).1 ha.1)
  have hPl := posT_le (xs.map Prod.fst) a.1
  rw [List.length_map, hxl] at hPl
  have hbf := Lib.hid (fun (i : Nat) (x : Pm) (h : xs[i]? = some x) => ascT_before hascA (t := a.1) (i := i) (x := x.1) (by rw [List.getElem?_map, h]; rfl))
  have hins : Hid (insK Prod.fst xs a = xs.take (posT (xs.map Prod.fst) a.1) ++ a :: xs.drop (posT (xs.map Prod.fst) a.1)) := Lib.hid rfl
  generalize posT (xs.map Prod.fst) a.1 = P at hPl hins hbf
  generalize insK Prod.fst xs a = I at hr hins
  have hbT : Hid (∀ x ∈ xs, x.1 = a.1 → (xs.map Prod.fst).contains a.1 = true) := Lib.hid (fun x hxm he => by rw [List.contains_iff_mem, ← he]; exact List.mem_map_of_mem hxm)
  have hbF : Hid ((∀ x ∈ xs, x.1 ≠ a.1) → (xs.map Prod.fst).contains a.1 = false) := Lib.hid (fun h => by
    rw [Bool.eq_false_iff]
    intro hc
    rw [List.contains_iff_mem] at hc
    obtain ⟨x, hxm, he⟩ := List.mem_map.1 hc
    exact h x hxm he)
  generalize (xs.map Prod.fst).contains a.1 = b at hbT hbF hr
  generalize gs.contains a.1 = q at cg hr
  have hrH := Lib.hid hr
  have hxlH := Lib.hid hxl
  have hzW := hb0.size
  have hdm2 := Lib.hid hdm
  have hcm3 := Lib.hid hcm
  clear hpe hbx hba hbr hA hB hx hg hl hasc hascA hr hxl ha hal hcm hdm herr hc1 he1
  go_enter Try.func48, Try.ntmps48
  go_wp2_with fail
  refine hck.out.mono ?_
  rintro e w1 ⟨rfl, hv1⟩
  have hG1 := hb0.trans (hv1.mono hb0.size)
  have ha1 := blk_below hbaH.out hv1
  have a0 := blk_cell ha1 0
  have a1 := blk_cell ha1 1
  have a2 := blk_cell ha1 2
  have a3 := blk_cell ha1 3
  have a4 := blk_cell ha1 4
  have a5 := blk_cell ha1 5
  have a6 := blk_cell ha1 6
  simp at a0 a1 a2 a3 a4 a5 a6
  have hlta := blk_lt ha1
  go_wp2_with fail
  refine (hnt.out _).mono ?_
  rintro e w2 ⟨rfl, hv2⟩
  have hG2 := hG1.trans (hv2.mono hG1.size)
  have ha2 := blk_below ha1 hv2
  clear a0 a1 a2 a3 a4 a5 a6 hlta
  have a0 := blk_cell ha2 0
  have a1 := blk_cell ha2 1
  have a2 := blk_cell ha2 2
  have a3 := blk_cell ha2 3
  have a4 := blk_cell ha2 4
  have a5 := blk_cell ha2 5
  have a6 := blk_cell ha2 6
  simp at a0 a1 a2 a3 a4 a5 a6
  have hlta := blk_lt ha2
  go_wp2_with fail
  refine (hel.out _).mono ?_
  rintro e w3 ⟨rfl, hv3⟩
  have hG3 := hG2.trans (hv3.mono hG2.size)
  have ha3 := blk_below ha2 hv3
  have hs3 := blk_below (blk_below (blk_below hbxH.out hv1) hv2) hv3
  have hr3 := blk_below (blk_below (blk_below hbrH.out hv1) hv2) hv3
  clear r0 r1 hfr s0 s1 hltx hltr hck hnt hel hbxH hbaH hbrH a0 a1 a2 a3 a4 a5 a6 hlta ha1 ha2 hv1 hv2 hv3
  have hltx := blk_lt hs3
  have s0 := blk_cell hs3 0
  have s1 := blk_cell hs3 1
  simp at s0 s1
  have a0 := blk_cell ha3 0
  have a1 := blk_cell ha3 1
  have a2 := blk_cell ha3 2
  have a3 := blk_cell ha3 3
  have a4 := blk_cell ha3 4
  have a5 := blk_cell ha3 5
  have a6 := blk_cell ha3 6
  simp at a0 a1 a2 a3 a4 a5 a6
  have hlta := blk_lt ha3
  have hz3 := hG3.size
  go_wp2_with fail
  refine (cg.out w3 hG3).mono ?_
  rintro e w4 ⟨rfl, hv4⟩
  have hG4 := hG3.trans (hv4.mono hz3)
  have hs4 := blk_below hs3 hv4
  have hr4 := blk_below hr3 hv4
  have ha4 := blk_below ha3 hv4
  clear s0 s1 hltx a0 a1 a2 a3 a4 a5 a6 hlta hs3 hr3 ha3 hv4 cg
  have hz4 := hG4.size
  cases q
  case true =>
    have hltx := blk_lt hs4
    have s0 := blk_cell hs4 0
    have s1 := blk_cell hs4 1
    simp at s0 s1
    have hltr := blk_lt hr4
    have r0 := blk_cell hr4 0
    have r1 := blk_cell hr4 1
    simp at r0 r1
    have hfr := blk_frozen hr4
    have hGs : Below w.heap.size w ((w4.setCell ⟨w.heap.size + 1 + 1, 0, none⟩ (.slice A n c)).setCell ⟨w.heap.size + 1 + 1, 1, none⟩ (.slice B m d)) := (hG4.setCell (by dsimp only; omega) _).setCell (by dsimp only; omega) _
    have oAH := Lib.hid (RdP.more (hAr.out _ hGs) hGs.size)
    have oBH := Lib.hid (RdT.more (hBr.out _ hGs) hGs.size)
    go_wp2
    have hr := hrH.out
    rw [if_pos (by simp)] at hr
    subst hr
    exact bodyPost_ret (v := .tuple #[.agg #[.slice A n c, .slice B m d], .int .i64 0]) (by simp [results, Try.results48, go_sem, r0, r1]) rfl ⟨A, n, c, B, m, d, rfl, oAH.out, oBH.out, by omega, by omega, hnc, hcm3.out, hmd, hdm2.out, hGs⟩
  case false =>
    have hsH := Lib.hid hs4
    have hrbH := Lib.hid hr4
    have haH := Lib.hid ha4
    have hlr4 := blk_lt hr4
    clear hs4 hr4 ha4
    go_wp2_with fail
    go_loopg [7, 8, 9] (n + 1) (fun g l bi i wr => ∃ (k t : Nat) (T : Option Addr) (c' : Nat), k ≤ n ∧ g = n + 1 - k ∧ l = .slice T t c' ∧ bi = .bool (decide (P < k)) ∧ i = .int .i64 (k : Int) ∧ Ow wr w4.heap.size 94 7 (.slice T t c') ((preK xs a P k).map Pm.enc) ∧ (∀ j x, j < k → xs[j]? = some x → x.1 ≠ a.1) ∧ Below w4.heap.size w4 wr)
    case atStart => exact ⟨0, 0, none, 0, Nat.zero_le _, rfl, rfl, by simp, rfl, by rw [show preK xs a P 0 = [] by simp [preK]]; exact Ow.nil_ _ _ _ _, fun _ _ h => absurd h (by omega), Below.refl _ _⟩
    case round =>
      obtain ⟨k, t, T, c', hk, rfl, rfl, rfl, rfl, hown, hnek, hbr⟩ := hrel
      have hz := hbr.size
      have hGr := hG4.trans (hbr.mono hz4)
      have hsr := blk_below hsH.out hbr
      have har := blk_below haH.out hbr
      have hrr := blk_below hrbH.out hbr
      have htl : ((preK xs a P k).map Pm.enc).length = t := hown.rd.2.1
      have htk : t = if P < k then k + 1 else k := by rw [← htl, List.length_map]; exact preK_len (by rw [hxlH.out]; exact hk)
      have htk1 : t ≤ k + 1 := by rw [htk]; split <;> omega
      have htlH := Lib.hid htl
      have htkH := Lib.hid htk
      clear htl htk
      have hrow := Lib.hid hown.block
      by_cases hlt : k < n
      · obtain ⟨bA, oA, u, rfl, hbA, hqu, hcp⟩ := (hAr.out wr hGr).at_ hlt
        have p0 := hcp 0 _ rfl
        have p1 := hcp 1 _ rfl
        have p2 := hcp 2 _ rfl
        have p3 := hcp 3 _ rfl
        have p4 := hcp 4 _ rfl
        have p5 := hcp 5 _ rfl
        have p6 := hcp 6 _ rfl
        rw [Nat.add_zero] at p0
        have hlti : (k : Int) < (n : Int) := by omega
        have hbA2 : bA < w.heap.size := hbA
        have hbA3 : bA < wr.heap.size := by omega
        have hum : u ∈ xs := List.mem_of_getElem? hqu
        have cu := Lib.hid (hcmp.out u hum)
        have hb1 := Lib.hid (hbf.out k u hqu)
        have hzr : Hid (cmpT u.1 a.1 = 0 → b = true) := Lib.hid (fun h => hbT.out u hum (cmpT_zero.1 h))
        have hnz : Hid (cmpT u.1 a.1 ≠ 0 → ∀ j x, j < k + 1 → xs[j]? = some x → x.1 ≠ a.1) := Lib.hid (fun h j x hj hx => by
          rcases Nat.lt_or_ge j k with h1 | h1
          · exact hnek j x h1 hx
          · obtain rfl : j = k := by omega
            rw [hqu] at hx
            injection hx with hx
            subst hx
            exact fun he => h (cmpT_zero.2 he))
        have hquH := Lib.hid hqu
        have hlu : Hid (Pm.enc u = [.int .i64 u.1.1.1, .int .u32 u.1.1.2, .int .i64 u.1.2, .string (bs u.2.1), .int .i64 u.2.2.1, .int .u32 u.2.2.2.1, .int .i64 u.2.2.2.2]) := Lib.hid rfl
        have hltx := blk_lt hsr
        have s0 := blk_cell hsr 0
        have s1 := blk_cell hsr 1
        simp at s0 s1
        have a0 := blk_cell har 0
        have a1 := blk_cell har 1
        have a2 := blk_cell har 2
        have a3 := blk_cell har 3
        have a4 := blk_cell har 4
        have a5 := blk_cell har 5
        have a6 := blk_cell har 6
        simp at a0 a1 a2 a3 a4 a5 a6
        have hlta := blk_lt har
        have hsrH := Lib.hid hsr
        have harH := Lib.hid har
        have hrrH := Lib.hid hrr
        have hownH := Lib.hid hown
        have hnekH := Lib.hid hnek
        clear hcp hqu hum hsr har hrr hown hnek
        unfold ltT at hb1
        generalize cmpT u.1 a.1 = z at cu hb1 hzr hnz
        have hq0 : KQ wr.heap.size wr wr := kq (Below.refl _ _)
        go_upto_region 15 with (fail)
        go_region_held3 (fun w' => KQ wr.heap.size wr w') (first
      | with_reducible exact kq_call (by assumption) (by simp) (by assumption)
      | with_reducible exact kq_alloc (by with_reducible assumption) (Nat.le_refl _) _
      | with_reducible exact kq_alloc (kq_drew (by assumption)) (Nat.le_refl _) _
      | ((with_reducible refine kq ?_); (repeat (first | (with_reducible exact Below.refl _ _) | (with_reducible refine Below.drew ?_) | (with_reducible refine Below.alloc ?_ (by simp) _) | (with_reducible refine Below.setCell ?_ (by simp) _) | (with_reducible exact (by assumption : KQ _ _ _).1))); done))
          (first
            | (go_at_call 83; ((with_reducible refine (cu.out _).mono ?_); rintro e v1 ⟨rfl, hv1⟩)))
        have hF : KQ wr.heap.size wr v1 := by with_reducible assumption
        have hv := hF.1
        have hzv := hv.size
        have hsv := blk_below hsrH.out hv
        have hav := blk_below harH.out hv
        have hrv := blk_below hrrH.out hv
        have hownv := hownH.out.below hv
        have hbv := hbr.trans (hv.mono hz)
        have hGv := hGr.trans (hv.mono hGr.size)
        have cl0 := (hv.cell (p := ⟨bA, _, none⟩) hbA3).trans p0
        have cl1 := (hv.cell (p := ⟨bA, _, none⟩) hbA3).trans p1
        have cl2 := (hv.cell (p := ⟨bA, _, none⟩) hbA3).trans p2
        have cl3 := (hv.cell (p := ⟨bA, _, none⟩) hbA3).trans p3
        have cl4 := (hv.cell (p := ⟨bA, _, none⟩) hbA3).trans p4
        have cl5 := (hv.cell (p := ⟨bA, _, none⟩) hbA3).trans p5
        have cl6 := (hv.cell (p := ⟨bA, _, none⟩) hbA3).trans p6
        have hbA4 : bA < v1.heap.size := by omega
        clear hF s0 s1 hltx a0 a1 a2 a3 a4 a5 a6 hlta p0 p1 p2 p3 p4 p5 p6 hbA3 hsrH harH hrrH hownH cu hq0
        by_cases hz0 : z = 0
        · subst hz0
          obtain rfl : b = true := hzr.out rfl
          clear cl0 cl1 cl2 cl3 cl4 cl5 cl6
          have hltx := blk_lt hsv
          have s0 := blk_cell hsv 0
          have s1 := blk_cell hsv 1
          simp at s0 s1
          have hltr := blk_lt hrv
          have r0 := blk_cell hrv 0
          have r1 := blk_cell hrv 1
          simp at r0 r1
          have hfr := blk_frozen hrv
          have hGs : Below w.heap.size w ((v1.setCell ⟨w.heap.size + 1 + 1, 0, none⟩ (.slice (some ⟨bA, oA, none⟩) n c)).setCell ⟨w.heap.size + 1 + 1, 1, none⟩ (.slice B m d)) := (hGv.setCell (by dsimp only; omega) _).setCell (by dsimp only; omega) _
          have oAH := Lib.hid (RdP.more (hAr.out _ hGs) hGs.size)
          have oBH := Lib.hid (RdT.more (hBr.out _ hGs) hGs.size)
          go_wp2
          have hr := hrH.out
          rw [if_pos (by simp)] at hr
          subst hr
          exact bodyPost_ret (v := .tuple #[.agg #[.slice (some ⟨bA, oA, none⟩) n c, .slice B m d], .int .i64 0]) (by simp [results, Try.results48, go_sem, r0, r1]) rfl ⟨(some ⟨bA, oA, none⟩), n, c, B, m, d, rfl, oAH.out, oBH.out, by omega, by omega, hnc, hcm3.out, hmd, hdm2.out, hGs⟩
        have hzd : (z == 0) = false := by simpa using hz0
        have hlen1 : ∀ y ∈ ([[.int .i64 u.1.1.1, .int .u32 u.1.1.2, .int .i64 u.1.2, .string (bs u.2.1), .int .i64 u.2.2.1, .int .u32 u.2.2.2.1, .int .i64 u.2.2.2.2]] : List (List Value)), y.length = 7 := by simp
        have hone1 : ∀ y ∈ ([[.int .i64 u.1.1.1, .int .u32 u.1.1.2, .int .i64 u.1.2, .string (bs u.2.1), .int .i64 u.2.2.1, .int .u32 u.2.2.2.1, .int .i64 u.2.2.2.2]] : List (List Value)), ∀ v ∈ y, v.oneCell' = true := by simp [Value.oneCell']
        have hbO : Below v1.heap.size v1 (v1.alloc (.cells #[.int .i64 u.1.1.1, .int .u32 u.1.1.2, .int .i64 u.1.2, .string (bs u.2.1), .int .i64 u.2.2.1, .int .u32 u.2.2.2.1, .int .i64 u.2.2.2.2] 94)) := (Below.refl _ v1).alloc (Nat.le_refl _) _
        have hzv4 : w4.heap.size ≤ v1.heap.size := by omega
        by_cases hzn : z < 0
        · have hkP : k < P := hb1.out.1 hzn
          have hzg : decide (0 < z) = false := decide_eq_false (by omega)
          have hT : Hid ((preK xs a P (k + 1)).map Pm.enc = (preK xs a P k).map Pm.enc ++ [[.int .i64 u.1.1.1, .int .u32 u.1.1.2, .int .i64 u.1.2, .string (bs u.2.1), .int .i64 u.2.2.1, .int .u32 u.2.2.2.1, .int .i64 u.2.2.2.2]]) := Lib.hid (by rw [preK_lt hkP hquH.out]; simp [Pm.enc])
          have hd1 : decide (P < k + 1) = false := decide_eq_false (by omega)
          have hd0 : decide (P < k) = false := decide_eq_false (by omega)
          rw [hd0]
          have hltx := blk_lt hsv
          have s0 := blk_cell hsv 0
          have s1 := blk_cell hsv 1
          simp at s0 s1
          clear hsv hav hrv
          go_wp2_with (at_builtin; refine wpList_append_rd _ rfl _ _ _ rfl ePutR (base := w4.heap.size) (v := .slice T t c') (xs := (preK xs a P k).map Pm.enc) rfl (hownv.below hbO) rfl (Rd.one' [.int .i64 u.1.1.1, .int .u32 u.1.1.2, .int .i64 u.1.2, .string (bs u.2.1), .int .i64 u.2.2.1, .int .u32 u.2.2.2.1, .int .i64 u.2.2.2.2] (by simp)) hlen1 hone1 (by rw [htlH.out]; unfold maxLen; omega) (by rw [htlH.out]; omega) (by simp; omega) ?_; intro A2 n2 c2 v2 hn2 hown4 hg4 hat4; (obtain rfl : n2 = t + 1 := (by rw [hn2, htlH.out])); clear hn2)
          have hG : Below w4.heap.size w4 v2 := (hbv.trans (hbO.mono hzv4)).grown hg4 (by simp; omega) (fun g e => (hownv.block g e).1)
          go_roundg (n + 1 - (k + 1))
          case measure => omega
          case rel => exact ⟨k + 1, t + 1, A2, c2, by omega, rfl, rfl, by rw [hd1], by go_num, by rw [hT.out]; exact hown4, hnz.out hz0, hG⟩
        · have hzg : decide (0 < z) = true := decide_eq_true (by omega)
          have hPk : P ≤ k := by
            have := hb1.out
            rcases Nat.lt_or_ge k P with h | h
            · exact absurd (this.2 h) hzn
            · exact h
          have hd1 : decide (P < k + 1) = true := decide_eq_true (by omega)
          by_cases hPe : P < k
          · have hd0 : decide (P < k) = true := decide_eq_true hPe
            have hT : Hid ((preK xs a P (k + 1)).map Pm.enc = (preK xs a P k).map Pm.enc ++ [[.int .i64 u.1.1.1, .int .u32 u.1.1.2, .int .i64 u.1.2, .string (bs u.2.1), .int .i64 u.2.2.1, .int .u32 u.2.2.2.1, .int .i64 u.2.2.2.2]]) := Lib.hid (by rw [preK_gt hPe hquH.out]; simp [Pm.enc])
            rw [hd0]
            have hltx := blk_lt hsv
            have s0 := blk_cell hsv 0
            have s1 := blk_cell hsv 1
            simp at s0 s1
            clear hsv hav hrv
            go_wp2_with (at_builtin; refine wpList_append_rd _ rfl _ _ _ rfl ePutR (base := w4.heap.size) (v := .slice T t c') (xs := (preK xs a P k).map Pm.enc) rfl (hownv.below hbO) rfl (Rd.one' [.int .i64 u.1.1.1, .int .u32 u.1.1.2, .int .i64 u.1.2, .string (bs u.2.1), .int .i64 u.2.2.1, .int .u32 u.2.2.2.1, .int .i64 u.2.2.2.2] (by simp)) hlen1 hone1 (by rw [htlH.out]; unfold maxLen; omega) (by rw [htlH.out]; omega) (by simp; omega) ?_; intro A2 n2 c2 v2 hn2 hown4 hg4 hat4; (obtain rfl : n2 = t + 1 := (by rw [hn2, htlH.out])); clear hn2)
            have hG : Below w4.heap.size w4 v2 := (hbv.trans (hbO.mono hzv4)).grown hg4 (by simp; omega) (fun g e => (hownv.block g e).1)
            go_roundg (n + 1 - (k + 1))
            case measure => omega
            case rel => exact ⟨k + 1, t + 1, A2, c2, by omega, rfl, rfl, by rw [hd1], by go_num, by rw [hT.out]; exact hown4, hnz.out hz0, hG⟩
          · obtain rfl : P = k := by omega
            have hd0 : decide (P < P) = false := decide_eq_false (by omega)
            have hT : Hid ((preK xs a P (P + 1)).map Pm.enc = ((preK xs a P P).map Pm.enc ++ [[.int .i64 a.1.1.1, .int .u32 a.1.1.2, .int .i64 a.1.2, .string (bs a.2.1), .int .i64 a.2.2.1, .int .u32 a.2.2.2.1, .int .i64 a.2.2.2.2]]) ++ [[.int .i64 u.1.1.1, .int .u32 u.1.1.2, .int .i64 u.1.2, .string (bs u.2.1), .int .i64 u.2.2.1, .int .u32 u.2.2.2.1, .int .i64 u.2.2.2.2]]) := Lib.hid (by rw [preK_eq hquH.out]; simp [Pm.enc])
            rw [hd0]
            have hlen2 : ∀ y ∈ ([[.int .i64 a.1.1.1, .int .u32 a.1.1.2, .int .i64 a.1.2, .string (bs a.2.1), .int .i64 a.2.2.1, .int .u32 a.2.2.2.1, .int .i64 a.2.2.2.2]] : List (List Value)), y.length = 7 := by simp
            have hone2 : ∀ y ∈ ([[.int .i64 a.1.1.1, .int .u32 a.1.1.2, .int .i64 a.1.2, .string (bs a.2.1), .int .i64 a.2.2.1, .int .u32 a.2.2.2.1, .int .i64 a.2.2.2.2]] : List (List Value)), ∀ v ∈ y, v.oneCell' = true := by simp [Value.oneCell']
            have hbO2 : Below v1.heap.size v1 (v1.alloc (.cells #[.int .i64 a.1.1.1, .int .u32 a.1.1.2, .int .i64 a.1.2, .string (bs a.2.1), .int .i64 a.2.2.1, .int .u32 a.2.2.2.1, .int .i64 a.2.2.2.2] 94)) := (Below.refl _ v1).alloc (Nat.le_refl _) _
            have a0 := blk_cell hav 0
            have a1 := blk_cell hav 1
            have a2 := blk_cell hav 2
            have a3 := blk_cell hav 3
            have a4 := blk_cell hav 4
            have a5 := blk_cell hav 5
            have a6 := blk_cell hav 6
            simp at a0 a1 a2 a3 a4 a5 a6
            have hlta := blk_lt hav
            have hsvH := Lib.hid hsv
            clear hsv hav hrv
            go_upto_region 21 with (at_builtin; refine wpList_append_rd _ rfl _ _ _ rfl ePutR (base := w4.heap.size) (v := .slice T t c') (xs := (preK xs a P P).map Pm.enc) rfl (hownv.below hbO2) rfl (Rd.one' [.int .i64 a.1.1.1, .int .u32 a.1.1.2, .int .i64 a.1.2, .string (bs a.2.1), .int .i64 a.2.2.1, .int .u32 a.2.2.2.1, .int .i64 a.2.2.2.2] (by simp)) hlen2 hone2 (by rw [htlH.out]; unfold maxLen; omega) (by rw [htlH.out]; omega) (by simp; omega) ?_; intro A2 n2 c2 v2 hn2 hown4 hg4 hat4; (obtain rfl : n2 = t + 1 := (by rw [hn2, htlH.out])); clear hn2)
            have hG2' : Below v1.heap.size v1 v2 ∨ True := .inr trivial
            have hgr : ∀ g, (Value.slice T t c').ownBlock = some g → w4.heap.size ≤ g := fun g e => (hownv.block g e).1
            have hG : Below w4.heap.size w4 v2 := (hbv.trans (hbO2.mono hzv4)).grown hg4 (by simp; omega) hgr
            have hk4 : Below w4.heap.size v1 v2 := (hbO2.mono hzv4).grown hg4 (by simp; omega) hgr
            have hsv2 := (hk4.block w.heap.size (by omega)).trans hsvH.out
            have hzk := hk4.size
            have hzk2 := hg4.size
            simp at hzk2
            have hbw4 : bA < w4.heap.size := by omega
            have d0 := (hk4.cell (p := ⟨bA, _, none⟩) hbw4).trans cl0
            have d1 := (hk4.cell (p := ⟨bA, _, none⟩) hbw4).trans cl1
            have d2 := (hk4.cell (p := ⟨bA, _, none⟩) hbw4).trans cl2
            have d3 := (hk4.cell (p := ⟨bA, _, none⟩) hbw4).trans cl3
            have d4 := (hk4.cell (p := ⟨bA, _, none⟩) hbw4).trans cl4
            have d5 := (hk4.cell (p := ⟨bA, _, none⟩) hbw4).trans cl5
            have d6 := (hk4.cell (p := ⟨bA, _, none⟩) hbw4).trans cl6
            have hbA5 : bA < v2.heap.size := by omega
            clear cl0 cl1 cl2 cl3 cl4 cl5 cl6 a0 a1 a2 a3 a4 a5 a6 hlta hg4 hk4
            have hltx := blk_lt hsv2
            have s0 := blk_cell hsv2 0
            have s1 := blk_cell hsv2 1
            simp at s0 s1
            clear hsv2
            have hlen3 : (((preK xs a P P).map Pm.enc ++ ([[.int .i64 a.1.1.1, .int .u32 a.1.1.2, .int .i64 a.1.2, .string (bs a.2.1), .int .i64 a.2.2.1, .int .u32 a.2.2.2.1, .int .i64 a.2.2.2.2]] : List (List Value))).length) = t + 1 := by rw [List.length_append, htlH.out]; rfl
            have hlen3H := Lib.hid hlen3
            clear hlen3
            have hbO3 : Below v2.heap.size v2 (v2.alloc (.cells #[.int .i64 u.1.1.1, .int .u32 u.1.1.2, .int .i64 u.1.2, .string (bs u.2.1), .int .i64 u.2.2.1, .int .u32 u.2.2.2.1, .int .i64 u.2.2.2.2] 94)) := (Below.refl _ v2).alloc (Nat.le_refl _) _
            go_wp2_with (at_builtin; refine wpList_append_rd _ rfl _ _ _ rfl ePutR (base := w4.heap.size) (v := .slice A2 (t + 1) c2) (xs := (preK xs a P P).map Pm.enc ++ [[.int .i64 a.1.1.1, .int .u32 a.1.1.2, .int .i64 a.1.2, .string (bs a.2.1), .int .i64 a.2.2.1, .int .u32 a.2.2.2.1, .int .i64 a.2.2.2.2]]) rfl (hown4.below hbO3) rfl (Rd.one' [.int .i64 u.1.1.1, .int .u32 u.1.1.2, .int .i64 u.1.2, .string (bs u.2.1), .int .i64 u.2.2.1, .int .u32 u.2.2.2.1, .int .i64 u.2.2.2.2] (by simp)) hlen1 hone1 (by rw [hlen3H.out]; unfold maxLen; omega) (by rw [hlen3H.out]; omega) (by simp; omega) ?_; intro A3 n3 c3 v3 hn3 hown5 hg5 hat5; (obtain rfl : n3 = t + 1 + 1 := (by rw [hn3, hlen3H.out])); clear hn3)
            have hG5 : Below w4.heap.size w4 v3 := (hG.trans (hbO3.mono (by omega))).grown hg5 (by simp; omega) (fun g e => (hown4.block g e).1)
            go_roundg (n + 1 - (P + 1))
            case measure => omega
            case rel => exact ⟨P + 1, t + 1 + 1, A3, c3, by omega, rfl, rfl, by rw [hd1], by go_num, by rw [hT.out]; exact hown5, hnz.out hz0, hG5⟩
      · obtain rfl : k = n := by omega
        have hnli : ¬ (k : Int) < (k : Int) := by omega
        obtain rfl : b = false := hbF.out (fun x hx he => by
          obtain ⟨j, hj⟩ := List.getElem?_of_mem hx
          have := (List.getElem?_eq_some_iff.1 hj).1
          exact hnek j x (by rw [hxlH.out] at this; exact this) hj he)
        have hr := hrH.out
        rw [if_neg (by simp)] at hr
        have hrH := Lib.hid hr
        clear hr hnek hbT hbF
        have hsrH := Lib.hid hsr
        have hrrH := Lib.hid hrr
        by_cases hPk : P < k
        · have hd0 : decide (P < k) = true := decide_eq_true hPk
          have ht : t = k + 1 := by rw [htkH.out, if_pos hPk]
          subst ht
          have hT : Hid ((preK xs a P k).map Pm.enc = I.map Pm.enc) := Lib.hid (by rw [hins.out, preK_fin hPk hxlH.out])
          rw [hd0]
          rw [hT.out] at hown
          clear htlH htkH
          have hr9 := hrrH.out
          have hltr := blk_lt hr9
          have r0 := blk_cell hr9 0
          have r1 := blk_cell hr9 1
          simp at r0 r1
          have hfr := blk_frozen hr9
          have hltx := blk_lt hsr
          have s0 := blk_cell hsr 0
          have s1 := blk_cell hsr 1
          simp at s0 s1
          have hr9H := Lib.hid hr9
          have hoH := Lib.hid hown
          by_cases hfull : k = 4096
          · have hdf : decide ((4096 : Int) < ((k + 1 : Nat) : Int)) = true := decide_eq_true (by omega)
            have hdf2 : decide ((4096 : Int) < (k : Int) + 1) = true := decide_eq_true (by omega)
            have hr := hrH.out
            rw [if_pos hfull] at hr
            subst hr
            have hGs : Below w.heap.size w ((wr.setCell ⟨w.heap.size + 1 + 1, 0, none⟩ (.slice none 0 0)).setCell ⟨w.heap.size + 1 + 1, 1, none⟩ (.slice none 0 0)) := (hGr.setCell (by dsimp only; omega) _).setCell (by dsimp only; omega) _
            clear hr9 hsr hown
            go_wp2
            exact bodyPost_ret (v := .tuple #[.agg #[.slice none 0 0, .slice none 0 0], .int .i64 4]) (by simp [results, Try.results48, go_sem, r0, r1]) rfl (PostM.nil_ hGs)
          · have hdf : decide ((4096 : Int) < ((k + 1 : Nat) : Int)) = false := decide_eq_false (by omega)
            have hdf2 : decide ((4096 : Int) < (k : Int) + 1) = false := decide_eq_false (by omega)
            have hr := hrH.out
            rw [if_neg hfull] at hr
            have hrH := Lib.hid hr
            have hGs : Below w.heap.size w ((wr.setCell ⟨w.heap.size + 1 + 1, 0, none⟩ (.slice T (k + 1) c')).setCell ⟨w.heap.size + 1 + 1, 1, none⟩ (.slice B m d)) := (hGr.setCell (by dsimp only; omega) _).setCell (by dsimp only; omega) _
            have ha5 := Lib.hid ((hoH.out.set_blk hr9H.out (by decide) 0 (.slice T (k + 1) c')).set_blk (blk_set hr9H.out 0 _) (by decide) 1 (.slice B m d))
            have oB := Lib.hid (RdT.more (hBr.out _ hGs) hGs.size)
            clear hr9 hsr hown hr
            go_wp2
            have hr := hrH.out
            subst hr
            exact bodyPost_ret (v := .tuple #[.agg #[.slice T (k + 1) c', .slice B m d], .int .i64 0]) (by simp [results, Try.results48, go_sem, r0, r1]) rfl ⟨T, k + 1, c', B, m, d, rfl, ha5.out.rd.1, oB.out, by omega, by omega, ha5.out.rd.2.2.1, ha5.out.rd.2.2.2, hmd, hdm2.out, hGs⟩
        · obtain rfl : P = k := by omega
          have hd0 : decide (P < P) = false := decide_eq_false (by omega)
          have ht : t = P := by rw [htkH.out, if_neg (by omega)]
          subst ht
          have hT : Hid ((preK xs a t t).map Pm.enc ++ [[.int .i64 a.1.1.1, .int .u32 a.1.1.2, .int .i64 a.1.2, .string (bs a.2.1), .int .i64 a.2.2.1, .int .u32 a.2.2.2.1, .int .i64 a.2.2.2.2]] = I.map Pm.enc) := Lib.hid (by rw [hins.out, ← preK_end hxlH.out]; simp [Pm.enc])
          rw [hd0]
          have hlen2 : ∀ y ∈ ([[.int .i64 a.1.1.1, .int .u32 a.1.1.2, .int .i64 a.1.2, .string (bs a.2.1), .int .i64 a.2.2.1, .int .u32 a.2.2.2.1, .int .i64 a.2.2.2.2]] : List (List Value)), y.length = 7 := by simp
          have hone2 : ∀ y ∈ ([[.int .i64 a.1.1.1, .int .u32 a.1.1.2, .int .i64 a.1.2, .string (bs a.2.1), .int .i64 a.2.2.1, .int .u32 a.2.2.2.1, .int .i64 a.2.2.2.2]] : List (List Value)), ∀ v ∈ y, v.oneCell' = true := by simp [Value.oneCell']
          have hbO2 : Below wr.heap.size wr (wr.alloc (.cells #[.int .i64 a.1.1.1, .int .u32 a.1.1.2, .int .i64 a.1.2, .string (bs a.2.1), .int .i64 a.2.2.1, .int .u32 a.2.2.2.1, .int .i64 a.2.2.2.2] 94)) := (Below.refl _ wr).alloc (Nat.le_refl _) _
          have a0 := blk_cell har 0
          have a1 := blk_cell har 1
          have a2 := blk_cell har 2
          have a3 := blk_cell har 3
          have a4 := blk_cell har 4
          have a5 := blk_cell har 5
          have a6 := blk_cell har 6
          simp at a0 a1 a2 a3 a4 a5 a6
          have hlta := blk_lt har
          have hltx := blk_lt hsr
          have s0 := blk_cell hsr 0
          have s1 := blk_cell hsr 1
          simp at s0 s1
          clear hsr har hrr
          go_upto_region 24 with (at_builtin; refine wpList_append_rd _ rfl _ _ _ rfl ePutR (base := w4.heap.size) (v := .slice T t c') (xs := (preK xs a t t).map Pm.enc) rfl (hown.below hbO2) rfl (Rd.one' [.int .i64 a.1.1.1, .int .u32 a.1.1.2, .int .i64 a.1.2, .string (bs a.2.1), .int .i64 a.2.2.1, .int .u32 a.2.2.2.1, .int .i64 a.2.2.2.2] (by simp)) hlen2 hone2 (by rw [htlH.out]; unfold maxLen; omega) (by rw [htlH.out]; omega) (by simp; omega) ?_; intro A2 n2 c2 v2 hn2 hown4 hg4 hat4; (obtain rfl : n2 = t + 1 := (by rw [hn2, htlH.out])); clear hn2)
          have hgr : ∀ g, (Value.slice T t c').ownBlock = some g → w4.heap.size ≤ g := fun g e => (hown.block g e).1
          have hG : Below w4.heap.size w4 v2 := (hbr.trans (hbO2.mono hz)).grown hg4 (by simp; omega) hgr
          have hGv := hG4.trans (hG.mono hz4)
          have hsr := blk_below hsH.out hG
          have hrr := blk_below hrbH.out hG
          replace hrrH := Lib.hid hrr
          rw [hT.out] at hown4
          clear htlH htkH a0 a1 a2 a3 a4 a5 a6 hlta hrr hg4 s0 s1 hltx
          have hr9 := hrrH.out
          have hltr := blk_lt hr9
          have r0 := blk_cell hr9 0
          have r1 := blk_cell hr9 1
          simp at r0 r1
          have hfr := blk_frozen hr9
          have hltx := blk_lt hsr
          have s0 := blk_cell hsr 0
          have s1 := blk_cell hsr 1
          simp at s0 s1
          have hr9H := Lib.hid hr9
          have hoH := Lib.hid hown4
          by_cases hfull : t = 4096
          · have hdf : decide ((4096 : Int) < ((t + 1 : Nat) : Int)) = true := decide_eq_true (by omega)
            have hdf2 : decide ((4096 : Int) < (t : Int) + 1) = true := decide_eq_true (by omega)
            have hr := hrH.out
            rw [if_pos hfull] at hr
            subst hr
            have hGs : Below w.heap.size w ((v2.setCell ⟨w.heap.size + 1 + 1, 0, none⟩ (.slice none 0 0)).setCell ⟨w.heap.size + 1 + 1, 1, none⟩ (.slice none 0 0)) := (hGv.setCell (by dsimp only; omega) _).setCell (by dsimp only; omega) _
            clear hr9 hsr hown4
            go_wp2
            exact bodyPost_ret (v := .tuple #[.agg #[.slice none 0 0, .slice none 0 0], .int .i64 4]) (by simp [results, Try.results48, go_sem, r0, r1]) rfl (PostM.nil_ hGs)
          · have hdf : decide ((4096 : Int) < ((t + 1 : Nat) : Int)) = false := decide_eq_false (by omega)
            have hdf2 : decide ((4096 : Int) < (t : Int) + 1) = false := decide_eq_false (by omega)
            have hr := hrH.out
            rw [if_neg hfull] at hr
            have hrH := Lib.hid hr
            have hGs : Below w.heap.size w ((v2.setCell ⟨w.heap.size + 1 + 1, 0, none⟩ (.slice A2 (t + 1) c2)).setCell ⟨w.heap.size + 1 + 1, 1, none⟩ (.slice B m d)) := (hGv.setCell (by dsimp only; omega) _).setCell (by dsimp only; omega) _
            have ha5 := Lib.hid ((hoH.out.set_blk hr9H.out (by decide) 0 (.slice A2 (t + 1) c2)).set_blk (blk_set hr9H.out 0 _) (by decide) 1 (.slice B m d))
            have oB := Lib.hid (RdT.more (hBr.out _ hGs) hGs.size)
            clear hr9 hsr hown4 hr
            go_wp2
            have hr := hrH.out
            subst hr
            exact bodyPost_ret (v := .tuple #[.agg #[.slice A2 (t + 1) c2, .slice B m d], .int .i64 0]) (by simp [results, Try.results48, go_sem, r0, r1]) rfl ⟨A2, t + 1, c2, B, m, d, rfl, ha5.out.rd.1, oB.out, by omega, by omega, ha5.out.rd.2.2.1, ha5.out.rd.2.2.2, hmd, hdm2.out, hGs⟩
end Go.Proofs.Ytadldndmmobpdaa
