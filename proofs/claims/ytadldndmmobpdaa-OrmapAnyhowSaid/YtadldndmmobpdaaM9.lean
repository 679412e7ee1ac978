/- Sets of additions: what is wrong with one, by the program and by the document. The document's sets of additions: the names of additions, what is wrong with a set. -/
import Derived.Test.YtadldndmmobpdaaOsC
namespace Go.Proofs.Ytadldndmmobpdaa
open Go.RowKit

theorem all_chkA (xs : List Am) : (xs.map Prod.fst).all chkT = !xs.any (fun a => !chkT a.1) := by
  rw [List.all_map, List.all_eq_not_any_not]; rfl
theorem all_chkT (gs : List Tm) : gs.all chkT = !gs.any (fun t => !chkT t) := by rw [List.all_eq_not_any_not]
/-- What is wrong with a set, by what its parts are asked. -/
theorem oErr_parts {xs : List Am} {gs : List Tm} {n m : Nat} {b1 b2 b3 b4 b5 : Bool} (hn : xs.length = n) (hm : gs.length = m) (h1 : xs.any (fun a => !chkT a.1) = b1) (h2 : gs.any (fun t => !chkT t) = b2) (h3 : ascT (xs.map Prod.fst) = b3) (h4 : ascT gs = b4) (h5 : badA xs gs = b5) :
    oErr xs gs = if 4096 < n ∨ 4096 < m then 8 else if b1 || b2 then 2 else if b3 && b4 then (if b5 then 3 else 0) else 3 := by
  unfold oErr sErr
  rw [all_chkA, all_chkT, h1, h2, h3, h4, h5, List.length_map, hn, hm]
  cases b1 <;> cases b2 <;> cases b3 <;> cases b4 <;> cases b5 <;> rfl

set_option maxRecDepth 100000 in
set_option maxHeartbeats 1000000 in
theorem ocheck_any (A : Option Addr) (n c : Nat) (xs : List Am) (B : Option Addr) (m d : Nat) (gs : List Tm) (w : World) (hA : RdA w w.heap.size A n xs) (hB : RdT w w.heap.size B m gs) (hn : n ≤ maxLen) (hm : m ≤ maxLen) (hx : ∀ a ∈ xs, a.wf) (hg : ∀ t ∈ gs, t.wf) (hl : ∀ a ∈ xs, a.2.length ≤ maxLen) :
    Calls Try.prog 42 #[.agg #[.slice A n c, .slice B m d]] w fun e w' => e = .returned (.int .i64 (oErr xs gs)) ∧ Below w.heap.size w w' := by
  have hb0 : Below w.heap.size w (w.alloc (.cells #[.slice A n c, .slice B m d] 32)) := (Below.refl _ w).alloc (Nat.le_refl _) _
  have hbx : (w.alloc (.cells #[.slice A n c, .slice B m d] 32)).heap[w.heap.size]? = some (.cells #[.slice A n c, .slice B m d] 32 (0, 0)) := heap_at _ _ rfl
  generalize hW : w.alloc (.cells #[.slice A n c, .slice B m d] 32) = W at hb0 hbx
  have hbxH := Lib.hid hbx
  have hltx := blk_lt hbx
  have s0 := blk_cell hbx 0
  have s1 := blk_cell hbx 1
  simp at s0 s1
  have hnl := hA.len
  have hml := hB.len
  have c1 := Lib.hid (fun w' (h : Below w.heap.size w w') => cfA_gen 94 #[] (fun a => !chkT a.1) (fun _ _ => by kernel_rfl) w'.heap.size A n c xs w' ((hA.below h).more h.size) hn (fun x hxm w'' _ => chk1_any x (hx x hxm) w'') (Nat.le_refl _))
  have c2 := Lib.hid (fun w' (h : Below w.heap.size w w') => cfT_gen 75 #[] (fun t => !chkT t) (fun _ _ => by kernel_rfl) w'.heap.size B m d gs w' ((hB.below h).more h.size) hm (fun x hxm w'' _ => onotag_any x (hg x hxm) w'') (Nat.le_refl _))
  have c3 := Lib.hid (fun w' (h : Below w.heap.size w w') => strictA_any 96 #[] (fun _ _ => by kernel_rfl) w'.heap.size A n c xs w' ((hA.below h).more h.size) hn (fun x _ y _ w'' _ => chk2_any x y w'') (Nat.le_refl _))
  have c4 := Lib.hid (fun w' (h : Below w.heap.size w w') => strictT_any 87 #[] (fun _ _ => by kernel_rfl) w'.heap.size B m d gs w' ((hB.below h).more h.size) hm (fun x _ y _ w'' _ => pcmpt_any x y w'') (Nat.le_refl _))
  have c5 := Lib.hid (fun (hm4 : m ≤ 4096) (hasc : ascT gs = true) w' (h : Below W.heap.size W w') => cfA_gen 98 #[.pointer (some ⟨w.heap.size, 0, none⟩)] (fun a => !elemB a.2 || gs.contains a.1) (fun _ _ => by kernel_rfl) w'.heap.size A n c xs w' ((hA.below (hb0.trans (h.mono hb0.size))).more (hb0.trans (h.mono hb0.size)).size) hn
    (fun x hxm w'' h2 => chk3_any w.heap.size A n c xs B m d gs x w'' (blk_below (blk_below hbxH.out h) h2) ((hB.below ((hb0.trans (h.mono hb0.size)).trans (h2.mono (hb0.trans (h.mono hb0.size)).size))).more ((hb0.trans (h.mono hb0.size)).trans (h2.mono (hb0.trans (h.mono hb0.size)).size)).size) (by omega) ((ascT_asc gs).1 hasc) (hl x hxm)) (Nat.le_refl _))
  generalize hr : oErr xs gs = r
  obtain ⟨b1, h1⟩ : ∃ b, xs.any (fun a => !chkT a.1) = b := ⟨_, rfl⟩
  obtain ⟨b2, h2⟩ : ∃ b, gs.any (fun t => !chkT t) = b := ⟨_, rfl⟩
  obtain ⟨b3, h3⟩ : ∃ b, ascT (xs.map Prod.fst) = b := ⟨_, rfl⟩
  obtain ⟨b4, h4⟩ : ∃ b, ascT gs = b := ⟨_, rfl⟩
  obtain ⟨b5, h5⟩ : ∃ b, badA xs gs = b := ⟨_, rfl⟩
  rw [oErr_parts hnl hml h1 h2 h3 h4 h5] at hr
  rw [h1] at c1
  rw [h2] at c2
  rw [h3] at c3
  rw [h4] at c4 c5
  rw [show xs.any (fun a => !elemB a.2 || gs.contains a.1) = b5 from h5] at c5
  unfold maxLen at hn hm
  clear h1 h2 h3 h4 h5 hA hB hbx hx hg hl hnl hml
  by_cases hn4 : (4096 : Int) < (n : Int)
  · rw [if_pos (by omega)] at hr
    subst hr
    go_enter Try.func42, Try.ntmps42
    go_wp2
    go_ret
    exact ⟨rfl, hb0⟩
  have hdn : decide ((4096 : Int) < (n : Int)) = false := decide_eq_false hn4
  by_cases hm4 : (4096 : Int) < (m : Int)
  · rw [if_pos (by omega)] at hr
    subst hr
    go_enter Try.func42, Try.ntmps42
    go_wp2
    go_ret
    exact ⟨rfl, hb0⟩
  have hdm : decide ((4096 : Int) < (m : Int)) = false := decide_eq_false hm4
  have hm5 : m ≤ 4096 := by omega
  rw [if_neg (by omega)] at hr
  have hrH := Lib.hid hr
  clear hr
  go_enter Try.func42, Try.ntmps42
  go_wp2_with fail
  refine (c1.out _ hb0).mono ?_
  rintro e w1 ⟨rfl, hv1⟩
  have hG1 := hb0.trans (hv1.mono hb0.size)
  have hs1 := blk_below hbxH.out hv1
  clear s0 s1
  have hltx := blk_lt hs1
  have s0 := blk_cell hs1 0
  have s1 := blk_cell hs1 1
  simp at s0 s1
  cases b1
  case true =>
    have hT : Hid (2 = r) := Lib.hid (by rw [← hrH.out]; rfl)
    go_wp2
    go_ret
    exact ⟨ret_int hT.out, hG1⟩
  go_wp2_with fail
  refine (c2.out _ hG1).mono ?_
  rintro e w2 ⟨rfl, hv2⟩
  have hG2 := hG1.trans (hv2.mono hG1.size)
  have hs2 := blk_below hs1 hv2
  clear s0 s1
  have hltx := blk_lt hs2
  have s0 := blk_cell hs2 0
  have s1 := blk_cell hs2 1
  simp at s0 s1
  cases b2
  case true =>
    have hT : Hid (2 = r) := Lib.hid (by rw [← hrH.out]; rfl)
    go_wp2
    go_ret
    exact ⟨ret_int hT.out, hG2⟩
  go_wp2_with fail
  refine (c3.out _ hG2).mono ?_
  rintro e w3 ⟨rfl, hv3⟩
  have hG3 := hG2.trans (hv3.mono hG2.size)
  have hs3 := blk_below hs2 hv3
  clear s0 s1
  have hltx := blk_lt hs3
  have s0 := blk_cell hs3 0
  have s1 := blk_cell hs3 1
  simp at s0 s1
  cases b3
  case false =>
    have hT : Hid (3 = r) := Lib.hid (by rw [← hrH.out]; rfl)
    go_wp2
    go_ret
    exact ⟨ret_int hT.out, hG3⟩
  go_wp2_with fail
  refine (c4.out _ hG3).mono ?_
  rintro e w4 ⟨rfl, hv4⟩
  have hG4 := hG3.trans (hv4.mono hG3.size)
  have hs4 := blk_below hs3 hv4
  clear s0 s1
  have hltx := blk_lt hs4
  have s0 := blk_cell hs4 0
  have s1 := blk_cell hs4 1
  simp at s0 s1
  cases b4
  case false =>
    have hT : Hid (3 = r) := Lib.hid (by rw [← hrH.out]; rfl)
    go_wp2
    go_ret
    exact ⟨ret_int hT.out, hG4⟩
  have hW4 : Below W.heap.size W w4 := hv1.trans ((hv2.trans ((hv3.trans (hv4.mono hv3.size)).mono hv2.size)).mono hv1.size)
  have c5' := Lib.hid (c5.out hm5 rfl w4 hW4)
  go_wp2_with fail
  refine c5'.out.mono ?_
  rintro e w5 ⟨rfl, hv5⟩
  have hG5 := hG4.trans (hv5.mono hG4.size)
  cases b5
  case false =>
    have hT : Hid (0 = r) := Lib.hid (by rw [← hrH.out]; rfl)
    go_wp2
    go_ret
    exact ⟨ret_int hT.out, hG5⟩
  have hT : Hid (3 = r) := Lib.hid (by rw [← hrH.out]; rfl)
  go_wp2
  go_ret
  exact ⟨ret_int hT.out, hG5⟩
end Go.Proofs.Ytadldndmmobpdaa
namespace Go.Proofs.Ytadldndmmobpdaa
open Go.RowKit

set_option maxRecDepth 100000 in
theorem rtags_any (A : Option Addr) (n c : Nat) (xs : List Am) (w : World) (hA : RdA w w.heap.size A n xs) (hn : n ≤ 100000) :
    Calls Try.prog 82 #[.slice A n c] w fun e w' => ∃ T c', e = .returned (.slice T n c') ∧ Ow w' w.heap.size 79 3 (.slice T n c') ((xs.map Prod.fst).map Tm.enc) ∧ Below w.heap.size w w' := by
  have hnl := hA.len
  have hlH := Lib.hid hnl
  clear hnl
  go_enter Try.func82, Try.ntmps82
  go_wp2_with fail
  go_loopg [3, 4] (n + 1) (fun g o i wr => ∃ (k : Nat) (T : Option Addr) (c' : Nat), k ≤ n ∧ g = n + 1 - k ∧ i = .int .i64 (k : Int) ∧ o = .slice T k c' ∧ Ow wr w.heap.size 79 3 (.slice T k c') (((xs.take k).map Prod.fst).map Tm.enc) ∧ Below w.heap.size w wr)
  case atStart => exact ⟨0, none, 0, Nat.zero_le _, rfl, rfl, rfl, Ow.nil_ _ _ _ _, Below.refl _ _⟩
  case round =>
    obtain ⟨k, T, c', hk, rfl, rfl, rfl, hown, hbr⟩ := hrel
    have hz := hbr.size
    by_cases hlt : k < n
    · obtain ⟨bA, oA, u, rfl, hbA, hq, hcp⟩ := (hA.below hbr).at_ hlt
      have p0 := hcp 0 _ rfl
      have p1 := hcp 1 _ rfl
      have p2 := hcp 2 _ rfl
      have p3 := hcp 3 _ rfl
      rw [Nat.add_zero] at p0
      clear hcp
      have hst : Hid (((xs.take (k + 1)).map Prod.fst).map Tm.enc = ((xs.take k).map Prod.fst).map Tm.enc ++ [[.int .i64 u.1.1.1, .int .u32 u.1.1.2, .int .i64 u.1.2]]) := Lib.hid (by rw [List.take_add_one, hq]; simp [Tm.enc])
      have hlk : Hid ((((xs.take k).map Prod.fst).map Tm.enc).length = k) := Lib.hid (by simp; have := hlH.out; omega)
      clear hq
      have hbO : Below wr.heap.size wr (wr.alloc (.cells #[.int .i64 u.1.1.1, .int .u32 u.1.1.2, .int .i64 u.1.2] 79)) := (Below.refl _ wr).alloc (Nat.le_refl _) _
      have hlen1 : ∀ y ∈ ([[.int .i64 u.1.1.1, .int .u32 u.1.1.2, .int .i64 u.1.2]] : List (List Value)), y.length = 3 := by simp
      have hone1 : ∀ y ∈ ([[.int .i64 u.1.1.1, .int .u32 u.1.1.2, .int .i64 u.1.2]] : List (List Value)), ∀ v ∈ y, v.oneCell' = true := by simp [Value.oneCell']
      go_wp2_with (at_builtin; refine wpList_append_rd _ rfl _ _ _ rfl eTag (base := w.heap.size) (v := .slice T k c') (xs := ((xs.take k).map Prod.fst).map Tm.enc) rfl (hown.below hbO) rfl (Rd.one' [.int .i64 u.1.1.1, .int .u32 u.1.1.2, .int .i64 u.1.2] rfl) hlen1 hone1 (by rw [hlk.out]; unfold maxLen; omega) (by rw [hlk.out]; omega) (by simp; omega) ?_; intro A2 n2 c2 w4 hn2 hown4 hg4 hat4; (obtain rfl : n2 = k + 1 := (by rw [hn2, hlk.out])); clear hn2)
      have hG : Below w.heap.size w w4 := (hbr.alloc hz _).grown hg4 (by simp; omega) (fun g e => (hown.block g e).1)
      go_roundg (n + 1 - (k + 1))
      case measure => omega
      case rel => exact ⟨k + 1, A2, c2, by omega, rfl, by go_num, rfl, by rw [hst.out]; exact hown4, hG⟩
    · obtain rfl : k = n := by omega
      have hfin : Hid ((xs.take k).map Prod.fst = xs.map Prod.fst) := Lib.hid (by rw [List.take_of_length_le (by have := hlH.out; omega)])
      go_wp2
      go_ret
      exact ⟨T, c', rfl, by rw [← hfin.out]; exact hown, hbr⟩

set_option maxRecDepth 100000 in
set_option maxHeartbeats 1000000 in
theorem rocheck_any (A : Option Addr) (n c : Nat) (xs : List Am) (B : Option Addr) (m d : Nat) (gs : List Tm) (w : World) (hA : RdA w w.heap.size A n xs) (hB : RdT w w.heap.size B m gs) (hn : n ≤ 100000) (hm : m ≤ maxLen) (hx : ∀ a ∈ xs, a.wf) (hg : ∀ t ∈ gs, t.wf) (hl : ∀ a ∈ xs, a.2.length ≤ maxLen) :
    Calls Try.prog 43 #[.agg #[.slice A n c, .slice B m d]] w fun e w' => e = .returned (.int .i64 (oErr xs gs)) ∧ Below w.heap.size w w' := by
  have hb0 : Below w.heap.size w (w.alloc (.cells #[.slice A n c, .slice B m d] 25)) := (Below.refl _ w).alloc (Nat.le_refl _) _
  have hbx : (w.alloc (.cells #[.slice A n c, .slice B m d] 25)).heap[w.heap.size]? = some (.cells #[.slice A n c, .slice B m d] 25 (0, 0)) := heap_at _ _ rfl
  generalize hW : w.alloc (.cells #[.slice A n c, .slice B m d] 25) = W at hb0 hbx
  have hbxH := Lib.hid hbx
  have hltx := blk_lt hbx
  have s0 := blk_cell hbx 0
  have s1 := blk_cell hbx 1
  simp at s0 s1
  have hnl := hA.len
  have hml := hB.len
  have ct := Lib.hid (rtags_any A n c xs W ((hA.below hb0).more hb0.size) hn)
  have ck := Lib.hid (fun T c' w' (h : RdT w' w'.heap.size T n (xs.map Prod.fst)) => right_any T n c' (xs.map Prod.fst) w' h (by simp [maxLen]; omega) (fun t ht => by obtain ⟨a, ha, rfl⟩ := List.mem_map.1 ht; exact hx a ha))
  have cg := Lib.hid (fun w' (h : Below w.heap.size w w') => right_any B m d gs w' ((hB.below h).more h.size) hm hg)
  have rk := Lib.hid (fun T c' w' (h : RdT w' w'.heap.size T n (xs.map Prod.fst)) => rises_any T n c' (xs.map Prod.fst) w' h (by simp [maxLen]; omega) (fun t ht => by obtain ⟨a, ha, rfl⟩ := List.mem_map.1 ht; exact hx a ha))
  have rg := Lib.hid (fun w' (h : Below w.heap.size w w') => rises_any B m d gs w' ((hB.below h).more h.size) hm hg)
  have hh := Lib.hid (fun (a : Am) w' (h : Below w.heap.size w w') => hastag_any B m d gs a.1 w' ((hB.below h).more h.size) hm)
  have he := Lib.hid (fun (a : Am) (ha : a ∈ xs) => relem_any a.2 (hl a ha))
  have hAr := Lib.hid (fun w' (h : Below w.heap.size w w') => hA.below h)
  generalize hr : oErr xs gs = r
  obtain ⟨b1, h1⟩ : ∃ b, (xs.map Prod.fst).all chkT = b := ⟨_, rfl⟩
  obtain ⟨b2, h2⟩ : ∃ b, gs.all chkT = b := ⟨_, rfl⟩
  obtain ⟨b3, h3⟩ : ∃ b, ascT (xs.map Prod.fst) = b := ⟨_, rfl⟩
  obtain ⟨b4, h4⟩ : ∃ b, ascT gs = b := ⟨_, rfl⟩
  have hr2 : r = if 4096 < n ∨ 4096 < m then 8 else if (b1 && b2) = false then 2 else if (b3 && b4) = false then 3 else if badA xs gs then 3 else 0 := by
    rw [← hr, ← h1, ← h2, ← h3, ← h4, ← hnl, ← hml]; unfold oErr sErr; rw [List.length_map]
  rw [h1] at ck
  rw [h2] at cg
  rw [h3] at rk
  rw [h4] at rg
  unfold maxLen at hm
  clear h1 h2 h3 h4 hA hB hbx hx hg hl hml hr
  have hnlH := Lib.hid hnl
  clear hnl
  go_enter Try.func43, Try.ntmps43
  go_wp2_with fail
  refine ct.out.mono ?_
  rintro e w1 ⟨T, c', rfl, oT, hv1⟩
  have hG1 := hb0.trans (hv1.mono hb0.size)
  have hs1 := blk_below hbxH.out hv1
  clear s0 s1
  have hltx := blk_lt hs1
  have s0 := blk_cell hs1 0
  have s1 := blk_cell hs1 1
  simp at s0 s1
  by_cases hn4 : (4096 : Int) < (n : Int)
  · have hT : Hid (8 = r) := Lib.hid (by rw [hr2, if_pos (by omega)])
    clear hr2
    go_wp2
    go_ret
    exact ⟨ret_int hT.out, hG1⟩
  have hdn : decide ((4096 : Int) < (n : Int)) = false := decide_eq_false hn4
  by_cases hm4 : (4096 : Int) < (m : Int)
  · have hT : Hid (8 = r) := Lib.hid (by rw [hr2, if_pos (by omega)])
    clear hr2
    go_wp2
    go_ret
    exact ⟨ret_int hT.out, hG1⟩
  have hdm : decide ((4096 : Int) < (m : Int)) = false := decide_eq_false hm4
  rw [if_neg (by omega)] at hr2
  have hrH := Lib.hid hr2
  clear hr2
  go_wp2_with fail
  refine (ck.out T c' _ oT.rd.1).mono ?_
  rintro e w2 ⟨rfl, hv2⟩
  have hG2 := hG1.trans (hv2.mono hG1.size)
  have hs2 := blk_below hs1 hv2
  have oT2 := oT.below hv2
  clear s0 s1
  have hltx := blk_lt hs2
  have s0 := blk_cell hs2 0
  have s1 := blk_cell hs2 1
  simp at s0 s1
  cases b1
  case false =>
    have hT : Hid (2 = r) := Lib.hid (by rw [hrH.out]; rfl)
    go_wp2
    go_ret
    exact ⟨ret_int hT.out, hG2⟩
  go_wp2_with fail
  refine (cg.out _ hG2).mono ?_
  rintro e w3 ⟨rfl, hv3⟩
  have hG3 := hG2.trans (hv3.mono hG2.size)
  have hs3 := blk_below hs2 hv3
  have oT3 := oT2.below hv3
  clear s0 s1
  have hltx := blk_lt hs3
  have s0 := blk_cell hs3 0
  have s1 := blk_cell hs3 1
  simp at s0 s1
  cases b2
  case false =>
    have hT : Hid (2 = r) := Lib.hid (by rw [hrH.out]; rfl)
    go_wp2
    go_ret
    exact ⟨ret_int hT.out, hG3⟩
  go_wp2_with fail
  refine (rk.out T c' _ oT3.rd.1).mono ?_
  rintro e w4 ⟨rfl, hv4⟩
  have hG4 := hG3.trans (hv4.mono hG3.size)
  have hs4 := blk_below hs3 hv4
  clear s0 s1
  have hltx := blk_lt hs4
  have s0 := blk_cell hs4 0
  have s1 := blk_cell hs4 1
  simp at s0 s1
  cases b3
  case false =>
    have hT : Hid (3 = r) := Lib.hid (by rw [hrH.out]; rfl)
    go_wp2
    go_ret
    exact ⟨ret_int hT.out, hG4⟩
  go_wp2_with fail
  refine (rg.out _ hG4).mono ?_
  rintro e w5 ⟨rfl, hv5⟩
  have hG5 := hG4.trans (hv5.mono hG4.size)
  have hs5 := blk_below hs4 hv5
  clear s0 s1
  have hltx := blk_lt hs5
  have s0 := blk_cell hs5 0
  have s1 := blk_cell hs5 1
  simp at s0 s1
  cases b4
  case false =>
    have hT : Hid (3 = r) := Lib.hid (by rw [hrH.out]; rfl)
    go_wp2
    go_ret
    exact ⟨ret_int hT.out, hG5⟩
  have hrB : Hid (r = if badA xs gs then 3 else 0) := Lib.hid (by rw [hrH.out]; rfl)
  have hs5H := Lib.hid hs5
  clear hs1 hs2 hs3 hs4 hs5 oT oT2 oT3 ck cg rk rg ct hv1 hv2 hv3 hv4 hv5 hG1 hG2 hG3 hG4 hrH
  go_wp2_with fail
  clear s0 s1 hltx
  go_loopg [4] (n + 1) (fun g i wr => ∃ k : Nat, k ≤ n ∧ g = n + 1 - k ∧ i = .int .i64 (k : Int) ∧ (∀ u ∈ xs.take k, (!elemB u.2 || gs.contains u.1) = false) ∧ Below w5.heap.size w5 wr)
  case atStart => exact ⟨0, Nat.zero_le _, rfl, rfl, by simp, Below.refl _ _⟩
  case round =>
    obtain ⟨k, hk, rfl, rfl, hno, hbr⟩ := hrel
    have hG := hG5.trans (hbr.mono hG5.size)
    have hz := hG.size
    have hsr := blk_below hs5H.out hbr
    have hltx := blk_lt hsr
    have s0 := blk_cell hsr 0
    have s1 := blk_cell hsr 1
    simp at s0 s1
    clear hsr
    by_cases hlt : k < n
    · obtain ⟨bA, oA, u, rfl, hbA, hq, hcp⟩ := (hAr.out wr hG).at_ hlt
      have p0 := hcp 0 _ rfl
      have p1 := hcp 1 _ rfl
      have p2 := hcp 2 _ rfl
      have p3 := hcp 3 _ rfl
      rw [Nat.add_zero] at p0
      clear hcp
      have hnoH := Lib.hid hno
      have hqH := Lib.hid hq
      have hbA2 : bA < wr.heap.size := Nat.lt_of_lt_of_le hbA hz
      have hlti : (k : Int) < (n : Int) := by omega
      have heu := Lib.hid (he.out u (List.mem_of_getElem? hq))
      have hhu := Lib.hid (fun w' (h : KQ wr.heap.size wr w') => hh.out u w' (hG.trans (h.1.mono hz)))
      have hq0 : KQ wr.heap.size wr wr := kq (Below.refl _ _)
      clear hno hq
      obtain ⟨q, hqe⟩ : ∃ q, elemB u.2 = q := ⟨_, rfl⟩
      obtain ⟨z, hze⟩ : ∃ z, gs.contains u.1 = z := ⟨_, rfl⟩
      rw [hqe] at heu
      rw [hze] at hhu
      cases q
      · have hT : Hid (3 = r) := Lib.hid (by
          rw [hrB.out, if_pos]
          exact List.any_eq_true.2 ⟨u, List.mem_of_getElem? hqH.out, by rw [hqe]; rfl⟩)
        clear hqe hze
        go_wp2_with fail
        refine wp_region_M (fun w' => KQ wr.heap.size wr w') (fun _ => True) 99 (by kernel_rfl) (kq (Below.refl _ _).drew) trivial ?_
        intro hcl
        have hC : KQ wr.heap.size wr wr.drew := kq (Below.refl _ _).drew
        have hE := trivial
        (refine wpM_take (i := 0) (v := ?_) rfl (by kernel_rfl) (by kernel_rfl) (by kernel_rfl) (by decide) (fun _ _ _ h => h) hcl hC (fun _ => hE) (Or.inl ⟨by rfl, ?_⟩) ?_; rotate_left; (· (intro w hSw; (try dsimp only at hSw); go_simp; (try with_reducible rfl))); clear hcl; intro hcl; (try simp only [Act.put, List.getElem_toArray, List.getElem_cons_zero, List.setIfInBounds_toArray, List.set_cons_zero, List.set_cons_succ]))
        (refine wpM_take (i := 1) (v := ?_) rfl (by kernel_rfl) (by kernel_rfl) (by kernel_rfl) (by decide) (fun _ _ _ h => h) hcl hC (fun _ => hE) (Or.inl ⟨by rfl, ?_⟩) ?_; rotate_left; (· (intro w hSw; (try dsimp only at hSw); go_simp; (try with_reducible rfl))); clear hcl; intro hcl; (try simp only [Act.put, List.getElem_toArray, List.getElem_cons_zero, List.getElem_cons_succ, List.setIfInBounds_toArray, List.set_cons_zero, List.set_cons_succ]))
        (refine wpM_take (i := 2) (v := ?_) rfl (by kernel_rfl) (by kernel_rfl) (by kernel_rfl) (by decide) (fun _ _ _ h => h) hcl hC (fun _ => hE) (Or.inl ⟨by rfl, ?_⟩) ?_; rotate_left; (· (intro w hSw; (try dsimp only at hSw); go_simp; (try with_reducible rfl))); clear hcl; intro hcl; (try simp only [Act.put, List.getElem_toArray, List.getElem_cons_zero, List.getElem_cons_succ, List.setIfInBounds_toArray, List.set_cons_zero, List.set_cons_succ]))
        (refine wpM_take (i := 3) (v := ?_) rfl (by kernel_rfl) (by kernel_rfl) (by kernel_rfl) (by decide) (fun _ _ _ h => h) hcl hC (fun _ => hE) (Or.inl ⟨by rfl, ?_⟩) ?_; rotate_left; (· (intro w hSw; (try dsimp only at hSw); go_simp; (try with_reducible rfl))); clear hcl; intro hcl; (try simp only [Act.put, List.getElem_toArray, List.getElem_cons_zero, List.getElem_cons_succ, List.setIfInBounds_toArray, List.set_cons_zero, List.set_cons_succ]))
        (refine wpM_take (i := 4) (v := ?_) rfl (by kernel_rfl) (by kernel_rfl) (by kernel_rfl) (by decide) (fun _ _ _ h => h) hcl hC (fun _ => hE) (Or.inl ⟨by rfl, ?_⟩) ?_; rotate_left; (· (intro w hSw; (try dsimp only at hSw); go_simp; (try with_reducible rfl))); clear hcl; intro hcl; (try simp only [Act.put, List.getElem_toArray, List.getElem_cons_zero, List.getElem_cons_succ, List.setIfInBounds_toArray, List.set_cons_zero, List.set_cons_succ]))
        (refine wpM_take (i := 5) (v := ?_) rfl (by kernel_rfl) (by kernel_rfl) (by kernel_rfl) (by decide) (fun _ _ _ h => h) hcl hC (fun _ => hE) (Or.inl ⟨by rfl, ?_⟩) ?_; rotate_left; (· (intro w hSw; (try dsimp only at hSw); go_simp; (try with_reducible rfl))); clear hcl; intro hcl; (try simp only [Act.put, List.getElem_toArray, List.getElem_cons_zero, List.getElem_cons_succ, List.setIfInBounds_toArray, List.set_cons_zero, List.set_cons_succ]))
        refine wpM_only (i := 6) rfl (by kernel_rfl) hcl (fun K hK => ?_)
        go_simp
        refine (heu.out _).mono ?_
        rintro e w6 ⟨rfl, rfl⟩
        refine hK.out _ _ hC trivial ?_
        clear hK K
        clear hcl
        intro hcl
        (try simp only [Act.put, List.getElem_toArray, List.getElem_cons_zero, List.getElem_cons_succ, List.setIfInBounds_toArray, List.set_cons_zero, List.set_cons_succ])
        (refine wpM_take (i := 7) (v := ?_) rfl (by kernel_rfl) (by kernel_rfl) (by kernel_rfl) (by decide) (fun _ _ _ h => h) hcl hC (fun _ => hE) (Or.inl ⟨by rfl, ?_⟩) ?_; rotate_left; (· (intro w hSw; (try dsimp only at hSw); go_simp; (try with_reducible rfl))); clear hcl; intro hcl; (try simp only [Act.put, List.getElem_toArray, List.getElem_cons_zero, List.getElem_cons_succ, List.setIfInBounds_toArray, List.set_cons_zero, List.set_cons_succ]))
        (refine wpM_take (i := 8) (v := ?_) rfl (by kernel_rfl) (by kernel_rfl) (by kernel_rfl) (by decide) (fun _ _ _ h => h) hcl hC (fun _ => hE) (Or.inl ⟨by rfl, ?_⟩) ?_; rotate_left; (· (intro w hSw; (try dsimp only at hSw); go_simp; (try with_reducible rfl))); clear hcl; intro hcl; (try simp only [Act.put, List.getElem_toArray, List.getElem_cons_zero, List.getElem_cons_succ, List.setIfInBounds_toArray, List.set_cons_zero, List.set_cons_succ]))
        (refine wpM_take (i := 9) (v := undef) rfl (by kernel_rfl) (by kernel_rfl) (by kernel_rfl) (by decide) (fun _ _ _ h => h) hcl hC (fun _ => hE) (Or.inr ⟨by rfl, rfl⟩) ?_; clear hcl; intro hcl; (try simp only [Act.put, List.getElem_toArray, List.getElem_cons_zero, List.getElem_cons_succ, List.setIfInBounds_toArray, List.set_cons_zero, List.set_cons_succ]))
        (refine wpM_take (i := 10) (v := undef) rfl (by kernel_rfl) (by kernel_rfl) (by kernel_rfl) (by decide) (fun _ _ _ h => h) hcl hC (fun _ => hE) (Or.inr ⟨by rfl, rfl⟩) ?_; clear hcl; intro hcl; (try simp only [Act.put, List.getElem_toArray, List.getElem_cons_zero, List.getElem_cons_succ, List.setIfInBounds_toArray, List.set_cons_zero, List.set_cons_succ]))
        (refine wpM_take (i := 11) (v := undef) rfl (by kernel_rfl) (by kernel_rfl) (by kernel_rfl) (by decide) (fun _ _ _ h => h) hcl hC (fun _ => hE) (Or.inr ⟨by rfl, rfl⟩) ?_; clear hcl; intro hcl; (try simp only [Act.put, List.getElem_toArray, List.getElem_cons_zero, List.getElem_cons_succ, List.setIfInBounds_toArray, List.set_cons_zero, List.set_cons_succ]))
        (refine wpM_take (i := 12) (v := undef) rfl (by kernel_rfl) (by kernel_rfl) (by kernel_rfl) (by decide) (fun _ _ _ h => h) hcl hC (fun _ => hE) (Or.inr ⟨by rfl, rfl⟩) ?_; clear hcl; intro hcl; (try simp only [Act.put, List.getElem_toArray, List.getElem_cons_zero, List.getElem_cons_succ, List.setIfInBounds_toArray, List.set_cons_zero, List.set_cons_succ]))
        (refine wpM_take (i := 13) (v := undef) rfl (by kernel_rfl) (by kernel_rfl) (by kernel_rfl) (by decide) (fun _ _ _ h => h) hcl hC (fun _ => hE) (Or.inr ⟨by rfl, rfl⟩) ?_; clear hcl; intro hcl; (try simp only [Act.put, List.getElem_toArray, List.getElem_cons_zero, List.getElem_cons_succ, List.setIfInBounds_toArray, List.set_cons_zero, List.set_cons_succ]))
        (refine wpM_take (i := 14) (v := undef) rfl (by kernel_rfl) (by kernel_rfl) (by kernel_rfl) (by decide) (fun _ _ _ h => h) hcl hC (fun _ => hE) (Or.inr ⟨by rfl, rfl⟩) ?_; clear hcl; intro hcl; (try simp only [Act.put, List.getElem_toArray, List.getElem_cons_zero, List.getElem_cons_succ, List.setIfInBounds_toArray, List.set_cons_zero, List.set_cons_succ]))
        (refine wpM_take (i := 15) (v := undef) rfl (by kernel_rfl) (by kernel_rfl) (by kernel_rfl) (by decide) (fun _ _ _ h => h) hcl hC (fun _ => hE) (Or.inr ⟨by rfl, rfl⟩) ?_; clear hcl; intro hcl; (try simp only [Act.put, List.getElem_toArray, List.getElem_cons_zero, List.getElem_cons_succ, List.setIfInBounds_toArray, List.set_cons_zero, List.set_cons_succ]))
        (refine wpM_take (i := 16) (v := undef) rfl (by kernel_rfl) (by kernel_rfl) (by kernel_rfl) (by decide) (fun _ _ _ h => h) hcl hC (fun _ => hE) (Or.inr ⟨by rfl, rfl⟩) ?_; clear hcl; intro hcl; (try simp only [Act.put, List.getElem_toArray, List.getElem_cons_zero, List.getElem_cons_succ, List.setIfInBounds_toArray, List.set_cons_zero, List.set_cons_succ]))
        (refine wpM_take (i := 17) (v := undef) rfl (by kernel_rfl) (by kernel_rfl) (by kernel_rfl) (by decide) (fun _ _ _ h => h) hcl hC (fun _ => hE) (Or.inr ⟨by rfl, rfl⟩) ?_; clear hcl; intro hcl; (try simp only [Act.put, List.getElem_toArray, List.getElem_cons_zero, List.getElem_cons_succ, List.setIfInBounds_toArray, List.set_cons_zero, List.set_cons_succ]))
        (refine wpM_take (i := 18) (v := ?_) rfl (by kernel_rfl) (by kernel_rfl) (by kernel_rfl) (by decide) (fun _ _ _ h => h) hcl hC (fun _ => hE) (Or.inl ⟨by rfl, ?_⟩) ?_; rotate_left; (· (intro w hSw; (try dsimp only at hSw); go_simp; (try with_reducible rfl))); clear hcl; intro hcl; (try simp only [Act.put, List.getElem_toArray, List.getElem_cons_zero, List.getElem_cons_succ, List.setIfInBounds_toArray, List.set_cons_zero, List.set_cons_succ]))
        refine wpM_done (by kernel_rfl) ?_
        clear hcl
        try simp only [List.getElem_toArray, List.getElem_cons_zero, List.getElem_cons_succ, List.setIfInBounds_toArray, List.set_cons_zero, List.set_cons_succ]
        go_wp2
        go_ret
        exact ⟨ret_int hT.out, hG.drew⟩
      · cases z
        · have hT : Hid ((!elemB u.2 || gs.contains u.1) = false) := Lib.hid (by rw [hqe, hze]; rfl)
          clear hqe hze
          go_wp2_with fail
          go_region_held3 (fun w' => KQ wr.heap.size wr w') (first
      | with_reducible exact kq_call (by assumption) (by simp) (by assumption)
      | with_reducible exact kq_alloc (by with_reducible assumption) (Nat.le_refl _) _
      | with_reducible exact kq_alloc (kq_drew (by assumption)) (Nat.le_refl _) _
      | ((with_reducible refine kq ?_); (repeat (first | (with_reducible exact Below.refl _ _) | (with_reducible refine Below.drew ?_) | (with_reducible refine Below.alloc ?_ (by simp) _) | (with_reducible refine Below.setCell ?_ (by simp) _) | (with_reducible exact (by assumption : KQ _ _ _).1))); done))
            (first
              | (go_at_call 45; ((with_reducible refine (heu.out _).mono ?_); rintro e w6 ⟨rfl, rfl⟩))
              | (go_at_call 81; ((with_reducible refine (hhu.out _ (by with_reducible assumption)).mono ?_); rintro e w7 ⟨rfl, hv7⟩)))
          have hF : KQ wr.heap.size wr w7 := by with_reducible assumption
          have hGr := hbr.trans (hF.1.mono hbr.size)
          clear hF
          go_wp2
          go_roundg (n + 1 - (k + 1))
          case measure => omega
          case rel => exact ⟨k + 1, by omega, rfl, by go_num, all_take_succ hnoH.out hqH.out hT.out, hGr⟩
        · have hT : Hid (3 = r) := Lib.hid (by
            rw [hrB.out, if_pos]
            exact List.any_eq_true.2 ⟨u, List.mem_of_getElem? hqH.out, by rw [hze]; simp⟩)
          clear hqe hze
          go_wp2_with fail
          go_region_held3 (fun w' => KQ wr.heap.size wr w') (first
      | with_reducible exact kq_call (by assumption) (by simp) (by assumption)
      | with_reducible exact kq_alloc (by with_reducible assumption) (Nat.le_refl _) _
      | with_reducible exact kq_alloc (kq_drew (by assumption)) (Nat.le_refl _) _
      | ((with_reducible refine kq ?_); (repeat (first | (with_reducible exact Below.refl _ _) | (with_reducible refine Below.drew ?_) | (with_reducible refine Below.alloc ?_ (by simp) _) | (with_reducible refine Below.setCell ?_ (by simp) _) | (with_reducible exact (by assumption : KQ _ _ _).1))); done))
            (first
              | (go_at_call 45; ((with_reducible refine (heu.out _).mono ?_); rintro e w6 ⟨rfl, rfl⟩))
              | (go_at_call 81; ((with_reducible refine (hhu.out _ (by with_reducible assumption)).mono ?_); rintro e w7 ⟨rfl, hv7⟩)))
          have hF : KQ wr.heap.size wr w7 := by with_reducible assumption
          have hGr := hG.trans (hF.1.mono hz)
          clear hF
          go_wp2
          go_ret
          exact ⟨ret_int hT.out, hGr⟩
    · have hT : Hid (0 = r) := Lib.hid (by
        rw [hrB.out, if_neg]
        rw [Bool.not_eq_true]
        unfold badA
        rw [List.any_eq_false]
        intro a ha
        have := all_take_all (by rw [show k = n from by omega] at hno; exact hno) hnlH.out a ha
        rw [this]; decide)
      clear hno
      go_wp2
      go_ret
      exact ⟨ret_int hT.out, hG⟩
end Go.Proofs.Ytadldndmmobpdaa
