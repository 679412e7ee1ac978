/- Sets of additions: what is wrong with one, by the program and by the document. -/
import Derived.Test.YtadldndmmobpdaaOsC
namespace Go.Proofs.Ytadldndmmobpdaa
open Go.RowKit

theorem all_chkA (xs : List Am) : (xs.map Prod.fst).all chkT = !xs.any (fun a => !chkT a.1) := by
  rw [List.all_map, List.all_eq_not_any_not]; rfl
theorem all_chkT (gs : List Tm) : gs.all chkT = !gs.any (fun t => !chkT t) := by rw [List.all_eq_not_any_not]
/-- What is wrong with a set, by what its parts are asked. -/
theorem oErr_parts {xs : List Am} {gs : List Tm} {n m : Nat} {b1 b2 b3 b4 b5 : Bool} (hn : xs.length = n) (hm : gs.length = m) (h1 : xs.any (fun a => !chkT a.1) = b1) (h2 : gs.any (fun t => !chkT t) = b2) (h3 : ascT (xs.map Prod.fst) = b3) (h4 : ascT gs = b4) (h5 : badA xs gs = b5) :
    oErr xs gs = if 4096 < n ∨ 4096 < m then 8 else if b1 || b2 then 2 else if b3 && b4 then (if b5 then 3 else 0) else 3 := by
  unfold oErr sErr
  rw [all_chkA, all_chkT, h1, h2, h3, h4, h5, List.length_map, hn, hm]
  cases b1 <;> cases b2 <;> cases b3 <;> cases b4 <;> cases b5 <;> rfl

set_option maxRecDepth 100000 in
set_option maxHeartbeats 1000000 in
theorem ocheck_any (A : Option Addr) (n c : Nat) (xs : List Am) (B : Option Addr) (m d : Nat) (gs : List Tm) (w : World) (hA : RdA w w.heap.size A n xs) (hB : RdT w w.heap.size B m gs) (hn : n ≤ maxLen) (hm : m ≤ maxLen) (hx : ∀ a ∈ xs, a.wf) (hg : ∀ t ∈ gs, t.wf) (hl : ∀ a ∈ xs, a.2.length ≤ maxLen) :
    Calls Try.prog 42 #[.agg #[.slice A n c, .slice B m d]] w fun e w' => e = .returned (.int .i64 (oErr xs gs)) ∧ Below w.heap.size w w' := by
  have hb0 : Below w.heap.size w (w.alloc (.cells #[.slice A n c, .slice B m d] 32)) := (Below.refl _ w).alloc (Nat.le_refl _) _
  have hbx : (w.alloc (.cells #[.slice A n c, .slice B m d] 32)).heap[w.heap.size]? = some (.cells #[.slice A n c, .slice B m d] 32 (0, 0)) := heap_at _ _ rfl
  generalize hW : w.alloc (.cells #[.slice A n c, .slice B m d] 32) = W at hb0 hbx
  have hbxH := Lib.hid hbx
  have hltx := blk_lt hbx
  have s0 := blk_cell hbx 0
  have s1 := blk_cell hbx 1
  simp at s0 s1
  have hnl := hA.len
  have hml := hB.len
  have c1 := Lib.hid (fun w' (h : Below w.heap.size w w') => cfA_gen 94 #[] (fun a => !chkT a.1) (fun _ _ => by kernel_rfl) w'.heap.size A n c xs w' ((hA.below h).more h.size) hn (fun x hxm w'' _ => chk1_any x (hx x hxm) w'') (Nat.le_refl _))
  have c2 := Lib.hid (fun w' (h : Below w.heap.size w w') => cfT_gen 75 #[] (fun t => !chkT t) (fun _ _ => by kernel_rfl) w'.heap.size B m d gs w' ((hB.below h).more h.size) hm (fun x hxm w'' _ => onotag_any x (hg x hxm) w'') (Nat.le_refl _))
  have c3 := Lib.hid (fun w' (h : Below w.heap.size w w') => strictA_any 96 #[] (fun _ _ => by kernel_rfl) w'.heap.size A n c xs w' ((hA.below h).more h.size) hn (fun x _ y _ w'' _ => chk2_any x y w'') (Nat.le_refl _))
  have c4 := Lib.hid (fun w' (h : Below w.heap.size w w') => strictT_any 87 #[] (fun _ _ => by kernel_rfl) w'.heap.size B m d gs w' ((hB.below h).more h.size) hm (fun x _ y _ w'' _ => pcmpt_any x y w'') (Nat.le_refl _))
  have c5 := Lib.hid (fun (hm4 : m ≤ 4096) (hasc : ascT gs = true) w' (h : Below W.heap.size W w') => cfA_gen 98 #[.pointer (some ⟨w.heap.size, 0, none⟩)] (fun a => !elemB a.2 || gs.contains a.1) (fun _ _ => by kernel_rfl) w'.heap.size A n c xs w' ((hA.below (hb0.trans (h.mono hb0.size))).more (hb0.trans (h.mono hb0.size)).size) hn
    (fun x hxm w'' h2 => chk3_any w.heap.size A n c xs B m d gs x w'' (blk_below (blk_below hbxH.out h) h2) ((hB.below ((hb0.trans (h.mono hb0.size)).trans (h2.mono (hb0.trans (h.mono hb0.size)).size))).more ((hb0.trans (h.mono hb0.size)).trans (h2.mono (hb0.trans (h.mono hb0.size)).size)).size) (by omega) ((ascT_asc gs).1 hasc) (hl x hxm)) (Nat.le_refl _))
  generalize hr : oErr xs gs = r
  obtain ⟨b1, h1⟩ : ∃ b, xs.any (fun a => !chkT a.1) = b := ⟨_, rfl⟩
  obtain ⟨b2, h2⟩ : ∃ b, gs.any (fun t => !chkT t) = b := ⟨_, rfl⟩
  obtain ⟨b3, h3⟩ : ∃ b, ascT (xs.map Prod.fst) = b := ⟨_, rfl⟩
  obtain ⟨b4, h4⟩ : ∃ b, ascT gs = b := ⟨_, rfl⟩
  obtain ⟨b5, h5⟩ : ∃ b, badA xs gs = b := ⟨_, rfl⟩
  rw [oErr_parts hnl hml h1 h2 h3 h4 h5] at hr
  rw [h1] at c1
  rw [h2] at c2
  rw [h3] at c3
  rw [h4] at c4 c5
  rw [show xs.any (fun a => !elemB a.2 || gs.contains a.1) = b5 from h5] at c5
  unfold maxLen at hn hm
  clear h1 h2 h3 h4 h5 hA hB hbx hx hg hl hnl hml
  by_cases hn4 : (4096 : Int) < (n : Int)
  · rw [if_pos (by omega)] at hr
    subst hr
    go_enter Try.func42, Try.ntmps42
    go_wp2
    go_ret
    exact ⟨rfl, hb0⟩
  have hdn : decide ((4096 : Int) < (n : Int)) = false := decide_eq_false hn4
  by_cases hm4 : (4096 : Int) < (m : Int)
  · rw [if_pos (by omega)] at hr
    subst hr
    go_enter Try.func42, Try.ntmps42
    go_wp2
    go_ret
    exact ⟨rfl, hb0⟩
  have hdm : decide ((4096 : Int) < (m : Int)) = false := decide_eq_false hm4
  have hm5 : m ≤ 4096 := by omega
  rw [if_neg (by omega)] at hr
  have hrH := Lib.hid hr
  clear hr
  go_enter Try.func42, Try.ntmps42
  go_wp2_with fail
  refine (c1.out _ hb0).mono ?_
  rintro e w1 ⟨rfl, hv1⟩
  have hG1 := hb0.trans (hv1.mono hb0.size)
  have hs1 := blk_below hbxH.out hv1
  clear s0 s1
  have hltx := blk_lt hs1
  have s0 := blk_cell hs1 0
  have s1 := blk_cell hs1 1
  simp at s0 s1
  cases b1
  case true =>
    have hT : Hid (2 = r) := Lib.hid (by rw [← hrH.out]; rfl)
    go_wp2
    go_ret
    exact ⟨ret_int hT.out, hG1⟩
  go_wp2_with fail
  refine (c2.out _ hG1).mono ?_
  rintro e w2 ⟨rfl, hv2⟩
  have hG2 := hG1.trans (hv2.mono hG1.size)
  have hs2 := blk_below hs1 hv2
  clear s0 s1
  have hltx := blk_lt hs2
  have s0 := blk_cell hs2 0
  have s1 := blk_cell hs2 1
  simp at s0 s1
  cases b2
  case true =>
    have hT : Hid (2 = r) := Lib.hid (by rw [← hrH.out]; rfl)
    go_wp2
    go_ret
    exact ⟨ret_int hT.out, hG2⟩
  go_wp2_with fail
  refine (c3.out _ hG2).mono ?_
  rintro e w3 ⟨rfl, hv3⟩
  have hG3 := hG2.trans (hv3.mono hG2.size)
  have hs3 := blk_below hs2 hv3
  clear s0 s1
  have hltx := blk_lt hs3
  have s0 := blk_cell hs3 0
  have s1 := blk_cell hs3 1
  simp at s0 s1
  cases b3
  case false =>
    have hT : Hid (3 = r) := Lib.hid (by rw [← hrH.out]; rfl)
    go_wp2
    go_ret
    exact ⟨ret_int hT.out, hG3⟩
  go_wp2_with fail
  refine (c4.out _ hG3).mono ?_
  rintro e w4 ⟨rfl, hv4⟩
  have hG4 := hG3.trans (hv4.mono hG3.size)
  have hs4 := blk_below hs3 hv4
  clear s0 s1
  have hltx := blk_lt hs4
  have s0 := blk_cell hs4 0
  have s1 := blk_cell hs4 1
  simp at s0 s1
  cases b4
  case false =>
    have hT : Hid (3 = r) := Lib.hid (by rw [← hrH.out]; rfl)
    go_wp2
    go_ret
    exact ⟨ret_int hT.out, hG4⟩
  have hW4 : Below W.heap.size W w4 := hv1.trans ((hv2.trans ((hv3.trans (hv4.mono hv3.size)).mono hv2.size)).mono hv1.size)
  have c5' := Lib.hid (c5.out hm5 rfl w4 hW4)
  go_wp2_with fail
  refine c5'.out.mono ?_
  rintro e w5 ⟨rfl, hv5⟩
  have hG5 := hG4.trans (hv5.mono hG4.size)
  cases b5
  case false =>
    have hT : Hid (0 = r) := Lib.hid (by rw [← hrH.out]; rfl)
    go_wp2
    go_ret
    exact ⟨ret_int hT.out, hG5⟩
  have hT : Hid (3 = r) := Lib.hid (by rw [← hrH.out]; rfl)
  go_wp2
  go_ret
  exact ⟨ret_int hT.out, hG5⟩
end Go.Proofs.Ytadldndmmobpdaa
