/- 'does' of the statements on maps: one act. 'does' of the statements on maps, the rows' types told. -/
import Derived.Test.YtadldndmmobpdaaM18
import Derived.Test.YtadldndmmobpdaaM28
import Derived.Test.YtadldndmmobpdaaM14
import Derived.Test.YtadldndmmobpdaaM4
import Derived.Test.YtadldndmmobpdaaM33
namespace Go.Proofs.Ytadldndmmobpdaa
open Go.RowKit

def doesM (X : List Pm × List Tm) (a : Pm) (l : List Tm) : (List Pm × List Tm) × Bool :=
  if a.2.1 = [] then ((dropM X.1 X.2 l).1, (dropM X.1 X.2 l).2 == 0) else ((putM X.1 X.2 a).1, (putM X.1 X.2 a).2 == 0)
def PostDoesM (w : World) (X : (List Pm × List Tm) × Bool) (r : Ending) (w' : World) : Prop :=
  ∃ A n c B m d, r = .returned (.tuple #[.agg #[.slice A n c, .slice B m d], .bool X.2]) ∧ RdP w' w'.heap.size A n X.1.1 ∧ RdT w' w'.heap.size B m X.1.2 ∧ Below w.heap.size w w'
set_option maxRecDepth 100000 in
set_option maxHeartbeats 4000000 in
theorem mdoes_any (A : Option Addr) (n c : Nat) (xs : List Pm) (B : Option Addr) (m d : Nat) (gs : List Tm) (a : Pm) (C : Option Addr) (k f : Nat) (l : List Tm) (p q : Nat) (w : World) (hA : RdP w w.heap.size A n xs) (hB : RdT w w.heap.size B m gs) (hL : RdT w w.heap.size C k l) (hok : OkM (xs, gs) p q) (hp : p ≤ 100000) (hq : q ≤ 100000) (hk : k ≤ 100000) (hlw : ∀ t ∈ l, t.wf) (haw : a.wf) (hel : a.2.1.length ≤ maxLen) :
    Calls Try.prog 54 #[.agg #[.slice A n c, .slice B m d], .agg #[.int .i64 a.1.1.1, .int .u32 a.1.1.2, .int .i64 a.1.2, .string (bs a.2.1), .int .i64 a.2.2.1, .int .u32 a.2.2.2.1, .int .i64 a.2.2.2.2, .slice C k f]] w (PostDoesM w (doesM (xs, gs) a l)) := by
  have hW : Below w.heap.size w (((w.alloc (.cells #[.slice A n c, .slice B m d] 56)).alloc (.cells #[.int .i64 a.1.1.1, .int .u32 a.1.1.2, .int .i64 a.1.2, .string (bs a.2.1), .int .i64 a.2.2.1, .int .u32 a.2.2.2.1, .int .i64 a.2.2.2.2, .slice C k f] 108)).alloc (.cells #[.slice none 0 0, .slice none 0 0] 56)) := (((Below.refl _ w).alloc (Nat.le_refl _) _).alloc (by simp) _).alloc (by simp; omega) _
  have hbS : (((w.alloc (.cells #[.slice A n c, .slice B m d] 56)).alloc (.cells #[.int .i64 a.1.1.1, .int .u32 a.1.1.2, .int .i64 a.1.2, .string (bs a.2.1), .int .i64 a.2.2.1, .int .u32 a.2.2.2.1, .int .i64 a.2.2.2.2, .slice C k f] 108)).alloc (.cells #[.slice none 0 0, .slice none 0 0] 56)).heap[w.heap.size]? = some (.cells #[.slice A n c, .slice B m d] 56 (0, 0)) := heap_old _ (by simp; omega) (heap_old _ (by simp) (heap_at _ _ rfl))
  have hbX : (((w.alloc (.cells #[.slice A n c, .slice B m d] 56)).alloc (.cells #[.int .i64 a.1.1.1, .int .u32 a.1.1.2, .int .i64 a.1.2, .string (bs a.2.1), .int .i64 a.2.2.1, .int .u32 a.2.2.2.1, .int .i64 a.2.2.2.2, .slice C k f] 108)).alloc (.cells #[.slice none 0 0, .slice none 0 0] 56)).heap[w.heap.size + 1]? = some (.cells #[.int .i64 a.1.1.1, .int .u32 a.1.1.2, .int .i64 a.1.2, .string (bs a.2.1), .int .i64 a.2.2.1, .int .u32 a.2.2.2.1, .int .i64 a.2.2.2.2, .slice C k f] 108 (0, 0)) := heap_old _ (by simp) (heap_at _ _ (by simp))
  have hbR : (((w.alloc (.cells #[.slice A n c, .slice B m d] 56)).alloc (.cells #[.int .i64 a.1.1.1, .int .u32 a.1.1.2, .int .i64 a.1.2, .string (bs a.2.1), .int .i64 a.2.2.1, .int .u32 a.2.2.2.1, .int .i64 a.2.2.2.2, .slice C k f] 108)).alloc (.cells #[.slice none 0 0, .slice none 0 0] 56)).heap[w.heap.size + 1 + 1]? = some (.cells #[.slice none 0 0, .slice none 0 0] 56 (0, 0)) := heap_at _ _ (by simp)
  generalize hWe : (((w.alloc (.cells #[.slice A n c, .slice B m d] 56)).alloc (.cells #[.int .i64 a.1.1.1, .int .u32 a.1.1.2, .int .i64 a.1.2, .string (bs a.2.1), .int .i64 a.2.2.1, .int .u32 a.2.2.2.1, .int .i64 a.2.2.2.2, .slice C k f] 108)).alloc (.cells #[.slice none 0 0, .slice none 0 0] 56)) = W at hW hbS hbX hbR
  have hzW := hW.size
  have hls := blk_lt hbS
  have s0 := blk_cell hbS 0
  have s1 := blk_cell hbS 1
  have hlx := blk_lt hbX
  have b0 := blk_cell hbX 0
  have b1 := blk_cell hbX 1
  have b2 := blk_cell hbX 2
  have b3 := blk_cell hbX 3
  have b4 := blk_cell hbX 4
  have b5 := blk_cell hbX 5
  have b6 := blk_cell hbX 6
  have b7 := blk_cell hbX 7
  have hlr := blk_lt hbR
  have hfr := blk_frozen hbR
  have r0 := blk_cell hbR 0
  have r1 := blk_cell hbR 1
  simp at s0 s1 b0 b1 b2 b3 b4 b5 b6 b7 r0 r1
  have hbSH := Lib.hid hbS
  have hbXH := Lib.hid hbX
  have hbRH := Lib.hid hbR
  have hll := hL.len
  clear hbS hbX hbR
  generalize hr : doesM (xs, gs) a l = X
  have hrH := Lib.hid hr
  clear hr
  have hLr := Lib.hid (fun w' (h : Below w.heap.size w w') => RdT.below hL h)
  have cD := Lib.hid (fun C' k' f' w' (h : Below w.heap.size w w') (h3 : RdT w' w'.heap.size C' k' l) => show Calls Try.prog 49 #[.agg #[.slice A n c, .slice B m d], .slice C' k' f'] w' (PostM w' (dropM xs gs l).1 (dropM xs gs l).2) from hok.dropC hp hq l hlw (by omega) A n c B m d C' k' f' w' ((hA.below h).more h.size) ((hB.below h).more h.size) h3)
  have cP := Lib.hid (fun w' (h : Below w.heap.size w w') => show Calls Try.prog 46 #[.agg #[.slice A n c, .slice B m d], .agg #[.int .i64 a.1.1.1, .int .u32 a.1.1.2, .int .i64 a.1.2, .string (bs a.2.1), .int .i64 a.2.2.1, .int .u32 a.2.2.2.1, .int .i64 a.2.2.2.2]] w' (PostM w' (putM xs gs a).1 (putM xs gs a).2) from hok.putC hp hq a haw hel A n c B m d w' ((hA.below h).more h.size) ((hB.below h).more h.size))
  have cU := Lib.hid (put_any a)
  clear hA hB hL hok haw hel
  by_cases he : a.2.1 = []
  case neg =>
    have hqb : (bs a.2.1).toList.isEmpty = false := by
      rw [bs_empty, List.isEmpty_eq_false_iff]; exact he
    have hX : Hid (X = ((putM xs gs a).1, (putM xs gs a).2 == 0)) := Lib.hid (by rw [← hrH.out]; unfold doesM; rw [if_neg he])
    clear he hrH cD hlw
    generalize putM xs gs a = Y at hX cP
    go_enter Try.func54, Try.ntmps54
    go_upto_region 4 with (fail)
    refine wp_region_M (fun w' => KQ w.heap.size W w' ∧ w'.cell? ⟨w.heap.size + 1, 0, none⟩ = some (.int .i64 a.1.1.1) ∧ w'.cell? ⟨w.heap.size + 1, 1, none⟩ = some (.int .u32 a.1.1.2) ∧ w'.cell? ⟨w.heap.size + 1, 2, none⟩ = some (.int .i64 a.1.2) ∧ w'.cell? ⟨w.heap.size + 1, 3, none⟩ = some (.string (bs a.2.1)) ∧ w'.cell? ⟨w.heap.size + 1, 4, none⟩ = some (.int .i64 a.2.2.1) ∧ w'.cell? ⟨w.heap.size + 1, 5, none⟩ = some (.int .u32 a.2.2.2.1) ∧ w'.cell? ⟨w.heap.size + 1, 6, none⟩ = some (.int .i64 a.2.2.2.2) ∧ w'.cell? ⟨w.heap.size + 1, 7, none⟩ = some (.slice C k f)) (fun w' => w'.cell? ⟨w.heap.size, 0, none⟩ = some (.slice A n c) ∧ w'.cell? ⟨w.heap.size, 1, none⟩ = some (.slice B m d)) 8 (by kernel_rfl) ⟨kq (Below.refl _ _).drew, b0, b1, b2, b3, b4, b5, b6, b7⟩ ⟨s0, s1⟩ ?_
    intro hcl
    have hC : KQ w.heap.size W W.drew ∧ W.drew.cell? ⟨w.heap.size + 1, 0, none⟩ = some (.int .i64 a.1.1.1) ∧ W.drew.cell? ⟨w.heap.size + 1, 1, none⟩ = some (.int .u32 a.1.1.2) ∧ W.drew.cell? ⟨w.heap.size + 1, 2, none⟩ = some (.int .i64 a.1.2) ∧ W.drew.cell? ⟨w.heap.size + 1, 3, none⟩ = some (.string (bs a.2.1)) ∧ W.drew.cell? ⟨w.heap.size + 1, 4, none⟩ = some (.int .i64 a.2.2.1) ∧ W.drew.cell? ⟨w.heap.size + 1, 5, none⟩ = some (.int .u32 a.2.2.2.1) ∧ W.drew.cell? ⟨w.heap.size + 1, 6, none⟩ = some (.int .i64 a.2.2.2.2) ∧ W.drew.cell? ⟨w.heap.size + 1, 7, none⟩ = some (.slice C k f) := ⟨kq (Below.refl _ _).drew, b0, b1, b2, b3, b4, b5, b6, b7⟩
    have hE : W.drew.cell? ⟨w.heap.size, 0, none⟩ = some (.slice A n c) ∧ W.drew.cell? ⟨w.heap.size, 1, none⟩ = some (.slice B m d) := ⟨s0, s1⟩
    (refine wpM_take0c (i := 0) (j := 4) (v := ?_) rfl rfl rfl (by kernel_rfl) (by kernel_rfl) (by kernel_rfl) (by kernel_rfl) (by kernel_rfl) (by decide) (fun _ _ _ h => h) hcl hC (fun _ => hE) (Or.inl ⟨by rfl, ?_⟩) ?_; rotate_left; (· (intro w hSw; (try dsimp only at hSw); go_simp; (try with_reducible rfl))); clear hcl; intro hcl; (try simp only [Act.put, List.getElem_toArray, List.getElem_cons_zero, List.setIfInBounds_toArray, List.set_cons_zero, List.set_cons_succ]))
    (refine wpM_take (i := 1) (v := ?_) rfl (by kernel_rfl) (by kernel_rfl) (by kernel_rfl) (by decide) (fun _ _ _ h => h) hcl hC (fun _ => hE) (Or.inl ⟨by rfl, ?_⟩) ?_; rotate_left; (· (intro w hSw; (try dsimp only at hSw); go_simp; (try with_reducible rfl))); clear hcl; intro hcl; (try simp only [Act.put, List.getElem_toArray, List.getElem_cons_zero, List.getElem_cons_succ, List.setIfInBounds_toArray, List.set_cons_zero, List.set_cons_succ]))
    (refine wpM_take (i := 2) (v := ?_) rfl (by kernel_rfl) (by kernel_rfl) (by kernel_rfl) (by decide) (fun _ _ _ h => h) hcl hC (fun _ => hE) (Or.inl ⟨by rfl, ?_⟩) ?_; rotate_left; (· (intro w hSw; (try dsimp only at hSw); go_simp; (try with_reducible rfl))); clear hcl; intro hcl; (try simp only [Act.put, List.getElem_toArray, List.getElem_cons_zero, List.getElem_cons_succ, List.setIfInBounds_toArray, List.set_cons_zero, List.set_cons_succ]))
    clear hC hE
    refine wpM_only (i := 3) rfl (by kernel_rfl) hcl (fun K hK => ?_)
    go_simp
    have hB0 : Below W.heap.size W W.drew := (Below.refl _ _).drew
    refine (cU.out W.drew).mono ?_
    rintro r w4 ⟨rfl, hb4⟩
    have hB4 : Below W.heap.size W w4 := hB0.trans (hb4.mono hB0.size)
    have hS4 := blk_below hbSH.out hB4
    have hX4 := blk_below hbXH.out hB4
    have hC4 : KQ w.heap.size W w4 ∧ w4.cell? ⟨w.heap.size + 1, 0, none⟩ = some (.int .i64 a.1.1.1) ∧ w4.cell? ⟨w.heap.size + 1, 1, none⟩ = some (.int .u32 a.1.1.2) ∧ w4.cell? ⟨w.heap.size + 1, 2, none⟩ = some (.int .i64 a.1.2) ∧ w4.cell? ⟨w.heap.size + 1, 3, none⟩ = some (.string (bs a.2.1)) ∧ w4.cell? ⟨w.heap.size + 1, 4, none⟩ = some (.int .i64 a.2.2.1) ∧ w4.cell? ⟨w.heap.size + 1, 5, none⟩ = some (.int .u32 a.2.2.2.1) ∧ w4.cell? ⟨w.heap.size + 1, 6, none⟩ = some (.int .i64 a.2.2.2.2) ∧ w4.cell? ⟨w.heap.size + 1, 7, none⟩ = some (.slice C k f) := ⟨kq (hB4.mono hzW), blk_cell hX4 0, blk_cell hX4 1, blk_cell hX4 2, blk_cell hX4 3, blk_cell hX4 4, blk_cell hX4 5, blk_cell hX4 6, blk_cell hX4 7⟩
    have hE4 : w4.cell? ⟨w.heap.size, 0, none⟩ = some (.slice A n c) ∧ w4.cell? ⟨w.heap.size, 1, none⟩ = some (.slice B m d) := ⟨blk_cell hS4 0, blk_cell hS4 1⟩
    clear hS4 hX4
    refine hK.out _ _ hC4 hE4 ?_
    clear hK K
    clear hcl
    intro hcl
    (try simp only [Act.put, List.getElem_toArray, List.getElem_cons_zero, List.getElem_cons_succ, List.setIfInBounds_toArray, List.set_cons_zero, List.set_cons_succ])
    clear hC4 hE4
    refine wpM_only (i := 4) rfl (by kernel_rfl) hcl (fun K hK => ?_)
    go_simp
    refine (cP.out w4 (hW.trans (hB4.mono hzW))).mono ?_
    rintro r w5 ⟨A5, n5, c5, B5, m5, d5, rfl, hY1, hY2, _, _, _, _, _, _, hb5⟩
    skip
    have hB5 : Below W.heap.size W w5 := hB4.trans (hb5.mono hB4.size)
    have hS5 := blk_below hbSH.out hB5
    have hX5 := blk_below hbXH.out hB5
    have hR5 := blk_below hbRH.out hB5
    have hC5 : KQ w.heap.size W w5 ∧ w5.cell? ⟨w.heap.size + 1, 0, none⟩ = some (.int .i64 a.1.1.1) ∧ w5.cell? ⟨w.heap.size + 1, 1, none⟩ = some (.int .u32 a.1.1.2) ∧ w5.cell? ⟨w.heap.size + 1, 2, none⟩ = some (.int .i64 a.1.2) ∧ w5.cell? ⟨w.heap.size + 1, 3, none⟩ = some (.string (bs a.2.1)) ∧ w5.cell? ⟨w.heap.size + 1, 4, none⟩ = some (.int .i64 a.2.2.1) ∧ w5.cell? ⟨w.heap.size + 1, 5, none⟩ = some (.int .u32 a.2.2.2.1) ∧ w5.cell? ⟨w.heap.size + 1, 6, none⟩ = some (.int .i64 a.2.2.2.2) ∧ w5.cell? ⟨w.heap.size + 1, 7, none⟩ = some (.slice C k f) := ⟨kq (hB5.mono hzW), blk_cell hX5 0, blk_cell hX5 1, blk_cell hX5 2, blk_cell hX5 3, blk_cell hX5 4, blk_cell hX5 5, blk_cell hX5 6, blk_cell hX5 7⟩
    have hE5 : w5.cell? ⟨w.heap.size, 0, none⟩ = some (.slice A n c) ∧ w5.cell? ⟨w.heap.size, 1, none⟩ = some (.slice B m d) := ⟨blk_cell hS5 0, blk_cell hS5 1⟩
    refine hK.out _ _ hC5 hE5 ?_
    clear hK K
    clear hcl
    intro hcl
    (try simp only [Act.put, List.getElem_toArray, List.getElem_cons_zero, List.getElem_cons_succ, List.setIfInBounds_toArray, List.set_cons_zero, List.set_cons_succ])
    have hC := hC5
    have hE := hE5
    (refine wpM_take (i := 5) (v := ?_) rfl (by kernel_rfl) (by kernel_rfl) (by kernel_rfl) (by decide) (fun _ _ _ h => h) hcl hC (fun _ => hE) (Or.inl ⟨by rfl, ?_⟩) ?_; rotate_left; (· (intro w hSw; (try dsimp only at hSw); go_simp; (try with_reducible rfl))); clear hcl; intro hcl; (try simp only [Act.put, List.getElem_toArray, List.getElem_cons_zero, List.getElem_cons_succ, List.setIfInBounds_toArray, List.set_cons_zero, List.set_cons_succ]))
    (refine wpM_take (i := 6) (v := ?_) rfl (by kernel_rfl) (by kernel_rfl) (by kernel_rfl) (by decide) (fun _ _ _ h => h) hcl hC (fun _ => hE) (Or.inl ⟨by rfl, ?_⟩) ?_; rotate_left; (· (intro w hSw; (try dsimp only at hSw); go_simp; (try with_reducible rfl))); clear hcl; intro hcl; (try simp only [Act.put, List.getElem_toArray, List.getElem_cons_zero, List.getElem_cons_succ, List.setIfInBounds_toArray, List.set_cons_zero, List.set_cons_succ]))
    (refine wpM_take (i := 7) (v := ?_) rfl (by kernel_rfl) (by kernel_rfl) (by kernel_rfl) (by decide) (fun _ _ _ h => h) hcl hC (fun _ => hE) (Or.inl ⟨by rfl, ?_⟩) ?_; rotate_left; (· (intro w hSw; (try dsimp only at hSw); go_simp; (try with_reducible rfl))); clear hcl; intro hcl; (try simp only [Act.put, List.getElem_toArray, List.getElem_cons_zero, List.getElem_cons_succ, List.setIfInBounds_toArray, List.set_cons_zero, List.set_cons_succ]))
    have hfs5 := blk_frozen hS5
    have hls5 := blk_lt hS5
    refine wpM_last (i := 8) rfl (by kernel_rfl) hcl (by kernel_rfl) (fun K hK => ?_)
    go_simp
    have hX6 := heap_set_ne (p := ⟨w.heap.size, 1, none⟩) (u := .slice B5 m5 d5) (by dsimp only; omega) (heap_set_ne (p := ⟨w.heap.size, 0, none⟩) (u := .slice A5 n5 c5) (by dsimp only; omega) hX5)
    have hC6 : KQ w.heap.size W ((w5.setCell ⟨w.heap.size, 0, none⟩ (.slice A5 n5 c5)).setCell ⟨w.heap.size, 1, none⟩ (.slice B5 m5 d5)) ∧ ((w5.setCell ⟨w.heap.size, 0, none⟩ (.slice A5 n5 c5)).setCell ⟨w.heap.size, 1, none⟩ (.slice B5 m5 d5)).cell? ⟨w.heap.size + 1, 0, none⟩ = some (.int .i64 a.1.1.1) ∧ ((w5.setCell ⟨w.heap.size, 0, none⟩ (.slice A5 n5 c5)).setCell ⟨w.heap.size, 1, none⟩ (.slice B5 m5 d5)).cell? ⟨w.heap.size + 1, 1, none⟩ = some (.int .u32 a.1.1.2) ∧ ((w5.setCell ⟨w.heap.size, 0, none⟩ (.slice A5 n5 c5)).setCell ⟨w.heap.size, 1, none⟩ (.slice B5 m5 d5)).cell? ⟨w.heap.size + 1, 2, none⟩ = some (.int .i64 a.1.2) ∧ ((w5.setCell ⟨w.heap.size, 0, none⟩ (.slice A5 n5 c5)).setCell ⟨w.heap.size, 1, none⟩ (.slice B5 m5 d5)).cell? ⟨w.heap.size + 1, 3, none⟩ = some (.string (bs a.2.1)) ∧ ((w5.setCell ⟨w.heap.size, 0, none⟩ (.slice A5 n5 c5)).setCell ⟨w.heap.size, 1, none⟩ (.slice B5 m5 d5)).cell? ⟨w.heap.size + 1, 4, none⟩ = some (.int .i64 a.2.2.1) ∧ ((w5.setCell ⟨w.heap.size, 0, none⟩ (.slice A5 n5 c5)).setCell ⟨w.heap.size, 1, none⟩ (.slice B5 m5 d5)).cell? ⟨w.heap.size + 1, 5, none⟩ = some (.int .u32 a.2.2.2.1) ∧ ((w5.setCell ⟨w.heap.size, 0, none⟩ (.slice A5 n5 c5)).setCell ⟨w.heap.size, 1, none⟩ (.slice B5 m5 d5)).cell? ⟨w.heap.size + 1, 6, none⟩ = some (.int .i64 a.2.2.2.2) ∧ ((w5.setCell ⟨w.heap.size, 0, none⟩ (.slice A5 n5 c5)).setCell ⟨w.heap.size, 1, none⟩ (.slice B5 m5 d5)).cell? ⟨w.heap.size + 1, 7, none⟩ = some (.slice C k f) := ⟨kq_set (kq_set hC5.1 (Nat.le_refl _) _) (Nat.le_refl _) _, blk_cell hX6 0, blk_cell hX6 1, blk_cell hX6 2, blk_cell hX6 3, blk_cell hX6 4, blk_cell hX6 5, blk_cell hX6 6, blk_cell hX6 7⟩
    clear hX6
    refine hK.out _ _ hC6 ?_
    clear hK K hcl
    intro hcl
    try simp only [Act.put, List.getElem_toArray, List.getElem_cons_zero, List.getElem_cons_succ, List.setIfInBounds_toArray, List.set_cons_zero, List.set_cons_succ]
    refine wpM_last (i := 9) rfl (by kernel_rfl) hcl (by kernel_rfl) (fun K hK => ?_)
    go_simp
    refine hK.out _ _ hC6 ?_
    clear hK K hcl hC6
    intro hcl
    refine wpM_done (by kernel_rfl) ?_
    clear hcl
    try simp only [Act.put, List.getElem_toArray, List.getElem_cons_zero, List.getElem_cons_succ, List.setIfInBounds_toArray, List.set_cons_zero, List.set_cons_succ]
    clear hC hE hC5 hE5 s0 s1 b0 b1 b2 b3 b4 b5 b6 b7 r0 r1 hls hlx hlr hfr
    have hS6 := blk_set (blk_set hS5 0 (.slice A5 n5 c5)) 1 (.slice B5 m5 d5)
    have hR6 := heap_set_ne (p := ⟨w.heap.size, 1, none⟩) (u := .slice B5 m5 d5) (by dsimp only; omega) (heap_set_ne (p := ⟨w.heap.size, 0, none⟩) (u := .slice A5 n5 c5) (by dsimp only; omega) hR5)
    have hG6 : Below w.heap.size w ((w5.setCell ⟨w.heap.size, 0, none⟩ (.slice A5 n5 c5)).setCell ⟨w.heap.size, 1, none⟩ (.slice B5 m5 d5)) := ((hW.trans (hB5.mono hzW)).setCell (Nat.le_refl _) _).setCell (Nat.le_refl _) _
    have ha6 := (hY1.set_other hS5 0 (.slice A5 n5 c5)).set_other (blk_set hS5 0 (.slice A5 n5 c5)) 1 (.slice B5 m5 d5)
    have hb6 := (hY2.set_other hS5 0 (.slice A5 n5 c5)).set_other (blk_set hS5 0 (.slice A5 n5 c5)) 1 (.slice B5 m5 d5)
    have hz6 : ((w5.setCell ⟨w.heap.size, 0, none⟩ (.slice A5 n5 c5)).setCell ⟨w.heap.size, 1, none⟩ (.slice B5 m5 d5)).heap.size = w5.heap.size := by rw [World.size_setCell, World.size_setCell]
    rw [← hz6] at ha6 hb6
    clear hz6 hS5 hX5 hR5 hls5 hfs5 hY1 hY2
    obtain ⟨w6, hw6⟩ : ∃ w6, (w5.setCell ⟨w.heap.size, 0, none⟩ (.slice A5 n5 c5)).setCell ⟨w.heap.size, 1, none⟩ (.slice B5 m5 d5) = w6 := ⟨_, rfl⟩
    rw [hw6] at hS6 hR6 hG6 ha6 hb6
    rw [hw6]
    clear hw6
    have hls6 := blk_lt hS6
    have s0 := blk_cell hS6 0
    have s1 := blk_cell hS6 1
    have hlr6 := blk_lt hR6
    have hfr6 := blk_frozen hR6
    have r0 := blk_cell hR6 0
    have r1 := blk_cell hR6 1
    simp at s0 s1 r0 r1
    have hR7 := blk_set (blk_set hR6 0 (.slice A5 n5 c5)) 1 (.slice B5 m5 d5)
    have z0 := blk_cell hR7 0
    have z1 := blk_cell hR7 1
    simp at z0 z1
    have ha7 := (ha6.set_other hR6 0 (.slice A5 n5 c5)).set_other (blk_set hR6 0 (.slice A5 n5 c5)) 1 (.slice B5 m5 d5)
    have hb7 := (hb6.set_other hR6 0 (.slice A5 n5 c5)).set_other (blk_set hR6 0 (.slice A5 n5 c5)) 1 (.slice B5 m5 d5)
    have hG7 : Below w.heap.size w ((w6.setCell ⟨w.heap.size + 1 + 1, 0, none⟩ (.slice A5 n5 c5)).setCell ⟨w.heap.size + 1 + 1, 1, none⟩ (.slice B5 m5 d5)) := (hG6.setCell (by dsimp only; omega) _).setCell (by dsimp only; omega) _
    have hz7 : ((w6.setCell ⟨w.heap.size + 1 + 1, 0, none⟩ (.slice A5 n5 c5)).setCell ⟨w.heap.size + 1 + 1, 1, none⟩ (.slice B5 m5 d5)).heap.size = w6.heap.size := by rw [World.size_setCell, World.size_setCell]
    rw [← hz7] at ha7 hb7
    clear hz7
    have ha7H := Lib.hid ha7
    have hb7H := Lib.hid hb7
    clear hS6 hR6 hR7 ha6 hb6 ha7 hb7
    go_wp2
    refine bodyPost_ret (v := .tuple #[.agg #[.slice A5 n5 c5, .slice B5 m5 d5], .bool (Y.2 == 0)]) (by simp [results, Try.results54, go_sem, z0, z1]) rfl ?_
    rw [hX.out]
    exact ⟨A5, n5, c5, B5, m5, d5, rfl, ha7H.out, hb7H.out, hG7⟩
  have hqb : (bs a.2.1).toList.isEmpty = true := by
    rw [bs_empty, he]; rfl
  have hX : Hid (X = ((dropM xs gs l).1, (dropM xs gs l).2 == 0)) := Lib.hid (by rw [← hrH.out]; unfold doesM; rw [if_pos he])
  have hC0 := Lib.hid (hLr.out W hW)
  clear he hrH
  generalize dropM xs gs l = Y at hX cD
  go_enter Try.func54, Try.ntmps54
  go_upto_region 3 with (fail)
  refine wp_region_M (fun w' => KQ w.heap.size W w' ∧ w'.cell? ⟨w.heap.size + 1, 0, none⟩ = some (.int .i64 a.1.1.1) ∧ w'.cell? ⟨w.heap.size + 1, 1, none⟩ = some (.int .u32 a.1.1.2) ∧ w'.cell? ⟨w.heap.size + 1, 2, none⟩ = some (.int .i64 a.1.2) ∧ w'.cell? ⟨w.heap.size + 1, 3, none⟩ = some (.string (bs a.2.1)) ∧ w'.cell? ⟨w.heap.size + 1, 4, none⟩ = some (.int .i64 a.2.2.1) ∧ w'.cell? ⟨w.heap.size + 1, 5, none⟩ = some (.int .u32 a.2.2.2.1) ∧ w'.cell? ⟨w.heap.size + 1, 6, none⟩ = some (.int .i64 a.2.2.2.2) ∧ w'.cell? ⟨w.heap.size + 1, 7, none⟩ = some (.slice C k f)) (fun w' => w'.cell? ⟨w.heap.size, 0, none⟩ = some (.slice A n c) ∧ w'.cell? ⟨w.heap.size, 1, none⟩ = some (.slice B m d)) 9 (by kernel_rfl) ⟨kq (Below.refl _ _).drew, b0, b1, b2, b3, b4, b5, b6, b7⟩ ⟨s0, s1⟩ ?_
  intro hcl
  have hC : KQ w.heap.size W W.drew ∧ W.drew.cell? ⟨w.heap.size + 1, 0, none⟩ = some (.int .i64 a.1.1.1) ∧ W.drew.cell? ⟨w.heap.size + 1, 1, none⟩ = some (.int .u32 a.1.1.2) ∧ W.drew.cell? ⟨w.heap.size + 1, 2, none⟩ = some (.int .i64 a.1.2) ∧ W.drew.cell? ⟨w.heap.size + 1, 3, none⟩ = some (.string (bs a.2.1)) ∧ W.drew.cell? ⟨w.heap.size + 1, 4, none⟩ = some (.int .i64 a.2.2.1) ∧ W.drew.cell? ⟨w.heap.size + 1, 5, none⟩ = some (.int .u32 a.2.2.2.1) ∧ W.drew.cell? ⟨w.heap.size + 1, 6, none⟩ = some (.int .i64 a.2.2.2.2) ∧ W.drew.cell? ⟨w.heap.size + 1, 7, none⟩ = some (.slice C k f) := ⟨kq (Below.refl _ _).drew, b0, b1, b2, b3, b4, b5, b6, b7⟩
  have hE : W.drew.cell? ⟨w.heap.size, 0, none⟩ = some (.slice A n c) ∧ W.drew.cell? ⟨w.heap.size, 1, none⟩ = some (.slice B m d) := ⟨s0, s1⟩
  (refine wpM_take0c (i := 0) (j := 5) (v := ?_) rfl rfl rfl (by kernel_rfl) (by kernel_rfl) (by kernel_rfl) (by kernel_rfl) (by kernel_rfl) (by decide) (fun _ _ _ h => h) hcl hC (fun _ => hE) (Or.inl ⟨by rfl, ?_⟩) ?_; rotate_left; (· (intro w hSw; (try dsimp only at hSw); go_simp; (try with_reducible rfl))); clear hcl; intro hcl; (try simp only [Act.put, List.getElem_toArray, List.getElem_cons_zero, List.setIfInBounds_toArray, List.set_cons_zero, List.set_cons_succ]))
  (refine wpM_take (i := 2) (v := ?_) rfl (by kernel_rfl) (by kernel_rfl) (by kernel_rfl) (by decide) (fun _ _ _ h => h) hcl hC (fun _ => hE) (Or.inl ⟨by rfl, ?_⟩) ?_; rotate_left; (· (intro w hSw; (try dsimp only at hSw); go_simp; (try with_reducible rfl))); clear hcl; intro hcl; (try simp only [Act.put, List.getElem_toArray, List.getElem_cons_zero, List.getElem_cons_succ, List.setIfInBounds_toArray, List.set_cons_zero, List.set_cons_succ]))
  (refine wpM_take (i := 3) (v := ?_) rfl (by kernel_rfl) (by kernel_rfl) (by kernel_rfl) (by decide) (fun _ _ _ h => h) hcl hC (fun _ => hE) (Or.inl ⟨by rfl, ?_⟩) ?_; rotate_left; (· (intro w hSw; (try dsimp only at hSw); go_simp; (try with_reducible rfl))); clear hcl; intro hcl; (try simp only [Act.put, List.getElem_toArray, List.getElem_cons_zero, List.getElem_cons_succ, List.setIfInBounds_toArray, List.set_cons_zero, List.set_cons_succ]))
  refine wpM_only (i := 1) rfl (by kernel_rfl) hcl (fun K hK => ?_)
  go_simp
  have hB1 : Below W.heap.size W (W.drew.alloc (.cells #[] 79)) := ((Below.refl _ W).drew).alloc (by simp) _
  have hS1 := blk_below hbSH.out hB1
  have hX1 := blk_below hbXH.out hB1
  have hC1 : KQ w.heap.size W (W.drew.alloc (.cells #[] 79)) ∧ (W.drew.alloc (.cells #[] 79)).cell? ⟨w.heap.size + 1, 0, none⟩ = some (.int .i64 a.1.1.1) ∧ (W.drew.alloc (.cells #[] 79)).cell? ⟨w.heap.size + 1, 1, none⟩ = some (.int .u32 a.1.1.2) ∧ (W.drew.alloc (.cells #[] 79)).cell? ⟨w.heap.size + 1, 2, none⟩ = some (.int .i64 a.1.2) ∧ (W.drew.alloc (.cells #[] 79)).cell? ⟨w.heap.size + 1, 3, none⟩ = some (.string (bs a.2.1)) ∧ (W.drew.alloc (.cells #[] 79)).cell? ⟨w.heap.size + 1, 4, none⟩ = some (.int .i64 a.2.2.1) ∧ (W.drew.alloc (.cells #[] 79)).cell? ⟨w.heap.size + 1, 5, none⟩ = some (.int .u32 a.2.2.2.1) ∧ (W.drew.alloc (.cells #[] 79)).cell? ⟨w.heap.size + 1, 6, none⟩ = some (.int .i64 a.2.2.2.2) ∧ (W.drew.alloc (.cells #[] 79)).cell? ⟨w.heap.size + 1, 7, none⟩ = some (.slice C k f) := ⟨kq (hB1.mono hzW), blk_cell hX1 0, blk_cell hX1 1, blk_cell hX1 2, blk_cell hX1 3, blk_cell hX1 4, blk_cell hX1 5, blk_cell hX1 6, blk_cell hX1 7⟩
  have hE1 : (W.drew.alloc (.cells #[] 79)).cell? ⟨w.heap.size, 0, none⟩ = some (.slice A n c) ∧ (W.drew.alloc (.cells #[] 79)).cell? ⟨w.heap.size, 1, none⟩ = some (.slice B m d) := ⟨blk_cell hS1 0, blk_cell hS1 1⟩
  refine hK.out _ _ hC1 hE1 ?_
  clear hK K
  clear hcl
  intro hcl
  (try simp only [Act.put, List.getElem_toArray, List.getElem_cons_zero, List.getElem_cons_succ, List.setIfInBounds_toArray, List.set_cons_zero, List.set_cons_succ])
  clear hC hE
  refine wpM_only (i := 4) rfl (by kernel_rfl) hcl (fun K hK => ?_)
  refine step_append_rd _ rfl _ _ _ rfl eTag (base := W.heap.size) (v := .slice (some ⟨W.heap.size, 0, none⟩) 0 0) (xs := []) rfl (Ow.made_at (heap_at _ _ rfl) (Nat.le_refl _)) rfl (RdT.below hC0.out (hB1.mono hzW)) Tm.len Tm.one (by simp [maxLen]; omega) (by simp; omega) (by simp) ?_
  intro A4 n4 c4 w4 hn4 hown4 hg4 hat4
  obtain rfl : k = n4 := by simpa using hn4.symm
  clear hn4 hat4
  have hB4 : Below W.heap.size W w4 := hB1.grown hg4 hB1.size (fun g e => by simp [Value.ownBlock] at e; omega)
  have hS4 := blk_below hbSH.out hB4
  have hX4 := blk_below hbXH.out hB4
  have hC4 : KQ w.heap.size W w4 ∧ w4.cell? ⟨w.heap.size + 1, 0, none⟩ = some (.int .i64 a.1.1.1) ∧ w4.cell? ⟨w.heap.size + 1, 1, none⟩ = some (.int .u32 a.1.1.2) ∧ w4.cell? ⟨w.heap.size + 1, 2, none⟩ = some (.int .i64 a.1.2) ∧ w4.cell? ⟨w.heap.size + 1, 3, none⟩ = some (.string (bs a.2.1)) ∧ w4.cell? ⟨w.heap.size + 1, 4, none⟩ = some (.int .i64 a.2.2.1) ∧ w4.cell? ⟨w.heap.size + 1, 5, none⟩ = some (.int .u32 a.2.2.2.1) ∧ w4.cell? ⟨w.heap.size + 1, 6, none⟩ = some (.int .i64 a.2.2.2.2) ∧ w4.cell? ⟨w.heap.size + 1, 7, none⟩ = some (.slice C k f) := ⟨kq (hB4.mono hzW), blk_cell hX4 0, blk_cell hX4 1, blk_cell hX4 2, blk_cell hX4 3, blk_cell hX4 4, blk_cell hX4 5, blk_cell hX4 6, blk_cell hX4 7⟩
  have hE4 : w4.cell? ⟨w.heap.size, 0, none⟩ = some (.slice A n c) ∧ w4.cell? ⟨w.heap.size, 1, none⟩ = some (.slice B m d) := ⟨blk_cell hS4 0, blk_cell hS4 1⟩
  have hown4' : Ow w4 W.heap.size 79 3 (.slice A4 k c4) (l.map Tm.enc) := by simpa using hown4
  have ho4 := Lib.hid hown4'.rdT
  clear hown4 hown4' hg4 hS1 hX1 hC1 hE1 hS4 hX4
  refine hK.out _ _ hC4 hE4 ?_
  clear hK K
  clear hcl
  intro hcl
  (try simp only [Act.put, List.getElem_toArray, List.getElem_cons_zero, List.getElem_cons_succ, List.setIfInBounds_toArray, List.set_cons_zero, List.set_cons_succ])
  clear hC4 hE4
  refine wpM_only (i := 5) rfl (by kernel_rfl) hcl (fun K hK => ?_)
  go_simp
  refine (cD.out A4 k c4 w4 (hW.trans (hB4.mono hzW)) ho4.out).mono ?_
  rintro r w5 ⟨A5, n5, c5, B5, m5, d5, rfl, hY1, hY2, _, _, _, _, _, _, hb5⟩
  skip
  have hB5 : Below W.heap.size W w5 := hB4.trans (hb5.mono hB4.size)
  have hS5 := blk_below hbSH.out hB5
  have hX5 := blk_below hbXH.out hB5
  have hR5 := blk_below hbRH.out hB5
  have hC5 : KQ w.heap.size W w5 ∧ w5.cell? ⟨w.heap.size + 1, 0, none⟩ = some (.int .i64 a.1.1.1) ∧ w5.cell? ⟨w.heap.size + 1, 1, none⟩ = some (.int .u32 a.1.1.2) ∧ w5.cell? ⟨w.heap.size + 1, 2, none⟩ = some (.int .i64 a.1.2) ∧ w5.cell? ⟨w.heap.size + 1, 3, none⟩ = some (.string (bs a.2.1)) ∧ w5.cell? ⟨w.heap.size + 1, 4, none⟩ = some (.int .i64 a.2.2.1) ∧ w5.cell? ⟨w.heap.size + 1, 5, none⟩ = some (.int .u32 a.2.2.2.1) ∧ w5.cell? ⟨w.heap.size + 1, 6, none⟩ = some (.int .i64 a.2.2.2.2) ∧ w5.cell? ⟨w.heap.size + 1, 7, none⟩ = some (.slice C k f) := ⟨kq (hB5.mono hzW), blk_cell hX5 0, blk_cell hX5 1, blk_cell hX5 2, blk_cell hX5 3, blk_cell hX5 4, blk_cell hX5 5, blk_cell hX5 6, blk_cell hX5 7⟩
  have hE5 : w5.cell? ⟨w.heap.size, 0, none⟩ = some (.slice A n c) ∧ w5.cell? ⟨w.heap.size, 1, none⟩ = some (.slice B m d) := ⟨blk_cell hS5 0, blk_cell hS5 1⟩
  refine hK.out _ _ hC5 hE5 ?_
  clear hK K
  clear hcl
  intro hcl
  (try simp only [Act.put, List.getElem_toArray, List.getElem_cons_zero, List.getElem_cons_succ, List.setIfInBounds_toArray, List.set_cons_zero, List.set_cons_succ])
  have hC := hC5
  have hE := hE5
  (refine wpM_take (i := 6) (v := ?_) rfl (by kernel_rfl) (by kernel_rfl) (by kernel_rfl) (by decide) (fun _ _ _ h => h) hcl hC (fun _ => hE) (Or.inl ⟨by rfl, ?_⟩) ?_; rotate_left; (· (intro w hSw; (try dsimp only at hSw); go_simp; (try with_reducible rfl))); clear hcl; intro hcl; (try simp only [Act.put, List.getElem_toArray, List.getElem_cons_zero, List.getElem_cons_succ, List.setIfInBounds_toArray, List.set_cons_zero, List.set_cons_succ]))
  (refine wpM_take (i := 7) (v := ?_) rfl (by kernel_rfl) (by kernel_rfl) (by kernel_rfl) (by decide) (fun _ _ _ h => h) hcl hC (fun _ => hE) (Or.inl ⟨by rfl, ?_⟩) ?_; rotate_left; (· (intro w hSw; (try dsimp only at hSw); go_simp; (try with_reducible rfl))); clear hcl; intro hcl; (try simp only [Act.put, List.getElem_toArray, List.getElem_cons_zero, List.getElem_cons_succ, List.setIfInBounds_toArray, List.set_cons_zero, List.set_cons_succ]))
  (refine wpM_take (i := 8) (v := ?_) rfl (by kernel_rfl) (by kernel_rfl) (by kernel_rfl) (by decide) (fun _ _ _ h => h) hcl hC (fun _ => hE) (Or.inl ⟨by rfl, ?_⟩) ?_; rotate_left; (· (intro w hSw; (try dsimp only at hSw); go_simp; (try with_reducible rfl))); clear hcl; intro hcl; (try simp only [Act.put, List.getElem_toArray, List.getElem_cons_zero, List.getElem_cons_succ, List.setIfInBounds_toArray, List.set_cons_zero, List.set_cons_succ]))
  have hfs5 := blk_frozen hS5
  have hls5 := blk_lt hS5
  refine wpM_last (i := 9) rfl (by kernel_rfl) hcl (by kernel_rfl) (fun K hK => ?_)
  go_simp
  have hX6 := heap_set_ne (p := ⟨w.heap.size, 1, none⟩) (u := .slice B5 m5 d5) (by dsimp only; omega) (heap_set_ne (p := ⟨w.heap.size, 0, none⟩) (u := .slice A5 n5 c5) (by dsimp only; omega) hX5)
  have hC6 : KQ w.heap.size W ((w5.setCell ⟨w.heap.size, 0, none⟩ (.slice A5 n5 c5)).setCell ⟨w.heap.size, 1, none⟩ (.slice B5 m5 d5)) ∧ ((w5.setCell ⟨w.heap.size, 0, none⟩ (.slice A5 n5 c5)).setCell ⟨w.heap.size, 1, none⟩ (.slice B5 m5 d5)).cell? ⟨w.heap.size + 1, 0, none⟩ = some (.int .i64 a.1.1.1) ∧ ((w5.setCell ⟨w.heap.size, 0, none⟩ (.slice A5 n5 c5)).setCell ⟨w.heap.size, 1, none⟩ (.slice B5 m5 d5)).cell? ⟨w.heap.size + 1, 1, none⟩ = some (.int .u32 a.1.1.2) ∧ ((w5.setCell ⟨w.heap.size, 0, none⟩ (.slice A5 n5 c5)).setCell ⟨w.heap.size, 1, none⟩ (.slice B5 m5 d5)).cell? ⟨w.heap.size + 1, 2, none⟩ = some (.int .i64 a.1.2) ∧ ((w5.setCell ⟨w.heap.size, 0, none⟩ (.slice A5 n5 c5)).setCell ⟨w.heap.size, 1, none⟩ (.slice B5 m5 d5)).cell? ⟨w.heap.size + 1, 3, none⟩ = some (.string (bs a.2.1)) ∧ ((w5.setCell ⟨w.heap.size, 0, none⟩ (.slice A5 n5 c5)).setCell ⟨w.heap.size, 1, none⟩ (.slice B5 m5 d5)).cell? ⟨w.heap.size + 1, 4, none⟩ = some (.int .i64 a.2.2.1) ∧ ((w5.setCell ⟨w.heap.size, 0, none⟩ (.slice A5 n5 c5)).setCell ⟨w.heap.size, 1, none⟩ (.slice B5 m5 d5)).cell? ⟨w.heap.size + 1, 5, none⟩ = some (.int .u32 a.2.2.2.1) ∧ ((w5.setCell ⟨w.heap.size, 0, none⟩ (.slice A5 n5 c5)).setCell ⟨w.heap.size, 1, none⟩ (.slice B5 m5 d5)).cell? ⟨w.heap.size + 1, 6, none⟩ = some (.int .i64 a.2.2.2.2) ∧ ((w5.setCell ⟨w.heap.size, 0, none⟩ (.slice A5 n5 c5)).setCell ⟨w.heap.size, 1, none⟩ (.slice B5 m5 d5)).cell? ⟨w.heap.size + 1, 7, none⟩ = some (.slice C k f) := ⟨kq_set (kq_set hC5.1 (Nat.le_refl _) _) (Nat.le_refl _) _, blk_cell hX6 0, blk_cell hX6 1, blk_cell hX6 2, blk_cell hX6 3, blk_cell hX6 4, blk_cell hX6 5, blk_cell hX6 6, blk_cell hX6 7⟩
  clear hX6
  refine hK.out _ _ hC6 ?_
  clear hK K hcl
  intro hcl
  try simp only [Act.put, List.getElem_toArray, List.getElem_cons_zero, List.getElem_cons_succ, List.setIfInBounds_toArray, List.set_cons_zero, List.set_cons_succ]
  refine wpM_last (i := 10) rfl (by kernel_rfl) hcl (by kernel_rfl) (fun K hK => ?_)
  go_simp
  refine hK.out _ _ hC6 ?_
  clear hK K hcl hC6
  intro hcl
  refine wpM_done (by kernel_rfl) ?_
  clear hcl
  try simp only [Act.put, List.getElem_toArray, List.getElem_cons_zero, List.getElem_cons_succ, List.setIfInBounds_toArray, List.set_cons_zero, List.set_cons_succ]
  clear hC hE hC5 hE5 s0 s1 b0 b1 b2 b3 b4 b5 b6 b7 r0 r1 hls hlx hlr hfr
  have hS6 := blk_set (blk_set hS5 0 (.slice A5 n5 c5)) 1 (.slice B5 m5 d5)
  have hR6 := heap_set_ne (p := ⟨w.heap.size, 1, none⟩) (u := .slice B5 m5 d5) (by dsimp only; omega) (heap_set_ne (p := ⟨w.heap.size, 0, none⟩) (u := .slice A5 n5 c5) (by dsimp only; omega) hR5)
  have hG6 : Below w.heap.size w ((w5.setCell ⟨w.heap.size, 0, none⟩ (.slice A5 n5 c5)).setCell ⟨w.heap.size, 1, none⟩ (.slice B5 m5 d5)) := ((hW.trans (hB5.mono hzW)).setCell (Nat.le_refl _) _).setCell (Nat.le_refl _) _
  have ha6 := (hY1.set_other hS5 0 (.slice A5 n5 c5)).set_other (blk_set hS5 0 (.slice A5 n5 c5)) 1 (.slice B5 m5 d5)
  have hb6 := (hY2.set_other hS5 0 (.slice A5 n5 c5)).set_other (blk_set hS5 0 (.slice A5 n5 c5)) 1 (.slice B5 m5 d5)
  have hz6 : ((w5.setCell ⟨w.heap.size, 0, none⟩ (.slice A5 n5 c5)).setCell ⟨w.heap.size, 1, none⟩ (.slice B5 m5 d5)).heap.size = w5.heap.size := by rw [World.size_setCell, World.size_setCell]
  rw [← hz6] at ha6 hb6
  clear hz6 hS5 hX5 hR5 hls5 hfs5 hY1 hY2
  obtain ⟨w6, hw6⟩ : ∃ w6, (w5.setCell ⟨w.heap.size, 0, none⟩ (.slice A5 n5 c5)).setCell ⟨w.heap.size, 1, none⟩ (.slice B5 m5 d5) = w6 := ⟨_, rfl⟩
  rw [hw6] at hS6 hR6 hG6 ha6 hb6
  rw [hw6]
  clear hw6
  have hls6 := blk_lt hS6
  have s0 := blk_cell hS6 0
  have s1 := blk_cell hS6 1
  have hlr6 := blk_lt hR6
  have hfr6 := blk_frozen hR6
  have r0 := blk_cell hR6 0
  have r1 := blk_cell hR6 1
  simp at s0 s1 r0 r1
  have hR7 := blk_set (blk_set hR6 0 (.slice A5 n5 c5)) 1 (.slice B5 m5 d5)
  have z0 := blk_cell hR7 0
  have z1 := blk_cell hR7 1
  simp at z0 z1
  have ha7 := (ha6.set_other hR6 0 (.slice A5 n5 c5)).set_other (blk_set hR6 0 (.slice A5 n5 c5)) 1 (.slice B5 m5 d5)
  have hb7 := (hb6.set_other hR6 0 (.slice A5 n5 c5)).set_other (blk_set hR6 0 (.slice A5 n5 c5)) 1 (.slice B5 m5 d5)
  have hG7 : Below w.heap.size w ((w6.setCell ⟨w.heap.size + 1 + 1, 0, none⟩ (.slice A5 n5 c5)).setCell ⟨w.heap.size + 1 + 1, 1, none⟩ (.slice B5 m5 d5)) := (hG6.setCell (by dsimp only; omega) _).setCell (by dsimp only; omega) _
  have hz7 : ((w6.setCell ⟨w.heap.size + 1 + 1, 0, none⟩ (.slice A5 n5 c5)).setCell ⟨w.heap.size + 1 + 1, 1, none⟩ (.slice B5 m5 d5)).heap.size = w6.heap.size := by rw [World.size_setCell, World.size_setCell]
  rw [← hz7] at ha7 hb7
  clear hz7
  have ha7H := Lib.hid ha7
  have hb7H := Lib.hid hb7
  clear hS6 hR6 hR7 ha6 hb6 ha7 hb7
  go_wp2
  refine bodyPost_ret (v := .tuple #[.agg #[.slice A5 n5 c5, .slice B5 m5 d5], .bool (Y.2 == 0)]) (by simp [results, Try.results54, go_sem, z0, z1]) rfl ?_
  rw [hX.out]
  exact ⟨A5, n5, c5, B5, m5, d5, rfl, ha7H.out, hb7H.out, hG7⟩
end Go.Proofs.Ytadldndmmobpdaa
namespace Go.Proofs.Ytadldndmmobpdaa
open Go.RowKit

theorem OkM.putCT {X : List Pm × List Tm} {p q : Nat} (h : OkM X p q) (hp : p ≤ 100000) (hq : q ≤ 100000) (a : Pm) (ha : a.wf) (hl : a.2.1.length ≤ maxLen) (A : Option Addr) (n c : Nat) (B : Option Addr) (m d : Nat) (w : World) (hA : RdP w w.heap.size A n X.1) (hB : RdT w w.heap.size B m X.2) :
    Calls Try.prog 46 #[.agg #[.slice A n c, .slice B m d], .agg #[.int .i64 a.1.1.1, .int .u32 a.1.1.2, .int .i64 a.1.2, .string (bs a.2.1), .int .i64 a.2.2.1, .int .u32 a.2.2.2.1, .int .i64 a.2.2.2.2]] w (PostMT w (putM X.1 X.2 a).1 (putM X.1 X.2 a).2) :=
  mapplyT_any A n c X.1 B m d X.2 a w hA hB (by have := hA.len; have := h.lx; omega) (by have := hB.len; have := h.lg; omega) h.wx h.wg h.wl ha hl
theorem OkM.dropCT {X : List Pm × List Tm} {p q : Nat} (h : OkM X p q) (hp : p ≤ 100000) (hq : q ≤ 100000) (l : List Tm) (hlw : ∀ t ∈ l, t.wf) (hll : l.length ≤ 100000) (A : Option Addr) (n c : Nat) (B : Option Addr) (m d : Nat) (C : Option Addr) (k f : Nat) (w : World) (hA : RdP w w.heap.size A n X.1) (hB : RdT w w.heap.size B m X.2) (hC : RdT w w.heap.size C k l) :
    Calls Try.prog 49 #[.agg #[.slice A n c, .slice B m d], .slice C k f] w (PostMT w (dropM X.1 X.2 l).1 (dropM X.1 X.2 l).2) :=
  mdropT_any A n c X.1 B m d X.2 C k f l w hA hB hC (by have := hA.len; have := h.lx; omega) (by have := hB.len; have := h.lg; omega) (by have := hC.len; omega) h.wx h.wg hlw h.wl
def PostDoesMT (w : World) (X : (List Pm × List Tm) × Bool) (r : Ending) (w' : World) : Prop :=
  ∃ A n c B m d, r = .returned (.tuple #[.agg #[.slice A n c, .slice B m d], .bool X.2]) ∧ RdP w' w'.heap.size A n X.1.1 ∧ RdT w' w'.heap.size B m X.1.2 ∧ Below w.heap.size w w' ∧ (X.2 = true → TyR w' 96 A n ∧ TyR w' 79 B m)
set_option maxRecDepth 100000 in
set_option maxHeartbeats 4000000 in
theorem mdoesT_any (A : Option Addr) (n c : Nat) (xs : List Pm) (B : Option Addr) (m d : Nat) (gs : List Tm) (a : Pm) (C : Option Addr) (k f : Nat) (l : List Tm) (p q : Nat) (w : World) (hA : RdP w w.heap.size A n xs) (hB : RdT w w.heap.size B m gs) (hL : RdT w w.heap.size C k l) (hok : OkM (xs, gs) p q) (hp : p ≤ 100000) (hq : q ≤ 100000) (hk : k ≤ 100000) (hlw : ∀ t ∈ l, t.wf) (haw : a.wf) (hel : a.2.1.length ≤ maxLen) :
    Calls Try.prog 54 #[.agg #[.slice A n c, .slice B m d], .agg #[.int .i64 a.1.1.1, .int .u32 a.1.1.2, .int .i64 a.1.2, .string (bs a.2.1), .int .i64 a.2.2.1, .int .u32 a.2.2.2.1, .int .i64 a.2.2.2.2, .slice C k f]] w (PostDoesMT w (doesM (xs, gs) a l)) := by
  have hW : Below w.heap.size w (((w.alloc (.cells #[.slice A n c, .slice B m d] 56)).alloc (.cells #[.int .i64 a.1.1.1, .int .u32 a.1.1.2, .int .i64 a.1.2, .string (bs a.2.1), .int .i64 a.2.2.1, .int .u32 a.2.2.2.1, .int .i64 a.2.2.2.2, .slice C k f] 108)).alloc (.cells #[.slice none 0 0, .slice none 0 0] 56)) := (((Below.refl _ w).alloc (Nat.le_refl _) _).alloc (by simp) _).alloc (by simp; omega) _
  have hbS : (((w.alloc (.cells #[.slice A n c, .slice B m d] 56)).alloc (.cells #[.int .i64 a.1.1.1, .int .u32 a.1.1.2, .int .i64 a.1.2, .string (bs a.2.1), .int .i64 a.2.2.1, .int .u32 a.2.2.2.1, .int .i64 a.2.2.2.2, .slice C k f] 108)).alloc (.cells #[.slice none 0 0, .slice none 0 0] 56)).heap[w.heap.size]? = some (.cells #[.slice A n c, .slice B m d] 56 (0, 0)) := heap_old _ (by simp; omega) (heap_old _ (by simp) (heap_at _ _ rfl))
  have hbX : (((w.alloc (.cells #[.slice A n c, .slice B m d] 56)).alloc (.cells #[.int .i64 a.1.1.1, .int .u32 a.1.1.2, .int .i64 a.1.2, .string (bs a.2.1), .int .i64 a.2.2.1, .int .u32 a.2.2.2.1, .int .i64 a.2.2.2.2, .slice C k f] 108)).alloc (.cells #[.slice none 0 0, .slice none 0 0] 56)).heap[w.heap.size + 1]? = some (.cells #[.int .i64 a.1.1.1, .int .u32 a.1.1.2, .int .i64 a.1.2, .string (bs a.2.1), .int .i64 a.2.2.1, .int .u32 a.2.2.2.1, .int .i64 a.2.2.2.2, .slice C k f] 108 (0, 0)) := heap_old _ (by simp) (heap_at _ _ (by simp))
  have hbR : (((w.alloc (.cells #[.slice A n c, .slice B m d] 56)).alloc (.cells #[.int .i64 a.1.1.1, .int .u32 a.1.1.2, .int .i64 a.1.2, .string (bs a.2.1), .int .i64 a.2.2.1, .int .u32 a.2.2.2.1, .int .i64 a.2.2.2.2, .slice C k f] 108)).alloc (.cells #[.slice none 0 0, .slice none 0 0] 56)).heap[w.heap.size + 1 + 1]? = some (.cells #[.slice none 0 0, .slice none 0 0] 56 (0, 0)) := heap_at _ _ (by simp)
  generalize hWe : (((w.alloc (.cells #[.slice A n c, .slice B m d] 56)).alloc (.cells #[.int .i64 a.1.1.1, .int .u32 a.1.1.2, .int .i64 a.1.2, .string (bs a.2.1), .int .i64 a.2.2.1, .int .u32 a.2.2.2.1, .int .i64 a.2.2.2.2, .slice C k f] 108)).alloc (.cells #[.slice none 0 0, .slice none 0 0] 56)) = W at hW hbS hbX hbR
  have hzW := hW.size
  have hls := blk_lt hbS
  have s0 := blk_cell hbS 0
  have s1 := blk_cell hbS 1
  have hlx := blk_lt hbX
  have b0 := blk_cell hbX 0
  have b1 := blk_cell hbX 1
  have b2 := blk_cell hbX 2
  have b3 := blk_cell hbX 3
  have b4 := blk_cell hbX 4
  have b5 := blk_cell hbX 5
  have b6 := blk_cell hbX 6
  have b7 := blk_cell hbX 7
  have hlr := blk_lt hbR
  have hfr := blk_frozen hbR
  have r0 := blk_cell hbR 0
  have r1 := blk_cell hbR 1
  simp at s0 s1 b0 b1 b2 b3 b4 b5 b6 b7 r0 r1
  have hbSH := Lib.hid hbS
  have hbXH := Lib.hid hbX
  have hbRH := Lib.hid hbR
  have hll := hL.len
  clear hbS hbX hbR
  generalize hr : doesM (xs, gs) a l = X
  have hrH := Lib.hid hr
  clear hr
  have hLr := Lib.hid (fun w' (h : Below w.heap.size w w') => RdT.below hL h)
  have cD := Lib.hid (fun C' k' f' w' (h : Below w.heap.size w w') (h3 : RdT w' w'.heap.size C' k' l) => show Calls Try.prog 49 #[.agg #[.slice A n c, .slice B m d], .slice C' k' f'] w' (PostMT w' (dropM xs gs l).1 (dropM xs gs l).2) from hok.dropCT hp hq l hlw (by omega) A n c B m d C' k' f' w' ((hA.below h).more h.size) ((hB.below h).more h.size) h3)
  have cP := Lib.hid (fun w' (h : Below w.heap.size w w') => show Calls Try.prog 46 #[.agg #[.slice A n c, .slice B m d], .agg #[.int .i64 a.1.1.1, .int .u32 a.1.1.2, .int .i64 a.1.2, .string (bs a.2.1), .int .i64 a.2.2.1, .int .u32 a.2.2.2.1, .int .i64 a.2.2.2.2]] w' (PostMT w' (putM xs gs a).1 (putM xs gs a).2) from hok.putCT hp hq a haw hel A n c B m d w' ((hA.below h).more h.size) ((hB.below h).more h.size))
  have cU := Lib.hid (put_any a)
  clear hA hB hL hok haw hel
  by_cases he : a.2.1 = []
  case neg =>
    have hqb : (bs a.2.1).toList.isEmpty = false := by
      rw [bs_empty, List.isEmpty_eq_false_iff]; exact he
    have hX : Hid (X = ((putM xs gs a).1, (putM xs gs a).2 == 0)) := Lib.hid (by rw [← hrH.out]; unfold doesM; rw [if_neg he])
    clear he hrH cD hlw
    generalize putM xs gs a = Y at hX cP
    go_enter Try.func54, Try.ntmps54
    go_upto_region 4 with (fail)
    refine wp_region_M (fun w' => KQ w.heap.size W w' ∧ w'.cell? ⟨w.heap.size + 1, 0, none⟩ = some (.int .i64 a.1.1.1) ∧ w'.cell? ⟨w.heap.size + 1, 1, none⟩ = some (.int .u32 a.1.1.2) ∧ w'.cell? ⟨w.heap.size + 1, 2, none⟩ = some (.int .i64 a.1.2) ∧ w'.cell? ⟨w.heap.size + 1, 3, none⟩ = some (.string (bs a.2.1)) ∧ w'.cell? ⟨w.heap.size + 1, 4, none⟩ = some (.int .i64 a.2.2.1) ∧ w'.cell? ⟨w.heap.size + 1, 5, none⟩ = some (.int .u32 a.2.2.2.1) ∧ w'.cell? ⟨w.heap.size + 1, 6, none⟩ = some (.int .i64 a.2.2.2.2) ∧ w'.cell? ⟨w.heap.size + 1, 7, none⟩ = some (.slice C k f)) (fun w' => w'.cell? ⟨w.heap.size, 0, none⟩ = some (.slice A n c) ∧ w'.cell? ⟨w.heap.size, 1, none⟩ = some (.slice B m d)) 8 (by kernel_rfl) ⟨kq (Below.refl _ _).drew, b0, b1, b2, b3, b4, b5, b6, b7⟩ ⟨s0, s1⟩ ?_
    intro hcl
    have hC : KQ w.heap.size W W.drew ∧ W.drew.cell? ⟨w.heap.size + 1, 0, none⟩ = some (.int .i64 a.1.1.1) ∧ W.drew.cell? ⟨w.heap.size + 1, 1, none⟩ = some (.int .u32 a.1.1.2) ∧ W.drew.cell? ⟨w.heap.size + 1, 2, none⟩ = some (.int .i64 a.1.2) ∧ W.drew.cell? ⟨w.heap.size + 1, 3, none⟩ = some (.string (bs a.2.1)) ∧ W.drew.cell? ⟨w.heap.size + 1, 4, none⟩ = some (.int .i64 a.2.2.1) ∧ W.drew.cell? ⟨w.heap.size + 1, 5, none⟩ = some (.int .u32 a.2.2.2.1) ∧ W.drew.cell? ⟨w.heap.size + 1, 6, none⟩ = some (.int .i64 a.2.2.2.2) ∧ W.drew.cell? ⟨w.heap.size + 1, 7, none⟩ = some (.slice C k f) := ⟨kq (Below.refl _ _).drew, b0, b1, b2, b3, b4, b5, b6, b7⟩
    have hE : W.drew.cell? ⟨w.heap.size, 0, none⟩ = some (.slice A n c) ∧ W.drew.cell? ⟨w.heap.size, 1, none⟩ = some (.slice B m d) := ⟨s0, s1⟩
    (refine wpM_take0c (i := 0) (j := 4) (v := ?_) rfl rfl rfl (by kernel_rfl) (by kernel_rfl) (by kernel_rfl) (by kernel_rfl) (by kernel_rfl) (by decide) (fun _ _ _ h => h) hcl hC (fun _ => hE) (Or.inl ⟨by rfl, ?_⟩) ?_; rotate_left; (· (intro w hSw; (try dsimp only at hSw); go_simp; (try with_reducible rfl))); clear hcl; intro hcl; (try simp only [Act.put, List.getElem_toArray, List.getElem_cons_zero, List.setIfInBounds_toArray, List.set_cons_zero, List.set_cons_succ]))
    (refine wpM_take (i := 1) (v := ?_) rfl (by kernel_rfl) (by kernel_rfl) (by kernel_rfl) (by decide) (fun _ _ _ h => h) hcl hC (fun _ => hE) (Or.inl ⟨by rfl, ?_⟩) ?_; rotate_left; (· (intro w hSw; (try dsimp only at hSw); go_simp; (try with_reducible rfl))); clear hcl; intro hcl; (try simp only [Act.put, List.getElem_toArray, List.getElem_cons_zero, List.getElem_cons_succ, List.setIfInBounds_toArray, List.set_cons_zero, List.set_cons_succ]))
    (refine wpM_take (i := 2) (v := ?_) rfl (by kernel_rfl) (by kernel_rfl) (by kernel_rfl) (by decide) (fun _ _ _ h => h) hcl hC (fun _ => hE) (Or.inl ⟨by rfl, ?_⟩) ?_; rotate_left; (· (intro w hSw; (try dsimp only at hSw); go_simp; (try with_reducible rfl))); clear hcl; intro hcl; (try simp only [Act.put, List.getElem_toArray, List.getElem_cons_zero, List.getElem_cons_succ, List.setIfInBounds_toArray, List.set_cons_zero, List.set_cons_succ]))
    clear hC hE
    refine wpM_only (i := 3) rfl (by kernel_rfl) hcl (fun K hK => ?_)
    go_simp
    have hB0 : Below W.heap.size W W.drew := (Below.refl _ _).drew
    refine (cU.out W.drew).mono ?_
    rintro r w4 ⟨rfl, hb4⟩
    have hB4 : Below W.heap.size W w4 := hB0.trans (hb4.mono hB0.size)
    have hS4 := blk_below hbSH.out hB4
    have hX4 := blk_below hbXH.out hB4
    have hC4 : KQ w.heap.size W w4 ∧ w4.cell? ⟨w.heap.size + 1, 0, none⟩ = some (.int .i64 a.1.1.1) ∧ w4.cell? ⟨w.heap.size + 1, 1, none⟩ = some (.int .u32 a.1.1.2) ∧ w4.cell? ⟨w.heap.size + 1, 2, none⟩ = some (.int .i64 a.1.2) ∧ w4.cell? ⟨w.heap.size + 1, 3, none⟩ = some (.string (bs a.2.1)) ∧ w4.cell? ⟨w.heap.size + 1, 4, none⟩ = some (.int .i64 a.2.2.1) ∧ w4.cell? ⟨w.heap.size + 1, 5, none⟩ = some (.int .u32 a.2.2.2.1) ∧ w4.cell? ⟨w.heap.size + 1, 6, none⟩ = some (.int .i64 a.2.2.2.2) ∧ w4.cell? ⟨w.heap.size + 1, 7, none⟩ = some (.slice C k f) := ⟨kq (hB4.mono hzW), blk_cell hX4 0, blk_cell hX4 1, blk_cell hX4 2, blk_cell hX4 3, blk_cell hX4 4, blk_cell hX4 5, blk_cell hX4 6, blk_cell hX4 7⟩
    have hE4 : w4.cell? ⟨w.heap.size, 0, none⟩ = some (.slice A n c) ∧ w4.cell? ⟨w.heap.size, 1, none⟩ = some (.slice B m d) := ⟨blk_cell hS4 0, blk_cell hS4 1⟩
    clear hS4 hX4
    refine hK.out _ _ hC4 hE4 ?_
    clear hK K
    clear hcl
    intro hcl
    (try simp only [Act.put, List.getElem_toArray, List.getElem_cons_zero, List.getElem_cons_succ, List.setIfInBounds_toArray, List.set_cons_zero, List.set_cons_succ])
    clear hC4 hE4
    refine wpM_only (i := 4) rfl (by kernel_rfl) hcl (fun K hK => ?_)
    go_simp
    refine (cP.out w4 (hW.trans (hB4.mono hzW))).mono ?_
    rintro r w5 ⟨A5, n5, c5, B5, m5, d5, rfl, hY1, hY2, _, _, _, _, _, _, hb5, hty1, hty2⟩
    skip
    have hB5 : Below W.heap.size W w5 := hB4.trans (hb5.mono hB4.size)
    have hS5 := blk_below hbSH.out hB5
    have hX5 := blk_below hbXH.out hB5
    have hR5 := blk_below hbRH.out hB5
    have hC5 : KQ w.heap.size W w5 ∧ w5.cell? ⟨w.heap.size + 1, 0, none⟩ = some (.int .i64 a.1.1.1) ∧ w5.cell? ⟨w.heap.size + 1, 1, none⟩ = some (.int .u32 a.1.1.2) ∧ w5.cell? ⟨w.heap.size + 1, 2, none⟩ = some (.int .i64 a.1.2) ∧ w5.cell? ⟨w.heap.size + 1, 3, none⟩ = some (.string (bs a.2.1)) ∧ w5.cell? ⟨w.heap.size + 1, 4, none⟩ = some (.int .i64 a.2.2.1) ∧ w5.cell? ⟨w.heap.size + 1, 5, none⟩ = some (.int .u32 a.2.2.2.1) ∧ w5.cell? ⟨w.heap.size + 1, 6, none⟩ = some (.int .i64 a.2.2.2.2) ∧ w5.cell? ⟨w.heap.size + 1, 7, none⟩ = some (.slice C k f) := ⟨kq (hB5.mono hzW), blk_cell hX5 0, blk_cell hX5 1, blk_cell hX5 2, blk_cell hX5 3, blk_cell hX5 4, blk_cell hX5 5, blk_cell hX5 6, blk_cell hX5 7⟩
    have hE5 : w5.cell? ⟨w.heap.size, 0, none⟩ = some (.slice A n c) ∧ w5.cell? ⟨w.heap.size, 1, none⟩ = some (.slice B m d) := ⟨blk_cell hS5 0, blk_cell hS5 1⟩
    refine hK.out _ _ hC5 hE5 ?_
    clear hK K
    clear hcl
    intro hcl
    (try simp only [Act.put, List.getElem_toArray, List.getElem_cons_zero, List.getElem_cons_succ, List.setIfInBounds_toArray, List.set_cons_zero, List.set_cons_succ])
    have hC := hC5
    have hE := hE5
    (refine wpM_take (i := 5) (v := ?_) rfl (by kernel_rfl) (by kernel_rfl) (by kernel_rfl) (by decide) (fun _ _ _ h => h) hcl hC (fun _ => hE) (Or.inl ⟨by rfl, ?_⟩) ?_; rotate_left; (· (intro w hSw; (try dsimp only at hSw); go_simp; (try with_reducible rfl))); clear hcl; intro hcl; (try simp only [Act.put, List.getElem_toArray, List.getElem_cons_zero, List.getElem_cons_succ, List.setIfInBounds_toArray, List.set_cons_zero, List.set_cons_succ]))
    (refine wpM_take (i := 6) (v := ?_) rfl (by kernel_rfl) (by kernel_rfl) (by kernel_rfl) (by decide) (fun _ _ _ h => h) hcl hC (fun _ => hE) (Or.inl ⟨by rfl, ?_⟩) ?_; rotate_left; (· (intro w hSw; (try dsimp only at hSw); go_simp; (try with_reducible rfl))); clear hcl; intro hcl; (try simp only [Act.put, List.getElem_toArray, List.getElem_cons_zero, List.getElem_cons_succ, List.setIfInBounds_toArray, List.set_cons_zero, List.set_cons_succ]))
    (refine wpM_take (i := 7) (v := ?_) rfl (by kernel_rfl) (by kernel_rfl) (by kernel_rfl) (by decide) (fun _ _ _ h => h) hcl hC (fun _ => hE) (Or.inl ⟨by rfl, ?_⟩) ?_; rotate_left; (· (intro w hSw; (try dsimp only at hSw); go_simp; (try with_reducible rfl))); clear hcl; intro hcl; (try simp only [Act.put, List.getElem_toArray, List.getElem_cons_zero, List.getElem_cons_succ, List.setIfInBounds_toArray, List.set_cons_zero, List.set_cons_succ]))
    have hfs5 := blk_frozen hS5
    have hls5 := blk_lt hS5
    refine wpM_last (i := 8) rfl (by kernel_rfl) hcl (by kernel_rfl) (fun K hK => ?_)
    go_simp
    have hX6 := heap_set_ne (p := ⟨w.heap.size, 1, none⟩) (u := .slice B5 m5 d5) (by dsimp only; omega) (heap_set_ne (p := ⟨w.heap.size, 0, none⟩) (u := .slice A5 n5 c5) (by dsimp only; omega) hX5)
    have hC6 : KQ w.heap.size W ((w5.setCell ⟨w.heap.size, 0, none⟩ (.slice A5 n5 c5)).setCell ⟨w.heap.size, 1, none⟩ (.slice B5 m5 d5)) ∧ ((w5.setCell ⟨w.heap.size, 0, none⟩ (.slice A5 n5 c5)).setCell ⟨w.heap.size, 1, none⟩ (.slice B5 m5 d5)).cell? ⟨w.heap.size + 1, 0, none⟩ = some (.int .i64 a.1.1.1) ∧ ((w5.setCell ⟨w.heap.size, 0, none⟩ (.slice A5 n5 c5)).setCell ⟨w.heap.size, 1, none⟩ (.slice B5 m5 d5)).cell? ⟨w.heap.size + 1, 1, none⟩ = some (.int .u32 a.1.1.2) ∧ ((w5.setCell ⟨w.heap.size, 0, none⟩ (.slice A5 n5 c5)).setCell ⟨w.heap.size, 1, none⟩ (.slice B5 m5 d5)).cell? ⟨w.heap.size + 1, 2, none⟩ = some (.int .i64 a.1.2) ∧ ((w5.setCell ⟨w.heap.size, 0, none⟩ (.slice A5 n5 c5)).setCell ⟨w.heap.size, 1, none⟩ (.slice B5 m5 d5)).cell? ⟨w.heap.size + 1, 3, none⟩ = some (.string (bs a.2.1)) ∧ ((w5.setCell ⟨w.heap.size, 0, none⟩ (.slice A5 n5 c5)).setCell ⟨w.heap.size, 1, none⟩ (.slice B5 m5 d5)).cell? ⟨w.heap.size + 1, 4, none⟩ = some (.int .i64 a.2.2.1) ∧ ((w5.setCell ⟨w.heap.size, 0, none⟩ (.slice A5 n5 c5)).setCell ⟨w.heap.size, 1, none⟩ (.slice B5 m5 d5)).cell? ⟨w.heap.size + 1, 5, none⟩ = some (.int .u32 a.2.2.2.1) ∧ ((w5.setCell ⟨w.heap.size, 0, none⟩ (.slice A5 n5 c5)).setCell ⟨w.heap.size, 1, none⟩ (.slice B5 m5 d5)).cell? ⟨w.heap.size + 1, 6, none⟩ = some (.int .i64 a.2.2.2.2) ∧ ((w5.setCell ⟨w.heap.size, 0, none⟩ (.slice A5 n5 c5)).setCell ⟨w.heap.size, 1, none⟩ (.slice B5 m5 d5)).cell? ⟨w.heap.size + 1, 7, none⟩ = some (.slice C k f) := ⟨kq_set (kq_set hC5.1 (Nat.le_refl _) _) (Nat.le_refl _) _, blk_cell hX6 0, blk_cell hX6 1, blk_cell hX6 2, blk_cell hX6 3, blk_cell hX6 4, blk_cell hX6 5, blk_cell hX6 6, blk_cell hX6 7⟩
    clear hX6
    refine hK.out _ _ hC6 ?_
    clear hK K hcl
    intro hcl
    try simp only [Act.put, List.getElem_toArray, List.getElem_cons_zero, List.getElem_cons_succ, List.setIfInBounds_toArray, List.set_cons_zero, List.set_cons_succ]
    refine wpM_last (i := 9) rfl (by kernel_rfl) hcl (by kernel_rfl) (fun K hK => ?_)
    go_simp
    refine hK.out _ _ hC6 ?_
    clear hK K hcl hC6
    intro hcl
    refine wpM_done (by kernel_rfl) ?_
    clear hcl
    try simp only [Act.put, List.getElem_toArray, List.getElem_cons_zero, List.getElem_cons_succ, List.setIfInBounds_toArray, List.set_cons_zero, List.set_cons_succ]
    clear hC hE hC5 hE5 s0 s1 b0 b1 b2 b3 b4 b5 b6 b7 r0 r1 hls hlx hlr hfr
    have hS6 := blk_set (blk_set hS5 0 (.slice A5 n5 c5)) 1 (.slice B5 m5 d5)
    have hR6 := heap_set_ne (p := ⟨w.heap.size, 1, none⟩) (u := .slice B5 m5 d5) (by dsimp only; omega) (heap_set_ne (p := ⟨w.heap.size, 0, none⟩) (u := .slice A5 n5 c5) (by dsimp only; omega) hR5)
    have hG6 : Below w.heap.size w ((w5.setCell ⟨w.heap.size, 0, none⟩ (.slice A5 n5 c5)).setCell ⟨w.heap.size, 1, none⟩ (.slice B5 m5 d5)) := ((hW.trans (hB5.mono hzW)).setCell (Nat.le_refl _) _).setCell (Nat.le_refl _) _
    have ha6 := (hY1.set_other hS5 0 (.slice A5 n5 c5)).set_other (blk_set hS5 0 (.slice A5 n5 c5)) 1 (.slice B5 m5 d5)
    have hb6 := (hY2.set_other hS5 0 (.slice A5 n5 c5)).set_other (blk_set hS5 0 (.slice A5 n5 c5)) 1 (.slice B5 m5 d5)
    have ty6a := (hty1.setC w.heap.size 0 (.slice A5 n5 c5)).setC w.heap.size 1 (.slice B5 m5 d5)
    have ty6b := (hty2.setC w.heap.size 0 (.slice A5 n5 c5)).setC w.heap.size 1 (.slice B5 m5 d5)
    clear hty1 hty2
    have hz6 : ((w5.setCell ⟨w.heap.size, 0, none⟩ (.slice A5 n5 c5)).setCell ⟨w.heap.size, 1, none⟩ (.slice B5 m5 d5)).heap.size = w5.heap.size := by rw [World.size_setCell, World.size_setCell]
    rw [← hz6] at ha6 hb6
    clear hz6 hS5 hX5 hR5 hls5 hfs5 hY1 hY2
    obtain ⟨w6, hw6⟩ : ∃ w6, (w5.setCell ⟨w.heap.size, 0, none⟩ (.slice A5 n5 c5)).setCell ⟨w.heap.size, 1, none⟩ (.slice B5 m5 d5) = w6 := ⟨_, rfl⟩
    rw [hw6] at hS6 hR6 hG6 ha6 hb6 ty6a ty6b
    rw [hw6]
    clear hw6
    have hls6 := blk_lt hS6
    have s0 := blk_cell hS6 0
    have s1 := blk_cell hS6 1
    have hlr6 := blk_lt hR6
    have hfr6 := blk_frozen hR6
    have r0 := blk_cell hR6 0
    have r1 := blk_cell hR6 1
    simp at s0 s1 r0 r1
    have hR7 := blk_set (blk_set hR6 0 (.slice A5 n5 c5)) 1 (.slice B5 m5 d5)
    have z0 := blk_cell hR7 0
    have z1 := blk_cell hR7 1
    simp at z0 z1
    have ha7 := (ha6.set_other hR6 0 (.slice A5 n5 c5)).set_other (blk_set hR6 0 (.slice A5 n5 c5)) 1 (.slice B5 m5 d5)
    have hb7 := (hb6.set_other hR6 0 (.slice A5 n5 c5)).set_other (blk_set hR6 0 (.slice A5 n5 c5)) 1 (.slice B5 m5 d5)
    have hG7 : Below w.heap.size w ((w6.setCell ⟨w.heap.size + 1 + 1, 0, none⟩ (.slice A5 n5 c5)).setCell ⟨w.heap.size + 1 + 1, 1, none⟩ (.slice B5 m5 d5)) := (hG6.setCell (by dsimp only; omega) _).setCell (by dsimp only; omega) _
    have hz7 : ((w6.setCell ⟨w.heap.size + 1 + 1, 0, none⟩ (.slice A5 n5 c5)).setCell ⟨w.heap.size + 1 + 1, 1, none⟩ (.slice B5 m5 d5)).heap.size = w6.heap.size := by rw [World.size_setCell, World.size_setCell]
    rw [← hz7] at ha7 hb7
    clear hz7
    have ha7H := Lib.hid ha7
    have ty7 := Lib.hid (And.intro ((ty6a.setC (w.heap.size + 1 + 1) 0 (.slice A5 n5 c5)).setC (w.heap.size + 1 + 1) 1 (.slice B5 m5 d5)) ((ty6b.setC (w.heap.size + 1 + 1) 0 (.slice A5 n5 c5)).setC (w.heap.size + 1 + 1) 1 (.slice B5 m5 d5)))
    clear ty6a ty6b
    have hb7H := Lib.hid hb7
    clear hS6 hR6 hR7 ha6 hb6 ha7 hb7
    go_wp2
    refine bodyPost_ret (v := .tuple #[.agg #[.slice A5 n5 c5, .slice B5 m5 d5], .bool (Y.2 == 0)]) (by simp [results, Try.results54, go_sem, z0, z1]) rfl ?_
    rw [hX.out]
    exact ⟨A5, n5, c5, B5, m5, d5, rfl, ha7H.out, hb7H.out, hG7, fun _ => ty7.out⟩
  have hqb : (bs a.2.1).toList.isEmpty = true := by
    rw [bs_empty, he]; rfl
  have hX : Hid (X = ((dropM xs gs l).1, (dropM xs gs l).2 == 0)) := Lib.hid (by rw [← hrH.out]; unfold doesM; rw [if_pos he])
  have hC0 := Lib.hid (hLr.out W hW)
  clear he hrH
  generalize dropM xs gs l = Y at hX cD
  go_enter Try.func54, Try.ntmps54
  go_upto_region 3 with (fail)
  refine wp_region_M (fun w' => KQ w.heap.size W w' ∧ w'.cell? ⟨w.heap.size + 1, 0, none⟩ = some (.int .i64 a.1.1.1) ∧ w'.cell? ⟨w.heap.size + 1, 1, none⟩ = some (.int .u32 a.1.1.2) ∧ w'.cell? ⟨w.heap.size + 1, 2, none⟩ = some (.int .i64 a.1.2) ∧ w'.cell? ⟨w.heap.size + 1, 3, none⟩ = some (.string (bs a.2.1)) ∧ w'.cell? ⟨w.heap.size + 1, 4, none⟩ = some (.int .i64 a.2.2.1) ∧ w'.cell? ⟨w.heap.size + 1, 5, none⟩ = some (.int .u32 a.2.2.2.1) ∧ w'.cell? ⟨w.heap.size + 1, 6, none⟩ = some (.int .i64 a.2.2.2.2) ∧ w'.cell? ⟨w.heap.size + 1, 7, none⟩ = some (.slice C k f)) (fun w' => w'.cell? ⟨w.heap.size, 0, none⟩ = some (.slice A n c) ∧ w'.cell? ⟨w.heap.size, 1, none⟩ = some (.slice B m d)) 9 (by kernel_rfl) ⟨kq (Below.refl _ _).drew, b0, b1, b2, b3, b4, b5, b6, b7⟩ ⟨s0, s1⟩ ?_
  intro hcl
  have hC : KQ w.heap.size W W.drew ∧ W.drew.cell? ⟨w.heap.size + 1, 0, none⟩ = some (.int .i64 a.1.1.1) ∧ W.drew.cell? ⟨w.heap.size + 1, 1, none⟩ = some (.int .u32 a.1.1.2) ∧ W.drew.cell? ⟨w.heap.size + 1, 2, none⟩ = some (.int .i64 a.1.2) ∧ W.drew.cell? ⟨w.heap.size + 1, 3, none⟩ = some (.string (bs a.2.1)) ∧ W.drew.cell? ⟨w.heap.size + 1, 4, none⟩ = some (.int .i64 a.2.2.1) ∧ W.drew.cell? ⟨w.heap.size + 1, 5, none⟩ = some (.int .u32 a.2.2.2.1) ∧ W.drew.cell? ⟨w.heap.size + 1, 6, none⟩ = some (.int .i64 a.2.2.2.2) ∧ W.drew.cell? ⟨w.heap.size + 1, 7, none⟩ = some (.slice C k f) := ⟨kq (Below.refl _ _).drew, b0, b1, b2, b3, b4, b5, b6, b7⟩
  have hE : W.drew.cell? ⟨w.heap.size, 0, none⟩ = some (.slice A n c) ∧ W.drew.cell? ⟨w.heap.size, 1, none⟩ = some (.slice B m d) := ⟨s0, s1⟩
  (refine wpM_take0c (i := 0) (j := 5) (v := ?_) rfl rfl rfl (by kernel_rfl) (by kernel_rfl) (by kernel_rfl) (by kernel_rfl) (by kernel_rfl) (by decide) (fun _ _ _ h => h) hcl hC (fun _ => hE) (Or.inl ⟨by rfl, ?_⟩) ?_; rotate_left; (· (intro w hSw; (try dsimp only at hSw); go_simp; (try with_reducible rfl))); clear hcl; intro hcl; (try simp only [Act.put, List.getElem_toArray, List.getElem_cons_zero, List.setIfInBounds_toArray, List.set_cons_zero, List.set_cons_succ]))
  (refine wpM_take (i := 2) (v := ?_) rfl (by kernel_rfl) (by kernel_rfl) (by kernel_rfl) (by decide) (fun _ _ _ h => h) hcl hC (fun _ => hE) (Or.inl ⟨by rfl, ?_⟩) ?_; rotate_left; (· (intro w hSw; (try dsimp only at hSw); go_simp; (try with_reducible rfl))); clear hcl; intro hcl; (try simp only [Act.put, List.getElem_toArray, List.getElem_cons_zero, List.getElem_cons_succ, List.setIfInBounds_toArray, List.set_cons_zero, List.set_cons_succ]))
  (refine wpM_take (i := 3) (v := ?_) rfl (by kernel_rfl) (by kernel_rfl) (by kernel_rfl) (by decide) (fun _ _ _ h => h) hcl hC (fun _ => hE) (Or.inl ⟨by rfl, ?_⟩) ?_; rotate_left; (· (intro w hSw; (try dsimp only at hSw); go_simp; (try with_reducible rfl))); clear hcl; intro hcl; (try simp only [Act.put, List.getElem_toArray, List.getElem_cons_zero, List.getElem_cons_succ, List.setIfInBounds_toArray, List.set_cons_zero, List.set_cons_succ]))
  refine wpM_only (i := 1) rfl (by kernel_rfl) hcl (fun K hK => ?_)
  go_simp
  have hB1 : Below W.heap.size W (W.drew.alloc (.cells #[] 79)) := ((Below.refl _ W).drew).alloc (by simp) _
  have hS1 := blk_below hbSH.out hB1
  have hX1 := blk_below hbXH.out hB1
  have hC1 : KQ w.heap.size W (W.drew.alloc (.cells #[] 79)) ∧ (W.drew.alloc (.cells #[] 79)).cell? ⟨w.heap.size + 1, 0, none⟩ = some (.int .i64 a.1.1.1) ∧ (W.drew.alloc (.cells #[] 79)).cell? ⟨w.heap.size + 1, 1, none⟩ = some (.int .u32 a.1.1.2) ∧ (W.drew.alloc (.cells #[] 79)).cell? ⟨w.heap.size + 1, 2, none⟩ = some (.int .i64 a.1.2) ∧ (W.drew.alloc (.cells #[] 79)).cell? ⟨w.heap.size + 1, 3, none⟩ = some (.string (bs a.2.1)) ∧ (W.drew.alloc (.cells #[] 79)).cell? ⟨w.heap.size + 1, 4, none⟩ = some (.int .i64 a.2.2.1) ∧ (W.drew.alloc (.cells #[] 79)).cell? ⟨w.heap.size + 1, 5, none⟩ = some (.int .u32 a.2.2.2.1) ∧ (W.drew.alloc (.cells #[] 79)).cell? ⟨w.heap.size + 1, 6, none⟩ = some (.int .i64 a.2.2.2.2) ∧ (W.drew.alloc (.cells #[] 79)).cell? ⟨w.heap.size + 1, 7, none⟩ = some (.slice C k f) := ⟨kq (hB1.mono hzW), blk_cell hX1 0, blk_cell hX1 1, blk_cell hX1 2, blk_cell hX1 3, blk_cell hX1 4, blk_cell hX1 5, blk_cell hX1 6, blk_cell hX1 7⟩
  have hE1 : (W.drew.alloc (.cells #[] 79)).cell? ⟨w.heap.size, 0, none⟩ = some (.slice A n c) ∧ (W.drew.alloc (.cells #[] 79)).cell? ⟨w.heap.size, 1, none⟩ = some (.slice B m d) := ⟨blk_cell hS1 0, blk_cell hS1 1⟩
  refine hK.out _ _ hC1 hE1 ?_
  clear hK K
  clear hcl
  intro hcl
  (try simp only [Act.put, List.getElem_toArray, List.getElem_cons_zero, List.getElem_cons_succ, List.setIfInBounds_toArray, List.set_cons_zero, List.set_cons_succ])
  clear hC hE
  refine wpM_only (i := 4) rfl (by kernel_rfl) hcl (fun K hK => ?_)
  refine step_append_rd _ rfl _ _ _ rfl eTag (base := W.heap.size) (v := .slice (some ⟨W.heap.size, 0, none⟩) 0 0) (xs := []) rfl (Ow.made_at (heap_at _ _ rfl) (Nat.le_refl _)) rfl (RdT.below hC0.out (hB1.mono hzW)) Tm.len Tm.one (by simp [maxLen]; omega) (by simp; omega) (by simp) ?_
  intro A4 n4 c4 w4 hn4 hown4 hg4 hat4
  obtain rfl : k = n4 := by simpa using hn4.symm
  clear hn4 hat4
  have hB4 : Below W.heap.size W w4 := hB1.grown hg4 hB1.size (fun g e => by simp [Value.ownBlock] at e; omega)
  have hS4 := blk_below hbSH.out hB4
  have hX4 := blk_below hbXH.out hB4
  have hC4 : KQ w.heap.size W w4 ∧ w4.cell? ⟨w.heap.size + 1, 0, none⟩ = some (.int .i64 a.1.1.1) ∧ w4.cell? ⟨w.heap.size + 1, 1, none⟩ = some (.int .u32 a.1.1.2) ∧ w4.cell? ⟨w.heap.size + 1, 2, none⟩ = some (.int .i64 a.1.2) ∧ w4.cell? ⟨w.heap.size + 1, 3, none⟩ = some (.string (bs a.2.1)) ∧ w4.cell? ⟨w.heap.size + 1, 4, none⟩ = some (.int .i64 a.2.2.1) ∧ w4.cell? ⟨w.heap.size + 1, 5, none⟩ = some (.int .u32 a.2.2.2.1) ∧ w4.cell? ⟨w.heap.size + 1, 6, none⟩ = some (.int .i64 a.2.2.2.2) ∧ w4.cell? ⟨w.heap.size + 1, 7, none⟩ = some (.slice C k f) := ⟨kq (hB4.mono hzW), blk_cell hX4 0, blk_cell hX4 1, blk_cell hX4 2, blk_cell hX4 3, blk_cell hX4 4, blk_cell hX4 5, blk_cell hX4 6, blk_cell hX4 7⟩
  have hE4 : w4.cell? ⟨w.heap.size, 0, none⟩ = some (.slice A n c) ∧ w4.cell? ⟨w.heap.size, 1, none⟩ = some (.slice B m d) := ⟨blk_cell hS4 0, blk_cell hS4 1⟩
  have hown4' : Ow w4 W.heap.size 79 3 (.slice A4 k c4) (l.map Tm.enc) := by simpa using hown4
  have ho4 := Lib.hid hown4'.rdT
  clear hown4 hown4' hg4 hS1 hX1 hC1 hE1 hS4 hX4
  refine hK.out _ _ hC4 hE4 ?_
  clear hK K
  clear hcl
  intro hcl
  (try simp only [Act.put, List.getElem_toArray, List.getElem_cons_zero, List.getElem_cons_succ, List.setIfInBounds_toArray, List.set_cons_zero, List.set_cons_succ])
  clear hC4 hE4
  refine wpM_only (i := 5) rfl (by kernel_rfl) hcl (fun K hK => ?_)
  go_simp
  refine (cD.out A4 k c4 w4 (hW.trans (hB4.mono hzW)) ho4.out).mono ?_
  rintro r w5 ⟨A5, n5, c5, B5, m5, d5, rfl, hY1, hY2, _, _, _, _, _, _, hb5, hty1, hty2⟩
  skip
  have hB5 : Below W.heap.size W w5 := hB4.trans (hb5.mono hB4.size)
  have hS5 := blk_below hbSH.out hB5
  have hX5 := blk_below hbXH.out hB5
  have hR5 := blk_below hbRH.out hB5
  have hC5 : KQ w.heap.size W w5 ∧ w5.cell? ⟨w.heap.size + 1, 0, none⟩ = some (.int .i64 a.1.1.1) ∧ w5.cell? ⟨w.heap.size + 1, 1, none⟩ = some (.int .u32 a.1.1.2) ∧ w5.cell? ⟨w.heap.size + 1, 2, none⟩ = some (.int .i64 a.1.2) ∧ w5.cell? ⟨w.heap.size + 1, 3, none⟩ = some (.string (bs a.2.1)) ∧ w5.cell? ⟨w.heap.size + 1, 4, none⟩ = some (.int .i64 a.2.2.1) ∧ w5.cell? ⟨w.heap.size + 1, 5, none⟩ = some (.int .u32 a.2.2.2.1) ∧ w5.cell? ⟨w.heap.size + 1, 6, none⟩ = some (.int .i64 a.2.2.2.2) ∧ w5.cell? ⟨w.heap.size + 1, 7, none⟩ = some (.slice C k f) := ⟨kq (hB5.mono hzW), blk_cell hX5 0, blk_cell hX5 1, blk_cell hX5 2, blk_cell hX5 3, blk_cell hX5 4, blk_cell hX5 5, blk_cell hX5 6, blk_cell hX5 7⟩
  have hE5 : w5.cell? ⟨w.heap.size, 0, none⟩ = some (.slice A n c) ∧ w5.cell? ⟨w.heap.size, 1, none⟩ = some (.slice B m d) := ⟨blk_cell hS5 0, blk_cell hS5 1⟩
  refine hK.out _ _ hC5 hE5 ?_
  clear hK K
  clear hcl
  intro hcl
  (try simp only [Act.put, List.getElem_toArray, List.getElem_cons_zero, List.getElem_cons_succ, List.setIfInBounds_toArray, List.set_cons_zero, List.set_cons_succ])
  have hC := hC5
  have hE := hE5
  (refine wpM_take (i := 6) (v := ?_) rfl (by kernel_rfl) (by kernel_rfl) (by kernel_rfl) (by decide) (fun _ _ _ h => h) hcl hC (fun _ => hE) (Or.inl ⟨by rfl, ?_⟩) ?_; rotate_left; (· (intro w hSw; (try dsimp only at hSw); go_simp; (try with_reducible rfl))); clear hcl; intro hcl; (try simp only [Act.put, List.getElem_toArray, List.getElem_cons_zero, List.getElem_cons_succ, List.setIfInBounds_toArray, List.set_cons_zero, List.set_cons_succ]))
  (refine wpM_take (i := 7) (v := ?_) rfl (by kernel_rfl) (by kernel_rfl) (by kernel_rfl) (by decide) (fun _ _ _ h => h) hcl hC (fun _ => hE) (Or.inl ⟨by rfl, ?_⟩) ?_; rotate_left; (· (intro w hSw; (try dsimp only at hSw); go_simp; (try with_reducible rfl))); clear hcl; intro hcl; (try simp only [Act.put, List.getElem_toArray, List.getElem_cons_zero, List.getElem_cons_succ, List.setIfInBounds_toArray, List.set_cons_zero, List.set_cons_succ]))
  (refine wpM_take (i := 8) (v := ?_) rfl (by kernel_rfl) (by kernel_rfl) (by kernel_rfl) (by decide) (fun _ _ _ h => h) hcl hC (fun _ => hE) (Or.inl ⟨by rfl, ?_⟩) ?_; rotate_left; (· (intro w hSw; (try dsimp only at hSw); go_simp; (try with_reducible rfl))); clear hcl; intro hcl; (try simp only [Act.put, List.getElem_toArray, List.getElem_cons_zero, List.getElem_cons_succ, List.setIfInBounds_toArray, List.set_cons_zero, List.set_cons_succ]))
  have hfs5 := blk_frozen hS5
  have hls5 := blk_lt hS5
  refine wpM_last (i := 9) rfl (by kernel_rfl) hcl (by kernel_rfl) (fun K hK => ?_)
  go_simp
  have hX6 := heap_set_ne (p := ⟨w.heap.size, 1, none⟩) (u := .slice B5 m5 d5) (by dsimp only; omega) (heap_set_ne (p := ⟨w.heap.size, 0, none⟩) (u := .slice A5 n5 c5) (by dsimp only; omega) hX5)
  have hC6 : KQ w.heap.size W ((w5.setCell ⟨w.heap.size, 0, none⟩ (.slice A5 n5 c5)).setCell ⟨w.heap.size, 1, none⟩ (.slice B5 m5 d5)) ∧ ((w5.setCell ⟨w.heap.size, 0, none⟩ (.slice A5 n5 c5)).setCell ⟨w.heap.size, 1, none⟩ (.slice B5 m5 d5)).cell? ⟨w.heap.size + 1, 0, none⟩ = some (.int .i64 a.1.1.1) ∧ ((w5.setCell ⟨w.heap.size, 0, none⟩ (.slice A5 n5 c5)).setCell ⟨w.heap.size, 1, none⟩ (.slice B5 m5 d5)).cell? ⟨w.heap.size + 1, 1, none⟩ = some (.int .u32 a.1.1.2) ∧ ((w5.setCell ⟨w.heap.size, 0, none⟩ (.slice A5 n5 c5)).setCell ⟨w.heap.size, 1, none⟩ (.slice B5 m5 d5)).cell? ⟨w.heap.size + 1, 2, none⟩ = some (.int .i64 a.1.2) ∧ ((w5.setCell ⟨w.heap.size, 0, none⟩ (.slice A5 n5 c5)).setCell ⟨w.heap.size, 1, none⟩ (.slice B5 m5 d5)).cell? ⟨w.heap.size + 1, 3, none⟩ = some (.string (bs a.2.1)) ∧ ((w5.setCell ⟨w.heap.size, 0, none⟩ (.slice A5 n5 c5)).setCell ⟨w.heap.size, 1, none⟩ (.slice B5 m5 d5)).cell? ⟨w.heap.size + 1, 4, none⟩ = some (.int .i64 a.2.2.1) ∧ ((w5.setCell ⟨w.heap.size, 0, none⟩ (.slice A5 n5 c5)).setCell ⟨w.heap.size, 1, none⟩ (.slice B5 m5 d5)).cell? ⟨w.heap.size + 1, 5, none⟩ = some (.int .u32 a.2.2.2.1) ∧ ((w5.setCell ⟨w.heap.size, 0, none⟩ (.slice A5 n5 c5)).setCell ⟨w.heap.size, 1, none⟩ (.slice B5 m5 d5)).cell? ⟨w.heap.size + 1, 6, none⟩ = some (.int .i64 a.2.2.2.2) ∧ ((w5.setCell ⟨w.heap.size, 0, none⟩ (.slice A5 n5 c5)).setCell ⟨w.heap.size, 1, none⟩ (.slice B5 m5 d5)).cell? ⟨w.heap.size + 1, 7, none⟩ = some (.slice C k f) := ⟨kq_set (kq_set hC5.1 (Nat.le_refl _) _) (Nat.le_refl _) _, blk_cell hX6 0, blk_cell hX6 1, blk_cell hX6 2, blk_cell hX6 3, blk_cell hX6 4, blk_cell hX6 5, blk_cell hX6 6, blk_cell hX6 7⟩
  clear hX6
  refine hK.out _ _ hC6 ?_
  clear hK K hcl
  intro hcl
  try simp only [Act.put, List.getElem_toArray, List.getElem_cons_zero, List.getElem_cons_succ, List.setIfInBounds_toArray, List.set_cons_zero, List.set_cons_succ]
  refine wpM_last (i := 10) rfl (by kernel_rfl) hcl (by kernel_rfl) (fun K hK => ?_)
  go_simp
  refine hK.out _ _ hC6 ?_
  clear hK K hcl hC6
  intro hcl
  refine wpM_done (by kernel_rfl) ?_
  clear hcl
  try simp only [Act.put, List.getElem_toArray, List.getElem_cons_zero, List.getElem_cons_succ, List.setIfInBounds_toArray, List.set_cons_zero, List.set_cons_succ]
  clear hC hE hC5 hE5 s0 s1 b0 b1 b2 b3 b4 b5 b6 b7 r0 r1 hls hlx hlr hfr
  have hS6 := blk_set (blk_set hS5 0 (.slice A5 n5 c5)) 1 (.slice B5 m5 d5)
  have hR6 := heap_set_ne (p := ⟨w.heap.size, 1, none⟩) (u := .slice B5 m5 d5) (by dsimp only; omega) (heap_set_ne (p := ⟨w.heap.size, 0, none⟩) (u := .slice A5 n5 c5) (by dsimp only; omega) hR5)
  have hG6 : Below w.heap.size w ((w5.setCell ⟨w.heap.size, 0, none⟩ (.slice A5 n5 c5)).setCell ⟨w.heap.size, 1, none⟩ (.slice B5 m5 d5)) := ((hW.trans (hB5.mono hzW)).setCell (Nat.le_refl _) _).setCell (Nat.le_refl _) _
  have ha6 := (hY1.set_other hS5 0 (.slice A5 n5 c5)).set_other (blk_set hS5 0 (.slice A5 n5 c5)) 1 (.slice B5 m5 d5)
  have hb6 := (hY2.set_other hS5 0 (.slice A5 n5 c5)).set_other (blk_set hS5 0 (.slice A5 n5 c5)) 1 (.slice B5 m5 d5)
  have ty6a := (hty1.setC w.heap.size 0 (.slice A5 n5 c5)).setC w.heap.size 1 (.slice B5 m5 d5)
  have ty6b := (hty2.setC w.heap.size 0 (.slice A5 n5 c5)).setC w.heap.size 1 (.slice B5 m5 d5)
  clear hty1 hty2
  have hz6 : ((w5.setCell ⟨w.heap.size, 0, none⟩ (.slice A5 n5 c5)).setCell ⟨w.heap.size, 1, none⟩ (.slice B5 m5 d5)).heap.size = w5.heap.size := by rw [World.size_setCell, World.size_setCell]
  rw [← hz6] at ha6 hb6
  clear hz6 hS5 hX5 hR5 hls5 hfs5 hY1 hY2
  obtain ⟨w6, hw6⟩ : ∃ w6, (w5.setCell ⟨w.heap.size, 0, none⟩ (.slice A5 n5 c5)).setCell ⟨w.heap.size, 1, none⟩ (.slice B5 m5 d5) = w6 := ⟨_, rfl⟩
  rw [hw6] at hS6 hR6 hG6 ha6 hb6 ty6a ty6b
  rw [hw6]
  clear hw6
  have hls6 := blk_lt hS6
  have s0 := blk_cell hS6 0
  have s1 := blk_cell hS6 1
  have hlr6 := blk_lt hR6
  have hfr6 := blk_frozen hR6
  have r0 := blk_cell hR6 0
  have r1 := blk_cell hR6 1
  simp at s0 s1 r0 r1
  have hR7 := blk_set (blk_set hR6 0 (.slice A5 n5 c5)) 1 (.slice B5 m5 d5)
  have z0 := blk_cell hR7 0
  have z1 := blk_cell hR7 1
  simp at z0 z1
  have ha7 := (ha6.set_other hR6 0 (.slice A5 n5 c5)).set_other (blk_set hR6 0 (.slice A5 n5 c5)) 1 (.slice B5 m5 d5)
  have hb7 := (hb6.set_other hR6 0 (.slice A5 n5 c5)).set_other (blk_set hR6 0 (.slice A5 n5 c5)) 1 (.slice B5 m5 d5)
  have hG7 : Below w.heap.size w ((w6.setCell ⟨w.heap.size + 1 + 1, 0, none⟩ (.slice A5 n5 c5)).setCell ⟨w.heap.size + 1 + 1, 1, none⟩ (.slice B5 m5 d5)) := (hG6.setCell (by dsimp only; omega) _).setCell (by dsimp only; omega) _
  have hz7 : ((w6.setCell ⟨w.heap.size + 1 + 1, 0, none⟩ (.slice A5 n5 c5)).setCell ⟨w.heap.size + 1 + 1, 1, none⟩ (.slice B5 m5 d5)).heap.size = w6.heap.size := by rw [World.size_setCell, World.size_setCell]
  rw [← hz7] at ha7 hb7
  clear hz7
  have ha7H := Lib.hid ha7
  have ty7 := Lib.hid (And.intro ((ty6a.setC (w.heap.size + 1 + 1) 0 (.slice A5 n5 c5)).setC (w.heap.size + 1 + 1) 1 (.slice B5 m5 d5)) ((ty6b.setC (w.heap.size + 1 + 1) 0 (.slice A5 n5 c5)).setC (w.heap.size + 1 + 1) 1 (.slice B5 m5 d5)))
  clear ty6a ty6b
  have hb7H := Lib.hid hb7
  clear hS6 hR6 hR7 ha6 hb6 ha7 hb7
  go_wp2
  refine bodyPost_ret (v := .tuple #[.agg #[.slice A5 n5 c5, .slice B5 m5 d5], .bool (Y.2 == 0)]) (by simp [results, Try.results54, go_sem, z0, z1]) rfl ?_
  rw [hX.out]
  exact ⟨A5, n5, c5, B5, m5, d5, rfl, ha7H.out, hb7H.out, hG7, fun _ => ty7.out⟩
end Go.Proofs.Ytadldndmmobpdaa
