/- Package dots' Beyond. -/
import Derived.Test.YtpfohpfgfdeecaaDtM
import Derived.Test.YtpfohpfgfdeecaaDtI
namespace Go.Proofs.Ytpfohpfgfdeecaa
open Go.RowKit

set_option maxRecDepth 100000 in
theorem beyond1_pred (v : Vm) (Bv base : Nat) (xs : List Im) (w : World) (hv : w.heap[Bv]? = some (.cells #[.int .u32 v.d0, .int .u32 v.d1, .int .u32 v.d2, .int .u32 v.d3, .int .u32 v.d4, .int .u32 v.d5, .int .u32 v.d6, .int .u32 v.d7] 24 (0, 0))) (hB : Bv < base) (_hbw : base ≤ w.heap.size) (hx : ∀ x ∈ xs, x.wf) :
    PredI 47 #[.pointer (some ⟨Bv, 0, none⟩)] (hasV v) base w xs := by
  intro x hm w' hb
  have hv' : w'.heap[Bv]? = some (.cells #[.int .u32 v.d0, .int .u32 v.d1, .int .u32 v.d2, .int .u32 v.d3, .int .u32 v.d4, .int .u32 v.d5, .int .u32 v.d6, .int .u32 v.d7] 24 (0, 0)) := (hb.block _ hB).trans hv
  have hlt : Bv < w'.heap.size := blk_lt hv'
  have q0 := blk_cell hv' 0
  have q1 := blk_cell hv' 1
  have q2 := blk_cell hv' 2
  have q3 := blk_cell hv' 3
  have q4 := blk_cell hv' 4
  have q5 := blk_cell hv' 5
  have q6 := blk_cell hv' 6
  have q7 := blk_cell hv' 7
  simp at q0 q1 q2 q3 q4 q5 q6 q7
  have hh := fun w' => vhas_any v x (hx x hm) w'
  generalize hasV v x = b at hh
  clear hv hv' hx hm hb hB _hbw
  have hh := Lib.hid hh
  obtain ⟨x1, x2⟩ := x
  show Calls Try.prog _ #[.agg #[.int .i64 x1, .int .u32 x2], .pointer (some ⟨Bv, 0, none⟩)] w' _
  go_enter Try.func47, Try.ntmps47
  go_wp2_with fail
  refine (hh.out _).mono ?_
  rintro e w1 ⟨rfl, hb1⟩
  have hF : Below w'.heap.size w' w1 := ((Below.refl _ w').alloc (Nat.le_refl _) _).trans (hb1.mono (by simp))
  go_wp2
  go_ret
  exact ⟨rfl, hF⟩

set_option maxRecDepth 100000 in
set_option maxHeartbeats 1000000 in
theorem beyondO_any (A : Option Addr) (n c : Nat) (xs : List Im) (v : Vm) (w : World) (hA : RdI w w.heap.size A n xs) (hn : n ≤ 1100) (hx : ∀ x ∈ xs, x.wf) :
    Calls Try.prog 34 #[.slice A n c, .agg #[.int .u32 v.d0, .int .u32 v.d1, .int .u32 v.d2, .int .u32 v.d3, .int .u32 v.d4, .int .u32 v.d5, .int .u32 v.d6, .int .u32 v.d7]] w fun e w' => ∃ A' n' c', e = .returned (.tuple #[.slice A' n' c', .int .i64 (lerr xs)]) ∧ Ow w' w.heap.size 37 2 (.slice A' n' c') ((beyondI xs v).map Im.enc) ∧ Below w.heap.size w w' := by
  have hb0 : Below w.heap.size w (w.alloc (.cells #[.int .u32 v.d0, .int .u32 v.d1, .int .u32 v.d2, .int .u32 v.d3, .int .u32 v.d4, .int .u32 v.d5, .int .u32 v.d6, .int .u32 v.d7] 24)) := (Below.refl _ w).alloc (Nat.le_refl _) _
  have h1 := check_any A n c xs _ ((hA.below hb0).more hb0.size) (by simp [maxLen]; omega) hx
  have hl := hA.len
  generalize hr : beyondI xs v = out
  unfold beyondI at hr
  generalize lerr xs = p at h1 hr ⊢
  by_cases hp : p = 0
  · subst hp
    rw [if_neg (by simp)] at hr
    have hrH := Lib.hid hr
    clear hr
    go_enter Try.func34, Try.ntmps34
    go_wp2_with fail
    refine h1.mono ?_
    rintro e w1 ⟨rfl, hb1⟩
    replace hb1 : Below (w.heap.size + 1) (w.alloc (.cells #[.int .u32 v.d0, .int .u32 v.d1, .int .u32 v.d2, .int .u32 v.d3, .int .u32 v.d4, .int .u32 v.d5, .int .u32 v.d6, .int .u32 v.d7] 24)) w1 := hb1.mono (by simp)
    have hz1 := hb1.size
    simp only [World.size_alloc] at hz1
    have hb2 : Below w.heap.size w w1 := hb0.trans (hb1.mono (by omega))
    have hbv : w1.heap[w.heap.size]? = some (.cells #[.int .u32 v.d0, .int .u32 v.d1, .int .u32 v.d2, .int .u32 v.d3, .int .u32 v.d4, .int .u32 v.d5, .int .u32 v.d6, .int .u32 v.d7] 24 (0, 0)) := (hb1.block _ (by omega)).trans (heap_at _ _ rfl)
    have hcl := clone_any A n c xs w1 ((hA.below hb2).more hb2.size) hn
    go_wp2_with fail
    refine hcl.mono ?_
    rintro e w2 ⟨A2, c2, rfl, hown, hb3⟩
    have hbv2 : w2.heap[w.heap.size]? = some (.cells #[.int .u32 v.d0, .int .u32 v.d1, .int .u32 v.d2, .int .u32 v.d3, .int .u32 v.d4, .int .u32 v.d5, .int .u32 v.d6, .int .u32 v.d7] 24 (0, 0)) := (hb3.block _ (by omega)).trans hbv
    have hdel := delf_gen 47 #[.pointer (some ⟨w.heap.size, 0, none⟩)] (hasV v) (enters_of Try.func47 (by kernel_rfl) rfl) w1.heap.size A2 n c2 xs w2 hown hn (beyond1_pred v _ _ xs w2 hbv2 (by omega) hb3.size hx) hb3.size
    go_wp2_with fail
    refine hdel.mono ?_
    rintro e w3 ⟨n3, rfl, hown3, hgr3⟩
    rw [hrH.out] at hown3
    have hG : Below w.heap.size w w3 := (hb2.trans (hb3.mono hb2.size)).grown hgr3 (by have := hb3.size; omega) (fun k e => by have := (hown.block k e).1; omega)
    go_wp2
    refine bodyPost_ret (v := .tuple #[.slice A2 n3 c2, .int .i64 0]) (by simp [results, Try.results34, go_sem]) rfl ⟨A2, n3, c2, rfl, hown3.base hb2.size, hG⟩
  · rw [if_pos hp] at hr
    subst hr
    go_enter Try.func34, Try.ntmps34
    go_wp2_with fail
    refine h1.mono ?_
    rintro e w1 ⟨rfl, hb1⟩
    go_wp2
    refine bodyPost_ret (v := .tuple #[.slice none 0 0, .int .i64 p]) (by simp [results, Try.results34, go_sem]) rfl ⟨none, 0, 0, rfl, Ow.nil_ _ _ _ _, hb0.trans (hb1.mono (by simp))⟩
theorem beyond_any (A : Option Addr) (n c : Nat) (xs : List Im) (v : Vm) (w : World) (hA : RdI w w.heap.size A n xs) (hn : n ≤ 1100) (hx : ∀ x ∈ xs, x.wf) :
    Calls Try.prog 34 #[.slice A n c, .agg #[.int .u32 v.d0, .int .u32 v.d1, .int .u32 v.d2, .int .u32 v.d3, .int .u32 v.d4, .int .u32 v.d5, .int .u32 v.d6, .int .u32 v.d7]] w fun e w' => ∃ A' n' c', e = .returned (.tuple #[.slice A' n' c', .int .i64 (lerr xs)]) ∧ GotI w' A' n' (beyondI xs v) ∧ Below w.heap.size w w' :=
  (beyondO_any A n c xs v w hA hn hx).mono fun _ _ ⟨A', n', c', he, ho, hb⟩ => ⟨A', n', c', he, gotI_own ho, hb⟩
end Go.Proofs.Ytpfohpfgfdeecaa
