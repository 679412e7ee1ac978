/- A vector with one name more. -/
import Derived.Test.YtpfohpfgfdeecaaVcA
import Derived.Test.YtpfohpfgfdeecaaDtF
namespace Go.Proofs.Ytpfohpfgfdeecaa
open Go.RowKit

theorem set_cells (v : Vm) (k : Nat) (hk : k < 8) (s : Int) : (#[.int .u32 v.d0, .int .u32 v.d1, .int .u32 v.d2, .int .u32 v.d3, .int .u32 v.d4, .int .u32 v.d5, .int .u32 v.d6, .int .u32 v.d7] : Array Value).setIfInBounds k (.int .u32 s) = #[.int .u32 (v.set k s).d0, .int .u32 (v.set k s).d1, .int .u32 (v.set k s).d2, .int .u32 (v.set k s).d3, .int .u32 (v.set k s).d4, .int .u32 (v.set k s).d5, .int .u32 (v.set k s).d6, .int .u32 (v.set k s).d7] := by
  obtain rfl | rfl | rfl | rfl | rfl | rfl | rfl | rfl : k = 0 ∨ k = 1 ∨ k = 2 ∨ k = 3 ∨ k = 4 ∨ k = 5 ∨ k = 6 ∨ k = 7 := by omega
  all_goals simp [Vm.set]
theorem get_cells (v : Vm) (k : Nat) (hk : k < 8) : (#[.int .u32 v.d0, .int .u32 v.d1, .int .u32 v.d2, .int .u32 v.d3, .int .u32 v.d4, .int .u32 v.d5, .int .u32 v.d6, .int .u32 v.d7] : Array Value)[k]? = some (.int .u32 (v.get k)) := by
  obtain rfl | rfl | rfl | rfl | rfl | rfl | rfl | rfl : k = 0 ∨ k = 1 ∨ k = 2 ∨ k = 3 ∨ k = 4 ∨ k = 5 ∨ k = 6 ∨ k = 7 := by omega
  all_goals simp [Vm.get]
theorem vchk_get {v : Vm} (h : vchk v = true) (o : Int) : v.get o ≤ 1048576 := by
  unfold vchk at h
  rw [decide_eq_true_eq] at h
  unfold Vm.get
  (repeat' split) <;> omega

set_option maxRecDepth 100000 in
set_option maxHeartbeats 1000000 in
theorem take_any (v : Vm) (x : Im) (hv : v.wf) (hx : x.wf) (w : World) :
    Calls Try.prog 33 #[.agg #[.int .u32 v.d0, .int .u32 v.d1, .int .u32 v.d2, .int .u32 v.d3, .int .u32 v.d4, .int .u32 v.d5, .int .u32 v.d6, .int .u32 v.d7], .agg #[.int .i64 x.1, .int .u32 x.2]] w fun e w' => e = .returned (.tuple #[.agg #[.int .u32 (takeV v x).d0, .int .u32 (takeV v x).d1, .int .u32 (takeV v x).d2, .int .u32 (takeV v x).d3, .int .u32 (takeV v x).d4, .int .u32 (takeV v x).d5, .int .u32 (takeV v x).d6, .int .u32 (takeV v x).d7], .int .i64 (takeErr v x)]) ∧ Below w.heap.size w w' := by
  have c1 := vcheck_any v
  have c2 := chk_any x hx
  have c3 := vhas_any v x hx
  generalize hr : takeErr v x = er
  generalize hro : takeV v x = out
  unfold takeV at hro
  rw [hr] at hro
  unfold takeErr at hr
  obtain ⟨o, s⟩ := x
  have hW : Below w.heap.size w (((w.alloc (.cells #[.int .u32 v.d0, .int .u32 v.d1, .int .u32 v.d2, .int .u32 v.d3, .int .u32 v.d4, .int .u32 v.d5, .int .u32 v.d6, .int .u32 v.d7] 24)).alloc (.cells #[.int .i64 o, .int .u32 s] 37)).alloc (.cells #[.int .u32 0, .int .u32 0, .int .u32 0, .int .u32 0, .int .u32 0, .int .u32 0, .int .u32 0, .int .u32 0] 24)) := (((Below.refl _ w).alloc (Nat.le_refl _) _).alloc (by simp) _).alloc (by simp; omega) _
  cases h1 : vchk v with
  | false =>
    rw [h1, if_pos rfl] at hr
    subst hr
    rw [if_neg (by decide)] at hro
    subst hro
    rw [h1, show errI false = 2 from rfl] at c1
    have c1 := Lib.hid c1
    clear c2 c3
    go_enter Try.func33, Try.ntmps33
    go_wp2_with fail
    refine (c1.out _).mono ?_
    rintro e w1 ⟨rfl, hb⟩
    replace hb : Below (w.heap.size + 3) (((w.alloc (.cells #[.int .u32 v.d0, .int .u32 v.d1, .int .u32 v.d2, .int .u32 v.d3, .int .u32 v.d4, .int .u32 v.d5, .int .u32 v.d6, .int .u32 v.d7] 24)).alloc (.cells #[.int .i64 o, .int .u32 s] 37)).alloc (.cells #[.int .u32 0, .int .u32 0, .int .u32 0, .int .u32 0, .int .u32 0, .int .u32 0, .int .u32 0, .int .u32 0] 24)) w1 := hb.mono (by simp)
    have hbR : w1.heap[w.heap.size + 1 + 1]? = some (.cells #[.int .u32 0, .int .u32 0, .int .u32 0, .int .u32 0, .int .u32 0, .int .u32 0, .int .u32 0, .int .u32 0] 24 (0, 0)) := (hb.block _ (by omega)).trans (heap_at _ _ (by simp))
    have r0 := blk_cell hbR 0
    have r1 := blk_cell hbR 1
    have r2 := blk_cell hbR 2
    have r3 := blk_cell hbR 3
    have r4 := blk_cell hbR 4
    have r5 := blk_cell hbR 5
    have r6 := blk_cell hbR 6
    have r7 := blk_cell hbR 7
    have hfR := blk_frozen hbR
    simp at r0 r1 r2 r3 r4 r5 r6 r7
    have hG : Below w.heap.size w w1 := hW.trans (hb.mono (by omega))
    go_wp2
    refine bodyPost_ret (v := .tuple #[.agg #[.int .u32 0, .int .u32 0, .int .u32 0, .int .u32 0, .int .u32 0, .int .u32 0, .int .u32 0, .int .u32 0], .int .i64 2]) (by simp [results, Try.results33, go_sem, r0, r1, r2, r3, r4, r5, r6, r7]) rfl ⟨rfl, ?_⟩
    repeat (first | (with_reducible exact hG) | (with_reducible refine Below.drew ?_) | (with_reducible refine Below.setCell ?_ (by simp; omega) _))
  | true =>
    rw [h1, if_neg (by simp)] at hr
    rw [h1, show errI true = 0 from rfl] at c1
    have c1 := Lib.hid c1
    cases h2 : chk (o, s) with
    | false =>
      rw [h2, if_pos rfl] at hr
      subst hr
      rw [if_neg (by decide)] at hro
      subst hro
      rw [h2, show errI false = 2 from rfl] at c2
      have c2 := Lib.hid c2
      clear c3
      go_enter Try.func33, Try.ntmps33
      go_wp2_with fail
      refine (c1.out _).mono ?_
      rintro e w1 ⟨rfl, hb⟩
      replace hb : Below (w.heap.size + 3) (((w.alloc (.cells #[.int .u32 v.d0, .int .u32 v.d1, .int .u32 v.d2, .int .u32 v.d3, .int .u32 v.d4, .int .u32 v.d5, .int .u32 v.d6, .int .u32 v.d7] 24)).alloc (.cells #[.int .i64 o, .int .u32 s] 37)).alloc (.cells #[.int .u32 0, .int .u32 0, .int .u32 0, .int .u32 0, .int .u32 0, .int .u32 0, .int .u32 0, .int .u32 0] 24)) w1 := hb.mono (by simp)
      have hz1 : w.heap.size + 3 ≤ w1.heap.size := by have := hb.size; simp at this; omega
      have hbV : w1.heap[w.heap.size]? = some (.cells #[.int .u32 v.d0, .int .u32 v.d1, .int .u32 v.d2, .int .u32 v.d3, .int .u32 v.d4, .int .u32 v.d5, .int .u32 v.d6, .int .u32 v.d7] 24 (0, 0)) := (hb.block _ (by omega)).trans (heap_old _ (by simp; omega) (heap_old _ (by simp) (heap_at _ _ rfl)))
      have hbI := (hb.block (w.heap.size + 1) (by omega)).trans (heap_old _ (by simp) (heap_at _ _ (by simp)))
      have hv0 := blk_cell hbV 0
      have hv1 := blk_cell hbV 1
      have hv2 := blk_cell hbV 2
      have hv3 := blk_cell hbV 3
      have hv4 := blk_cell hbV 4
      have hv5 := blk_cell hbV 5
      have hv6 := blk_cell hbV 6
      have hv7 := blk_cell hbV 7
      have hi0 := blk_cell hbI 0
      have hi1 := blk_cell hbI 1
      simp at hv0 hv1 hv2 hv3 hv4 hv5 hv6 hv7 hi0 hi1
      clear hbV hbI
      go_wp2_with fail
      refine (c2.out _).mono ?_
      rintro e w2 ⟨rfl, hb2⟩
      replace hb : Below (w.heap.size + 3) (((w.alloc (.cells #[.int .u32 v.d0, .int .u32 v.d1, .int .u32 v.d2, .int .u32 v.d3, .int .u32 v.d4, .int .u32 v.d5, .int .u32 v.d6, .int .u32 v.d7] 24)).alloc (.cells #[.int .i64 o, .int .u32 s] 37)).alloc (.cells #[.int .u32 0, .int .u32 0, .int .u32 0, .int .u32 0, .int .u32 0, .int .u32 0, .int .u32 0, .int .u32 0] 24)) w2 := hb.trans (hb2.mono hz1)
      have hbR : w2.heap[w.heap.size + 1 + 1]? = some (.cells #[.int .u32 0, .int .u32 0, .int .u32 0, .int .u32 0, .int .u32 0, .int .u32 0, .int .u32 0, .int .u32 0] 24 (0, 0)) := (hb.block _ (by omega)).trans (heap_at _ _ (by simp))
      have r0 := blk_cell hbR 0
      have r1 := blk_cell hbR 1
      have r2 := blk_cell hbR 2
      have r3 := blk_cell hbR 3
      have r4 := blk_cell hbR 4
      have r5 := blk_cell hbR 5
      have r6 := blk_cell hbR 6
      have r7 := blk_cell hbR 7
      have hfR := blk_frozen hbR
      simp at r0 r1 r2 r3 r4 r5 r6 r7
      have hG : Below w.heap.size w w2 := hW.trans (hb.mono (by omega))
      go_wp2
      refine bodyPost_ret (v := .tuple #[.agg #[.int .u32 0, .int .u32 0, .int .u32 0, .int .u32 0, .int .u32 0, .int .u32 0, .int .u32 0, .int .u32 0], .int .i64 2]) (by simp [results, Try.results33, go_sem, r0, r1, r2, r3, r4, r5, r6, r7]) rfl ⟨rfl, ?_⟩
      repeat (first | (with_reducible exact hG) | (with_reducible refine Below.drew ?_) | (with_reducible refine Below.setCell ?_ (by simp; omega) _))
    | true =>
      rw [h2, if_neg (by simp)] at hr
      rw [h2, show errI true = 0 from rfl] at c2
      have c2 := Lib.hid c2
      cases h3 : hasV v (o, s) with
      | true =>
        rw [h3, if_pos rfl] at hr
        subst hr
        rw [if_neg (by decide)] at hro
        subst hro
        rw [h3] at c3
        have c3 := Lib.hid c3
        go_enter Try.func33, Try.ntmps33
        go_wp2_with fail
        refine (c1.out _).mono ?_
        rintro e w1 ⟨rfl, hb⟩
        replace hb : Below (w.heap.size + 3) (((w.alloc (.cells #[.int .u32 v.d0, .int .u32 v.d1, .int .u32 v.d2, .int .u32 v.d3, .int .u32 v.d4, .int .u32 v.d5, .int .u32 v.d6, .int .u32 v.d7] 24)).alloc (.cells #[.int .i64 o, .int .u32 s] 37)).alloc (.cells #[.int .u32 0, .int .u32 0, .int .u32 0, .int .u32 0, .int .u32 0, .int .u32 0, .int .u32 0, .int .u32 0] 24)) w1 := hb.mono (by simp)
        have hz1 : w.heap.size + 3 ≤ w1.heap.size := by have := hb.size; simp at this; omega
        have hbV : w1.heap[w.heap.size]? = some (.cells #[.int .u32 v.d0, .int .u32 v.d1, .int .u32 v.d2, .int .u32 v.d3, .int .u32 v.d4, .int .u32 v.d5, .int .u32 v.d6, .int .u32 v.d7] 24 (0, 0)) := (hb.block _ (by omega)).trans (heap_old _ (by simp; omega) (heap_old _ (by simp) (heap_at _ _ rfl)))
        have hbI := (hb.block (w.heap.size + 1) (by omega)).trans (heap_old _ (by simp) (heap_at _ _ (by simp)))
        have hv0 := blk_cell hbV 0
        have hv1 := blk_cell hbV 1
        have hv2 := blk_cell hbV 2
        have hv3 := blk_cell hbV 3
        have hv4 := blk_cell hbV 4
        have hv5 := blk_cell hbV 5
        have hv6 := blk_cell hbV 6
        have hv7 := blk_cell hbV 7
        have hi0 := blk_cell hbI 0
        have hi1 := blk_cell hbI 1
        simp at hv0 hv1 hv2 hv3 hv4 hv5 hv6 hv7 hi0 hi1
        clear hbV hbI
        go_wp2_with fail
        refine (c2.out _).mono ?_
        rintro e w2 ⟨rfl, hb2⟩
        replace hb : Below (w.heap.size + 3) (((w.alloc (.cells #[.int .u32 v.d0, .int .u32 v.d1, .int .u32 v.d2, .int .u32 v.d3, .int .u32 v.d4, .int .u32 v.d5, .int .u32 v.d6, .int .u32 v.d7] 24)).alloc (.cells #[.int .i64 o, .int .u32 s] 37)).alloc (.cells #[.int .u32 0, .int .u32 0, .int .u32 0, .int .u32 0, .int .u32 0, .int .u32 0, .int .u32 0, .int .u32 0] 24)) w2 := hb.trans (hb2.mono hz1)
        clear hz1 hv0 hv1 hv2 hv3 hv4 hv5 hv6 hv7 hi0 hi1
        have hz1 : w.heap.size + 3 ≤ w2.heap.size := by have := hb.size; simp at this; omega
        have hbV : w2.heap[w.heap.size]? = some (.cells #[.int .u32 v.d0, .int .u32 v.d1, .int .u32 v.d2, .int .u32 v.d3, .int .u32 v.d4, .int .u32 v.d5, .int .u32 v.d6, .int .u32 v.d7] 24 (0, 0)) := (hb.block _ (by omega)).trans (heap_old _ (by simp; omega) (heap_old _ (by simp) (heap_at _ _ rfl)))
        have hbI := (hb.block (w.heap.size + 1) (by omega)).trans (heap_old _ (by simp) (heap_at _ _ (by simp)))
        have hv0 := blk_cell hbV 0
        have hv1 := blk_cell hbV 1
        have hv2 := blk_cell hbV 2
        have hv3 := blk_cell hbV 3
        have hv4 := blk_cell hbV 4
        have hv5 := blk_cell hbV 5
        have hv6 := blk_cell hbV 6
        have hv7 := blk_cell hbV 7
        have hi0 := blk_cell hbI 0
        have hi1 := blk_cell hbI 1
        simp at hv0 hv1 hv2 hv3 hv4 hv5 hv6 hv7 hi0 hi1
        clear hbV hbI
        go_wp2_with fail
        refine (c3.out _).mono ?_
        rintro e w3 ⟨rfl, hb3⟩
        replace hb : Below (w.heap.size + 3) (((w.alloc (.cells #[.int .u32 v.d0, .int .u32 v.d1, .int .u32 v.d2, .int .u32 v.d3, .int .u32 v.d4, .int .u32 v.d5, .int .u32 v.d6, .int .u32 v.d7] 24)).alloc (.cells #[.int .i64 o, .int .u32 s] 37)).alloc (.cells #[.int .u32 0, .int .u32 0, .int .u32 0, .int .u32 0, .int .u32 0, .int .u32 0, .int .u32 0, .int .u32 0] 24)) w3 := hb.trans (hb3.mono hz1)
        have hbR : w3.heap[w.heap.size + 1 + 1]? = some (.cells #[.int .u32 0, .int .u32 0, .int .u32 0, .int .u32 0, .int .u32 0, .int .u32 0, .int .u32 0, .int .u32 0] 24 (0, 0)) := (hb.block _ (by omega)).trans (heap_at _ _ (by simp))
        have r0 := blk_cell hbR 0
        have r1 := blk_cell hbR 1
        have r2 := blk_cell hbR 2
        have r3 := blk_cell hbR 3
        have r4 := blk_cell hbR 4
        have r5 := blk_cell hbR 5
        have r6 := blk_cell hbR 6
        have r7 := blk_cell hbR 7
        have hfR := blk_frozen hbR
        simp at r0 r1 r2 r3 r4 r5 r6 r7
        have hG : Below w.heap.size w w3 := hW.trans (hb.mono (by omega))
        go_wp2
        refine bodyPost_ret (v := .tuple #[.agg #[.int .u32 0, .int .u32 0, .int .u32 0, .int .u32 0, .int .u32 0, .int .u32 0, .int .u32 0, .int .u32 0], .int .i64 11]) (by simp [results, Try.results33, go_sem, r0, r1, r2, r3, r4, r5, r6, r7]) rfl ⟨rfl, ?_⟩
        repeat (first | (with_reducible exact hG) | (with_reducible refine Below.drew ?_) | (with_reducible refine Below.setCell ?_ (by simp; omega) _))
      | false =>
        rw [h3, if_neg (by simp)] at hr
        rw [h3] at c3
        have c3 := Lib.hid c3
        have hk := h2
        simp only [chk, decide_eq_true_eq] at hk
        obtain ⟨k0, k1, k2, k3⟩ := hk
        obtain ⟨k, rfl⟩ : ∃ k : Nat, o = (k : Int) := ⟨o.toNat, by omega⟩
        have hk8 : k < 8 := by omega
        have hvm := vchk_get h1 (k : Int)
        have hv0' : 0 ≤ v.get (k : Int) := by
          obtain ⟨a0, a1, a2, a3, a4, a5, a6, a7⟩ := hv
          unfold Vm.get
          (repeat' split) <;> omega
        go_enter Try.func33, Try.ntmps33
        go_wp2_with fail
        refine (c1.out _).mono ?_
        rintro e w1 ⟨rfl, hb⟩
        replace hb : Below (w.heap.size + 3) ((((w.alloc (.cells #[.int .u32 v.d0, .int .u32 v.d1, .int .u32 v.d2, .int .u32 v.d3, .int .u32 v.d4, .int .u32 v.d5, .int .u32 v.d6, .int .u32 v.d7] 24)).alloc (.cells #[.int .i64 (k : Int), .int .u32 s] 37)).alloc (.cells #[.int .u32 0, .int .u32 0, .int .u32 0, .int .u32 0, .int .u32 0, .int .u32 0, .int .u32 0, .int .u32 0] 24))) w1 := hb.mono (by simp)
        have hz1 : w.heap.size + 3 ≤ w1.heap.size := by have := hb.size; simp at this; omega
        have hbV : w1.heap[w.heap.size]? = some (.cells #[.int .u32 v.d0, .int .u32 v.d1, .int .u32 v.d2, .int .u32 v.d3, .int .u32 v.d4, .int .u32 v.d5, .int .u32 v.d6, .int .u32 v.d7] 24 (0, 0)) := (hb.block _ (by omega)).trans (heap_old _ (by simp; omega) (heap_old _ (by simp) (heap_at _ _ rfl)))
        have hbI := (hb.block (w.heap.size + 1) (by omega)).trans (heap_old _ (by simp) (heap_at _ _ (by simp)))
        have hv0 := blk_cell hbV 0
        have hv1 := blk_cell hbV 1
        have hv2 := blk_cell hbV 2
        have hv3 := blk_cell hbV 3
        have hv4 := blk_cell hbV 4
        have hv5 := blk_cell hbV 5
        have hv6 := blk_cell hbV 6
        have hv7 := blk_cell hbV 7
        have hi0 := blk_cell hbI 0
        have hi1 := blk_cell hbI 1
        simp at hv0 hv1 hv2 hv3 hv4 hv5 hv6 hv7 hi0 hi1
        clear hbV hbI
        go_wp2_with fail
        refine (c2.out _).mono ?_
        rintro e w2 ⟨rfl, hb2⟩
        replace hb := hb.trans (hb2.mono hz1)
        clear hz1 hv0 hv1 hv2 hv3 hv4 hv5 hv6 hv7 hi0 hi1
        have hz1 : w.heap.size + 3 ≤ w2.heap.size := by have := hb.size; simp at this; omega
        have hbV : w2.heap[w.heap.size]? = some (.cells #[.int .u32 v.d0, .int .u32 v.d1, .int .u32 v.d2, .int .u32 v.d3, .int .u32 v.d4, .int .u32 v.d5, .int .u32 v.d6, .int .u32 v.d7] 24 (0, 0)) := (hb.block _ (by omega)).trans (heap_old _ (by simp; omega) (heap_old _ (by simp) (heap_at _ _ rfl)))
        have hbI := (hb.block (w.heap.size + 1) (by omega)).trans (heap_old _ (by simp) (heap_at _ _ (by simp)))
        have hv0 := blk_cell hbV 0
        have hv1 := blk_cell hbV 1
        have hv2 := blk_cell hbV 2
        have hv3 := blk_cell hbV 3
        have hv4 := blk_cell hbV 4
        have hv5 := blk_cell hbV 5
        have hv6 := blk_cell hbV 6
        have hv7 := blk_cell hbV 7
        have hi0 := blk_cell hbI 0
        have hi1 := blk_cell hbI 1
        simp at hv0 hv1 hv2 hv3 hv4 hv5 hv6 hv7 hi0 hi1
        clear hbV hbI
        go_wp2_with fail
        refine (c3.out _).mono ?_
        rintro e w3 ⟨rfl, hb3⟩
        replace hb := hb.trans (hb3.mono hz1)
        clear hz1 hv0 hv1 hv2 hv3 hv4 hv5 hv6 hv7 hi0 hi1
        have hz1 : w.heap.size + 3 ≤ w3.heap.size := by have := hb.size; simp at this; omega
        have hbV : w3.heap[w.heap.size]? = some (.cells #[.int .u32 v.d0, .int .u32 v.d1, .int .u32 v.d2, .int .u32 v.d3, .int .u32 v.d4, .int .u32 v.d5, .int .u32 v.d6, .int .u32 v.d7] 24 (0, 0)) := (hb.block _ (by omega)).trans (heap_old _ (by simp; omega) (heap_old _ (by simp) (heap_at _ _ rfl)))
        have hbI := (hb.block (w.heap.size + 1) (by omega)).trans (heap_old _ (by simp) (heap_at _ _ (by simp)))
        have hv0 := blk_cell hbV 0
        have hv1 := blk_cell hbV 1
        have hv2 := blk_cell hbV 2
        have hv3 := blk_cell hbV 3
        have hv4 := blk_cell hbV 4
        have hv5 := blk_cell hbV 5
        have hv6 := blk_cell hbV 6
        have hv7 := blk_cell hbV 7
        have hi0 := blk_cell hbI 0
        have hi1 := blk_cell hbI 1
        simp at hv0 hv1 hv2 hv3 hv4 hv5 hv6 hv7 hi0 hi1
        clear hbV hbI
        have hbV : w3.heap[w.heap.size]? = some (.cells #[.int .u32 v.d0, .int .u32 v.d1, .int .u32 v.d2, .int .u32 v.d3, .int .u32 v.d4, .int .u32 v.d5, .int .u32 v.d6, .int .u32 v.d7] 24 (0, 0)) := (hb.block _ (by omega)).trans (heap_old _ (by simp; omega) (heap_old _ (by simp) (heap_at _ _ rfl)))
        have hbVH := Lib.hid hbV
        have hcv : w3.cell? ⟨w.heap.size, k, none⟩ = some (.int .u32 (v.get k)) := by rw [blk_cell hbV]; exact get_cells v k hk8
        have hfV := blk_frozen hbV
        clear hbV
        have hG : Below w.heap.size w w3 := by
          have h9 : Below w.heap.size w ((((w.alloc (.cells #[.int .u32 v.d0, .int .u32 v.d1, .int .u32 v.d2, .int .u32 v.d3, .int .u32 v.d4, .int .u32 v.d5, .int .u32 v.d6, .int .u32 v.d7] 24)).alloc (.cells #[.int .i64 (k : Int), .int .u32 s] 37)).alloc (.cells #[.int .u32 0, .int .u32 0, .int .u32 0, .int .u32 0, .int .u32 0, .int .u32 0, .int .u32 0, .int .u32 0] 24))) := (((Below.refl _ w).alloc (Nat.le_refl _) _).alloc (by simp) _).alloc (by simp; omega) _
          exact h9.trans (hb.mono (by omega))
        have hbR : w3.heap[w.heap.size + 1 + 1]? = some (.cells #[.int .u32 0, .int .u32 0, .int .u32 0, .int .u32 0, .int .u32 0, .int .u32 0, .int .u32 0, .int .u32 0] 24 (0, 0)) := (hb.block _ (by omega)).trans (heap_at _ _ (by simp))
        have r0 := blk_cell hbR 0
        have r1 := blk_cell hbR 1
        have r2 := blk_cell hbR 2
        have r3 := blk_cell hbR 3
        have r4 := blk_cell hbR 4
        have r5 := blk_cell hbR 5
        have r6 := blk_cell hbR 6
        have r7 := blk_cell hbR 7
        have hfR := blk_frozen hbR
        simp at r0 r1 r2 r3 r4 r5 r6 r7
        have hbRH := Lib.hid hbR
        have hq0 : KQ w3.heap.size w3 w3 := kq (Below.refl _ _)
        have hlt0 : w.heap.size < w3.heap.size := by omega
        have hlt1 : w.heap.size + 1 < w3.heap.size := by omega
        have hlt2 : w.heap.size + 1 + 1 < w3.heap.size := by omega
        have hk0 : (0 : Int) ≤ (k : Int) := by omega
        have hk9 : (k : Int) < 8 := by omega
        have hk7 : (k : Int) ≤ 7 := by omega
        have hsetH := Lib.hid (set_cells v k hk8 s)
        clear hbR hb hx k0 k1 k2 k3 hv c1 c2 c3 h1 h2 h3 hW
        have hwr : IntKind.u32.wrap (v.get (k : Int) + 1) = v.get (k : Int) + 1 := by rw [IntWalk.u32_in _ (by omega)]
        by_cases hgt : v.get (k : Int) + 1 < s
        · rw [if_pos hgt] at hr
          subst hr
          rw [if_neg (by decide)] at hro
          subst hro
          generalize v.get (k : Int) = z at *
          go_wp2_with fail
          go_region_held3 (fun w' => KQ w3.heap.size w3 w') (first
      | with_reducible exact kq_call (by assumption) (by simp) (by assumption)
      | with_reducible exact kq_grown (by assumption) (by simp) (by assumption) (by simp [Value.ownBlock])
      | ((with_reducible refine kq ?_); (repeat (first | (with_reducible exact Below.refl _ _) | (with_reducible refine Below.drew ?_) | (with_reducible refine Below.alloc ?_ (by simp) _) | (with_reducible refine Below.setCell ?_ (by simp) _) | (with_reducible exact (by assumption : KQ _ _ _).1))); done)) (first | (go_at_call 0; skip))
          go_wp2
          refine bodyPost_ret (v := .tuple #[.agg #[.int .u32 0, .int .u32 0, .int .u32 0, .int .u32 0, .int .u32 0, .int .u32 0, .int .u32 0, .int .u32 0], .int .i64 17]) (by simp [results, Try.results33, go_sem, r0, r1, r2, r3, r4, r5, r6, r7]) rfl ⟨rfl, ?_⟩
          repeat (first | (with_reducible exact hG) | (with_reducible refine Below.drew ?_) | (with_reducible refine Below.setCell ?_ (by simp; omega) _))
        · rw [if_neg hgt] at hr
          subst hr
          rw [if_pos rfl] at hro
          subst hro
          generalize v.get (k : Int) = z at *
          have hdz : decide (z + 1 < s) = false := by simpa using hgt
          go_wp2_with fail
          go_region_held3 (fun w' => KQ w3.heap.size w3 w') (first
      | with_reducible exact kq_call (by assumption) (by simp) (by assumption)
      | with_reducible exact kq_grown (by assumption) (by simp) (by assumption) (by simp [Value.ownBlock])
      | ((with_reducible refine kq ?_); (repeat (first | (with_reducible exact Below.refl _ _) | (with_reducible refine Below.drew ?_) | (with_reducible refine Below.alloc ?_ (by simp) _) | (with_reducible refine Below.setCell ?_ (by simp) _) | (with_reducible exact (by assumption : KQ _ _ _).1))); done)) (first | (go_at_call 0; skip))
          go_upto_region 12 with (fail)
          obtain ⟨W4, hW4⟩ : ∃ W4, (w3.setCell ⟨w.heap.size, k, none⟩ (.int .u32 s)).drew = W4 := ⟨_, rfl⟩
          have hbV4 : W4.heap[w.heap.size]? = some (.cells #[.int .u32 (v.set k s).d0, .int .u32 (v.set k s).d1, .int .u32 (v.set k s).d2, .int .u32 (v.set k s).d3, .int .u32 (v.set k s).d4, .int .u32 (v.set k s).d5, .int .u32 (v.set k s).d6, .int .u32 (v.set k s).d7] 24 (0, 0)) := by rw [← hW4]; exact heap_drew (by rw [blk_set hbVH.out, hsetH.out])
          have hbR4 : W4.heap[w.heap.size + 1 + 1]? = some (.cells #[.int .u32 0, .int .u32 0, .int .u32 0, .int .u32 0, .int .u32 0, .int .u32 0, .int .u32 0, .int .u32 0] 24 (0, 0)) := by rw [← hW4]; exact heap_drew ((Below.heap_setCell w3 _ _ _ (by simp; omega)).trans hbRH.out)
          have hG4 : Below w.heap.size w W4 := by rw [← hW4]; exact (hG.setCell (by simp) _).drew
          have hlt4 : w.heap.size + 1 + 1 < W4.heap.size := blk_lt hbR4
          rw [hW4]
          clear hW4 hfV hfR hv0 hv1 hv2 hv3 hv4 hv5 hv6 hv7 hi0 hi1 r0 r1 r2 r3 r4 r5 r6 r7 hcv hG hq0
          have hv0 := blk_cell hbV4 0
          have hv1 := blk_cell hbV4 1
          have hv2 := blk_cell hbV4 2
          have hv3 := blk_cell hbV4 3
          have hv4 := blk_cell hbV4 4
          have hv5 := blk_cell hbV4 5
          have hv6 := blk_cell hbV4 6
          have hv7 := blk_cell hbV4 7
          have r0 := blk_cell hbR4 0
          have r1 := blk_cell hbR4 1
          have r2 := blk_cell hbR4 2
          have r3 := blk_cell hbR4 3
          have r4 := blk_cell hbR4 4
          have r5 := blk_cell hbR4 5
          have r6 := blk_cell hbR4 6
          have r7 := blk_cell hbR4 7
          have hfR := blk_frozen hbR4
          simp at r0 r1 r2 r3 r4 r5 r6 r7 hv0 hv1 hv2 hv3 hv4 hv5 hv6 hv7
          clear hbV4 hbR4
          go_wp2
          refine bodyPost_ret (v := .tuple #[.agg #[.int .u32 (v.set k s).d0, .int .u32 (v.set k s).d1, .int .u32 (v.set k s).d2, .int .u32 (v.set k s).d3, .int .u32 (v.set k s).d4, .int .u32 (v.set k s).d5, .int .u32 (v.set k s).d6, .int .u32 (v.set k s).d7], .int .i64 0]) (by simp [results, Try.results33, go_sem, r0, r1, r2, r3, r4, r5, r6, r7]) rfl ⟨rfl, ?_⟩
          repeat (first | (with_reducible exact hG4) | (with_reducible refine Below.drew ?_) | (with_reducible refine Below.setCell ?_ (by simp; omega) _))
end Go.Proofs.Ytpfohpfgfdeecaa
