/- Is a name within a vector? (both). -/
import Derived.Test.YtpolplmniaoikaaGreatDoorN05
import Derived.Deep.RegionWith
namespace Go.Proofs.YtpolplmniaoikaaGreatDoor
open Go.RowKit

set_option maxRecDepth 100000 in
set_option maxHeartbeats 1000000 in
theorem vhas_any (v : Vm) (x : Im) (hx : x.wf) (w : World) :
    Calls Tryz.prog 71 #[.agg #[.int .u32 v.d0, .int .u32 v.d1, .int .u32 v.d2, .int .u32 v.d3, .int .u32 v.d4, .int .u32 v.d5, .int .u32 v.d6, .int .u32 v.d7], .agg #[.int .i64 x.1, .int .u32 x.2]] w fun e w' => e = .returned (.bool (hasV v x)) ∧ Below w.heap.size w w' := by
  generalize hr : hasV v x = r
  have hch := chk_any x hx
  unfold hasV at hr
  cases hc : chk x
  · rw [hc] at hr hch
    rw [show errI false = 2 from rfl] at hch
    simp only [Bool.false_and] at hr
    subst hr
    have hch := Lib.hid hch
    clear hc
    obtain ⟨o, s⟩ := x
    go_enter Tryz.func71, Tryz.ntmps71
    go_wp2
    refine wp_region_M (fun w' => KQ (w.heap.size + 2) ((w.alloc (.cells #[.int .u32 v.d0, .int .u32 v.d1, .int .u32 v.d2, .int .u32 v.d3, .int .u32 v.d4, .int .u32 v.d5, .int .u32 v.d6, .int .u32 v.d7] 26)).alloc (.cells #[.int .i64 o, .int .u32 s] 24)) w') (fun _ => True) 1 (by kernel_rfl) (kq (Below.refl _ _).drew) trivial ?_
    intro hcl
    have hC : KQ (w.heap.size + 2) ((w.alloc (.cells #[.int .u32 v.d0, .int .u32 v.d1, .int .u32 v.d2, .int .u32 v.d3, .int .u32 v.d4, .int .u32 v.d5, .int .u32 v.d6, .int .u32 v.d7] 26)).alloc (.cells #[.int .i64 o, .int .u32 s] 24)) ((w.alloc (.cells #[.int .u32 v.d0, .int .u32 v.d1, .int .u32 v.d2, .int .u32 v.d3, .int .u32 v.d4, .int .u32 v.d5, .int .u32 v.d6, .int .u32 v.d7] 26)).alloc (.cells #[.int .i64 o, .int .u32 s] 24)).drew := kq (Below.refl _ _).drew
    have hE : True := trivial
    (refine wpM_take0 (i := 0) (v := ?_) rfl rfl (by kernel_rfl) (by kernel_rfl) (by kernel_rfl) (by kernel_rfl) (by decide) (fun _ _ _ h => h) hcl hC (fun _ => hE) (Or.inl ⟨by rfl, ?_⟩) ?_; rotate_left; (· (intro w hSw; (try dsimp only at hSw); go_simp; (try with_reducible rfl))); clear hcl; intro hcl; (try simp only [Act.put, List.getElem_toArray, List.getElem_cons_zero, List.setIfInBounds_toArray, List.set_cons_zero, List.set_cons_succ]))
    refine wpM_last (i := 1) rfl (by kernel_rfl) hcl (by kernel_rfl) (fun K hK => ?_)
    go_simp
    refine (hch.out _).mono ?_
    rintro e w1 ⟨rfl, hb1⟩
    have hC1 : KQ (w.heap.size + 2) ((w.alloc (.cells #[.int .u32 v.d0, .int .u32 v.d1, .int .u32 v.d2, .int .u32 v.d3, .int .u32 v.d4, .int .u32 v.d5, .int .u32 v.d6, .int .u32 v.d7] 26)).alloc (.cells #[.int .i64 o, .int .u32 s] 24)) w1 := kq_call hC (by simp) hb1
    refine hK.out _ _ hC1 ?_
    clear hK K hC hE hcl
    intro hcl
    have hC := hC1
    (try simp only [Act.put, List.setIfInBounds_toArray, List.set_cons_zero, List.set_cons_succ])
    (refine wpM_takeX (i := 2) (v := ?_) rfl (by kernel_rfl) (by kernel_rfl) (by kernel_rfl) (by decide) (fun _ _ _ h => h) hcl hC (by kernel_rfl) (Or.inl ⟨by rfl, ?_⟩) ?_; rotate_left; (· (intro w hSw; (try dsimp only at hSw); go_simp; (try with_reducible rfl))); clear hcl; intro hcl; (try simp only [Act.put, List.getElem_toArray, List.getElem_cons_zero, List.getElem_cons_succ, List.setIfInBounds_toArray, List.set_cons_zero, List.set_cons_succ]))
    (refine wpM_takeX (i := 3) (v := ?_) rfl (by kernel_rfl) (by kernel_rfl) (by kernel_rfl) (by decide) (fun _ _ _ h => h) hcl hC (by kernel_rfl) (Or.inl ⟨by rfl, ?_⟩) ?_; rotate_left; (· (intro w hSw; (try dsimp only at hSw); go_simp; (try with_reducible rfl))); clear hcl; intro hcl; (try simp only [Act.put, List.getElem_toArray, List.getElem_cons_zero, List.getElem_cons_succ, List.setIfInBounds_toArray, List.set_cons_zero, List.set_cons_succ]))
    (refine wpM_takeX (i := 4) (v := undef) rfl (by kernel_rfl) (by kernel_rfl) (by kernel_rfl) (by decide) (fun _ _ _ h => h) hcl hC (by kernel_rfl) (Or.inr ⟨by rfl, rfl⟩) ?_; clear hcl; intro hcl; (try simp only [Act.put, List.getElem_toArray, List.getElem_cons_zero, List.getElem_cons_succ, List.setIfInBounds_toArray, List.set_cons_zero, List.set_cons_succ]))
    (refine wpM_takeX (i := 5) (v := undef) rfl (by kernel_rfl) (by kernel_rfl) (by kernel_rfl) (by decide) (fun _ _ _ h => h) hcl hC (by kernel_rfl) (Or.inr ⟨by rfl, rfl⟩) ?_; clear hcl; intro hcl; (try simp only [Act.put, List.getElem_toArray, List.getElem_cons_zero, List.getElem_cons_succ, List.setIfInBounds_toArray, List.set_cons_zero, List.set_cons_succ]))
    (refine wpM_takeX (i := 6) (v := undef) rfl (by kernel_rfl) (by kernel_rfl) (by kernel_rfl) (by decide) (fun _ _ _ h => h) hcl hC (by kernel_rfl) (Or.inr ⟨by rfl, rfl⟩) ?_; clear hcl; intro hcl; (try simp only [Act.put, List.getElem_toArray, List.getElem_cons_zero, List.getElem_cons_succ, List.setIfInBounds_toArray, List.set_cons_zero, List.set_cons_succ]))
    (refine wpM_takeX (i := 7) (v := undef) rfl (by kernel_rfl) (by kernel_rfl) (by kernel_rfl) (by decide) (fun _ _ _ h => h) hcl hC (by kernel_rfl) (Or.inr ⟨by rfl, rfl⟩) ?_; clear hcl; intro hcl; (try simp only [Act.put, List.getElem_toArray, List.getElem_cons_zero, List.getElem_cons_succ, List.setIfInBounds_toArray, List.set_cons_zero, List.set_cons_succ]))
    (refine wpM_takeX (i := 8) (v := undef) rfl (by kernel_rfl) (by kernel_rfl) (by kernel_rfl) (by decide) (fun _ _ _ h => h) hcl hC (by kernel_rfl) (Or.inr ⟨by rfl, rfl⟩) ?_; clear hcl; intro hcl; (try simp only [Act.put, List.getElem_toArray, List.getElem_cons_zero, List.getElem_cons_succ, List.setIfInBounds_toArray, List.set_cons_zero, List.set_cons_succ]))
    (refine wpM_takeX (i := 9) (v := undef) rfl (by kernel_rfl) (by kernel_rfl) (by kernel_rfl) (by decide) (fun _ _ _ h => h) hcl hC (by kernel_rfl) (Or.inr ⟨by rfl, rfl⟩) ?_; clear hcl; intro hcl; (try simp only [Act.put, List.getElem_toArray, List.getElem_cons_zero, List.getElem_cons_succ, List.setIfInBounds_toArray, List.set_cons_zero, List.set_cons_succ]))
    (refine wpM_takeX (i := 10) (v := undef) rfl (by kernel_rfl) (by kernel_rfl) (by kernel_rfl) (by decide) (fun _ _ _ h => h) hcl hC (by kernel_rfl) (Or.inr ⟨by rfl, rfl⟩) ?_; clear hcl; intro hcl; (try simp only [Act.put, List.getElem_toArray, List.getElem_cons_zero, List.getElem_cons_succ, List.setIfInBounds_toArray, List.set_cons_zero, List.set_cons_succ]))
    (refine wpM_takeX (i := 11) (v := ?_) rfl (by kernel_rfl) (by kernel_rfl) (by kernel_rfl) (by decide) (fun _ _ _ h => h) hcl hC (by kernel_rfl) (Or.inl ⟨by rfl, ?_⟩) ?_; rotate_left; (· (intro w hSw; (try dsimp only at hSw); go_simp; (try with_reducible rfl))); clear hcl; intro hcl; (try simp only [Act.put, List.getElem_toArray, List.getElem_cons_zero, List.getElem_cons_succ, List.setIfInBounds_toArray, List.set_cons_zero, List.set_cons_succ]))
    (refine wpM_takeX (i := 12) (v := ?_) rfl (by kernel_rfl) (by kernel_rfl) (by kernel_rfl) (by decide) (fun _ _ _ h => h) hcl hC (by kernel_rfl) (Or.inl ⟨by rfl, ?_⟩) ?_; rotate_left; (· (intro w hSw; (try dsimp only at hSw); go_simp; (try with_reducible rfl))); clear hcl; intro hcl; (try simp only [Act.put, List.getElem_toArray, List.getElem_cons_zero, List.getElem_cons_succ, List.setIfInBounds_toArray, List.set_cons_zero, List.set_cons_succ]))
    refine wpM_done (by kernel_rfl) ?_
    clear hcl
    try simp only [List.getElem_toArray, List.getElem_cons_zero, List.getElem_cons_succ, List.setIfInBounds_toArray, List.set_cons_zero, List.set_cons_succ]
    go_wp2
    go_ret
    exact ⟨rfl, (((Below.refl _ w).alloc (Nat.le_refl _) _).alloc (by simp) _).trans (hC1.1.mono (by omega))⟩
  · rw [hc] at hr hch
    rw [show errI true = 0 from rfl] at hch
    simp only [Bool.true_and] at hr
    have hch := Lib.hid hch
    obtain ⟨o, s⟩ := x
    simp only [chk, decide_eq_true_eq] at hc
    obtain ⟨h1, h2, h3, h4⟩ := hc
    obtain ⟨k, rfl⟩ : ∃ k : Nat, o = (k : Int) := ⟨o.toNat, by omega⟩
    have hk0 : (0 : Int) ≤ (k : Int) := by omega
    have hk8 : (k : Int) < 8 := by omega
    have hk9 : (k : Int) ≤ 7 := by omega
    obtain ⟨W, hW⟩ : ∃ W, ((w.alloc (.cells #[.int .u32 v.d0, .int .u32 v.d1, .int .u32 v.d2, .int .u32 v.d3, .int .u32 v.d4, .int .u32 v.d5, .int .u32 v.d6, .int .u32 v.d7] 26)).alloc (.cells #[.int .i64 (k : Int), .int .u32 s] 24)) = W := ⟨_, rfl⟩
    have hsz : W.heap.size = w.heap.size + 2 := by rw [← hW]; simp
    have hbw : Below w.heap.size w W := by rw [← hW]; exact ((Below.refl _ w).alloc (Nat.le_refl _) _).alloc (by simp) _
    have hbv : W.heap[w.heap.size]? = some (.cells #[.int .u32 v.d0, .int .u32 v.d1, .int .u32 v.d2, .int .u32 v.d3, .int .u32 v.d4, .int .u32 v.d5, .int .u32 v.d6, .int .u32 v.d7] 26 (0, 0)) := by rw [← hW]; exact heap_old _ (by simp) (heap_at _ _ rfl)
    have hbi : W.heap[w.heap.size + 1]? = some (.cells #[.int .i64 (k : Int), .int .u32 s] 24 (0, 0)) := by rw [← hW]; exact heap_at _ _ (by simp)
    have hcv : W.cell? ⟨w.heap.size, k, none⟩ = some (.int .u32 (v.get k)) := by
      rw [blk_cell hbv]
      obtain rfl | rfl | rfl | rfl | rfl | rfl | rfl | rfl : k = 0 ∨ k = 1 ∨ k = 2 ∨ k = 3 ∨ k = 4 ∨ k = 5 ∨ k = 6 ∨ k = 7 := by omega
      all_goals simp [Vm.get]
    have hi0 := blk_cell hbi 0
    have hi1 := blk_cell hbi 1
    simp at hi0 hi1
    have hlt0 : w.heap.size < W.heap.size := by omega
    have hlt1 : w.heap.size + 1 < W.heap.size := by omega
    have hq0 : KQ W.heap.size W W := kq (Below.refl _ _)
    have hrH := Lib.hid hr
    have hszH := Lib.hid hsz
    clear hbv hbi hr hx h1 h2 h3 h4 hsz
    have hfin : ∀ w1, Below W.heap.size W w1 → Below w.heap.size w w1 := fun w1 h => hbw.trans (h.mono (by omega))
    have hfin := Lib.hid hfin
    by_cases hle : s ≤ v.get k
    · have hT : Hid (true = r) := Lib.hid (by rw [← hrH.out]; symm; apply decide_eq_true; exact hle)
      generalize v.get k = z at hcv hle
      go_enter Tryz.func71, Tryz.ntmps71
      go_wp2
      try rw [hW]
      clear hW
      go_region_held3 (fun w' => KQ W.heap.size W w') (first
      | with_reducible exact kq_call (by assumption) (by simp) (by assumption)
      | with_reducible exact kq_grown (by assumption) (by simp) (by assumption) (by simp [Value.ownBlock])
      | ((with_reducible refine kq ?_); (repeat (first | (with_reducible exact Below.refl _ _) | (with_reducible refine Below.drew ?_) | (with_reducible refine Below.alloc ?_ (by simp) _) | (with_reducible refine Below.setCell ?_ (by simp) _) | (with_reducible exact (by assumption : KQ _ _ _).1))); done))
        (first | (go_at_call 61; refine (hch.out _).mono ?_; rintro e w1 ⟨rfl, hb1⟩))
      have hF : KQ W.heap.size W w1 := by with_reducible assumption
      go_wp2
      go_ret
      exact ⟨ret_bool hT.out, hfin.out _ hF.1⟩
    · have hT : Hid (false = r) := Lib.hid (by rw [← hrH.out]; symm; apply decide_eq_false; exact hle)
      generalize v.get k = z at hcv hle
      have hdz : decide (s ≤ z) = false := by simpa using hle
      go_enter Tryz.func71, Tryz.ntmps71
      go_wp2
      try rw [hW]
      clear hW
      go_region_held3 (fun w' => KQ W.heap.size W w') (first
      | with_reducible exact kq_call (by assumption) (by simp) (by assumption)
      | with_reducible exact kq_grown (by assumption) (by simp) (by assumption) (by simp [Value.ownBlock])
      | ((with_reducible refine kq ?_); (repeat (first | (with_reducible exact Below.refl _ _) | (with_reducible refine Below.drew ?_) | (with_reducible refine Below.alloc ?_ (by simp) _) | (with_reducible refine Below.setCell ?_ (by simp) _) | (with_reducible exact (by assumption : KQ _ _ _).1))); done))
        (first | (go_at_call 61; refine (hch.out _).mono ?_; rintro e w1 ⟨rfl, hb1⟩))
      have hF : KQ W.heap.size W w1 := by with_reducible assumption
      go_wp2
      go_ret
      exact ⟨ret_bool hT.out, hfin.out _ hF.1⟩
set_option maxRecDepth 100000 in
set_option maxHeartbeats 1000000 in
theorem rvhas_any (v : Vm) (x : Im) (hx : x.wf) (w : World) :
    Calls Tryz.prog 72 #[.agg #[.int .u32 v.d0, .int .u32 v.d1, .int .u32 v.d2, .int .u32 v.d3, .int .u32 v.d4, .int .u32 v.d5, .int .u32 v.d6, .int .u32 v.d7], .agg #[.int .i64 x.1, .int .u32 x.2]] w fun e w' => e = .returned (.bool (hasV v x)) ∧ Below w.heap.size w w' := by
  generalize hr : hasV v x = r
  have hch := rchk_any x hx
  unfold hasV at hr
  cases hc : chk x
  · rw [hc] at hr hch
    rw [show errI false = 2 from rfl] at hch
    simp only [Bool.false_and] at hr
    subst hr
    have hch := Lib.hid hch
    clear hc
    obtain ⟨o, s⟩ := x
    go_enter Tryz.func72, Tryz.ntmps72
    go_wp2
    refine wp_region_M (fun w' => KQ (w.heap.size + 2) ((w.alloc (.cells #[.int .u32 v.d0, .int .u32 v.d1, .int .u32 v.d2, .int .u32 v.d3, .int .u32 v.d4, .int .u32 v.d5, .int .u32 v.d6, .int .u32 v.d7] 26)).alloc (.cells #[.int .i64 o, .int .u32 s] 24)) w') (fun _ => True) 1 (by kernel_rfl) (kq (Below.refl _ _).drew) trivial ?_
    intro hcl
    have hC : KQ (w.heap.size + 2) ((w.alloc (.cells #[.int .u32 v.d0, .int .u32 v.d1, .int .u32 v.d2, .int .u32 v.d3, .int .u32 v.d4, .int .u32 v.d5, .int .u32 v.d6, .int .u32 v.d7] 26)).alloc (.cells #[.int .i64 o, .int .u32 s] 24)) ((w.alloc (.cells #[.int .u32 v.d0, .int .u32 v.d1, .int .u32 v.d2, .int .u32 v.d3, .int .u32 v.d4, .int .u32 v.d5, .int .u32 v.d6, .int .u32 v.d7] 26)).alloc (.cells #[.int .i64 o, .int .u32 s] 24)).drew := kq (Below.refl _ _).drew
    have hE : True := trivial
    (refine wpM_take0 (i := 0) (v := ?_) rfl rfl (by kernel_rfl) (by kernel_rfl) (by kernel_rfl) (by kernel_rfl) (by decide) (fun _ _ _ h => h) hcl hC (fun _ => hE) (Or.inl ⟨by rfl, ?_⟩) ?_; rotate_left; (· (intro w hSw; (try dsimp only at hSw); go_simp; (try with_reducible rfl))); clear hcl; intro hcl; (try simp only [Act.put, List.getElem_toArray, List.getElem_cons_zero, List.setIfInBounds_toArray, List.set_cons_zero, List.set_cons_succ]))
    refine wpM_last (i := 1) rfl (by kernel_rfl) hcl (by kernel_rfl) (fun K hK => ?_)
    go_simp
    refine (hch.out _).mono ?_
    rintro e w1 ⟨rfl, hb1⟩
    have hC1 : KQ (w.heap.size + 2) ((w.alloc (.cells #[.int .u32 v.d0, .int .u32 v.d1, .int .u32 v.d2, .int .u32 v.d3, .int .u32 v.d4, .int .u32 v.d5, .int .u32 v.d6, .int .u32 v.d7] 26)).alloc (.cells #[.int .i64 o, .int .u32 s] 24)) w1 := kq_call hC (by simp) hb1
    refine hK.out _ _ hC1 ?_
    clear hK K hC hE hcl
    intro hcl
    have hC := hC1
    (try simp only [Act.put, List.setIfInBounds_toArray, List.set_cons_zero, List.set_cons_succ])
    (refine wpM_takeX (i := 2) (v := ?_) rfl (by kernel_rfl) (by kernel_rfl) (by kernel_rfl) (by decide) (fun _ _ _ h => h) hcl hC (by kernel_rfl) (Or.inl ⟨by rfl, ?_⟩) ?_; rotate_left; (· (intro w hSw; (try dsimp only at hSw); go_simp; (try with_reducible rfl))); clear hcl; intro hcl; (try simp only [Act.put, List.getElem_toArray, List.getElem_cons_zero, List.getElem_cons_succ, List.setIfInBounds_toArray, List.set_cons_zero, List.set_cons_succ]))
    (refine wpM_takeX (i := 3) (v := ?_) rfl (by kernel_rfl) (by kernel_rfl) (by kernel_rfl) (by decide) (fun _ _ _ h => h) hcl hC (by kernel_rfl) (Or.inl ⟨by rfl, ?_⟩) ?_; rotate_left; (· (intro w hSw; (try dsimp only at hSw); go_simp; (try with_reducible rfl))); clear hcl; intro hcl; (try simp only [Act.put, List.getElem_toArray, List.getElem_cons_zero, List.getElem_cons_succ, List.setIfInBounds_toArray, List.set_cons_zero, List.set_cons_succ]))
    (refine wpM_takeX (i := 4) (v := undef) rfl (by kernel_rfl) (by kernel_rfl) (by kernel_rfl) (by decide) (fun _ _ _ h => h) hcl hC (by kernel_rfl) (Or.inr ⟨by rfl, rfl⟩) ?_; clear hcl; intro hcl; (try simp only [Act.put, List.getElem_toArray, List.getElem_cons_zero, List.getElem_cons_succ, List.setIfInBounds_toArray, List.set_cons_zero, List.set_cons_succ]))
    (refine wpM_takeX (i := 5) (v := undef) rfl (by kernel_rfl) (by kernel_rfl) (by kernel_rfl) (by decide) (fun _ _ _ h => h) hcl hC (by kernel_rfl) (Or.inr ⟨by rfl, rfl⟩) ?_; clear hcl; intro hcl; (try simp only [Act.put, List.getElem_toArray, List.getElem_cons_zero, List.getElem_cons_succ, List.setIfInBounds_toArray, List.set_cons_zero, List.set_cons_succ]))
    (refine wpM_takeX (i := 6) (v := undef) rfl (by kernel_rfl) (by kernel_rfl) (by kernel_rfl) (by decide) (fun _ _ _ h => h) hcl hC (by kernel_rfl) (Or.inr ⟨by rfl, rfl⟩) ?_; clear hcl; intro hcl; (try simp only [Act.put, List.getElem_toArray, List.getElem_cons_zero, List.getElem_cons_succ, List.setIfInBounds_toArray, List.set_cons_zero, List.set_cons_succ]))
    (refine wpM_takeX (i := 7) (v := undef) rfl (by kernel_rfl) (by kernel_rfl) (by kernel_rfl) (by decide) (fun _ _ _ h => h) hcl hC (by kernel_rfl) (Or.inr ⟨by rfl, rfl⟩) ?_; clear hcl; intro hcl; (try simp only [Act.put, List.getElem_toArray, List.getElem_cons_zero, List.getElem_cons_succ, List.setIfInBounds_toArray, List.set_cons_zero, List.set_cons_succ]))
    (refine wpM_takeX (i := 8) (v := undef) rfl (by kernel_rfl) (by kernel_rfl) (by kernel_rfl) (by decide) (fun _ _ _ h => h) hcl hC (by kernel_rfl) (Or.inr ⟨by rfl, rfl⟩) ?_; clear hcl; intro hcl; (try simp only [Act.put, List.getElem_toArray, List.getElem_cons_zero, List.getElem_cons_succ, List.setIfInBounds_toArray, List.set_cons_zero, List.set_cons_succ]))
    (refine wpM_takeX (i := 9) (v := undef) rfl (by kernel_rfl) (by kernel_rfl) (by kernel_rfl) (by decide) (fun _ _ _ h => h) hcl hC (by kernel_rfl) (Or.inr ⟨by rfl, rfl⟩) ?_; clear hcl; intro hcl; (try simp only [Act.put, List.getElem_toArray, List.getElem_cons_zero, List.getElem_cons_succ, List.setIfInBounds_toArray, List.set_cons_zero, List.set_cons_succ]))
    (refine wpM_takeX (i := 10) (v := undef) rfl (by kernel_rfl) (by kernel_rfl) (by kernel_rfl) (by decide) (fun _ _ _ h => h) hcl hC (by kernel_rfl) (Or.inr ⟨by rfl, rfl⟩) ?_; clear hcl; intro hcl; (try simp only [Act.put, List.getElem_toArray, List.getElem_cons_zero, List.getElem_cons_succ, List.setIfInBounds_toArray, List.set_cons_zero, List.set_cons_succ]))
    (refine wpM_takeX (i := 11) (v := ?_) rfl (by kernel_rfl) (by kernel_rfl) (by kernel_rfl) (by decide) (fun _ _ _ h => h) hcl hC (by kernel_rfl) (Or.inl ⟨by rfl, ?_⟩) ?_; rotate_left; (· (intro w hSw; (try dsimp only at hSw); go_simp; (try with_reducible rfl))); clear hcl; intro hcl; (try simp only [Act.put, List.getElem_toArray, List.getElem_cons_zero, List.getElem_cons_succ, List.setIfInBounds_toArray, List.set_cons_zero, List.set_cons_succ]))
    (refine wpM_takeX (i := 12) (v := ?_) rfl (by kernel_rfl) (by kernel_rfl) (by kernel_rfl) (by decide) (fun _ _ _ h => h) hcl hC (by kernel_rfl) (Or.inl ⟨by rfl, ?_⟩) ?_; rotate_left; (· (intro w hSw; (try dsimp only at hSw); go_simp; (try with_reducible rfl))); clear hcl; intro hcl; (try simp only [Act.put, List.getElem_toArray, List.getElem_cons_zero, List.getElem_cons_succ, List.setIfInBounds_toArray, List.set_cons_zero, List.set_cons_succ]))
    refine wpM_done (by kernel_rfl) ?_
    clear hcl
    try simp only [List.getElem_toArray, List.getElem_cons_zero, List.getElem_cons_succ, List.setIfInBounds_toArray, List.set_cons_zero, List.set_cons_succ]
    go_wp2
    go_ret
    exact ⟨rfl, (((Below.refl _ w).alloc (Nat.le_refl _) _).alloc (by simp) _).trans (hC1.1.mono (by omega))⟩
  · rw [hc] at hr hch
    rw [show errI true = 0 from rfl] at hch
    simp only [Bool.true_and] at hr
    have hch := Lib.hid hch
    obtain ⟨o, s⟩ := x
    simp only [chk, decide_eq_true_eq] at hc
    obtain ⟨h1, h2, h3, h4⟩ := hc
    obtain ⟨k, rfl⟩ : ∃ k : Nat, o = (k : Int) := ⟨o.toNat, by omega⟩
    have hk0 : (0 : Int) ≤ (k : Int) := by omega
    have hk8 : (k : Int) < 8 := by omega
    have hk9 : (k : Int) ≤ 7 := by omega
    obtain ⟨W, hW⟩ : ∃ W, ((w.alloc (.cells #[.int .u32 v.d0, .int .u32 v.d1, .int .u32 v.d2, .int .u32 v.d3, .int .u32 v.d4, .int .u32 v.d5, .int .u32 v.d6, .int .u32 v.d7] 26)).alloc (.cells #[.int .i64 (k : Int), .int .u32 s] 24)) = W := ⟨_, rfl⟩
    have hsz : W.heap.size = w.heap.size + 2 := by rw [← hW]; simp
    have hbw : Below w.heap.size w W := by rw [← hW]; exact ((Below.refl _ w).alloc (Nat.le_refl _) _).alloc (by simp) _
    have hbv : W.heap[w.heap.size]? = some (.cells #[.int .u32 v.d0, .int .u32 v.d1, .int .u32 v.d2, .int .u32 v.d3, .int .u32 v.d4, .int .u32 v.d5, .int .u32 v.d6, .int .u32 v.d7] 26 (0, 0)) := by rw [← hW]; exact heap_old _ (by simp) (heap_at _ _ rfl)
    have hbi : W.heap[w.heap.size + 1]? = some (.cells #[.int .i64 (k : Int), .int .u32 s] 24 (0, 0)) := by rw [← hW]; exact heap_at _ _ (by simp)
    have hcv : W.cell? ⟨w.heap.size, k, none⟩ = some (.int .u32 (v.get k)) := by
      rw [blk_cell hbv]
      obtain rfl | rfl | rfl | rfl | rfl | rfl | rfl | rfl : k = 0 ∨ k = 1 ∨ k = 2 ∨ k = 3 ∨ k = 4 ∨ k = 5 ∨ k = 6 ∨ k = 7 := by omega
      all_goals simp [Vm.get]
    have hi0 := blk_cell hbi 0
    have hi1 := blk_cell hbi 1
    simp at hi0 hi1
    have hlt0 : w.heap.size < W.heap.size := by omega
    have hlt1 : w.heap.size + 1 < W.heap.size := by omega
    have hq0 : KQ W.heap.size W W := kq (Below.refl _ _)
    have hrH := Lib.hid hr
    have hszH := Lib.hid hsz
    clear hbv hbi hr hx h1 h2 h3 h4 hsz
    have hfin : ∀ w1, Below W.heap.size W w1 → Below w.heap.size w w1 := fun w1 h => hbw.trans (h.mono (by omega))
    have hfin := Lib.hid hfin
    by_cases hle : s ≤ v.get k
    · have hT : Hid (true = r) := Lib.hid (by rw [← hrH.out]; symm; apply decide_eq_true; exact hle)
      generalize v.get k = z at hcv hle
      go_enter Tryz.func72, Tryz.ntmps72
      go_wp2
      try rw [hW]
      clear hW
      go_region_held3 (fun w' => KQ W.heap.size W w') (first
      | with_reducible exact kq_call (by assumption) (by simp) (by assumption)
      | with_reducible exact kq_grown (by assumption) (by simp) (by assumption) (by simp [Value.ownBlock])
      | ((with_reducible refine kq ?_); (repeat (first | (with_reducible exact Below.refl _ _) | (with_reducible refine Below.drew ?_) | (with_reducible refine Below.alloc ?_ (by simp) _) | (with_reducible refine Below.setCell ?_ (by simp) _) | (with_reducible exact (by assumption : KQ _ _ _).1))); done))
        (first | (go_at_call 64; refine (hch.out _).mono ?_; rintro e w1 ⟨rfl, hb1⟩))
      have hF : KQ W.heap.size W w1 := by with_reducible assumption
      go_wp2
      go_ret
      exact ⟨ret_bool hT.out, hfin.out _ hF.1⟩
    · have hT : Hid (false = r) := Lib.hid (by rw [← hrH.out]; symm; apply decide_eq_false; exact hle)
      generalize v.get k = z at hcv hle
      have hdz : decide (s ≤ z) = false := by simpa using hle
      go_enter Tryz.func72, Tryz.ntmps72
      go_wp2
      try rw [hW]
      clear hW
      go_region_held3 (fun w' => KQ W.heap.size W w') (first
      | with_reducible exact kq_call (by assumption) (by simp) (by assumption)
      | with_reducible exact kq_grown (by assumption) (by simp) (by assumption) (by simp [Value.ownBlock])
      | ((with_reducible refine kq ?_); (repeat (first | (with_reducible exact Below.refl _ _) | (with_reducible refine Below.drew ?_) | (with_reducible refine Below.alloc ?_ (by simp) _) | (with_reducible refine Below.setCell ?_ (by simp) _) | (with_reducible exact (by assumption : KQ _ _ _).1))); done))
        (first | (go_at_call 64; refine (hch.out _).mono ?_; rintro e w1 ⟨rfl, hb1⟩))
      have hF : KQ W.heap.size W w1 := by with_reducible assumption
      go_wp2
      go_ret
      exact ⟨ret_bool hT.out, hfin.out _ hF.1⟩
end Go.Proofs.YtpolplmniaoikaaGreatDoor
