/- Is a name within a vector? (both); in a list; what is wrong with two sets. -/
import Derived.Test.YthfjbbijcemmoaaDtE
import Derived.Deep.RegionWith
namespace Go.Proofs.Ythfjbbijcemmoaa
open Go.RowKit


set_option maxRecDepth 100000 in
set_option maxHeartbeats 2000000 in
theorem vhas_any (v : Vm) (x : Im) (hx : x.wf) (w : World) :
    Calls Try.prog 32 #[.agg #[.int .u32 v.d0, .int .u32 v.d1, .int .u32 v.d2, .int .u32 v.d3, .int .u32 v.d4, .int .u32 v.d5, .int .u32 v.d6, .int .u32 v.d7], .agg #[.int .i64 x.1, .int .u32 x.2]] w fun e w' => e = .returned (.bool (hasV v x)) ∧ Below w.heap.size w w' := by
  generalize hr : hasV v x = r
  have hch := chk_any x hx
  unfold hasV at hr
  cases hc : chk x
  · rw [hc] at hr hch
    rw [show errI false = 2 from rfl] at hch
    simp only [Bool.false_and] at hr
    subst hr
    have hch := Lib.hid hch
    clear hc
    obtain ⟨o, s⟩ := x
    go_enter Try.func32, Try.ntmps32
    go_wp2
    refine wp_region_M (fun w' => KQ (w.heap.size + 2) ((w.alloc (.cells #[.int .u32 v.d0, .int .u32 v.d1, .int .u32 v.d2, .int .u32 v.d3, .int .u32 v.d4, .int .u32 v.d5, .int .u32 v.d6, .int .u32 v.d7] 25)).alloc (.cells #[.int .i64 o, .int .u32 s] 35)) w') (fun _ => True) 1 (by kernel_rfl) (kq (Below.refl _ _).drew) trivial ?_
    intro hcl
    have hC : KQ (w.heap.size + 2) ((w.alloc (.cells #[.int .u32 v.d0, .int .u32 v.d1, .int .u32 v.d2, .int .u32 v.d3, .int .u32 v.d4, .int .u32 v.d5, .int .u32 v.d6, .int .u32 v.d7] 25)).alloc (.cells #[.int .i64 o, .int .u32 s] 35)) ((w.alloc (.cells #[.int .u32 v.d0, .int .u32 v.d1, .int .u32 v.d2, .int .u32 v.d3, .int .u32 v.d4, .int .u32 v.d5, .int .u32 v.d6, .int .u32 v.d7] 25)).alloc (.cells #[.int .i64 o, .int .u32 s] 35)).drew := kq (Below.refl _ _).drew
    have hE : True := trivial
    (refine wpM_take0 (i := 0) (v := ?_) rfl rfl (by kernel_rfl) (by kernel_rfl) (by kernel_rfl) (by kernel_rfl) (by decide) (fun _ _ _ h => h) hcl hC (fun _ => hE) (Or.inl ⟨by rfl, ?_⟩) ?_; rotate_left; (· (intro w hSw; (try dsimp only at hSw); go_simp; (try with_reducible rfl))); clear hcl; intro hcl; (try simp only [Act.put, List.getElem_toArray, List.getElem_cons_zero, List.getElem_cons_succ, List.setIfInBounds_toArray, List.set_cons_zero, List.set_cons_succ]))
    refine wpM_last (i := 1) rfl (by kernel_rfl) hcl (by kernel_rfl) (fun K hK => ?_)
    go_simp
    refine (hch.out _).mono ?_
    rintro e w1 ⟨rfl, hb1⟩
    have hC1 : KQ (w.heap.size + 2) ((w.alloc (.cells #[.int .u32 v.d0, .int .u32 v.d1, .int .u32 v.d2, .int .u32 v.d3, .int .u32 v.d4, .int .u32 v.d5, .int .u32 v.d6, .int .u32 v.d7] 25)).alloc (.cells #[.int .i64 o, .int .u32 s] 35)) w1 := kq_call hC (by simp) hb1
    refine hK.out _ _ hC1 ?_
    clear hK K hC hE hcl
    intro hcl
    have hC := hC1
    (try simp only [Act.put, List.setIfInBounds_toArray, List.set_cons_zero, List.set_cons_succ])
    (refine wpM_takeX (i := 2) (v := ?_) rfl (by kernel_rfl) (by kernel_rfl) (by kernel_rfl) (by decide) (fun _ _ _ h => h) hcl hC (by kernel_rfl) (Or.inl ⟨by rfl, ?_⟩) ?_; rotate_left; (· (intro w hSw; (try dsimp only at hSw); go_simp; (try with_reducible rfl))); clear hcl; intro hcl; (try simp only [Act.put, List.getElem_toArray, List.getElem_cons_zero, List.getElem_cons_succ, List.setIfInBounds_toArray, List.set_cons_zero, List.set_cons_succ]))
    (refine wpM_takeX (i := 3) (v := ?_) rfl (by kernel_rfl) (by kernel_rfl) (by kernel_rfl) (by decide) (fun _ _ _ h => h) hcl hC (by kernel_rfl) (Or.inl ⟨by rfl, ?_⟩) ?_; rotate_left; (· (intro w hSw; (try dsimp only at hSw); go_simp; (try with_reducible rfl))); clear hcl; intro hcl; (try simp only [Act.put, List.getElem_toArray, List.getElem_cons_zero, List.getElem_cons_succ, List.setIfInBounds_toArray, List.set_cons_zero, List.set_cons_succ]))
    (refine wpM_takeX (i := 4) (v := undef) rfl (by kernel_rfl) (by kernel_rfl) (by kernel_rfl) (by decide) (fun _ _ _ h => h) hcl hC (by kernel_rfl) (Or.inr ⟨by rfl, rfl⟩) ?_; clear hcl; intro hcl; (try simp only [Act.put, List.getElem_toArray, List.getElem_cons_zero, List.getElem_cons_succ, List.setIfInBounds_toArray, List.set_cons_zero, List.set_cons_succ]))
    (refine wpM_takeX (i := 5) (v := undef) rfl (by kernel_rfl) (by kernel_rfl) (by kernel_rfl) (by decide) (fun _ _ _ h => h) hcl hC (by kernel_rfl) (Or.inr ⟨by rfl, rfl⟩) ?_; clear hcl; intro hcl; (try simp only [Act.put, List.getElem_toArray, List.getElem_cons_zero, List.getElem_cons_succ, List.setIfInBounds_toArray, List.set_cons_zero, List.set_cons_succ]))
    (refine wpM_takeX (i := 6) (v := undef) rfl (by kernel_rfl) (by kernel_rfl) (by kernel_rfl) (by decide) (fun _ _ _ h => h) hcl hC (by kernel_rfl) (Or.inr ⟨by rfl, rfl⟩) ?_; clear hcl; intro hcl; (try simp only [Act.put, List.getElem_toArray, List.getElem_cons_zero, List.getElem_cons_succ, List.setIfInBounds_toArray, List.set_cons_zero, List.set_cons_succ]))
    (refine wpM_takeX (i := 7) (v := undef) rfl (by kernel_rfl) (by kernel_rfl) (by kernel_rfl) (by decide) (fun _ _ _ h => h) hcl hC (by kernel_rfl) (Or.inr ⟨by rfl, rfl⟩) ?_; clear hcl; intro hcl; (try simp only [Act.put, List.getElem_toArray, List.getElem_cons_zero, List.getElem_cons_succ, List.setIfInBounds_toArray, List.set_cons_zero, List.set_cons_succ]))
    (refine wpM_takeX (i := 8) (v := undef) rfl (by kernel_rfl) (by kernel_rfl) (by kernel_rfl) (by decide) (fun _ _ _ h => h) hcl hC (by kernel_rfl) (Or.inr ⟨by rfl, rfl⟩) ?_; clear hcl; intro hcl; (try simp only [Act.put, List.getElem_toArray, List.getElem_cons_zero, List.getElem_cons_succ, List.setIfInBounds_toArray, List.set_cons_zero, List.set_cons_succ]))
    (refine wpM_takeX (i := 9) (v := undef) rfl (by kernel_rfl) (by kernel_rfl) (by kernel_rfl) (by decide) (fun _ _ _ h => h) hcl hC (by kernel_rfl) (Or.inr ⟨by rfl, rfl⟩) ?_; clear hcl; intro hcl; (try simp only [Act.put, List.getElem_toArray, List.getElem_cons_zero, List.getElem_cons_succ, List.setIfInBounds_toArray, List.set_cons_zero, List.set_cons_succ]))
    (refine wpM_takeX (i := 10) (v := undef) rfl (by kernel_rfl) (by kernel_rfl) (by kernel_rfl) (by decide) (fun _ _ _ h => h) hcl hC (by kernel_rfl) (Or.inr ⟨by rfl, rfl⟩) ?_; clear hcl; intro hcl; (try simp only [Act.put, List.getElem_toArray, List.getElem_cons_zero, List.getElem_cons_succ, List.setIfInBounds_toArray, List.set_cons_zero, List.set_cons_succ]))
    (refine wpM_takeX (i := 11) (v := ?_) rfl (by kernel_rfl) (by kernel_rfl) (by kernel_rfl) (by decide) (fun _ _ _ h => h) hcl hC (by kernel_rfl) (Or.inl ⟨by rfl, ?_⟩) ?_; rotate_left; (· (intro w hSw; (try dsimp only at hSw); go_simp; (try with_reducible rfl))); clear hcl; intro hcl; (try simp only [Act.put, List.getElem_toArray, List.getElem_cons_zero, List.getElem_cons_succ, List.setIfInBounds_toArray, List.set_cons_zero, List.set_cons_succ]))
    (refine wpM_takeX (i := 12) (v := ?_) rfl (by kernel_rfl) (by kernel_rfl) (by kernel_rfl) (by decide) (fun _ _ _ h => h) hcl hC (by kernel_rfl) (Or.inl ⟨by rfl, ?_⟩) ?_; rotate_left; (· (intro w hSw; (try dsimp only at hSw); go_simp; (try with_reducible rfl))); clear hcl; intro hcl; (try simp only [Act.put, List.getElem_toArray, List.getElem_cons_zero, List.getElem_cons_succ, List.setIfInBounds_toArray, List.set_cons_zero, List.set_cons_succ]))
    refine wpM_done (by kernel_rfl) ?_
    clear hcl
    try simp only [List.getElem_toArray, List.getElem_cons_zero, List.getElem_cons_succ, List.setIfInBounds_toArray, List.set_cons_zero, List.set_cons_succ]
    go_wp2
    go_ret
    exact ⟨rfl, (((Below.refl _ w).alloc (Nat.le_refl _) _).alloc (by simp) _).trans (hC1.1.mono (by omega))⟩
  · rw [hc] at hr hch
    rw [show errI true = 0 from rfl] at hch
    simp only [Bool.true_and] at hr
    have hch := Lib.hid hch
    obtain ⟨o, s⟩ := x
    simp only [chk, decide_eq_true_eq] at hc
    obtain ⟨h1, h2, h3, h4⟩ := hc
    have hrH := Lib.hid hr
    clear hr h3 h4 hx
    obtain rfl | rfl | rfl | rfl | rfl | rfl | rfl | rfl : o = 0 ∨ o = 1 ∨ o = 2 ∨ o = 3 ∨ o = 4 ∨ o = 5 ∨ o = 6 ∨ o = 7 := by omega
    · by_cases hle : s ≤ v.d0
      · have hT : Hid (true = r) := Lib.hid (by rw [← hrH.out]; symm; apply decide_eq_true; simpa [Vm.get] using hle)
        go_enter Try.func32, Try.ntmps32
        go_wp2
        go_region_held3 (fun w' => KQ (w.heap.size + 2) ((w.alloc (.cells #[.int .u32 v.d0, .int .u32 v.d1, .int .u32 v.d2, .int .u32 v.d3, .int .u32 v.d4, .int .u32 v.d5, .int .u32 v.d6, .int .u32 v.d7] 25)).alloc (.cells #[.int .i64 0, .int .u32 s] 35)) w') (first
      | with_reducible exact kq_call (by assumption) (by simp) (by assumption)
      | with_reducible exact kq_grown (by assumption) (by simp) (by assumption) (by simp [Value.ownBlock])
      | ((with_reducible refine kq ?_); (repeat (first | (with_reducible exact Below.refl _ _) | (with_reducible refine Below.drew ?_) | (with_reducible refine Below.alloc ?_ (by simp) _) | (with_reducible refine Below.setCell ?_ (by simp) _) | (with_reducible exact (by assumption : KQ _ _ _).1))); done))
          (first | (go_at_call 79; refine (hch.out _).mono ?_; rintro e w1 ⟨rfl, hb1⟩))
        have hF : KQ (w.heap.size + 2) ((w.alloc (.cells #[.int .u32 v.d0, .int .u32 v.d1, .int .u32 v.d2, .int .u32 v.d3, .int .u32 v.d4, .int .u32 v.d5, .int .u32 v.d6, .int .u32 v.d7] 25)).alloc (.cells #[.int .i64 0, .int .u32 s] 35)) w1 := by with_reducible assumption
        go_wp2
        go_ret
        exact ⟨ret_bool hT.out, (((Below.refl _ w).alloc (Nat.le_refl _) _).alloc (by simp) _).trans (hF.1.mono (by omega))⟩
      · have hT : Hid (false = r) := Lib.hid (by rw [← hrH.out]; symm; apply decide_eq_false; simpa [Vm.get] using hle)
        have hdz : decide (s ≤ v.d0) = false := by simpa using hle
        go_enter Try.func32, Try.ntmps32
        go_wp2
        go_region_held3 (fun w' => KQ (w.heap.size + 2) ((w.alloc (.cells #[.int .u32 v.d0, .int .u32 v.d1, .int .u32 v.d2, .int .u32 v.d3, .int .u32 v.d4, .int .u32 v.d5, .int .u32 v.d6, .int .u32 v.d7] 25)).alloc (.cells #[.int .i64 0, .int .u32 s] 35)) w') (first
      | with_reducible exact kq_call (by assumption) (by simp) (by assumption)
      | with_reducible exact kq_grown (by assumption) (by simp) (by assumption) (by simp [Value.ownBlock])
      | ((with_reducible refine kq ?_); (repeat (first | (with_reducible exact Below.refl _ _) | (with_reducible refine Below.drew ?_) | (with_reducible refine Below.alloc ?_ (by simp) _) | (with_reducible refine Below.setCell ?_ (by simp) _) | (with_reducible exact (by assumption : KQ _ _ _).1))); done))
          (first | (go_at_call 79; refine (hch.out _).mono ?_; rintro e w1 ⟨rfl, hb1⟩))
        have hF : KQ (w.heap.size + 2) ((w.alloc (.cells #[.int .u32 v.d0, .int .u32 v.d1, .int .u32 v.d2, .int .u32 v.d3, .int .u32 v.d4, .int .u32 v.d5, .int .u32 v.d6, .int .u32 v.d7] 25)).alloc (.cells #[.int .i64 0, .int .u32 s] 35)) w1 := by with_reducible assumption
        go_wp2
        go_ret
        exact ⟨ret_bool hT.out, (((Below.refl _ w).alloc (Nat.le_refl _) _).alloc (by simp) _).trans (hF.1.mono (by omega))⟩
    · by_cases hle : s ≤ v.d1
      · have hT : Hid (true = r) := Lib.hid (by rw [← hrH.out]; symm; apply decide_eq_true; simpa [Vm.get] using hle)
        go_enter Try.func32, Try.ntmps32
        go_wp2
        go_region_held3 (fun w' => KQ (w.heap.size + 2) ((w.alloc (.cells #[.int .u32 v.d0, .int .u32 v.d1, .int .u32 v.d2, .int .u32 v.d3, .int .u32 v.d4, .int .u32 v.d5, .int .u32 v.d6, .int .u32 v.d7] 25)).alloc (.cells #[.int .i64 1, .int .u32 s] 35)) w') (first
      | with_reducible exact kq_call (by assumption) (by simp) (by assumption)
      | with_reducible exact kq_grown (by assumption) (by simp) (by assumption) (by simp [Value.ownBlock])
      | ((with_reducible refine kq ?_); (repeat (first | (with_reducible exact Below.refl _ _) | (with_reducible refine Below.drew ?_) | (with_reducible refine Below.alloc ?_ (by simp) _) | (with_reducible refine Below.setCell ?_ (by simp) _) | (with_reducible exact (by assumption : KQ _ _ _).1))); done))
          (first | (go_at_call 79; refine (hch.out _).mono ?_; rintro e w1 ⟨rfl, hb1⟩))
        have hF : KQ (w.heap.size + 2) ((w.alloc (.cells #[.int .u32 v.d0, .int .u32 v.d1, .int .u32 v.d2, .int .u32 v.d3, .int .u32 v.d4, .int .u32 v.d5, .int .u32 v.d6, .int .u32 v.d7] 25)).alloc (.cells #[.int .i64 1, .int .u32 s] 35)) w1 := by with_reducible assumption
        go_wp2
        go_ret
        exact ⟨ret_bool hT.out, (((Below.refl _ w).alloc (Nat.le_refl _) _).alloc (by simp) _).trans (hF.1.mono (by omega))⟩
      · have hT : Hid (false = r) := Lib.hid (by rw [← hrH.out]; symm; apply decide_eq_false; simpa [Vm.get] using hle)
        have hdz : decide (s ≤ v.d1) = false := by simpa using hle
        go_enter Try.func32, Try.ntmps32
        go_wp2
        go_region_held3 (fun w' => KQ (w.heap.size + 2) ((w.alloc (.cells #[.int .u32 v.d0, .int .u32 v.d1, .int .u32 v.d2, .int .u32 v.d3, .int .u32 v.d4, .int .u32 v.d5, .int .u32 v.d6, .int .u32 v.d7] 25)).alloc (.cells #[.int .i64 1, .int .u32 s] 35)) w') (first
      | with_reducible exact kq_call (by assumption) (by simp) (by assumption)
      | with_reducible exact kq_grown (by assumption) (by simp) (by assumption) (by simp [Value.ownBlock])
      | ((with_reducible refine kq ?_); (repeat (first | (with_reducible exact Below.refl _ _) | (with_reducible refine Below.drew ?_) | (with_reducible refine Below.alloc ?_ (by simp) _) | (with_reducible refine Below.setCell ?_ (by simp) _) | (with_reducible exact (by assumption : KQ _ _ _).1))); done))
          (first | (go_at_call 79; refine (hch.out _).mono ?_; rintro e w1 ⟨rfl, hb1⟩))
        have hF : KQ (w.heap.size + 2) ((w.alloc (.cells #[.int .u32 v.d0, .int .u32 v.d1, .int .u32 v.d2, .int .u32 v.d3, .int .u32 v.d4, .int .u32 v.d5, .int .u32 v.d6, .int .u32 v.d7] 25)).alloc (.cells #[.int .i64 1, .int .u32 s] 35)) w1 := by with_reducible assumption
        go_wp2
        go_ret
        exact ⟨ret_bool hT.out, (((Below.refl _ w).alloc (Nat.le_refl _) _).alloc (by simp) _).trans (hF.1.mono (by omega))⟩
    · by_cases hle : s ≤ v.d2
      · have hT : Hid (true = r) := Lib.hid (by rw [← hrH.out]; symm; apply decide_eq_true; simpa [Vm.get] using hle)
        go_enter Try.func32, Try.ntmps32
        go_wp2
        go_region_held3 (fun w' => KQ (w.heap.size + 2) ((w.alloc (.cells #[.int .u32 v.d0, .int .u32 v.d1, .int .u32 v.d2, .int .u32 v.d3, .int .u32 v.d4, .int .u32 v.d5, .int .u32 v.d6, .int .u32 v.d7] 25)).alloc (.cells #[.int .i64 2, .int .u32 s] 35)) w') (first
      | with_reducible exact kq_call (by assumption) (by simp) (by assumption)
      | with_reducible exact kq_grown (by assumption) (by simp) (by assumption) (by simp [Value.ownBlock])
      | ((with_reducible refine kq ?_); (repeat (first | (with_reducible exact Below.refl _ _) | (with_reducible refine Below.drew ?_) | (with_reducible refine Below.alloc ?_ (by simp) _) | (with_reducible refine Below.setCell ?_ (by simp) _) | (with_reducible exact (by assumption : KQ _ _ _).1))); done))
          (first | (go_at_call 79; refine (hch.out _).mono ?_; rintro e w1 ⟨rfl, hb1⟩))
        have hF : KQ (w.heap.size + 2) ((w.alloc (.cells #[.int .u32 v.d0, .int .u32 v.d1, .int .u32 v.d2, .int .u32 v.d3, .int .u32 v.d4, .int .u32 v.d5, .int .u32 v.d6, .int .u32 v.d7] 25)).alloc (.cells #[.int .i64 2, .int .u32 s] 35)) w1 := by with_reducible assumption
        go_wp2
        go_ret
        exact ⟨ret_bool hT.out, (((Below.refl _ w).alloc (Nat.le_refl _) _).alloc (by simp) _).trans (hF.1.mono (by omega))⟩
      · have hT : Hid (false = r) := Lib.hid (by rw [← hrH.out]; symm; apply decide_eq_false; simpa [Vm.get] using hle)
        have hdz : decide (s ≤ v.d2) = false := by simpa using hle
        go_enter Try.func32, Try.ntmps32
        go_wp2
        go_region_held3 (fun w' => KQ (w.heap.size + 2) ((w.alloc (.cells #[.int .u32 v.d0, .int .u32 v.d1, .int .u32 v.d2, .int .u32 v.d3, .int .u32 v.d4, .int .u32 v.d5, .int .u32 v.d6, .int .u32 v.d7] 25)).alloc (.cells #[.int .i64 2, .int .u32 s] 35)) w') (first
      | with_reducible exact kq_call (by assumption) (by simp) (by assumption)
      | with_reducible exact kq_grown (by assumption) (by simp) (by assumption) (by simp [Value.ownBlock])
      | ((with_reducible refine kq ?_); (repeat (first | (with_reducible exact Below.refl _ _) | (with_reducible refine Below.drew ?_) | (with_reducible refine Below.alloc ?_ (by simp) _) | (with_reducible refine Below.setCell ?_ (by simp) _) | (with_reducible exact (by assumption : KQ _ _ _).1))); done))
          (first | (go_at_call 79; refine (hch.out _).mono ?_; rintro e w1 ⟨rfl, hb1⟩))
        have hF : KQ (w.heap.size + 2) ((w.alloc (.cells #[.int .u32 v.d0, .int .u32 v.d1, .int .u32 v.d2, .int .u32 v.d3, .int .u32 v.d4, .int .u32 v.d5, .int .u32 v.d6, .int .u32 v.d7] 25)).alloc (.cells #[.int .i64 2, .int .u32 s] 35)) w1 := by with_reducible assumption
        go_wp2
        go_ret
        exact ⟨ret_bool hT.out, (((Below.refl _ w).alloc (Nat.le_refl _) _).alloc (by simp) _).trans (hF.1.mono (by omega))⟩
    · by_cases hle : s ≤ v.d3
      · have hT : Hid (true = r) := Lib.hid (by rw [← hrH.out]; symm; apply decide_eq_true; simpa [Vm.get] using hle)
        go_enter Try.func32, Try.ntmps32
        go_wp2
        go_region_held3 (fun w' => KQ (w.heap.size + 2) ((w.alloc (.cells #[.int .u32 v.d0, .int .u32 v.d1, .int .u32 v.d2, .int .u32 v.d3, .int .u32 v.d4, .int .u32 v.d5, .int .u32 v.d6, .int .u32 v.d7] 25)).alloc (.cells #[.int .i64 3, .int .u32 s] 35)) w') (first
      | with_reducible exact kq_call (by assumption) (by simp) (by assumption)
      | with_reducible exact kq_grown (by assumption) (by simp) (by assumption) (by simp [Value.ownBlock])
      | ((with_reducible refine kq ?_); (repeat (first | (with_reducible exact Below.refl _ _) | (with_reducible refine Below.drew ?_) | (with_reducible refine Below.alloc ?_ (by simp) _) | (with_reducible refine Below.setCell ?_ (by simp) _) | (with_reducible exact (by assumption : KQ _ _ _).1))); done))
          (first | (go_at_call 79; refine (hch.out _).mono ?_; rintro e w1 ⟨rfl, hb1⟩))
        have hF : KQ (w.heap.size + 2) ((w.alloc (.cells #[.int .u32 v.d0, .int .u32 v.d1, .int .u32 v.d2, .int .u32 v.d3, .int .u32 v.d4, .int .u32 v.d5, .int .u32 v.d6, .int .u32 v.d7] 25)).alloc (.cells #[.int .i64 3, .int .u32 s] 35)) w1 := by with_reducible assumption
        go_wp2
        go_ret
        exact ⟨ret_bool hT.out, (((Below.refl _ w).alloc (Nat.le_refl _) _).alloc (by simp) _).trans (hF.1.mono (by omega))⟩
      · have hT : Hid (false = r) := Lib.hid (by rw [← hrH.out]; symm; apply decide_eq_false; simpa [Vm.get] using hle)
        have hdz : decide (s ≤ v.d3) = false := by simpa using hle
        go_enter Try.func32, Try.ntmps32
        go_wp2
        go_region_held3 (fun w' => KQ (w.heap.size + 2) ((w.alloc (.cells #[.int .u32 v.d0, .int .u32 v.d1, .int .u32 v.d2, .int .u32 v.d3, .int .u32 v.d4, .int .u32 v.d5, .int .u32 v.d6, .int .u32 v.d7] 25)).alloc (.cells #[.int .i64 3, .int .u32 s] 35)) w') (first
      | with_reducible exact kq_call (by assumption) (by simp) (by assumption)
      | with_reducible exact kq_grown (by assumption) (by simp) (by assumption) (by simp [Value.ownBlock])
      | ((with_reducible refine kq ?_); (repeat (first | (with_reducible exact Below.refl _ _) | (with_reducible refine Below.drew ?_) | (with_reducible refine Below.alloc ?_ (by simp) _) | (with_reducible refine Below.setCell ?_ (by simp) _) | (with_reducible exact (by assumption : KQ _ _ _).1))); done))
          (first | (go_at_call 79; refine (hch.out _).mono ?_; rintro e w1 ⟨rfl, hb1⟩))
        have hF : KQ (w.heap.size + 2) ((w.alloc (.cells #[.int .u32 v.d0, .int .u32 v.d1, .int .u32 v.d2, .int .u32 v.d3, .int .u32 v.d4, .int .u32 v.d5, .int .u32 v.d6, .int .u32 v.d7] 25)).alloc (.cells #[.int .i64 3, .int .u32 s] 35)) w1 := by with_reducible assumption
        go_wp2
        go_ret
        exact ⟨ret_bool hT.out, (((Below.refl _ w).alloc (Nat.le_refl _) _).alloc (by simp) _).trans (hF.1.mono (by omega))⟩
    · by_cases hle : s ≤ v.d4
      · have hT : Hid (true = r) := Lib.hid (by rw [← hrH.out]; symm; apply decide_eq_true; simpa [Vm.get] using hle)
        go_enter Try.func32, Try.ntmps32
        go_wp2
        go_region_held3 (fun w' => KQ (w.heap.size + 2) ((w.alloc (.cells #[.int .u32 v.d0, .int .u32 v.d1, .int .u32 v.d2, .int .u32 v.d3, .int .u32 v.d4, .int .u32 v.d5, .int .u32 v.d6, .int .u32 v.d7] 25)).alloc (.cells #[.int .i64 4, .int .u32 s] 35)) w') (first
      | with_reducible exact kq_call (by assumption) (by simp) (by assumption)
      | with_reducible exact kq_grown (by assumption) (by simp) (by assumption) (by simp [Value.ownBlock])
      | ((with_reducible refine kq ?_); (repeat (first | (with_reducible exact Below.refl _ _) | (with_reducible refine Below.drew ?_) | (with_reducible refine Below.alloc ?_ (by simp) _) | (with_reducible refine Below.setCell ?_ (by simp) _) | (with_reducible exact (by assumption : KQ _ _ _).1))); done))
          (first | (go_at_call 79; refine (hch.out _).mono ?_; rintro e w1 ⟨rfl, hb1⟩))
        have hF : KQ (w.heap.size + 2) ((w.alloc (.cells #[.int .u32 v.d0, .int .u32 v.d1, .int .u32 v.d2, .int .u32 v.d3, .int .u32 v.d4, .int .u32 v.d5, .int .u32 v.d6, .int .u32 v.d7] 25)).alloc (.cells #[.int .i64 4, .int .u32 s] 35)) w1 := by with_reducible assumption
        go_wp2
        go_ret
        exact ⟨ret_bool hT.out, (((Below.refl _ w).alloc (Nat.le_refl _) _).alloc (by simp) _).trans (hF.1.mono (by omega))⟩
      · have hT : Hid (false = r) := Lib.hid (by rw [← hrH.out]; symm; apply decide_eq_false; simpa [Vm.get] using hle)
        have hdz : decide (s ≤ v.d4) = false := by simpa using hle
        go_enter Try.func32, Try.ntmps32
        go_wp2
        go_region_held3 (fun w' => KQ (w.heap.size + 2) ((w.alloc (.cells #[.int .u32 v.d0, .int .u32 v.d1, .int .u32 v.d2, .int .u32 v.d3, .int .u32 v.d4, .int .u32 v.d5, .int .u32 v.d6, .int .u32 v.d7] 25)).alloc (.cells #[.int .i64 4, .int .u32 s] 35)) w') (first
      | with_reducible exact kq_call (by assumption) (by simp) (by assumption)
      | with_reducible exact kq_grown (by assumption) (by simp) (by assumption) (by simp [Value.ownBlock])
      | ((with_reducible refine kq ?_); (repeat (first | (with_reducible exact Below.refl _ _) | (with_reducible refine Below.drew ?_) | (with_reducible refine Below.alloc ?_ (by simp) _) | (with_reducible refine Below.setCell ?_ (by simp) _) | (with_reducible exact (by assumption : KQ _ _ _).1))); done))
          (first | (go_at_call 79; refine (hch.out _).mono ?_; rintro e w1 ⟨rfl, hb1⟩))
        have hF : KQ (w.heap.size + 2) ((w.alloc (.cells #[.int .u32 v.d0, .int .u32 v.d1, .int .u32 v.d2, .int .u32 v.d3, .int .u32 v.d4, .int .u32 v.d5, .int .u32 v.d6, .int .u32 v.d7] 25)).alloc (.cells #[.int .i64 4, .int .u32 s] 35)) w1 := by with_reducible assumption
        go_wp2
        go_ret
        exact ⟨ret_bool hT.out, (((Below.refl _ w).alloc (Nat.le_refl _) _).alloc (by simp) _).trans (hF.1.mono (by omega))⟩
    · by_cases hle : s ≤ v.d5
      · have hT : Hid (true = r) := Lib.hid (by rw [← hrH.out]; symm; apply decide_eq_true; simpa [Vm.get] using hle)
        go_enter Try.func32, Try.ntmps32
        go_wp2
        go_region_held3 (fun w' => KQ (w.heap.size + 2) ((w.alloc (.cells #[.int .u32 v.d0, .int .u32 v.d1, .int .u32 v.d2, .int .u32 v.d3, .int .u32 v.d4, .int .u32 v.d5, .int .u32 v.d6, .int .u32 v.d7] 25)).alloc (.cells #[.int .i64 5, .int .u32 s] 35)) w') (first
      | with_reducible exact kq_call (by assumption) (by simp) (by assumption)
      | with_reducible exact kq_grown (by assumption) (by simp) (by assumption) (by simp [Value.ownBlock])
      | ((with_reducible refine kq ?_); (repeat (first | (with_reducible exact Below.refl _ _) | (with_reducible refine Below.drew ?_) | (with_reducible refine Below.alloc ?_ (by simp) _) | (with_reducible refine Below.setCell ?_ (by simp) _) | (with_reducible exact (by assumption : KQ _ _ _).1))); done))
          (first | (go_at_call 79; refine (hch.out _).mono ?_; rintro e w1 ⟨rfl, hb1⟩))
        have hF : KQ (w.heap.size + 2) ((w.alloc (.cells #[.int .u32 v.d0, .int .u32 v.d1, .int .u32 v.d2, .int .u32 v.d3, .int .u32 v.d4, .int .u32 v.d5, .int .u32 v.d6, .int .u32 v.d7] 25)).alloc (.cells #[.int .i64 5, .int .u32 s] 35)) w1 := by with_reducible assumption
        go_wp2
        go_ret
        exact ⟨ret_bool hT.out, (((Below.refl _ w).alloc (Nat.le_refl _) _).alloc (by simp) _).trans (hF.1.mono (by omega))⟩
      · have hT : Hid (false = r) := Lib.hid (by rw [← hrH.out]; symm; apply decide_eq_false; simpa [Vm.get] using hle)
        have hdz : decide (s ≤ v.d5) = false := by simpa using hle
        go_enter Try.func32, Try.ntmps32
        go_wp2
        go_region_held3 (fun w' => KQ (w.heap.size + 2) ((w.alloc (.cells #[.int .u32 v.d0, .int .u32 v.d1, .int .u32 v.d2, .int .u32 v.d3, .int .u32 v.d4, .int .u32 v.d5, .int .u32 v.d6, .int .u32 v.d7] 25)).alloc (.cells #[.int .i64 5, .int .u32 s] 35)) w') (first
      | with_reducible exact kq_call (by assumption) (by simp) (by assumption)
      | with_reducible exact kq_grown (by assumption) (by simp) (by assumption) (by simp [Value.ownBlock])
      | ((with_reducible refine kq ?_); (repeat (first | (with_reducible exact Below.refl _ _) | (with_reducible refine Below.drew ?_) | (with_reducible refine Below.alloc ?_ (by simp) _) | (with_reducible refine Below.setCell ?_ (by simp) _) | (with_reducible exact (by assumption : KQ _ _ _).1))); done))
          (first | (go_at_call 79; refine (hch.out _).mono ?_; rintro e w1 ⟨rfl, hb1⟩))
        have hF : KQ (w.heap.size + 2) ((w.alloc (.cells #[.int .u32 v.d0, .int .u32 v.d1, .int .u32 v.d2, .int .u32 v.d3, .int .u32 v.d4, .int .u32 v.d5, .int .u32 v.d6, .int .u32 v.d7] 25)).alloc (.cells #[.int .i64 5, .int .u32 s] 35)) w1 := by with_reducible assumption
        go_wp2
        go_ret
        exact ⟨ret_bool hT.out, (((Below.refl _ w).alloc (Nat.le_refl _) _).alloc (by simp) _).trans (hF.1.mono (by omega))⟩
    · by_cases hle : s ≤ v.d6
      · have hT : Hid (true = r) := Lib.hid (by rw [← hrH.out]; symm; apply decide_eq_true; simpa [Vm.get] using hle)
        go_enter Try.func32, Try.ntmps32
        go_wp2
        go_region_held3 (fun w' => KQ (w.heap.size + 2) ((w.alloc (.cells #[.int .u32 v.d0, .int .u32 v.d1, .int .u32 v.d2, .int .u32 v.d3, .int .u32 v.d4, .int .u32 v.d5, .int .u32 v.d6, .int .u32 v.d7] 25)).alloc (.cells #[.int .i64 6, .int .u32 s] 35)) w') (first
      | with_reducible exact kq_call (by assumption) (by simp) (by assumption)
      | with_reducible exact kq_grown (by assumption) (by simp) (by assumption) (by simp [Value.ownBlock])
      | ((with_reducible refine kq ?_); (repeat (first | (with_reducible exact Below.refl _ _) | (with_reducible refine Below.drew ?_) | (with_reducible refine Below.alloc ?_ (by simp) _) | (with_reducible refine Below.setCell ?_ (by simp) _) | (with_reducible exact (by assumption : KQ _ _ _).1))); done))
          (first | (go_at_call 79; refine (hch.out _).mono ?_; rintro e w1 ⟨rfl, hb1⟩))
        have hF : KQ (w.heap.size + 2) ((w.alloc (.cells #[.int .u32 v.d0, .int .u32 v.d1, .int .u32 v.d2, .int .u32 v.d3, .int .u32 v.d4, .int .u32 v.d5, .int .u32 v.d6, .int .u32 v.d7] 25)).alloc (.cells #[.int .i64 6, .int .u32 s] 35)) w1 := by with_reducible assumption
        go_wp2
        go_ret
        exact ⟨ret_bool hT.out, (((Below.refl _ w).alloc (Nat.le_refl _) _).alloc (by simp) _).trans (hF.1.mono (by omega))⟩
      · have hT : Hid (false = r) := Lib.hid (by rw [← hrH.out]; symm; apply decide_eq_false; simpa [Vm.get] using hle)
        have hdz : decide (s ≤ v.d6) = false := by simpa using hle
        go_enter Try.func32, Try.ntmps32
        go_wp2
        go_region_held3 (fun w' => KQ (w.heap.size + 2) ((w.alloc (.cells #[.int .u32 v.d0, .int .u32 v.d1, .int .u32 v.d2, .int .u32 v.d3, .int .u32 v.d4, .int .u32 v.d5, .int .u32 v.d6, .int .u32 v.d7] 25)).alloc (.cells #[.int .i64 6, .int .u32 s] 35)) w') (first
      | with_reducible exact kq_call (by assumption) (by simp) (by assumption)
      | with_reducible exact kq_grown (by assumption) (by simp) (by assumption) (by simp [Value.ownBlock])
      | ((with_reducible refine kq ?_); (repeat (first | (with_reducible exact Below.refl _ _) | (with_reducible refine Below.drew ?_) | (with_reducible refine Below.alloc ?_ (by simp) _) | (with_reducible refine Below.setCell ?_ (by simp) _) | (with_reducible exact (by assumption : KQ _ _ _).1))); done))
          (first | (go_at_call 79; refine (hch.out _).mono ?_; rintro e w1 ⟨rfl, hb1⟩))
        have hF : KQ (w.heap.size + 2) ((w.alloc (.cells #[.int .u32 v.d0, .int .u32 v.d1, .int .u32 v.d2, .int .u32 v.d3, .int .u32 v.d4, .int .u32 v.d5, .int .u32 v.d6, .int .u32 v.d7] 25)).alloc (.cells #[.int .i64 6, .int .u32 s] 35)) w1 := by with_reducible assumption
        go_wp2
        go_ret
        exact ⟨ret_bool hT.out, (((Below.refl _ w).alloc (Nat.le_refl _) _).alloc (by simp) _).trans (hF.1.mono (by omega))⟩
    · by_cases hle : s ≤ v.d7
      · have hT : Hid (true = r) := Lib.hid (by rw [← hrH.out]; symm; apply decide_eq_true; simpa [Vm.get] using hle)
        go_enter Try.func32, Try.ntmps32
        go_wp2
        go_region_held3 (fun w' => KQ (w.heap.size + 2) ((w.alloc (.cells #[.int .u32 v.d0, .int .u32 v.d1, .int .u32 v.d2, .int .u32 v.d3, .int .u32 v.d4, .int .u32 v.d5, .int .u32 v.d6, .int .u32 v.d7] 25)).alloc (.cells #[.int .i64 7, .int .u32 s] 35)) w') (first
      | with_reducible exact kq_call (by assumption) (by simp) (by assumption)
      | with_reducible exact kq_grown (by assumption) (by simp) (by assumption) (by simp [Value.ownBlock])
      | ((with_reducible refine kq ?_); (repeat (first | (with_reducible exact Below.refl _ _) | (with_reducible refine Below.drew ?_) | (with_reducible refine Below.alloc ?_ (by simp) _) | (with_reducible refine Below.setCell ?_ (by simp) _) | (with_reducible exact (by assumption : KQ _ _ _).1))); done))
          (first | (go_at_call 79; refine (hch.out _).mono ?_; rintro e w1 ⟨rfl, hb1⟩))
        have hF : KQ (w.heap.size + 2) ((w.alloc (.cells #[.int .u32 v.d0, .int .u32 v.d1, .int .u32 v.d2, .int .u32 v.d3, .int .u32 v.d4, .int .u32 v.d5, .int .u32 v.d6, .int .u32 v.d7] 25)).alloc (.cells #[.int .i64 7, .int .u32 s] 35)) w1 := by with_reducible assumption
        go_wp2
        go_ret
        exact ⟨ret_bool hT.out, (((Below.refl _ w).alloc (Nat.le_refl _) _).alloc (by simp) _).trans (hF.1.mono (by omega))⟩
      · have hT : Hid (false = r) := Lib.hid (by rw [← hrH.out]; symm; apply decide_eq_false; simpa [Vm.get] using hle)
        have hdz : decide (s ≤ v.d7) = false := by simpa using hle
        go_enter Try.func32, Try.ntmps32
        go_wp2
        go_region_held3 (fun w' => KQ (w.heap.size + 2) ((w.alloc (.cells #[.int .u32 v.d0, .int .u32 v.d1, .int .u32 v.d2, .int .u32 v.d3, .int .u32 v.d4, .int .u32 v.d5, .int .u32 v.d6, .int .u32 v.d7] 25)).alloc (.cells #[.int .i64 7, .int .u32 s] 35)) w') (first
      | with_reducible exact kq_call (by assumption) (by simp) (by assumption)
      | with_reducible exact kq_grown (by assumption) (by simp) (by assumption) (by simp [Value.ownBlock])
      | ((with_reducible refine kq ?_); (repeat (first | (with_reducible exact Below.refl _ _) | (with_reducible refine Below.drew ?_) | (with_reducible refine Below.alloc ?_ (by simp) _) | (with_reducible refine Below.setCell ?_ (by simp) _) | (with_reducible exact (by assumption : KQ _ _ _).1))); done))
          (first | (go_at_call 79; refine (hch.out _).mono ?_; rintro e w1 ⟨rfl, hb1⟩))
        have hF : KQ (w.heap.size + 2) ((w.alloc (.cells #[.int .u32 v.d0, .int .u32 v.d1, .int .u32 v.d2, .int .u32 v.d3, .int .u32 v.d4, .int .u32 v.d5, .int .u32 v.d6, .int .u32 v.d7] 25)).alloc (.cells #[.int .i64 7, .int .u32 s] 35)) w1 := by with_reducible assumption
        go_wp2
        go_ret
        exact ⟨ret_bool hT.out, (((Below.refl _ w).alloc (Nat.le_refl _) _).alloc (by simp) _).trans (hF.1.mono (by omega))⟩

set_option maxRecDepth 100000 in
set_option maxHeartbeats 2000000 in
theorem rvhas_any (v : Vm) (x : Im) (hx : x.wf) (w : World) :
    Calls Try.prog 66 #[.agg #[.int .u32 v.d0, .int .u32 v.d1, .int .u32 v.d2, .int .u32 v.d3, .int .u32 v.d4, .int .u32 v.d5, .int .u32 v.d6, .int .u32 v.d7], .agg #[.int .i64 x.1, .int .u32 x.2]] w fun e w' => e = .returned (.bool (hasV v x)) ∧ Below w.heap.size w w' := by
  generalize hr : hasV v x = r
  have hch := rchk_any x hx
  unfold hasV at hr
  cases hc : chk x
  · rw [hc] at hr hch
    rw [show errI false = 2 from rfl] at hch
    simp only [Bool.false_and] at hr
    subst hr
    have hch := Lib.hid hch
    clear hc
    obtain ⟨o, s⟩ := x
    go_enter Try.func66, Try.ntmps66
    go_wp2
    refine wp_region_M (fun w' => KQ (w.heap.size + 2) ((w.alloc (.cells #[.int .u32 v.d0, .int .u32 v.d1, .int .u32 v.d2, .int .u32 v.d3, .int .u32 v.d4, .int .u32 v.d5, .int .u32 v.d6, .int .u32 v.d7] 25)).alloc (.cells #[.int .i64 o, .int .u32 s] 35)) w') (fun _ => True) 1 (by kernel_rfl) (kq (Below.refl _ _).drew) trivial ?_
    intro hcl
    have hC : KQ (w.heap.size + 2) ((w.alloc (.cells #[.int .u32 v.d0, .int .u32 v.d1, .int .u32 v.d2, .int .u32 v.d3, .int .u32 v.d4, .int .u32 v.d5, .int .u32 v.d6, .int .u32 v.d7] 25)).alloc (.cells #[.int .i64 o, .int .u32 s] 35)) ((w.alloc (.cells #[.int .u32 v.d0, .int .u32 v.d1, .int .u32 v.d2, .int .u32 v.d3, .int .u32 v.d4, .int .u32 v.d5, .int .u32 v.d6, .int .u32 v.d7] 25)).alloc (.cells #[.int .i64 o, .int .u32 s] 35)).drew := kq (Below.refl _ _).drew
    have hE : True := trivial
    (refine wpM_take0 (i := 0) (v := ?_) rfl rfl (by kernel_rfl) (by kernel_rfl) (by kernel_rfl) (by kernel_rfl) (by decide) (fun _ _ _ h => h) hcl hC (fun _ => hE) (Or.inl ⟨by rfl, ?_⟩) ?_; rotate_left; (· (intro w hSw; (try dsimp only at hSw); go_simp; (try with_reducible rfl))); clear hcl; intro hcl; (try simp only [Act.put, List.getElem_toArray, List.getElem_cons_zero, List.getElem_cons_succ, List.setIfInBounds_toArray, List.set_cons_zero, List.set_cons_succ]))
    refine wpM_last (i := 1) rfl (by kernel_rfl) hcl (by kernel_rfl) (fun K hK => ?_)
    go_simp
    refine (hch.out _).mono ?_
    rintro e w1 ⟨rfl, hb1⟩
    have hC1 : KQ (w.heap.size + 2) ((w.alloc (.cells #[.int .u32 v.d0, .int .u32 v.d1, .int .u32 v.d2, .int .u32 v.d3, .int .u32 v.d4, .int .u32 v.d5, .int .u32 v.d6, .int .u32 v.d7] 25)).alloc (.cells #[.int .i64 o, .int .u32 s] 35)) w1 := kq_call hC (by simp) hb1
    refine hK.out _ _ hC1 ?_
    clear hK K hC hE hcl
    intro hcl
    have hC := hC1
    (try simp only [Act.put, List.setIfInBounds_toArray, List.set_cons_zero, List.set_cons_succ])
    (refine wpM_takeX (i := 2) (v := ?_) rfl (by kernel_rfl) (by kernel_rfl) (by kernel_rfl) (by decide) (fun _ _ _ h => h) hcl hC (by kernel_rfl) (Or.inl ⟨by rfl, ?_⟩) ?_; rotate_left; (· (intro w hSw; (try dsimp only at hSw); go_simp; (try with_reducible rfl))); clear hcl; intro hcl; (try simp only [Act.put, List.getElem_toArray, List.getElem_cons_zero, List.getElem_cons_succ, List.setIfInBounds_toArray, List.set_cons_zero, List.set_cons_succ]))
    (refine wpM_takeX (i := 3) (v := ?_) rfl (by kernel_rfl) (by kernel_rfl) (by kernel_rfl) (by decide) (fun _ _ _ h => h) hcl hC (by kernel_rfl) (Or.inl ⟨by rfl, ?_⟩) ?_; rotate_left; (· (intro w hSw; (try dsimp only at hSw); go_simp; (try with_reducible rfl))); clear hcl; intro hcl; (try simp only [Act.put, List.getElem_toArray, List.getElem_cons_zero, List.getElem_cons_succ, List.setIfInBounds_toArray, List.set_cons_zero, List.set_cons_succ]))
    (refine wpM_takeX (i := 4) (v := undef) rfl (by kernel_rfl) (by kernel_rfl) (by kernel_rfl) (by decide) (fun _ _ _ h => h) hcl hC (by kernel_rfl) (Or.inr ⟨by rfl, rfl⟩) ?_; clear hcl; intro hcl; (try simp only [Act.put, List.getElem_toArray, List.getElem_cons_zero, List.getElem_cons_succ, List.setIfInBounds_toArray, List.set_cons_zero, List.set_cons_succ]))
    (refine wpM_takeX (i := 5) (v := undef) rfl (by kernel_rfl) (by kernel_rfl) (by kernel_rfl) (by decide) (fun _ _ _ h => h) hcl hC (by kernel_rfl) (Or.inr ⟨by rfl, rfl⟩) ?_; clear hcl; intro hcl; (try simp only [Act.put, List.getElem_toArray, List.getElem_cons_zero, List.getElem_cons_succ, List.setIfInBounds_toArray, List.set_cons_zero, List.set_cons_succ]))
    (refine wpM_takeX (i := 6) (v := undef) rfl (by kernel_rfl) (by kernel_rfl) (by kernel_rfl) (by decide) (fun _ _ _ h => h) hcl hC (by kernel_rfl) (Or.inr ⟨by rfl, rfl⟩) ?_; clear hcl; intro hcl; (try simp only [Act.put, List.getElem_toArray, List.getElem_cons_zero, List.getElem_cons_succ, List.setIfInBounds_toArray, List.set_cons_zero, List.set_cons_succ]))
    (refine wpM_takeX (i := 7) (v := undef) rfl (by kernel_rfl) (by kernel_rfl) (by kernel_rfl) (by decide) (fun _ _ _ h => h) hcl hC (by kernel_rfl) (Or.inr ⟨by rfl, rfl⟩) ?_; clear hcl; intro hcl; (try simp only [Act.put, List.getElem_toArray, List.getElem_cons_zero, List.getElem_cons_succ, List.setIfInBounds_toArray, List.set_cons_zero, List.set_cons_succ]))
    (refine wpM_takeX (i := 8) (v := undef) rfl (by kernel_rfl) (by kernel_rfl) (by kernel_rfl) (by decide) (fun _ _ _ h => h) hcl hC (by kernel_rfl) (Or.inr ⟨by rfl, rfl⟩) ?_; clear hcl; intro hcl; (try simp only [Act.put, List.getElem_toArray, List.getElem_cons_zero, List.getElem_cons_succ, List.setIfInBounds_toArray, List.set_cons_zero, List.set_cons_succ]))
    (refine wpM_takeX (i := 9) (v := undef) rfl (by kernel_rfl) (by kernel_rfl) (by kernel_rfl) (by decide) (fun _ _ _ h => h) hcl hC (by kernel_rfl) (Or.inr ⟨by rfl, rfl⟩) ?_; clear hcl; intro hcl; (try simp only [Act.put, List.getElem_toArray, List.getElem_cons_zero, List.getElem_cons_succ, List.setIfInBounds_toArray, List.set_cons_zero, List.set_cons_succ]))
    (refine wpM_takeX (i := 10) (v := undef) rfl (by kernel_rfl) (by kernel_rfl) (by kernel_rfl) (by decide) (fun _ _ _ h => h) hcl hC (by kernel_rfl) (Or.inr ⟨by rfl, rfl⟩) ?_; clear hcl; intro hcl; (try simp only [Act.put, List.getElem_toArray, List.getElem_cons_zero, List.getElem_cons_succ, List.setIfInBounds_toArray, List.set_cons_zero, List.set_cons_succ]))
    (refine wpM_takeX (i := 11) (v := ?_) rfl (by kernel_rfl) (by kernel_rfl) (by kernel_rfl) (by decide) (fun _ _ _ h => h) hcl hC (by kernel_rfl) (Or.inl ⟨by rfl, ?_⟩) ?_; rotate_left; (· (intro w hSw; (try dsimp only at hSw); go_simp; (try with_reducible rfl))); clear hcl; intro hcl; (try simp only [Act.put, List.getElem_toArray, List.getElem_cons_zero, List.getElem_cons_succ, List.setIfInBounds_toArray, List.set_cons_zero, List.set_cons_succ]))
    (refine wpM_takeX (i := 12) (v := ?_) rfl (by kernel_rfl) (by kernel_rfl) (by kernel_rfl) (by decide) (fun _ _ _ h => h) hcl hC (by kernel_rfl) (Or.inl ⟨by rfl, ?_⟩) ?_; rotate_left; (· (intro w hSw; (try dsimp only at hSw); go_simp; (try with_reducible rfl))); clear hcl; intro hcl; (try simp only [Act.put, List.getElem_toArray, List.getElem_cons_zero, List.getElem_cons_succ, List.setIfInBounds_toArray, List.set_cons_zero, List.set_cons_succ]))
    refine wpM_done (by kernel_rfl) ?_
    clear hcl
    try simp only [List.getElem_toArray, List.getElem_cons_zero, List.getElem_cons_succ, List.setIfInBounds_toArray, List.set_cons_zero, List.set_cons_succ]
    go_wp2
    go_ret
    exact ⟨rfl, (((Below.refl _ w).alloc (Nat.le_refl _) _).alloc (by simp) _).trans (hC1.1.mono (by omega))⟩
  · rw [hc] at hr hch
    rw [show errI true = 0 from rfl] at hch
    simp only [Bool.true_and] at hr
    have hch := Lib.hid hch
    obtain ⟨o, s⟩ := x
    simp only [chk, decide_eq_true_eq] at hc
    obtain ⟨h1, h2, h3, h4⟩ := hc
    have hrH := Lib.hid hr
    clear hr h3 h4 hx
    obtain rfl | rfl | rfl | rfl | rfl | rfl | rfl | rfl : o = 0 ∨ o = 1 ∨ o = 2 ∨ o = 3 ∨ o = 4 ∨ o = 5 ∨ o = 6 ∨ o = 7 := by omega
    · by_cases hle : s ≤ v.d0
      · have hT : Hid (true = r) := Lib.hid (by rw [← hrH.out]; symm; apply decide_eq_true; simpa [Vm.get] using hle)
        go_enter Try.func66, Try.ntmps66
        go_wp2
        go_region_held3 (fun w' => KQ (w.heap.size + 2) ((w.alloc (.cells #[.int .u32 v.d0, .int .u32 v.d1, .int .u32 v.d2, .int .u32 v.d3, .int .u32 v.d4, .int .u32 v.d5, .int .u32 v.d6, .int .u32 v.d7] 25)).alloc (.cells #[.int .i64 0, .int .u32 s] 35)) w') (first
      | with_reducible exact kq_call (by assumption) (by simp) (by assumption)
      | with_reducible exact kq_grown (by assumption) (by simp) (by assumption) (by simp [Value.ownBlock])
      | ((with_reducible refine kq ?_); (repeat (first | (with_reducible exact Below.refl _ _) | (with_reducible refine Below.drew ?_) | (with_reducible refine Below.alloc ?_ (by simp) _) | (with_reducible refine Below.setCell ?_ (by simp) _) | (with_reducible exact (by assumption : KQ _ _ _).1))); done))
          (first | (go_at_call 82; refine (hch.out _).mono ?_; rintro e w1 ⟨rfl, hb1⟩))
        have hF : KQ (w.heap.size + 2) ((w.alloc (.cells #[.int .u32 v.d0, .int .u32 v.d1, .int .u32 v.d2, .int .u32 v.d3, .int .u32 v.d4, .int .u32 v.d5, .int .u32 v.d6, .int .u32 v.d7] 25)).alloc (.cells #[.int .i64 0, .int .u32 s] 35)) w1 := by with_reducible assumption
        go_wp2
        go_ret
        exact ⟨ret_bool hT.out, (((Below.refl _ w).alloc (Nat.le_refl _) _).alloc (by simp) _).trans (hF.1.mono (by omega))⟩
      · have hT : Hid (false = r) := Lib.hid (by rw [← hrH.out]; symm; apply decide_eq_false; simpa [Vm.get] using hle)
        have hdz : decide (s ≤ v.d0) = false := by simpa using hle
        go_enter Try.func66, Try.ntmps66
        go_wp2
        go_region_held3 (fun w' => KQ (w.heap.size + 2) ((w.alloc (.cells #[.int .u32 v.d0, .int .u32 v.d1, .int .u32 v.d2, .int .u32 v.d3, .int .u32 v.d4, .int .u32 v.d5, .int .u32 v.d6, .int .u32 v.d7] 25)).alloc (.cells #[.int .i64 0, .int .u32 s] 35)) w') (first
      | with_reducible exact kq_call (by assumption) (by simp) (by assumption)
      | with_reducible exact kq_grown (by assumption) (by simp) (by assumption) (by simp [Value.ownBlock])
      | ((with_reducible refine kq ?_); (repeat (first | (with_reducible exact Below.refl _ _) | (with_reducible refine Below.drew ?_) | (with_reducible refine Below.alloc ?_ (by simp) _) | (with_reducible refine Below.setCell ?_ (by simp) _) | (with_reducible exact (by assumption : KQ _ _ _).1))); done))
          (first | (go_at_call 82; refine (hch.out _).mono ?_; rintro e w1 ⟨rfl, hb1⟩))
        have hF : KQ (w.heap.size + 2) ((w.alloc (.cells #[.int .u32 v.d0, .int .u32 v.d1, .int .u32 v.d2, .int .u32 v.d3, .int .u32 v.d4, .int .u32 v.d5, .int .u32 v.d6, .int .u32 v.d7] 25)).alloc (.cells #[.int .i64 0, .int .u32 s] 35)) w1 := by with_reducible assumption
        go_wp2
        go_ret
        exact ⟨ret_bool hT.out, (((Below.refl _ w).alloc (Nat.le_refl _) _).alloc (by simp) _).trans (hF.1.mono (by omega))⟩
    · by_cases hle : s ≤ v.d1
      · have hT : Hid (true = r) := Lib.hid (by rw [← hrH.out]; symm; apply decide_eq_true; simpa [Vm.get] using hle)
        go_enter Try.func66, Try.ntmps66
        go_wp2
        go_region_held3 (fun w' => KQ (w.heap.size + 2) ((w.alloc (.cells #[.int .u32 v.d0, .int .u32 v.d1, .int .u32 v.d2, .int .u32 v.d3, .int .u32 v.d4, .int .u32 v.d5, .int .u32 v.d6, .int .u32 v.d7] 25)).alloc (.cells #[.int .i64 1, .int .u32 s] 35)) w') (first
      | with_reducible exact kq_call (by assumption) (by simp) (by assumption)
      | with_reducible exact kq_grown (by assumption) (by simp) (by assumption) (by simp [Value.ownBlock])
      | ((with_reducible refine kq ?_); (repeat (first | (with_reducible exact Below.refl _ _) | (with_reducible refine Below.drew ?_) | (with_reducible refine Below.alloc ?_ (by simp) _) | (with_reducible refine Below.setCell ?_ (by simp) _) | (with_reducible exact (by assumption : KQ _ _ _).1))); done))
          (first | (go_at_call 82; refine (hch.out _).mono ?_; rintro e w1 ⟨rfl, hb1⟩))
        have hF : KQ (w.heap.size + 2) ((w.alloc (.cells #[.int .u32 v.d0, .int .u32 v.d1, .int .u32 v.d2, .int .u32 v.d3, .int .u32 v.d4, .int .u32 v.d5, .int .u32 v.d6, .int .u32 v.d7] 25)).alloc (.cells #[.int .i64 1, .int .u32 s] 35)) w1 := by with_reducible assumption
        go_wp2
        go_ret
        exact ⟨ret_bool hT.out, (((Below.refl _ w).alloc (Nat.le_refl _) _).alloc (by simp) _).trans (hF.1.mono (by omega))⟩
      · have hT : Hid (false = r) := Lib.hid (by rw [← hrH.out]; symm; apply decide_eq_false; simpa [Vm.get] using hle)
        have hdz : decide (s ≤ v.d1) = false := by simpa using hle
        go_enter Try.func66, Try.ntmps66
        go_wp2
        go_region_held3 (fun w' => KQ (w.heap.size + 2) ((w.alloc (.cells #[.int .u32 v.d0, .int .u32 v.d1, .int .u32 v.d2, .int .u32 v.d3, .int .u32 v.d4, .int .u32 v.d5, .int .u32 v.d6, .int .u32 v.d7] 25)).alloc (.cells #[.int .i64 1, .int .u32 s] 35)) w') (first
      | with_reducible exact kq_call (by assumption) (by simp) (by assumption)
      | with_reducible exact kq_grown (by assumption) (by simp) (by assumption) (by simp [Value.ownBlock])
      | ((with_reducible refine kq ?_); (repeat (first | (with_reducible exact Below.refl _ _) | (with_reducible refine Below.drew ?_) | (with_reducible refine Below.alloc ?_ (by simp) _) | (with_reducible refine Below.setCell ?_ (by simp) _) | (with_reducible exact (by assumption : KQ _ _ _).1))); done))
          (first | (go_at_call 82; refine (hch.out _).mono ?_; rintro e w1 ⟨rfl, hb1⟩))
        have hF : KQ (w.heap.size + 2) ((w.alloc (.cells #[.int .u32 v.d0, .int .u32 v.d1, .int .u32 v.d2, .int .u32 v.d3, .int .u32 v.d4, .int .u32 v.d5, .int .u32 v.d6, .int .u32 v.d7] 25)).alloc (.cells #[.int .i64 1, .int .u32 s] 35)) w1 := by with_reducible assumption
        go_wp2
        go_ret
        exact ⟨ret_bool hT.out, (((Below.refl _ w).alloc (Nat.le_refl _) _).alloc (by simp) _).trans (hF.1.mono (by omega))⟩
    · by_cases hle : s ≤ v.d2
      · have hT : Hid (true = r) := Lib.hid (by rw [← hrH.out]; symm; apply decide_eq_true; simpa [Vm.get] using hle)
        go_enter Try.func66, Try.ntmps66
        go_wp2
        go_region_held3 (fun w' => KQ (w.heap.size + 2) ((w.alloc (.cells #[.int .u32 v.d0, .int .u32 v.d1, .int .u32 v.d2, .int .u32 v.d3, .int .u32 v.d4, .int .u32 v.d5, .int .u32 v.d6, .int .u32 v.d7] 25)).alloc (.cells #[.int .i64 2, .int .u32 s] 35)) w') (first
      | with_reducible exact kq_call (by assumption) (by simp) (by assumption)
      | with_reducible exact kq_grown (by assumption) (by simp) (by assumption) (by simp [Value.ownBlock])
      | ((with_reducible refine kq ?_); (repeat (first | (with_reducible exact Below.refl _ _) | (with_reducible refine Below.drew ?_) | (with_reducible refine Below.alloc ?_ (by simp) _) | (with_reducible refine Below.setCell ?_ (by simp) _) | (with_reducible exact (by assumption : KQ _ _ _).1))); done))
          (first | (go_at_call 82; refine (hch.out _).mono ?_; rintro e w1 ⟨rfl, hb1⟩))
        have hF : KQ (w.heap.size + 2) ((w.alloc (.cells #[.int .u32 v.d0, .int .u32 v.d1, .int .u32 v.d2, .int .u32 v.d3, .int .u32 v.d4, .int .u32 v.d5, .int .u32 v.d6, .int .u32 v.d7] 25)).alloc (.cells #[.int .i64 2, .int .u32 s] 35)) w1 := by with_reducible assumption
        go_wp2
        go_ret
        exact ⟨ret_bool hT.out, (((Below.refl _ w).alloc (Nat.le_refl _) _).alloc (by simp) _).trans (hF.1.mono (by omega))⟩
      · have hT : Hid (false = r) := Lib.hid (by rw [← hrH.out]; symm; apply decide_eq_false; simpa [Vm.get] using hle)
        have hdz : decide (s ≤ v.d2) = false := by simpa using hle
        go_enter Try.func66, Try.ntmps66
        go_wp2
        go_region_held3 (fun w' => KQ (w.heap.size + 2) ((w.alloc (.cells #[.int .u32 v.d0, .int .u32 v.d1, .int .u32 v.d2, .int .u32 v.d3, .int .u32 v.d4, .int .u32 v.d5, .int .u32 v.d6, .int .u32 v.d7] 25)).alloc (.cells #[.int .i64 2, .int .u32 s] 35)) w') (first
      | with_reducible exact kq_call (by assumption) (by simp) (by assumption)
      | with_reducible exact kq_grown (by assumption) (by simp) (by assumption) (by simp [Value.ownBlock])
      | ((with_reducible refine kq ?_); (repeat (first | (with_reducible exact Below.refl _ _) | (with_reducible refine Below.drew ?_) | (with_reducible refine Below.alloc ?_ (by simp) _) | (with_reducible refine Below.setCell ?_ (by simp) _) | (with_reducible exact (by assumption : KQ _ _ _).1))); done))
          (first | (go_at_call 82; refine (hch.out _).mono ?_; rintro e w1 ⟨rfl, hb1⟩))
        have hF : KQ (w.heap.size + 2) ((w.alloc (.cells #[.int .u32 v.d0, .int .u32 v.d1, .int .u32 v.d2, .int .u32 v.d3, .int .u32 v.d4, .int .u32 v.d5, .int .u32 v.d6, .int .u32 v.d7] 25)).alloc (.cells #[.int .i64 2, .int .u32 s] 35)) w1 := by with_reducible assumption
        go_wp2
        go_ret
        exact ⟨ret_bool hT.out, (((Below.refl _ w).alloc (Nat.le_refl _) _).alloc (by simp) _).trans (hF.1.mono (by omega))⟩
    · by_cases hle : s ≤ v.d3
      · have hT : Hid (true = r) := Lib.hid (by rw [← hrH.out]; symm; apply decide_eq_true; simpa [Vm.get] using hle)
        go_enter Try.func66, Try.ntmps66
        go_wp2
        go_region_held3 (fun w' => KQ (w.heap.size + 2) ((w.alloc (.cells #[.int .u32 v.d0, .int .u32 v.d1, .int .u32 v.d2, .int .u32 v.d3, .int .u32 v.d4, .int .u32 v.d5, .int .u32 v.d6, .int .u32 v.d7] 25)).alloc (.cells #[.int .i64 3, .int .u32 s] 35)) w') (first
      | with_reducible exact kq_call (by assumption) (by simp) (by assumption)
      | with_reducible exact kq_grown (by assumption) (by simp) (by assumption) (by simp [Value.ownBlock])
      | ((with_reducible refine kq ?_); (repeat (first | (with_reducible exact Below.refl _ _) | (with_reducible refine Below.drew ?_) | (with_reducible refine Below.alloc ?_ (by simp) _) | (with_reducible refine Below.setCell ?_ (by simp) _) | (with_reducible exact (by assumption : KQ _ _ _).1))); done))
          (first | (go_at_call 82; refine (hch.out _).mono ?_; rintro e w1 ⟨rfl, hb1⟩))
        have hF : KQ (w.heap.size + 2) ((w.alloc (.cells #[.int .u32 v.d0, .int .u32 v.d1, .int .u32 v.d2, .int .u32 v.d3, .int .u32 v.d4, .int .u32 v.d5, .int .u32 v.d6, .int .u32 v.d7] 25)).alloc (.cells #[.int .i64 3, .int .u32 s] 35)) w1 := by with_reducible assumption
        go_wp2
        go_ret
        exact ⟨ret_bool hT.out, (((Below.refl _ w).alloc (Nat.le_refl _) _).alloc (by simp) _).trans (hF.1.mono (by omega))⟩
      · have hT : Hid (false = r) := Lib.hid (by rw [← hrH.out]; symm; apply decide_eq_false; simpa [Vm.get] using hle)
        have hdz : decide (s ≤ v.d3) = false := by simpa using hle
        go_enter Try.func66, Try.ntmps66
        go_wp2
        go_region_held3 (fun w' => KQ (w.heap.size + 2) ((w.alloc (.cells #[.int .u32 v.d0, .int .u32 v.d1, .int .u32 v.d2, .int .u32 v.d3, .int .u32 v.d4, .int .u32 v.d5, .int .u32 v.d6, .int .u32 v.d7] 25)).alloc (.cells #[.int .i64 3, .int .u32 s] 35)) w') (first
      | with_reducible exact kq_call (by assumption) (by simp) (by assumption)
      | with_reducible exact kq_grown (by assumption) (by simp) (by assumption) (by simp [Value.ownBlock])
      | ((with_reducible refine kq ?_); (repeat (first | (with_reducible exact Below.refl _ _) | (with_reducible refine Below.drew ?_) | (with_reducible refine Below.alloc ?_ (by simp) _) | (with_reducible refine Below.setCell ?_ (by simp) _) | (with_reducible exact (by assumption : KQ _ _ _).1))); done))
          (first | (go_at_call 82; refine (hch.out _).mono ?_; rintro e w1 ⟨rfl, hb1⟩))
        have hF : KQ (w.heap.size + 2) ((w.alloc (.cells #[.int .u32 v.d0, .int .u32 v.d1, .int .u32 v.d2, .int .u32 v.d3, .int .u32 v.d4, .int .u32 v.d5, .int .u32 v.d6, .int .u32 v.d7] 25)).alloc (.cells #[.int .i64 3, .int .u32 s] 35)) w1 := by with_reducible assumption
        go_wp2
        go_ret
        exact ⟨ret_bool hT.out, (((Below.refl _ w).alloc (Nat.le_refl _) _).alloc (by simp) _).trans (hF.1.mono (by omega))⟩
    · by_cases hle : s ≤ v.d4
      · have hT : Hid (true = r) := Lib.hid (by rw [← hrH.out]; symm; apply decide_eq_true; simpa [Vm.get] using hle)
        go_enter Try.func66, Try.ntmps66
        go_wp2
        go_region_held3 (fun w' => KQ (w.heap.size + 2) ((w.alloc (.cells #[.int .u32 v.d0, .int .u32 v.d1, .int .u32 v.d2, .int .u32 v.d3, .int .u32 v.d4, .int .u32 v.d5, .int .u32 v.d6, .int .u32 v.d7] 25)).alloc (.cells #[.int .i64 4, .int .u32 s] 35)) w') (first
      | with_reducible exact kq_call (by assumption) (by simp) (by assumption)
      | with_reducible exact kq_grown (by assumption) (by simp) (by assumption) (by simp [Value.ownBlock])
      | ((with_reducible refine kq ?_); (repeat (first | (with_reducible exact Below.refl _ _) | (with_reducible refine Below.drew ?_) | (with_reducible refine Below.alloc ?_ (by simp) _) | (with_reducible refine Below.setCell ?_ (by simp) _) | (with_reducible exact (by assumption : KQ _ _ _).1))); done))
          (first | (go_at_call 82; refine (hch.out _).mono ?_; rintro e w1 ⟨rfl, hb1⟩))
        have hF : KQ (w.heap.size + 2) ((w.alloc (.cells #[.int .u32 v.d0, .int .u32 v.d1, .int .u32 v.d2, .int .u32 v.d3, .int .u32 v.d4, .int .u32 v.d5, .int .u32 v.d6, .int .u32 v.d7] 25)).alloc (.cells #[.int .i64 4, .int .u32 s] 35)) w1 := by with_reducible assumption
        go_wp2
        go_ret
        exact ⟨ret_bool hT.out, (((Below.refl _ w).alloc (Nat.le_refl _) _).alloc (by simp) _).trans (hF.1.mono (by omega))⟩
      · have hT : Hid (false = r) := Lib.hid (by rw [← hrH.out]; symm; apply decide_eq_false; simpa [Vm.get] using hle)
        have hdz : decide (s ≤ v.d4) = false := by simpa using hle
        go_enter Try.func66, Try.ntmps66
        go_wp2
        go_region_held3 (fun w' => KQ (w.heap.size + 2) ((w.alloc (.cells #[.int .u32 v.d0, .int .u32 v.d1, .int .u32 v.d2, .int .u32 v.d3, .int .u32 v.d4, .int .u32 v.d5, .int .u32 v.d6, .int .u32 v.d7] 25)).alloc (.cells #[.int .i64 4, .int .u32 s] 35)) w') (first
      | with_reducible exact kq_call (by assumption) (by simp) (by assumption)
      | with_reducible exact kq_grown (by assumption) (by simp) (by assumption) (by simp [Value.ownBlock])
      | ((with_reducible refine kq ?_); (repeat (first | (with_reducible exact Below.refl _ _) | (with_reducible refine Below.drew ?_) | (with_reducible refine Below.alloc ?_ (by simp) _) | (with_reducible refine Below.setCell ?_ (by simp) _) | (with_reducible exact (by assumption : KQ _ _ _).1))); done))
          (first | (go_at_call 82; refine (hch.out _).mono ?_; rintro e w1 ⟨rfl, hb1⟩))
        have hF : KQ (w.heap.size + 2) ((w.alloc (.cells #[.int .u32 v.d0, .int .u32 v.d1, .int .u32 v.d2, .int .u32 v.d3, .int .u32 v.d4, .int .u32 v.d5, .int .u32 v.d6, .int .u32 v.d7] 25)).alloc (.cells #[.int .i64 4, .int .u32 s] 35)) w1 := by with_reducible assumption
        go_wp2
        go_ret
        exact ⟨ret_bool hT.out, (((Below.refl _ w).alloc (Nat.le_refl _) _).alloc (by simp) _).trans (hF.1.mono (by omega))⟩
    · by_cases hle : s ≤ v.d5
      · have hT : Hid (true = r) := Lib.hid (by rw [← hrH.out]; symm; apply decide_eq_true; simpa [Vm.get] using hle)
        go_enter Try.func66, Try.ntmps66
        go_wp2
        go_region_held3 (fun w' => KQ (w.heap.size + 2) ((w.alloc (.cells #[.int .u32 v.d0, .int .u32 v.d1, .int .u32 v.d2, .int .u32 v.d3, .int .u32 v.d4, .int .u32 v.d5, .int .u32 v.d6, .int .u32 v.d7] 25)).alloc (.cells #[.int .i64 5, .int .u32 s] 35)) w') (first
      | with_reducible exact kq_call (by assumption) (by simp) (by assumption)
      | with_reducible exact kq_grown (by assumption) (by simp) (by assumption) (by simp [Value.ownBlock])
      | ((with_reducible refine kq ?_); (repeat (first | (with_reducible exact Below.refl _ _) | (with_reducible refine Below.drew ?_) | (with_reducible refine Below.alloc ?_ (by simp) _) | (with_reducible refine Below.setCell ?_ (by simp) _) | (with_reducible exact (by assumption : KQ _ _ _).1))); done))
          (first | (go_at_call 82; refine (hch.out _).mono ?_; rintro e w1 ⟨rfl, hb1⟩))
        have hF : KQ (w.heap.size + 2) ((w.alloc (.cells #[.int .u32 v.d0, .int .u32 v.d1, .int .u32 v.d2, .int .u32 v.d3, .int .u32 v.d4, .int .u32 v.d5, .int .u32 v.d6, .int .u32 v.d7] 25)).alloc (.cells #[.int .i64 5, .int .u32 s] 35)) w1 := by with_reducible assumption
        go_wp2
        go_ret
        exact ⟨ret_bool hT.out, (((Below.refl _ w).alloc (Nat.le_refl _) _).alloc (by simp) _).trans (hF.1.mono (by omega))⟩
      · have hT : Hid (false = r) := Lib.hid (by rw [← hrH.out]; symm; apply decide_eq_false; simpa [Vm.get] using hle)
        have hdz : decide (s ≤ v.d5) = false := by simpa using hle
        go_enter Try.func66, Try.ntmps66
        go_wp2
        go_region_held3 (fun w' => KQ (w.heap.size + 2) ((w.alloc (.cells #[.int .u32 v.d0, .int .u32 v.d1, .int .u32 v.d2, .int .u32 v.d3, .int .u32 v.d4, .int .u32 v.d5, .int .u32 v.d6, .int .u32 v.d7] 25)).alloc (.cells #[.int .i64 5, .int .u32 s] 35)) w') (first
      | with_reducible exact kq_call (by assumption) (by simp) (by assumption)
      | with_reducible exact kq_grown (by assumption) (by simp) (by assumption) (by simp [Value.ownBlock])
      | ((with_reducible refine kq ?_); (repeat (first | (with_reducible exact Below.refl _ _) | (with_reducible refine Below.drew ?_) | (with_reducible refine Below.alloc ?_ (by simp) _) | (with_reducible refine Below.setCell ?_ (by simp) _) | (with_reducible exact (by assumption : KQ _ _ _).1))); done))
          (first | (go_at_call 82; refine (hch.out _).mono ?_; rintro e w1 ⟨rfl, hb1⟩))
        have hF : KQ (w.heap.size + 2) ((w.alloc (.cells #[.int .u32 v.d0, .int .u32 v.d1, .int .u32 v.d2, .int .u32 v.d3, .int .u32 v.d4, .int .u32 v.d5, .int .u32 v.d6, .int .u32 v.d7] 25)).alloc (.cells #[.int .i64 5, .int .u32 s] 35)) w1 := by with_reducible assumption
        go_wp2
        go_ret
        exact ⟨ret_bool hT.out, (((Below.refl _ w).alloc (Nat.le_refl _) _).alloc (by simp) _).trans (hF.1.mono (by omega))⟩
    · by_cases hle : s ≤ v.d6
      · have hT : Hid (true = r) := Lib.hid (by rw [← hrH.out]; symm; apply decide_eq_true; simpa [Vm.get] using hle)
        go_enter Try.func66, Try.ntmps66
        go_wp2
        go_region_held3 (fun w' => KQ (w.heap.size + 2) ((w.alloc (.cells #[.int .u32 v.d0, .int .u32 v.d1, .int .u32 v.d2, .int .u32 v.d3, .int .u32 v.d4, .int .u32 v.d5, .int .u32 v.d6, .int .u32 v.d7] 25)).alloc (.cells #[.int .i64 6, .int .u32 s] 35)) w') (first
      | with_reducible exact kq_call (by assumption) (by simp) (by assumption)
      | with_reducible exact kq_grown (by assumption) (by simp) (by assumption) (by simp [Value.ownBlock])
      | ((with_reducible refine kq ?_); (repeat (first | (with_reducible exact Below.refl _ _) | (with_reducible refine Below.drew ?_) | (with_reducible refine Below.alloc ?_ (by simp) _) | (with_reducible refine Below.setCell ?_ (by simp) _) | (with_reducible exact (by assumption : KQ _ _ _).1))); done))
          (first | (go_at_call 82; refine (hch.out _).mono ?_; rintro e w1 ⟨rfl, hb1⟩))
        have hF : KQ (w.heap.size + 2) ((w.alloc (.cells #[.int .u32 v.d0, .int .u32 v.d1, .int .u32 v.d2, .int .u32 v.d3, .int .u32 v.d4, .int .u32 v.d5, .int .u32 v.d6, .int .u32 v.d7] 25)).alloc (.cells #[.int .i64 6, .int .u32 s] 35)) w1 := by with_reducible assumption
        go_wp2
        go_ret
        exact ⟨ret_bool hT.out, (((Below.refl _ w).alloc (Nat.le_refl _) _).alloc (by simp) _).trans (hF.1.mono (by omega))⟩
      · have hT : Hid (false = r) := Lib.hid (by rw [← hrH.out]; symm; apply decide_eq_false; simpa [Vm.get] using hle)
        have hdz : decide (s ≤ v.d6) = false := by simpa using hle
        go_enter Try.func66, Try.ntmps66
        go_wp2
        go_region_held3 (fun w' => KQ (w.heap.size + 2) ((w.alloc (.cells #[.int .u32 v.d0, .int .u32 v.d1, .int .u32 v.d2, .int .u32 v.d3, .int .u32 v.d4, .int .u32 v.d5, .int .u32 v.d6, .int .u32 v.d7] 25)).alloc (.cells #[.int .i64 6, .int .u32 s] 35)) w') (first
      | with_reducible exact kq_call (by assumption) (by simp) (by assumption)
      | with_reducible exact kq_grown (by assumption) (by simp) (by assumption) (by simp [Value.ownBlock])
      | ((with_reducible refine kq ?_); (repeat (first | (with_reducible exact Below.refl _ _) | (with_reducible refine Below.drew ?_) | (with_reducible refine Below.alloc ?_ (by simp) _) | (with_reducible refine Below.setCell ?_ (by simp) _) | (with_reducible exact (by assumption : KQ _ _ _).1))); done))
          (first | (go_at_call 82; refine (hch.out _).mono ?_; rintro e w1 ⟨rfl, hb1⟩))
        have hF : KQ (w.heap.size + 2) ((w.alloc (.cells #[.int .u32 v.d0, .int .u32 v.d1, .int .u32 v.d2, .int .u32 v.d3, .int .u32 v.d4, .int .u32 v.d5, .int .u32 v.d6, .int .u32 v.d7] 25)).alloc (.cells #[.int .i64 6, .int .u32 s] 35)) w1 := by with_reducible assumption
        go_wp2
        go_ret
        exact ⟨ret_bool hT.out, (((Below.refl _ w).alloc (Nat.le_refl _) _).alloc (by simp) _).trans (hF.1.mono (by omega))⟩
    · by_cases hle : s ≤ v.d7
      · have hT : Hid (true = r) := Lib.hid (by rw [← hrH.out]; symm; apply decide_eq_true; simpa [Vm.get] using hle)
        go_enter Try.func66, Try.ntmps66
        go_wp2
        go_region_held3 (fun w' => KQ (w.heap.size + 2) ((w.alloc (.cells #[.int .u32 v.d0, .int .u32 v.d1, .int .u32 v.d2, .int .u32 v.d3, .int .u32 v.d4, .int .u32 v.d5, .int .u32 v.d6, .int .u32 v.d7] 25)).alloc (.cells #[.int .i64 7, .int .u32 s] 35)) w') (first
      | with_reducible exact kq_call (by assumption) (by simp) (by assumption)
      | with_reducible exact kq_grown (by assumption) (by simp) (by assumption) (by simp [Value.ownBlock])
      | ((with_reducible refine kq ?_); (repeat (first | (with_reducible exact Below.refl _ _) | (with_reducible refine Below.drew ?_) | (with_reducible refine Below.alloc ?_ (by simp) _) | (with_reducible refine Below.setCell ?_ (by simp) _) | (with_reducible exact (by assumption : KQ _ _ _).1))); done))
          (first | (go_at_call 82; refine (hch.out _).mono ?_; rintro e w1 ⟨rfl, hb1⟩))
        have hF : KQ (w.heap.size + 2) ((w.alloc (.cells #[.int .u32 v.d0, .int .u32 v.d1, .int .u32 v.d2, .int .u32 v.d3, .int .u32 v.d4, .int .u32 v.d5, .int .u32 v.d6, .int .u32 v.d7] 25)).alloc (.cells #[.int .i64 7, .int .u32 s] 35)) w1 := by with_reducible assumption
        go_wp2
        go_ret
        exact ⟨ret_bool hT.out, (((Below.refl _ w).alloc (Nat.le_refl _) _).alloc (by simp) _).trans (hF.1.mono (by omega))⟩
      · have hT : Hid (false = r) := Lib.hid (by rw [← hrH.out]; symm; apply decide_eq_false; simpa [Vm.get] using hle)
        have hdz : decide (s ≤ v.d7) = false := by simpa using hle
        go_enter Try.func66, Try.ntmps66
        go_wp2
        go_region_held3 (fun w' => KQ (w.heap.size + 2) ((w.alloc (.cells #[.int .u32 v.d0, .int .u32 v.d1, .int .u32 v.d2, .int .u32 v.d3, .int .u32 v.d4, .int .u32 v.d5, .int .u32 v.d6, .int .u32 v.d7] 25)).alloc (.cells #[.int .i64 7, .int .u32 s] 35)) w') (first
      | with_reducible exact kq_call (by assumption) (by simp) (by assumption)
      | with_reducible exact kq_grown (by assumption) (by simp) (by assumption) (by simp [Value.ownBlock])
      | ((with_reducible refine kq ?_); (repeat (first | (with_reducible exact Below.refl _ _) | (with_reducible refine Below.drew ?_) | (with_reducible refine Below.alloc ?_ (by simp) _) | (with_reducible refine Below.setCell ?_ (by simp) _) | (with_reducible exact (by assumption : KQ _ _ _).1))); done))
          (first | (go_at_call 82; refine (hch.out _).mono ?_; rintro e w1 ⟨rfl, hb1⟩))
        have hF : KQ (w.heap.size + 2) ((w.alloc (.cells #[.int .u32 v.d0, .int .u32 v.d1, .int .u32 v.d2, .int .u32 v.d3, .int .u32 v.d4, .int .u32 v.d5, .int .u32 v.d6, .int .u32 v.d7] 25)).alloc (.cells #[.int .i64 7, .int .u32 s] 35)) w1 := by with_reducible assumption
        go_wp2
        go_ret
        exact ⟨ret_bool hT.out, (((Below.refl _ w).alloc (Nat.le_refl _) _).alloc (by simp) _).trans (hF.1.mono (by omega))⟩
end Go.Proofs.Ythfjbbijcemmoaa
