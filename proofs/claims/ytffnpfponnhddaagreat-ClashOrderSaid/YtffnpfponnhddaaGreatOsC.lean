/- Binary search for a tag; strictly; sets of additions: what is wrong with one, both checks. -/
import Derived.Test.YtffnpfponnhddaaGreatN09
namespace Go.Proofs.YtffnpfponnhddaaGreat
open Go.RowKit

/-- A function value that compares additions by their tags. -/
def CmpA (g : Nat) (lb : Array Value) (B : Nat) (w : World) (xs : List Am) : Prop :=
  ∀ x ∈ xs, ∀ y ∈ xs, ∀ w', Below B w w' → Calls Tryz.prog g (#[.agg #[.int .i64 x.1.1.1, .int .u32 x.1.1.2, .int .i64 x.1.2, .string (bs x.2)], .agg #[.int .i64 y.1.1.1, .int .u32 y.1.1.2, .int .i64 y.1.2, .string (bs y.2)]] ++ lb) w' fun e w'' => e = .returned (.int .i64 (cmpT x.1 y.1)) ∧ Below w'.heap.size w' w''
set_option maxRecDepth 100000 in
set_option maxHeartbeats 1000000 in
theorem bsT_gen (g : Nat) (lb : Array Value) (eg : ∀ args w, (callFunc g args).run Tryz.prog w = .ok (.enter g args) w) (B : Nat) (A : Option Addr) (n c : Nat) (xs : List Tm) (t : Tm) (w : World) (hA : RdT w w.heap.size A n xs) (hn : n ≤ 1099511627776) (hasc : ascTP xs)
    (hp : ∀ x ∈ xs, ∀ w', Below B w w' → Calls Tryz.prog g (#[.agg #[.int .i64 x.1.1, .int .u32 x.1.2, .int .i64 x.2], .agg #[.int .i64 t.1.1, .int .u32 t.1.2, .int .i64 t.2]] ++ lb) w' fun e w'' => e = .returned (.int .i64 (cmpT x t)) ∧ Below w'.heap.size w' w'') (hB : B ≤ w.heap.size) :
    Calls Tryz.prog 80 #[.slice A n c, .agg #[.int .i64 t.1.1, .int .u32 t.1.2, .int .i64 t.2], .func (.func g) #[] lb] w
      fun e w' => e = .returned (.tuple #[.int .i64 (posT xs t : Int), .bool (xs.contains t)]) ∧ Below w.heap.size w w' := by
  have hl := hA.len
  have hb0 : Below w.heap.size w (w.alloc (.cells #[.int .i64 t.1.1, .int .u32 t.1.2, .int .i64 t.2] 45)) := (Below.refl _ w).alloc (Nat.le_refl _) _
  have hbx := tbox t w
  generalize hW : w.alloc (.cells #[.int .i64 t.1.1, .int .u32 t.1.2, .int .i64 t.2] 45) = W at hb0 hbx
  have hltx := blk_lt hbx
  have hbxH := Lib.hid hbx
  have hps := posT_le xs t
  first | rw [List.length_map, hl] at hps | rw [hl] at hps
  have hbef := Lib.hid (fun (i : Nat) (x : Tm) (h : xs[i]? = some x) => ascT_before hasc (t := t) (i := i) (x := x) (by first | exact h | (rw [List.getElem?_map, h]; rfl)))
  have hhas := Lib.hid (posT_has hasc (t := t))
  generalize hP : posT xs t = P at hps hbef hhas ⊢
  generalize xs.contains t = r at hhas ⊢
  have hpH := Lib.hid hp
  have hlH := Lib.hid hl
  have hAW := Lib.hid (fun w' (h : Below w.heap.size w w') => (hA.below h).more h.size)
  clear hp hl hasc hP hbx hA
  go_enter Tryz.func80, Tryz.ntmps80
  go_wp2_with fail
  try rw [hW]
  clear hW
  go_loopg [9, 10] (n + 1) (fun g i j wr => ∃ p q : Nat, p ≤ P ∧ P ≤ q ∧ q ≤ n ∧ g = q - p + 1 ∧ i = .int .i64 (p : Int) ∧ j = .int .i64 (q : Int) ∧ Below W.heap.size W wr)
  case atStart => exact ⟨0, n, Nat.zero_le _, hps, Nat.le_refl _, rfl, rfl, rfl, Below.refl _ _⟩
  case round =>
    obtain ⟨p, q, hpP, hPq, hqn, rfl, rfl, rfl, hbr⟩ := hrel
    have hz := hbr.size
    have hz0 := hb0.size
    have hbw : Below w.heap.size w wr := hb0.trans (hbr.mono hz0)
    have hbx1 := blk_below hbxH.out hbr
    have hltx1 := blk_lt hbx1
    have t0 := blk_cell hbx1 0
    have t1 := blk_cell hbx1 1
    have t2 := blk_cell hbx1 2
    simp at t0 t1 t2
    clear hbx1
    by_cases hlt : p < q
    · obtain ⟨h, hh⟩ : ∃ h : Nat, h = (p + q) / 2 := ⟨_, rfl⟩
      have hph : p ≤ h := by omega
      have hhq : h < q := by omega
      have hhn : h < n := by omega
      have hlti : (p : Int) < (q : Int) := by omega
      have hmid : ((p : Int) + (q : Int)) / 2 = (h : Int) := by omega
      have hbA2' := hb0.size
      clear hh
      obtain ⟨bA, oA, x, rfl, hbA, hxx, hcp⟩ := (hAW.out wr hbw).at_ hhn
      have p0 := hcp 0 _ rfl
      have p1 := hcp 1 _ rfl
      have p2 := hcp 2 _ rfl
      rw [Nat.add_zero] at p0
      clear hcp
      have hbf := Lib.hid (hbef.out h x hxx)
      have hcm := fun w' (hb' : KQ wr.heap.size wr w') => hpH.out x (List.mem_of_getElem? hxx) w' ((hbw.trans (hb'.1.mono hbw.size)).mono hB)
      have hxH := Lib.hid hxx
      clear hxx
      by_cases hc : cmpT x t < 0
      · have h3 : h < P := hbf.out.1 hc
        generalize cmpT x t = z at hcm hc
        have hcmH := Lib.hid hcm
        clear hcm hbf
        have hq0 : KQ wr.heap.size wr wr := kq (Below.refl _ _)
        go_wp2_with fail
        go_region_held3 (fun w' => KQ wr.heap.size wr w') (first
      | with_reducible exact kq_call (by assumption) (by simp) (by assumption)
      | with_reducible exact kq_alloc (by with_reducible assumption) (Nat.le_refl _) _
      | with_reducible exact kq_alloc (kq_drew (by assumption)) (Nat.le_refl _) _
      | ((with_reducible refine kq ?_); (repeat (first | (with_reducible exact Below.refl _ _) | (with_reducible refine Below.drew ?_) | (with_reducible refine Below.alloc ?_ (by simp) _) | (with_reducible refine Below.setCell ?_ (by simp) _) | (with_reducible exact (by assumption : KQ _ _ _).1))); done))
          (first | ((with_reducible refine (hcmH.out _ (by with_reducible assumption)).mono ?_); rintro e w1 ⟨rfl, hb1⟩))
        have hF : KQ wr.heap.size wr w1 := by with_reducible assumption
        have hG := hbr.trans (hF.1.mono hz)
        clear hF
        go_wp2
        go_roundg (q - (h + 1) + 1)
        case measure => omega
        case rel => exact ⟨h + 1, q, by omega, hPq, hqn, rfl, by go_num, rfl, hG⟩
      · have h3 : ¬ h < P := fun e => hc (hbf.out.2 e)
        have hcd : decide (cmpT x t < 0) = false := by simpa using hc
        generalize cmpT x t = z at hcm hcd
        have hcmH := Lib.hid hcm
        clear hcm hbf hc
        have hq0 : KQ wr.heap.size wr wr := kq (Below.refl _ _)
        go_wp2_with fail
        go_region_held3 (fun w' => KQ wr.heap.size wr w') (first
      | with_reducible exact kq_call (by assumption) (by simp) (by assumption)
      | with_reducible exact kq_alloc (by with_reducible assumption) (Nat.le_refl _) _
      | with_reducible exact kq_alloc (kq_drew (by assumption)) (Nat.le_refl _) _
      | ((with_reducible refine kq ?_); (repeat (first | (with_reducible exact Below.refl _ _) | (with_reducible refine Below.drew ?_) | (with_reducible refine Below.alloc ?_ (by simp) _) | (with_reducible refine Below.setCell ?_ (by simp) _) | (with_reducible exact (by assumption : KQ _ _ _).1))); done))
          (first | ((with_reducible refine (hcmH.out _ (by with_reducible assumption)).mono ?_); rintro e w1 ⟨rfl, hb1⟩))
        have hF : KQ wr.heap.size wr w1 := by with_reducible assumption
        have hG := hbr.trans (hF.1.mono hz)
        clear hF
        go_wp2
        go_roundg (h - p + 1)
        case measure => omega
        case rel => exact ⟨p, h, hpP, by omega, by omega, rfl, rfl, rfl, hG⟩
    · obtain rfl : p = q := by omega
      obtain rfl : p = P := by omega
      by_cases hlt2 : p < n
      · have hlti : (p : Int) < (n : Int) := by omega
        obtain ⟨bA, oA, x, rfl, hbA, hxx, hcp⟩ := (hAW.out wr hbw).at_ hlt2
        have p0 := hcp 0 _ rfl
        have p1 := hcp 1 _ rfl
        have p2 := hcp 2 _ rfl
        rw [Nat.add_zero] at p0
        clear hcp
        have hcm := fun w' (hb' : KQ wr.heap.size wr w') => hpH.out x (List.mem_of_getElem? hxx) w' ((hbw.trans (hb'.1.mono hbw.size)).mono hB)
        have hT : Hid (decide (cmpT x t = 0) = r) := Lib.hid (by first | (rw [hhas.out, List.getElem?_map, hxx]; rfl) | (rw [hhas.out, hxx]))
        clear hxx
        generalize cmpT x t = z at hcm hT
        have hcmH := Lib.hid hcm
        clear hcm hbef hhas
        have hq0 : KQ wr.heap.size wr wr := kq (Below.refl _ _)
        by_cases hz0 : z = 0
        · subst hz0
          rw [show decide ((0 : Int) = 0) = true from rfl] at hT
          go_wp2_with fail
          go_region_held3 (fun w' => KQ wr.heap.size wr w') (first
      | with_reducible exact kq_call (by assumption) (by simp) (by assumption)
      | with_reducible exact kq_alloc (by with_reducible assumption) (Nat.le_refl _) _
      | with_reducible exact kq_alloc (kq_drew (by assumption)) (Nat.le_refl _) _
      | ((with_reducible refine kq ?_); (repeat (first | (with_reducible exact Below.refl _ _) | (with_reducible refine Below.drew ?_) | (with_reducible refine Below.alloc ?_ (by simp) _) | (with_reducible refine Below.setCell ?_ (by simp) _) | (with_reducible exact (by assumption : KQ _ _ _).1))); done))
            (first | ((with_reducible refine (hcmH.out _ (by with_reducible assumption)).mono ?_); rintro e w1 ⟨rfl, hb1⟩))
          have hF : KQ wr.heap.size wr w1 := by with_reducible assumption
          have hG := hbw.trans (hF.1.mono hbw.size)
          clear hF
          go_wp2
          exact bodyPost_ret (v := .tuple #[.int .i64 (p : Int), .bool true]) (by simp [results, Tryz.results80, go_sem]) rfl ⟨by rw [hT.out], hG⟩
        · have hzd : (z == 0) = false := by simpa using hz0
          rw [show decide (z = 0) = false from decide_eq_false hz0] at hT
          clear hz0
          go_wp2_with fail
          go_region_held3 (fun w' => KQ wr.heap.size wr w') (first
      | with_reducible exact kq_call (by assumption) (by simp) (by assumption)
      | with_reducible exact kq_alloc (by with_reducible assumption) (Nat.le_refl _) _
      | with_reducible exact kq_alloc (kq_drew (by assumption)) (Nat.le_refl _) _
      | ((with_reducible refine kq ?_); (repeat (first | (with_reducible exact Below.refl _ _) | (with_reducible refine Below.drew ?_) | (with_reducible refine Below.alloc ?_ (by simp) _) | (with_reducible refine Below.setCell ?_ (by simp) _) | (with_reducible exact (by assumption : KQ _ _ _).1))); done))
            (first | ((with_reducible refine (hcmH.out _ (by with_reducible assumption)).mono ?_); rintro e w1 ⟨rfl, hb1⟩))
          have hF : KQ wr.heap.size wr w1 := by with_reducible assumption
          have hG := hbw.trans (hF.1.mono hbw.size)
          clear hF
          go_wp2
          exact bodyPost_ret (v := .tuple #[.int .i64 (p : Int), .bool false]) (by simp [results, Tryz.results80, go_sem]) rfl ⟨by rw [hT.out], hG⟩
      · have hnlt : ¬ (p : Int) < (n : Int) := by omega
        have hT : Hid (false = r) := Lib.hid (by rw [hhas.out, List.getElem?_eq_none (by first | (rw [List.length_map, hlH.out]; omega) | (rw [hlH.out]; omega))])
        clear hbef hhas
        have hnd : decide ((p : Int) < (n : Int)) = false := decide_eq_false hnlt
        go_wp2_with fail
        refine wp_region_M (fun w' => KQ wr.heap.size wr w') (fun _ => True) 99 (by kernel_rfl) (kq (Below.refl _ _).drew) trivial ?_
        intro hcl
        have hC : KQ wr.heap.size wr wr.drew := kq (Below.refl _ _).drew
        have hE := trivial
        (refine wpM_take (i := 0) (v := ?_) rfl (by kernel_rfl) (by kernel_rfl) (by kernel_rfl) (by decide) (fun _ _ _ h => h) hcl hC (fun _ => hE) (Or.inl ⟨by rfl, ?_⟩) ?_; rotate_left; (· (intro w hSw; (try dsimp only at hSw); go_simp; (try with_reducible rfl))); clear hcl; intro hcl; (try simp only [Act.put, List.getElem_toArray, List.getElem_cons_zero, List.setIfInBounds_toArray, List.set_cons_zero, List.set_cons_succ]))
        (refine wpM_take (i := 1) (v := ?_) rfl (by kernel_rfl) (by kernel_rfl) (by kernel_rfl) (by decide) (fun _ _ _ h => h) hcl hC (fun _ => hE) (Or.inl ⟨by rfl, ?_⟩) ?_; rotate_left; (· (intro w hSw; (try dsimp only at hSw); go_simp; (try with_reducible rfl))); clear hcl; intro hcl; (try simp only [Act.put, List.getElem_toArray, List.getElem_cons_zero, List.getElem_cons_succ, List.setIfInBounds_toArray, List.set_cons_zero, List.set_cons_succ]))
        (refine wpM_take (i := 2) (v := ?_) rfl (by kernel_rfl) (by kernel_rfl) (by kernel_rfl) (by decide) (fun _ _ _ h => h) hcl hC (fun _ => hE) (Or.inl ⟨by rfl, ?_⟩) ?_; rotate_left; (· (intro w hSw; (try dsimp only at hSw); go_simp; (try with_reducible rfl))); clear hcl; intro hcl; (try simp only [Act.put, List.getElem_toArray, List.getElem_cons_zero, List.getElem_cons_succ, List.setIfInBounds_toArray, List.set_cons_zero, List.set_cons_succ]))
        (refine wpM_take (i := 3) (v := ?_) rfl (by kernel_rfl) (by kernel_rfl) (by kernel_rfl) (by decide) (fun _ _ _ h => h) hcl hC (fun _ => hE) (Or.inl ⟨by rfl, ?_⟩) ?_; rotate_left; (· (intro w hSw; (try dsimp only at hSw); go_simp; (try with_reducible rfl))); clear hcl; intro hcl; (try simp only [Act.put, List.getElem_toArray, List.getElem_cons_zero, List.getElem_cons_succ, List.setIfInBounds_toArray, List.set_cons_zero, List.set_cons_succ]))
        (refine wpM_take (i := 4) (v := ?_) rfl (by kernel_rfl) (by kernel_rfl) (by kernel_rfl) (by decide) (fun _ _ _ h => h) hcl hC (fun _ => hE) (Or.inl ⟨by rfl, ?_⟩) ?_; rotate_left; (· (intro w hSw; (try dsimp only at hSw); go_simp; (try with_reducible rfl))); clear hcl; intro hcl; (try simp only [Act.put, List.getElem_toArray, List.getElem_cons_zero, List.getElem_cons_succ, List.setIfInBounds_toArray, List.set_cons_zero, List.set_cons_succ]))
        (refine wpM_take (i := 5) (v := undef) rfl (by kernel_rfl) (by kernel_rfl) (by kernel_rfl) (by decide) (fun _ _ _ h => h) hcl hC (fun _ => hE) (Or.inr ⟨by rfl, rfl⟩) ?_; clear hcl; intro hcl; (try simp only [Act.put, List.getElem_toArray, List.getElem_cons_zero, List.getElem_cons_succ, List.setIfInBounds_toArray, List.set_cons_zero, List.set_cons_succ]))
        (refine wpM_take (i := 6) (v := undef) rfl (by kernel_rfl) (by kernel_rfl) (by kernel_rfl) (by decide) (fun _ _ _ h => h) hcl hC (fun _ => hE) (Or.inr ⟨by rfl, rfl⟩) ?_; clear hcl; intro hcl; (try simp only [Act.put, List.getElem_toArray, List.getElem_cons_zero, List.getElem_cons_succ, List.setIfInBounds_toArray, List.set_cons_zero, List.set_cons_succ]))
        (refine wpM_take (i := 7) (v := undef) rfl (by kernel_rfl) (by kernel_rfl) (by kernel_rfl) (by decide) (fun _ _ _ h => h) hcl hC (fun _ => hE) (Or.inr ⟨by rfl, rfl⟩) ?_; clear hcl; intro hcl; (try simp only [Act.put, List.getElem_toArray, List.getElem_cons_zero, List.getElem_cons_succ, List.setIfInBounds_toArray, List.set_cons_zero, List.set_cons_succ]))
        (refine wpM_take (i := 8) (v := undef) rfl (by kernel_rfl) (by kernel_rfl) (by kernel_rfl) (by decide) (fun _ _ _ h => h) hcl hC (fun _ => hE) (Or.inr ⟨by rfl, rfl⟩) ?_; clear hcl; intro hcl; (try simp only [Act.put, List.getElem_toArray, List.getElem_cons_zero, List.getElem_cons_succ, List.setIfInBounds_toArray, List.set_cons_zero, List.set_cons_succ]))
        (refine wpM_take (i := 9) (v := undef) rfl (by kernel_rfl) (by kernel_rfl) (by kernel_rfl) (by decide) (fun _ _ _ h => h) hcl hC (fun _ => hE) (Or.inr ⟨by rfl, rfl⟩) ?_; clear hcl; intro hcl; (try simp only [Act.put, List.getElem_toArray, List.getElem_cons_zero, List.getElem_cons_succ, List.setIfInBounds_toArray, List.set_cons_zero, List.set_cons_succ]))
        (refine wpM_take (i := 10) (v := undef) rfl (by kernel_rfl) (by kernel_rfl) (by kernel_rfl) (by decide) (fun _ _ _ h => h) hcl hC (fun _ => hE) (Or.inr ⟨by rfl, rfl⟩) ?_; clear hcl; intro hcl; (try simp only [Act.put, List.getElem_toArray, List.getElem_cons_zero, List.getElem_cons_succ, List.setIfInBounds_toArray, List.set_cons_zero, List.set_cons_succ]))
        (refine wpM_take (i := 11) (v := undef) rfl (by kernel_rfl) (by kernel_rfl) (by kernel_rfl) (by decide) (fun _ _ _ h => h) hcl hC (fun _ => hE) (Or.inr ⟨by rfl, rfl⟩) ?_; clear hcl; intro hcl; (try simp only [Act.put, List.getElem_toArray, List.getElem_cons_zero, List.getElem_cons_succ, List.setIfInBounds_toArray, List.set_cons_zero, List.set_cons_succ]))
        (refine wpM_take (i := 12) (v := undef) rfl (by kernel_rfl) (by kernel_rfl) (by kernel_rfl) (by decide) (fun _ _ _ h => h) hcl hC (fun _ => hE) (Or.inr ⟨by rfl, rfl⟩) ?_; clear hcl; intro hcl; (try simp only [Act.put, List.getElem_toArray, List.getElem_cons_zero, List.getElem_cons_succ, List.setIfInBounds_toArray, List.set_cons_zero, List.set_cons_succ]))
        (refine wpM_take (i := 13) (v := ?_) rfl (by kernel_rfl) (by kernel_rfl) (by kernel_rfl) (by decide) (fun _ _ _ h => h) hcl hC (fun _ => hE) (Or.inl ⟨by rfl, ?_⟩) ?_; rotate_left; (· (intro w hSw; (try dsimp only at hSw); go_simp; (try with_reducible rfl))); clear hcl; intro hcl; (try simp only [Act.put, List.getElem_toArray, List.getElem_cons_zero, List.getElem_cons_succ, List.setIfInBounds_toArray, List.set_cons_zero, List.set_cons_succ]))
        (refine wpM_take (i := 14) (v := ?_) rfl (by kernel_rfl) (by kernel_rfl) (by kernel_rfl) (by decide) (fun _ _ _ h => h) hcl hC (fun _ => hE) (Or.inl ⟨by rfl, ?_⟩) ?_; rotate_left; (· (intro w hSw; (try dsimp only at hSw); go_simp; (try with_reducible rfl))); clear hcl; intro hcl; (try simp only [Act.put, List.getElem_toArray, List.getElem_cons_zero, List.getElem_cons_succ, List.setIfInBounds_toArray, List.set_cons_zero, List.set_cons_succ]))
        (refine wpM_take (i := 15) (v := ?_) rfl (by kernel_rfl) (by kernel_rfl) (by kernel_rfl) (by decide) (fun _ _ _ h => h) hcl hC (fun _ => hE) (Or.inl ⟨by rfl, ?_⟩) ?_; rotate_left; (· (intro w hSw; (try dsimp only at hSw); go_simp; (try with_reducible rfl))); clear hcl; intro hcl; (try simp only [Act.put, List.getElem_toArray, List.getElem_cons_zero, List.getElem_cons_succ, List.setIfInBounds_toArray, List.set_cons_zero, List.set_cons_succ]))
        refine wpM_done (by kernel_rfl) ?_
        clear hcl
        try simp only [List.getElem_toArray, List.getElem_cons_zero, List.getElem_cons_succ, List.setIfInBounds_toArray, List.set_cons_zero, List.set_cons_succ]
        go_wp2
        exact bodyPost_ret (v := .tuple #[.int .i64 (p : Int), .bool false]) (by simp [results, Tryz.results80, go_sem]) rfl ⟨by rw [hT.out], hbw.drew⟩
def CmpT (g : Nat) (lb : Array Value) (B : Nat) (w : World) (xs : List Tm) : Prop :=
  ∀ x ∈ xs, ∀ y ∈ xs, ∀ w', Below B w w' → Calls Tryz.prog g (#[.agg #[.int .i64 x.1.1, .int .u32 x.1.2, .int .i64 x.2], .agg #[.int .i64 y.1.1, .int .u32 y.1.2, .int .i64 y.2]] ++ lb) w' fun e w'' => e = .returned (.int .i64 (cmpT x y)) ∧ Below w'.heap.size w' w''
set_option maxRecDepth 100000 in
theorem strictA_any (g : Nat) (lb : Array Value) (eg : ∀ args w, (callFunc g args).run Tryz.prog w = .ok (.enter g args) w) (B : Nat) (A : Option Addr) (n c : Nat) (xs : List Am) (w : World) (hA : RdA w w.heap.size A n xs) (hn : n ≤ maxLen) (hp : CmpA g lb B w xs) (hB : B ≤ w.heap.size) :
    Calls Tryz.prog 88 #[.slice A n c, .func (.func g) #[] lb] w fun e w' => e = .returned (.bool (ascT (xs.map Prod.fst))) ∧ Below w.heap.size w w' := by
  have hl := hA.len
  unfold maxLen at hn
  generalize hr : ascT (xs.map Prod.fst) = r
  have hrH := Lib.hid hr
  have hpH := Lib.hid hp
  clear hr hp
  go_enter Tryz.func88, Tryz.ntmps88
  go_wp2_with fail
  go_loopg [5] (n + 1) (fun g i wr => ∃ m k : Nat, k = m + 1 ∧ m ≤ n ∧ g = n + 1 - m ∧ i = .int .i64 (k : Int) ∧ (∀ j x y, j < m → xs[j]? = some x → xs[j + 1]? = some y → cmpT x.1 y.1 < 0) ∧ Below w.heap.size w wr)
  case atStart => exact ⟨0, 1, rfl, Nat.zero_le _, rfl, rfl, by simp, Below.refl _ _⟩
  case round =>
    obtain ⟨m, k, hkm, hm, rfl, rfl, hno, hbr⟩ := hrel
    have hz := hbr.size
    by_cases hlt : k < n
    · have hw : IntKind.i64.wrap ((k : Int) - 1) = (m : Int) := by rw [IntWalk.i64_in _ (by omega)]; omega
      have hmn : m < n := by omega
      obtain ⟨bA, oA, x, rfl, hbA, hp, hcp⟩ := (hA.below hbr).at_ hmn
      obtain ⟨bB, oB, y, he, _, hq, hcq⟩ := (hA.below hbr).at_ hlt
      obtain ⟨rfl, rfl⟩ : bA = bB ∧ oA = oB := by simpa using he
      clear he
      have p0 := hcp 0 _ rfl
      have p1 := hcp 1 _ rfl
      have p2 := hcp 2 _ rfl
      have p3 := hcp 3 _ rfl
      have q0 := hcq 0 _ rfl
      have q1 := hcq 1 _ rfl
      have q2 := hcq 2 _ rfl
      have q3 := hcq 3 _ rfl
      rw [Nat.add_zero] at p0 q0
      clear hcp hcq
      have hbA2 : bA < wr.heap.size := by omega
      have hcm := fun w' hb' => (fun h1 h2 w' (hb' : Below w.heap.size w w') => hpH.out x h1 y h2 w' (hb'.mono hB)) (List.mem_of_getElem? hp) (List.mem_of_getElem? hq) w' hb'
      have hqs : xs[m + 1]? = some y := by rw [← hkm]; exact hq
      clear hq
      have hq := hqs
      clear hqs
      have hkH := Lib.hid hkm
      clear hkm
      have hnoH := Lib.hid hno
      have hpxH := Lib.hid hp
      have hqyH := Lib.hid hq
      clear hno hp hq
      have hq0 : KQ wr.heap.size wr wr := kq (Below.refl _ _)
      by_cases hge : 0 ≤ cmpT x.1 y.1
      · have hT : Hid (false = r) := Lib.hid (by
          rw [← hrH.out]; symm; rw [Bool.eq_false_iff]
          intro ha
          have := (ascT_iff _).1 ha m x.1 y.1 (by first | exact hpxH.out | (rw [List.getElem?_map, hpxH.out]; rfl)) (by first | exact hqyH.out | (rw [List.getElem?_map, hqyH.out]; rfl))
          omega)
        generalize cmpT x.1 y.1 = z at hcm hge
        have hcm := Lib.hid hcm
        go_wp2
        go_region_held3 (fun w' => KQ wr.heap.size wr w') (first
      | with_reducible exact kq_call (by assumption) (by simp) (by assumption)
      | with_reducible exact kq_grown (by assumption) (by simp) (by assumption) (by simp [Value.ownBlock])
      | ((with_reducible refine kq ?_); (repeat (first | (with_reducible exact Below.refl _ _) | (with_reducible refine Below.drew ?_) | (with_reducible refine Below.alloc ?_ (by simp) _) | (with_reducible refine Below.setCell ?_ (by simp) _) | (with_reducible exact (by assumption : KQ _ _ _).1))); done))
          (first | (skip; refine (hcm.out _ (by first | exact hbr.trans ((by with_reducible assumption : KQ wr.heap.size wr _).1.mono hz) | exact hbr.drew | exact hbr)).mono ?_; rintro e w2 ⟨rfl, hb2⟩))
        have hF : KQ wr.heap.size wr w2 := by with_reducible assumption
        have hG : Below w.heap.size w w2 := hbr.trans (hF.1.mono hz)
        clear hF
        go_wp2
        go_ret
        exact ⟨ret_bool hT.out, hG⟩
      · have hT : Hid (∀ j x y, j < m + 1 → xs[j]? = some x → xs[j + 1]? = some y → cmpT x.1 y.1 < 0) := Lib.hid (by
          intro j x' y' hj h1 h2
          rcases Nat.lt_succ_iff_lt_or_eq.1 hj with h | rfl
          · exact hnoH.out j x' y' h h1 h2
          · rw [hpxH.out] at h1
            rw [hqyH.out] at h2
            cases h1
            cases h2
            omega)
        generalize cmpT x.1 y.1 = z at hcm hge
        have hcm := Lib.hid hcm
        have hdz : decide (0 ≤ z) = false := by simpa using hge
        go_wp2
        go_region_held3 (fun w' => KQ wr.heap.size wr w') (first
      | with_reducible exact kq_call (by assumption) (by simp) (by assumption)
      | with_reducible exact kq_grown (by assumption) (by simp) (by assumption) (by simp [Value.ownBlock])
      | ((with_reducible refine kq ?_); (repeat (first | (with_reducible exact Below.refl _ _) | (with_reducible refine Below.drew ?_) | (with_reducible refine Below.alloc ?_ (by simp) _) | (with_reducible refine Below.setCell ?_ (by simp) _) | (with_reducible exact (by assumption : KQ _ _ _).1))); done))
          (first | (skip; refine (hcm.out _ (by first | exact hbr.trans ((by with_reducible assumption : KQ wr.heap.size wr _).1.mono hz) | exact hbr.drew | exact hbr)).mono ?_; rintro e w2 ⟨rfl, hb2⟩))
        have hF : KQ wr.heap.size wr w2 := by with_reducible assumption
        have hG : Below w.heap.size w w2 := hbr.trans (hF.1.mono hz)
        clear hF
        go_wp2
        go_roundg (n + 1 - (m + 1))
        case measure => omega
        case rel => exact ⟨m + 1, k + 1, by rw [← hkH.out], by omega, rfl, by go_num, hT.out, hG⟩
    · have hT : Hid (true = r) := Lib.hid (by
        rw [← hrH.out]; symm
        rw [ascT_iff]
        intro j x y h1 h2
        first
          | exact hno j x y (by have := (List.getElem?_eq_some_iff.1 h2).1; omega) h1 h2
          | (rw [List.getElem?_map] at h1 h2
             obtain ⟨x', hx', rfl⟩ := Option.map_eq_some_iff.1 h1
             obtain ⟨y', hy', rfl⟩ := Option.map_eq_some_iff.1 h2
             have := (List.getElem?_eq_some_iff.1 hy').1
             exact hno j x' y' (by omega) hx' hy'))
      go_wp2
      go_ret
      exact ⟨ret_bool hT.out, hbr⟩
set_option maxRecDepth 100000 in
theorem strictT_any (g : Nat) (lb : Array Value) (eg : ∀ args w, (callFunc g args).run Tryz.prog w = .ok (.enter g args) w) (B : Nat) (A : Option Addr) (n c : Nat) (xs : List Tm) (w : World) (hA : RdT w w.heap.size A n xs) (hn : n ≤ maxLen) (hp : CmpT g lb B w xs) (hB : B ≤ w.heap.size) :
    Calls Tryz.prog 90 #[.slice A n c, .func (.func g) #[] lb] w fun e w' => e = .returned (.bool (ascT xs)) ∧ Below w.heap.size w w' := by
  have hl := hA.len
  unfold maxLen at hn
  generalize hr : ascT xs = r
  have hrH := Lib.hid hr
  have hpH := Lib.hid hp
  clear hr hp
  go_enter Tryz.func90, Tryz.ntmps90
  go_wp2_with fail
  go_loopg [5] (n + 1) (fun g i wr => ∃ m k : Nat, k = m + 1 ∧ m ≤ n ∧ g = n + 1 - m ∧ i = .int .i64 (k : Int) ∧ (∀ j x y, j < m → xs[j]? = some x → xs[j + 1]? = some y → cmpT x y < 0) ∧ Below w.heap.size w wr)
  case atStart => exact ⟨0, 1, rfl, Nat.zero_le _, rfl, rfl, by simp, Below.refl _ _⟩
  case round =>
    obtain ⟨m, k, hkm, hm, rfl, rfl, hno, hbr⟩ := hrel
    have hz := hbr.size
    by_cases hlt : k < n
    · have hw : IntKind.i64.wrap ((k : Int) - 1) = (m : Int) := by rw [IntWalk.i64_in _ (by omega)]; omega
      have hmn : m < n := by omega
      obtain ⟨bA, oA, x, rfl, hbA, hp, hcp⟩ := (hA.below hbr).at_ hmn
      obtain ⟨bB, oB, y, he, _, hq, hcq⟩ := (hA.below hbr).at_ hlt
      obtain ⟨rfl, rfl⟩ : bA = bB ∧ oA = oB := by simpa using he
      clear he
      have p0 := hcp 0 _ rfl
      have p1 := hcp 1 _ rfl
      have p2 := hcp 2 _ rfl
      have q0 := hcq 0 _ rfl
      have q1 := hcq 1 _ rfl
      have q2 := hcq 2 _ rfl
      rw [Nat.add_zero] at p0 q0
      clear hcp hcq
      have hbA2 : bA < wr.heap.size := by omega
      have hcm := fun w' hb' => (fun h1 h2 w' (hb' : Below w.heap.size w w') => hpH.out x h1 y h2 w' (hb'.mono hB)) (List.mem_of_getElem? hp) (List.mem_of_getElem? hq) w' hb'
      have hqs : xs[m + 1]? = some y := by rw [← hkm]; exact hq
      clear hq
      have hq := hqs
      clear hqs
      have hkH := Lib.hid hkm
      clear hkm
      have hnoH := Lib.hid hno
      have hpxH := Lib.hid hp
      have hqyH := Lib.hid hq
      clear hno hp hq
      have hq0 : KQ wr.heap.size wr wr := kq (Below.refl _ _)
      by_cases hge : 0 ≤ cmpT x y
      · have hT : Hid (false = r) := Lib.hid (by
          rw [← hrH.out]; symm; rw [Bool.eq_false_iff]
          intro ha
          have := (ascT_iff _).1 ha m x y (by first | exact hpxH.out | (rw [List.getElem?_map, hpxH.out]; rfl)) (by first | exact hqyH.out | (rw [List.getElem?_map, hqyH.out]; rfl))
          omega)
        generalize cmpT x y = z at hcm hge
        have hcm := Lib.hid hcm
        go_wp2
        go_region_held3 (fun w' => KQ wr.heap.size wr w') (first
      | with_reducible exact kq_call (by assumption) (by simp) (by assumption)
      | with_reducible exact kq_grown (by assumption) (by simp) (by assumption) (by simp [Value.ownBlock])
      | ((with_reducible refine kq ?_); (repeat (first | (with_reducible exact Below.refl _ _) | (with_reducible refine Below.drew ?_) | (with_reducible refine Below.alloc ?_ (by simp) _) | (with_reducible refine Below.setCell ?_ (by simp) _) | (with_reducible exact (by assumption : KQ _ _ _).1))); done))
          (first | (skip; refine (hcm.out _ (by first | exact hbr.trans ((by with_reducible assumption : KQ wr.heap.size wr _).1.mono hz) | exact hbr.drew | exact hbr)).mono ?_; rintro e w2 ⟨rfl, hb2⟩))
        have hF : KQ wr.heap.size wr w2 := by with_reducible assumption
        have hG : Below w.heap.size w w2 := hbr.trans (hF.1.mono hz)
        clear hF
        go_wp2
        go_ret
        exact ⟨ret_bool hT.out, hG⟩
      · have hT : Hid (∀ j x y, j < m + 1 → xs[j]? = some x → xs[j + 1]? = some y → cmpT x y < 0) := Lib.hid (by
          intro j x' y' hj h1 h2
          rcases Nat.lt_succ_iff_lt_or_eq.1 hj with h | rfl
          · exact hnoH.out j x' y' h h1 h2
          · rw [hpxH.out] at h1
            rw [hqyH.out] at h2
            cases h1
            cases h2
            omega)
        generalize cmpT x y = z at hcm hge
        have hcm := Lib.hid hcm
        have hdz : decide (0 ≤ z) = false := by simpa using hge
        go_wp2
        go_region_held3 (fun w' => KQ wr.heap.size wr w') (first
      | with_reducible exact kq_call (by assumption) (by simp) (by assumption)
      | with_reducible exact kq_grown (by assumption) (by simp) (by assumption) (by simp [Value.ownBlock])
      | ((with_reducible refine kq ?_); (repeat (first | (with_reducible exact Below.refl _ _) | (with_reducible refine Below.drew ?_) | (with_reducible refine Below.alloc ?_ (by simp) _) | (with_reducible refine Below.setCell ?_ (by simp) _) | (with_reducible exact (by assumption : KQ _ _ _).1))); done))
          (first | (skip; refine (hcm.out _ (by first | exact hbr.trans ((by with_reducible assumption : KQ wr.heap.size wr _).1.mono hz) | exact hbr.drew | exact hbr)).mono ?_; rintro e w2 ⟨rfl, hb2⟩))
        have hF : KQ wr.heap.size wr w2 := by with_reducible assumption
        have hG : Below w.heap.size w w2 := hbr.trans (hF.1.mono hz)
        clear hF
        go_wp2
        go_roundg (n + 1 - (m + 1))
        case measure => omega
        case rel => exact ⟨m + 1, k + 1, by rw [← hkH.out], by omega, rfl, by go_num, hT.out, hG⟩
    · have hT : Hid (true = r) := Lib.hid (by
        rw [← hrH.out]; symm
        rw [ascT_iff]
        intro j x y h1 h2
        first
          | exact hno j x y (by have := (List.getElem?_eq_some_iff.1 h2).1; omega) h1 h2
          | (rw [List.getElem?_map] at h1 h2
             obtain ⟨x', hx', rfl⟩ := Option.map_eq_some_iff.1 h1
             obtain ⟨y', hy', rfl⟩ := Option.map_eq_some_iff.1 h2
             have := (List.getElem?_eq_some_iff.1 hy').1
             exact hno j x' y' (by omega) hx' hy'))
      go_wp2
      go_ret
      exact ⟨ret_bool hT.out, hbr⟩
set_option maxRecDepth 100000 in
theorem onotag_any (t : Tm) (ht : t.wf) (w : World) :
    Calls Tryz.prog 68 #[.agg #[.int .i64 t.1.1, .int .u32 t.1.2, .int .i64 t.2]] w fun e w' => e = .returned (.bool (!chkT t)) ∧ Below w.heap.size w w' := by
  have hch := pchkt_any t ht
  generalize chkT t = r at hch ⊢
  cases r
  · rw [show errI false = 2 from rfl] at hch
    have hch := Lib.hid hch
    go_enter Tryz.func68, Tryz.ntmps68
    go_wp2_with fail
    refine (hch.out _).mono ?_
    rintro e w1 ⟨rfl, hb1⟩
    have hb2 : Below w.heap.size w w1 := ((Below.refl _ w).alloc (Nat.le_refl _) _).trans (hb1.mono (by simp))
    go_wp2
    go_ret
    exact ⟨rfl, hb2⟩
  · rw [show errI true = 0 from rfl] at hch
    have hch := Lib.hid hch
    go_enter Tryz.func68, Tryz.ntmps68
    go_wp2_with fail
    refine (hch.out _).mono ?_
    rintro e w1 ⟨rfl, hb1⟩
    have hb2 : Below w.heap.size w w1 := ((Below.refl _ w).alloc (Nat.le_refl _) _).trans (hb1.mono (by simp))
    go_wp2
    go_ret
    exact ⟨rfl, hb2⟩
set_option maxRecDepth 100000 in
theorem chk1_any (a : Am) (ha : a.wf) (w : World) :
    Calls Tryz.prog 87 #[.agg #[.int .i64 a.1.1.1, .int .u32 a.1.1.2, .int .i64 a.1.2, .string (bs a.2)]] w fun e w' => e = .returned (.bool (!chkT a.1)) ∧ Below w.heap.size w w' := by
  have hc := Lib.hid (onotag_any a.1 ha)
  generalize (!chkT a.1) = r at hc
  have hB : Below w.heap.size w (w.alloc (.cells #[.int .i64 a.1.1.1, .int .u32 a.1.1.2, .int .i64 a.1.2, .string (bs a.2)] 123)) := (Below.refl _ w).alloc (Nat.le_refl _) _
  go_enter Tryz.func87, Tryz.ntmps87
  go_wp2_with fail
  refine (hc.out _).mono ?_
  rintro e w1 ⟨rfl, hb⟩
  have hG := hB.trans (hb.mono (by simp))
  go_wp2
  go_ret
  exact ⟨rfl, hG⟩
set_option maxRecDepth 100000 in
theorem bytag_any (a : Am) (t : Tm) (w : World) :
    Calls Tryz.prog 70 #[.agg #[.int .i64 a.1.1.1, .int .u32 a.1.1.2, .int .i64 a.1.2, .string (bs a.2)], .agg #[.int .i64 t.1.1, .int .u32 t.1.2, .int .i64 t.2]] w fun e w' => e = .returned (.int .i64 (cmpT a.1 t)) ∧ Below w.heap.size w w' := by
  have hc := Lib.hid (pcmpt_any a.1 t)
  generalize cmpT a.1 t = r at hc
  have hB : Below w.heap.size w ((w.alloc (.cells #[.int .i64 a.1.1.1, .int .u32 a.1.1.2, .int .i64 a.1.2, .string (bs a.2)] 123)).alloc (.cells #[.int .i64 t.1.1, .int .u32 t.1.2, .int .i64 t.2] 45)) := ((Below.refl _ w).alloc (Nat.le_refl _) _).alloc (by simp) _
  go_enter Tryz.func70, Tryz.ntmps70
  go_wp2_with fail
  refine (hc.out _).mono ?_
  rintro e w1 ⟨rfl, hb⟩
  have hG := hB.trans (hb.mono hB.size)
  go_wp2
  go_ret
  exact ⟨rfl, hG⟩
set_option maxRecDepth 100000 in
theorem chk2_any (a b : Am) (w : World) :
    Calls Tryz.prog 89 #[.agg #[.int .i64 a.1.1.1, .int .u32 a.1.1.2, .int .i64 a.1.2, .string (bs a.2)], .agg #[.int .i64 b.1.1.1, .int .u32 b.1.1.2, .int .i64 b.1.2, .string (bs b.2)]] w fun e w' => e = .returned (.int .i64 (cmpT a.1 b.1)) ∧ Below w.heap.size w w' := by
  have hc := Lib.hid (bytag_any a b.1)
  generalize cmpT a.1 b.1 = r at hc
  have hB : Below w.heap.size w ((w.alloc (.cells #[.int .i64 a.1.1.1, .int .u32 a.1.1.2, .int .i64 a.1.2, .string (bs a.2)] 123)).alloc (.cells #[.int .i64 b.1.1.1, .int .u32 b.1.1.2, .int .i64 b.1.2, .string (bs b.2)] 123)) := ((Below.refl _ w).alloc (Nat.le_refl _) _).alloc (by simp) _
  go_enter Tryz.func89, Tryz.ntmps89
  go_wp2_with fail
  refine (hc.out _).mono ?_
  rintro e w1 ⟨rfl, hb⟩
  have hG := hB.trans (hb.mono hB.size)
  go_wp2
  go_ret
  exact ⟨rfl, hG⟩
theorem bs_empty (e : List UInt8) : (bs e).toList = e := by rw [ByteArray.toList_eq]; rfl
set_option maxRecDepth 100000 in
theorem oelem_any (s : List UInt8) (hs : s.length ≤ maxLen) (w : World) :
    Calls Tryz.prog 55 #[.string (bs s)] w fun e w' => e = .returned (.bool (elemB s)) ∧ w = w' := by
  have hz := bs_size s
  have hl := bs_empty s
  generalize hr : elemB s = r
  unfold elemB at hr
  have hrH := Lib.hid hr
  clear hr
  unfold maxLen at hs
  by_cases h0 : s = []
  · subst h0
    have hT : Hid (false = r) := Lib.hid (by rw [← hrH.out]; simp)
    have hz0 : ((bs []).size) = 0 := rfl
    clear hz
    go_enter Tryz.func55, Tryz.ntmps55
    go_wp2
    go_ret
    exact ⟨ret_bool hT.out, rfl⟩
  · have hne : (bs s).toList.isEmpty = false := by rw [hl, List.isEmpty_eq_false_iff]; exact h0
    have hne2 : (bs s).toList.isEmpty = false := hne
    have hpos : 1 ≤ s.length := by cases s with | nil => exact absurd rfl h0 | cons => simp
    by_cases h12 : s.length ≤ 12
    · have hT : Hid (true = r) := Lib.hid (by rw [← hrH.out]; symm; exact decide_eq_true ⟨hpos, h12⟩)
      have hd1 : decide ((1 : Int) ≤ (((bs s).size : Nat) : Int)) = true := decide_eq_true (by omega)
      have hd2 : decide ((((bs s).size : Nat) : Int) ≤ 12) = true := decide_eq_true (by omega)
      clear hl hz h0 hne2 hpos
      go_enter Tryz.func55, Tryz.ntmps55
      go_wp2
      go_ret
      exact ⟨ret_bool hT.out, rfl⟩
    · have hT : Hid (false = r) := Lib.hid (by rw [← hrH.out]; symm; exact decide_eq_false (by omega))
      have hd1 : decide ((1 : Int) ≤ (((bs s).size : Nat) : Int)) = true := decide_eq_true (by omega)
      have hd2 : decide ((((bs s).size : Nat) : Int) ≤ 12) = false := decide_eq_false (by omega)
      clear hl hz h0 hne2 hpos
      go_enter Tryz.func55, Tryz.ntmps55
      go_wp2
      go_ret
      exact ⟨ret_bool hT.out, rfl⟩
set_option maxRecDepth 100000 in
theorem ogone_any (A : Option Addr) (n c : Nat) (_xs : List Am) (B : Option Addr) (m d : Nat) (gs : List Tm) (t : Tm) (w : World) (hB : RdT w w.heap.size B m gs) (hm : m ≤ 1099511627776) (hasc : ascTP gs) :
    Calls Tryz.prog 71 #[.agg #[.slice A n c, .slice B m d], .agg #[.int .i64 t.1.1, .int .u32 t.1.2, .int .i64 t.2]] w fun e w' => e = .returned (.bool (gs.contains t)) ∧ Below w.heap.size w w' := by
  have hb0 : Below w.heap.size w ((w.alloc (.cells #[.slice A n c, .slice B m d] 59)).alloc (.cells #[.int .i64 t.1.1, .int .u32 t.1.2, .int .i64 t.2] 45)) := ((Below.refl _ w).alloc (Nat.le_refl _) _).alloc (by simp) _
  have hc := Lib.hid (fun w' (h : Below w.heap.size w w') => bsT_gen 61 #[] (fun _ _ => by kernel_rfl) w'.heap.size B m d gs t w' ((hB.below h).more h.size) hm hasc (fun x _ w'' _ => pcmpt_any x t w'') (Nat.le_refl _))
  generalize (posT gs t : Int) = p at hc
  generalize gs.contains t = r at hc
  clear hasc
  go_enter Tryz.func71, Tryz.ntmps71
  go_wp2_with fail
  refine (hc.out _ hb0).mono ?_
  rintro e w1 ⟨rfl, hb⟩
  have hG := hb0.trans (hb.mono hb0.size)
  go_wp2
  go_ret
  exact ⟨rfl, hG⟩
/-- The closure that looks for what is not as it must be: it has caught the set's box. -/
theorem chk3_any (sb : Nat) (A : Option Addr) (n c : Nat) (xs : List Am) (B : Option Addr) (m d : Nat) (gs : List Tm) (a : Am) (w : World) (hs : w.heap[sb]? = some (.cells #[.slice A n c, .slice B m d] 59 (0, 0))) (hB : RdT w w.heap.size B m gs) (hm : m ≤ 1099511627776) (hasc : ascTP gs) (hl : a.2.length ≤ maxLen) :
    Calls Tryz.prog 91 #[.agg #[.int .i64 a.1.1.1, .int .u32 a.1.1.2, .int .i64 a.1.2, .string (bs a.2)], .pointer (some ⟨sb, 0, none⟩)] w fun e w' => e = .returned (.bool (!elemB a.2 || gs.contains a.1)) ∧ Below w.heap.size w w' := by
  have hb0 : Below w.heap.size w (w.alloc (.cells #[.int .i64 a.1.1.1, .int .u32 a.1.1.2, .int .i64 a.1.2, .string (bs a.2)] 123)) := (Below.refl _ w).alloc (Nat.le_refl _) _
  have hbx : (w.alloc (.cells #[.int .i64 a.1.1.1, .int .u32 a.1.1.2, .int .i64 a.1.2, .string (bs a.2)] 123)).heap[w.heap.size]? = some (.cells #[.int .i64 a.1.1.1, .int .u32 a.1.1.2, .int .i64 a.1.2, .string (bs a.2)] 123 (0, 0)) := heap_at _ _ rfl
  have hs0 := blk_below hs hb0
  generalize hW : w.alloc (.cells #[.int .i64 a.1.1.1, .int .u32 a.1.1.2, .int .i64 a.1.2, .string (bs a.2)] 123) = W at hb0 hbx hs0
  have hbxH := Lib.hid hbx
  have hltx := blk_lt hbx
  have hlts := blk_lt hs0
  have p0 := blk_cell hbx 0
  have p1 := blk_cell hbx 1
  have p2 := blk_cell hbx 2
  have p3 := blk_cell hbx 3
  have s0 := blk_cell hs0 0
  have s1 := blk_cell hs0 1
  simp at p0 p1 p2 p3 s0 s1
  have hc := Lib.hid (fun w' (h : Below w.heap.size w w') => ogone_any A n c xs B m d gs a.1 w' ((hB.below h).more h.size) hm hasc)
  have he := Lib.hid (oelem_any a.2 hl)
  generalize gs.contains a.1 = r at hc ⊢
  generalize elemB a.2 = q at he ⊢
  clear hbx hs0 hasc
  cases q
  · go_enter Tryz.func91, Tryz.ntmps91
    go_wp2_with fail
    refine (he.out _).mono ?_
    rintro e w1 ⟨rfl, rfl⟩
    go_wp2
    go_ret
    exact ⟨rfl, hb0⟩
  · go_enter Tryz.func91, Tryz.ntmps91
    go_wp2_with fail
    refine (he.out _).mono ?_
    rintro e w1 ⟨rfl, rfl⟩
    go_wp2_with fail
    refine (hc.out _ hb0).mono ?_
    rintro e w2 ⟨rfl, hb⟩
    have hG := hb0.trans (hb.mono hb0.size)
    go_wp2
    go_ret
    exact ⟨rfl, hG⟩
end Go.Proofs.YtffnpfponnhddaaGreat
