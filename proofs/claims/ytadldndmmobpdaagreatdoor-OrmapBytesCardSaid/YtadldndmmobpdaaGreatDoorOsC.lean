/- Binary search for a tag; strictly; sets of additions: what is wrong with one, both checks. -/
import Derived.Test.YtadldndmmobpdaaGreatDoorTl
namespace Go.Proofs.YtadldndmmobpdaaGreatDoor
open Go.RowKit

/-- A function value that compares additions by their tags. -/
def CmpA (g : Nat) (lb : Array Value) (B : Nat) (w : World) (xs : List Am) : Prop :=
  ∀ x ∈ xs, ∀ y ∈ xs, ∀ w', Below B w w' → Calls Tryz.prog g (#[.agg #[.int .i64 x.1.1.1, .int .u32 x.1.1.2, .int .i64 x.1.2, .string (bs x.2)], .agg #[.int .i64 y.1.1.1, .int .u32 y.1.1.2, .int .i64 y.1.2, .string (bs y.2)]] ++ lb) w' fun e w'' => e = .returned (.int .i64 (cmpT x.1 y.1)) ∧ Below w'.heap.size w' w''
set_option maxRecDepth 100000 in
set_option maxHeartbeats 1000000 in
theorem bsT_gen (g : Nat) (lb : Array Value) (eg : ∀ args w, (callFunc g args).run Tryz.prog w = .ok (.enter g args) w) (B : Nat) (A : Option Addr) (n c : Nat) (xs : List Tm) (t : Tm) (w : World) (hA : RdT w w.heap.size A n xs) (hn : n ≤ 1099511627776) (hasc : ascTP xs)
    (hp : ∀ x ∈ xs, ∀ w', Below B w w' → Calls Tryz.prog g (#[.agg #[.int .i64 x.1.1, .int .u32 x.1.2, .int .i64 x.2], .agg #[.int .i64 t.1.1, .int .u32 t.1.2, .int .i64 t.2]] ++ lb) w' fun e w'' => e = .returned (.int .i64 (cmpT x t)) ∧ Below w'.heap.size w' w'') (hB : B ≤ w.heap.size) :
    Calls Tryz.prog 70 #[.slice A n c, .agg #[.int .i64 t.1.1, .int .u32 t.1.2, .int .i64 t.2], .func (.func g) #[] lb] w
      fun e w' => e = .returned (.tuple #[.int .i64 (posT xs t : Int), .bool (xs.contains t)]) ∧ Below w.heap.size w w' := by
  have hl := hA.len
  have hb0 : Below w.heap.size w (w.alloc (.cells #[.int .i64 t.1.1, .int .u32 t.1.2, .int .i64 t.2] 60)) := (Below.refl _ w).alloc (Nat.le_refl _) _
  have hbx := tbox t w
  generalize hW : w.alloc (.cells #[.int .i64 t.1.1, .int .u32 t.1.2, .int .i64 t.2] 60) = W at hb0 hbx
  have hltx := blk_lt hbx
  have hbxH := Lib.hid hbx
  have hps := posT_le xs t
  first | rw [List.length_map, hl] at hps | rw [hl] at hps
  have hbef := Lib.hid (fun (i : Nat) (x : Tm) (h : xs[i]? = some x) => ascT_before hasc (t := t) (i := i) (x := x) (by first | exact h | (rw [List.getElem?_map, h]; rfl)))
  have hhas := Lib.hid (posT_has hasc (t := t))
  generalize hP : posT xs t = P at hps hbef hhas ⊢
  generalize xs.contains t = r at hhas ⊢
  have hpH := Lib.hid hp
  have hlH := Lib.hid hl
  have hAW := Lib.hid (fun w' (h : Below w.heap.size w w') => (hA.below h).more h.size)
  clear hp hl hasc hP hbx hA
  go_enter Tryz.func70, Tryz.ntmps70
  go_wp2_with fail
  try rw [hW]
  clear hW
  go_loopg [9, 10] (n + 1) (fun g i j wr => ∃ p q : Nat, p ≤ P ∧ P ≤ q ∧ q ≤ n ∧ g = q - p + 1 ∧ i = .int .i64 (p : Int) ∧ j = .int .i64 (q : Int) ∧ Below W.heap.size W wr)
  case atStart => exact ⟨0, n, Nat.zero_le _, hps, Nat.le_refl _, rfl, rfl, rfl, Below.refl _ _⟩
  case round =>
    obtain ⟨p, q, hpP, hPq, hqn, rfl, rfl, rfl, hbr⟩ := hrel
    have hz := hbr.size
    have hz0 := hb0.size
    have hbw : Below w.heap.size w wr := hb0.trans (hbr.mono hz0)
    have hbx1 := blk_below hbxH.out hbr
    have hltx1 := blk_lt hbx1
    have t0 := blk_cell hbx1 0
    have t1 := blk_cell hbx1 1
    have t2 := blk_cell hbx1 2
    simp at t0 t1 t2
    clear hbx1
    by_cases hlt : p < q
    · obtain ⟨h, hh⟩ : ∃ h : Nat, h = (p + q) / 2 := ⟨_, rfl⟩
      have hph : p ≤ h := by omega
      have hhq : h < q := by omega
      have hhn : h < n := by omega
      have hlti : (p : Int) < (q : Int) := by omega
      have hmid : ((p : Int) + (q : Int)) / 2 = (h : Int) := by omega
      have hbA2' := hb0.size
      clear hh
      obtain ⟨bA, oA, x, rfl, hbA, hxx, hcp⟩ := (hAW.out wr hbw).at_ hhn
      have p0 := hcp 0 _ rfl
      have p1 := hcp 1 _ rfl
      have p2 := hcp 2 _ rfl
      rw [Nat.add_zero] at p0
      clear hcp
      have hbf := Lib.hid (hbef.out h x hxx)
      have hcm := fun w' (hb' : KQ wr.heap.size wr w') => hpH.out x (List.mem_of_getElem? hxx) w' ((hbw.trans (hb'.1.mono hbw.size)).mono hB)
      have hxH := Lib.hid hxx
      clear hxx
      by_cases hc : cmpT x t < 0
      · have h3 : h < P := hbf.out.1 hc
        generalize cmpT x t = z at hcm hc
        have hcmH := Lib.hid hcm
        clear hcm hbf
        have hq0 : KQ wr.heap.size wr wr := kq (Below.refl _ _)
        go_wp2_with fail
        go_region_held3 (fun w' => KQ wr.heap.size wr w') (first
      | with_reducible exact kq_call (by assumption) (by simp) (by assumption)
      | with_reducible exact kq_alloc (by with_reducible assumption) (Nat.le_refl _) _
      | with_reducible exact kq_alloc (kq_drew (by assumption)) (Nat.le_refl _) _
      | ((with_reducible refine kq ?_); (repeat (first | (with_reducible exact Below.refl _ _) | (with_reducible refine Below.drew ?_) | (with_reducible refine Below.alloc ?_ (by simp) _) | (with_reducible refine Below.setCell ?_ (by simp) _) | (with_reducible exact (by assumption : KQ _ _ _).1))); done))
          (first | ((with_reducible refine (hcmH.out _ (by with_reducible assumption)).mono ?_); rintro e w1 ⟨rfl, hb1⟩))
        have hF : KQ wr.heap.size wr w1 := by with_reducible assumption
        have hG := hbr.trans (hF.1.mono hz)
        clear hF
        go_wp2
        go_roundg (q - (h + 1) + 1)
        case measure => omega
        case rel => exact ⟨h + 1, q, by omega, hPq, hqn, rfl, by go_num, rfl, hG⟩
      · have h3 : ¬ h < P := fun e => hc (hbf.out.2 e)
        have hcd : decide (cmpT x t < 0) = false := by simpa using hc
        generalize cmpT x t = z at hcm hcd
        have hcmH := Lib.hid hcm
        clear hcm hbf hc
        have hq0 : KQ wr.heap.size wr wr := kq (Below.refl _ _)
        go_wp2_with fail
        go_region_held3 (fun w' => KQ wr.heap.size wr w') (first
      | with_reducible exact kq_call (by assumption) (by simp) (by assumption)
      | with_reducible exact kq_alloc (by with_reducible assumption) (Nat.le_refl _) _
      | with_reducible exact kq_alloc (kq_drew (by assumption)) (Nat.le_refl _) _
      | ((with_reducible refine kq ?_); (repeat (first | (with_reducible exact Below.refl _ _) | (with_reducible refine Below.drew ?_) | (with_reducible refine Below.alloc ?_ (by simp) _) | (with_reducible refine Below.setCell ?_ (by simp) _) | (with_reducible exact (by assumption : KQ _ _ _).1))); done))
          (first | ((with_reducible refine (hcmH.out _ (by with_reducible assumption)).mono ?_); rintro e w1 ⟨rfl, hb1⟩))
        have hF : KQ wr.heap.size wr w1 := by with_reducible assumption
        have hG := hbr.trans (hF.1.mono hz)
        clear hF
        go_wp2
        go_roundg (h - p + 1)
        case measure => omega
        case rel => exact ⟨p, h, hpP, by omega, by omega, rfl, rfl, rfl, hG⟩
    · obtain rfl : p = q := by omega
      obtain rfl : p = P := by omega
      by_cases hlt2 : p < n
      · have hlti : (p : Int) < (n : Int) := by omega
        obtain ⟨bA, oA, x, rfl, hbA, hxx, hcp⟩ := (hAW.out wr hbw).at_ hlt2
        have p0 := hcp 0 _ rfl
        have p1 := hcp 1 _ rfl
        have p2 := hcp 2 _ rfl
        rw [Nat.add_zero] at p0
        clear hcp
        have hcm := fun w' (hb' : KQ wr.heap.size wr w') => hpH.out x (List.mem_of_getElem? hxx) w' ((hbw.trans (hb'.1.mono hbw.size)).mono hB)
        have hT : Hid (decide (cmpT x t = 0) = r) := Lib.hid (by first | (rw [hhas.out, List.getElem?_map, hxx]; rfl) | (rw [hhas.out, hxx]))
        clear hxx
        generalize cmpT x t = z at hcm hT
        have hcmH := Lib.hid hcm
        clear hcm hbef hhas
        have hq0 : KQ wr.heap.size wr wr := kq (Below.refl _ _)
        by_cases hz0 : z = 0
        · subst hz0
          rw [show decide ((0 : Int) = 0) = true from rfl] at hT
          go_wp2_with fail
          go_region_held3 (fun w' => KQ wr.heap.size wr w') (first
      | with_reducible exact kq_call (by assumption) (by simp) (by assumption)
      | with_reducible exact kq_alloc (by with_reducible assumption) (Nat.le_refl _) _
      | with_reducible exact kq_alloc (kq_drew (by assumption)) (Nat.le_refl _) _
      | ((with_reducible refine kq ?_); (repeat (first | (with_reducible exact Below.refl _ _) | (with_reducible refine Below.drew ?_) | (with_reducible refine Below.alloc ?_ (by simp) _) | (with_reducible refine Below.setCell ?_ (by simp) _) | (with_reducible exact (by assumption : KQ _ _ _).1))); done))
            (first | ((with_reducible refine (hcmH.out _ (by with_reducible assumption)).mono ?_); rintro e w1 ⟨rfl, hb1⟩))
          have hF : KQ wr.heap.size wr w1 := by with_reducible assumption
          have hG := hbw.trans (hF.1.mono hbw.size)
          clear hF
          go_wp2
          exact bodyPost_ret (v := .tuple #[.int .i64 (p : Int), .bool true]) (by simp [results, Tryz.results70, go_sem]) rfl ⟨by rw [hT.out], hG⟩
        · have hzd : (z == 0) = false := by simpa using hz0
          rw [show decide (z = 0) = false from decide_eq_false hz0] at hT
          clear hz0
          go_wp2_with fail
          go_region_held3 (fun w' => KQ wr.heap.size wr w') (first
      | with_reducible exact kq_call (by assumption) (by simp) (by assumption)
      | with_reducible exact kq_alloc (by with_reducible assumption) (Nat.le_refl _) _
      | with_reducible exact kq_alloc (kq_drew (by assumption)) (Nat.le_refl _) _
      | ((with_reducible refine kq ?_); (repeat (first | (with_reducible exact Below.refl _ _) | (with_reducible refine Below.drew ?_) | (with_reducible refine Below.alloc ?_ (by simp) _) | (with_reducible refine Below.setCell ?_ (by simp) _) | (with_reducible exact (by assumption : KQ _ _ _).1))); done))
            (first | ((with_reducible refine (hcmH.out _ (by with_reducible assumption)).mono ?_); rintro e w1 ⟨rfl, hb1⟩))
          have hF : KQ wr.heap.size wr w1 := by with_reducible assumption
          have hG := hbw.trans (hF.1.mono hbw.size)
          clear hF
          go_wp2
          exact bodyPost_ret (v := .tuple #[.int .i64 (p : Int), .bool false]) (by simp [results, Tryz.results70, go_sem]) rfl ⟨by rw [hT.out], hG⟩
      · have hnlt : ¬ (p : Int) < (n : Int) := by omega
        have hT : Hid (false = r) := Lib.hid (by rw [hhas.out, List.getElem?_eq_none (by first | (rw [List.length_map, hlH.out]; omega) | (rw [hlH.out]; omega))])
        clear hbef hhas
        have hnd : decide ((p : Int) < (n : Int)) = false := decide_eq_false hnlt
        go_wp2_with fail
        refine wp_region_M (fun w' => KQ wr.heap.size wr w') (fun _ => True) 99 (by kernel_rfl) (kq (Below.refl _ _).drew) trivial ?_
        intro hcl
        have hC : KQ wr.heap.size wr wr.drew := kq (Below.refl _ _).drew
        have hE := trivial
        (refine wpM_take (i := 0) (v := ?_) rfl (by kernel_rfl) (by kernel_rfl) (by kernel_rfl) (by decide) (fun _ _ _ h => h) hcl hC (fun _ => hE) (Or.inl ⟨by rfl, ?_⟩) ?_; rotate_left; (· (intro w hSw; (try dsimp only at hSw); go_simp; (try with_reducible rfl))); clear hcl; intro hcl; (try simp only [Act.put, List.getElem_toArray, List.getElem_cons_zero, List.getElem_cons_succ, List.setIfInBounds_toArray, List.set_cons_zero, List.set_cons_succ]))
        (refine wpM_take (i := 1) (v := ?_) rfl (by kernel_rfl) (by kernel_rfl) (by kernel_rfl) (by decide) (fun _ _ _ h => h) hcl hC (fun _ => hE) (Or.inl ⟨by rfl, ?_⟩) ?_; rotate_left; (· (intro w hSw; (try dsimp only at hSw); go_simp; (try with_reducible rfl))); clear hcl; intro hcl; (try simp only [Act.put, List.getElem_toArray, List.getElem_cons_zero, List.getElem_cons_succ, List.setIfInBounds_toArray, List.set_cons_zero, List.set_cons_succ]))
        (refine wpM_take (i := 2) (v := ?_) rfl (by kernel_rfl) (by kernel_rfl) (by kernel_rfl) (by decide) (fun _ _ _ h => h) hcl hC (fun _ => hE) (Or.inl ⟨by rfl, ?_⟩) ?_; rotate_left; (· (intro w hSw; (try dsimp only at hSw); go_simp; (try with_reducible rfl))); clear hcl; intro hcl; (try simp only [Act.put, List.getElem_toArray, List.getElem_cons_zero, List.getElem_cons_succ, List.setIfInBounds_toArray, List.set_cons_zero, List.set_cons_succ]))
        (refine wpM_take (i := 3) (v := ?_) rfl (by kernel_rfl) (by kernel_rfl) (by kernel_rfl) (by decide) (fun _ _ _ h => h) hcl hC (fun _ => hE) (Or.inl ⟨by rfl, ?_⟩) ?_; rotate_left; (· (intro w hSw; (try dsimp only at hSw); go_simp; (try with_reducible rfl))); clear hcl; intro hcl; (try simp only [Act.put, List.getElem_toArray, List.getElem_cons_zero, List.getElem_cons_succ, List.setIfInBounds_toArray, List.set_cons_zero, List.set_cons_succ]))
        (refine wpM_take (i := 4) (v := ?_) rfl (by kernel_rfl) (by kernel_rfl) (by kernel_rfl) (by decide) (fun _ _ _ h => h) hcl hC (fun _ => hE) (Or.inl ⟨by rfl, ?_⟩) ?_; rotate_left; (· (intro w hSw; (try dsimp only at hSw); go_simp; (try with_reducible rfl))); clear hcl; intro hcl; (try simp only [Act.put, List.getElem_toArray, List.getElem_cons_zero, List.getElem_cons_succ, List.setIfInBounds_toArray, List.set_cons_zero, List.set_cons_succ]))
        (refine wpM_take (i := 5) (v := undef) rfl (by kernel_rfl) (by kernel_rfl) (by kernel_rfl) (by decide) (fun _ _ _ h => h) hcl hC (fun _ => hE) (Or.inr ⟨by rfl, rfl⟩) ?_; clear hcl; intro hcl; (try simp only [Act.put, List.getElem_toArray, List.getElem_cons_zero, List.getElem_cons_succ, List.setIfInBounds_toArray, List.set_cons_zero, List.set_cons_succ]))
        (refine wpM_take (i := 6) (v := undef) rfl (by kernel_rfl) (by kernel_rfl) (by kernel_rfl) (by decide) (fun _ _ _ h => h) hcl hC (fun _ => hE) (Or.inr ⟨by rfl, rfl⟩) ?_; clear hcl; intro hcl; (try simp only [Act.put, List.getElem_toArray, List.getElem_cons_zero, List.getElem_cons_succ, List.setIfInBounds_toArray, List.set_cons_zero, List.set_cons_succ]))
        (refine wpM_take (i := 7) (v := undef) rfl (by kernel_rfl) (by kernel_rfl) (by kernel_rfl) (by decide) (fun _ _ _ h => h) hcl hC (fun _ => hE) (Or.inr ⟨by rfl, rfl⟩) ?_; clear hcl; intro hcl; (try simp only [Act.put, List.getElem_toArray, List.getElem_cons_zero, List.getElem_cons_succ, List.setIfInBounds_toArray, List.set_cons_zero, List.set_cons_succ]))
        (refine wpM_take (i := 8) (v := undef) rfl (by kernel_rfl) (by kernel_rfl) (by kernel_rfl) (by decide) (fun _ _ _ h => h) hcl hC (fun _ => hE) (Or.inr ⟨by rfl, rfl⟩) ?_; clear hcl; intro hcl; (try simp only [Act.put, List.getElem_toArray, List.getElem_cons_zero, List.getElem_cons_succ, List.setIfInBounds_toArray, List.set_cons_zero, List.set_cons_succ]))
        (refine wpM_take (i := 9) (v := undef) rfl (by kernel_rfl) (by kernel_rfl) (by kernel_rfl) (by decide) (fun _ _ _ h => h) hcl hC (fun _ => hE) (Or.inr ⟨by rfl, rfl⟩) ?_; clear hcl; intro hcl; (try simp only [Act.put, List.getElem_toArray, List.getElem_cons_zero, List.getElem_cons_succ, List.setIfInBounds_toArray, List.set_cons_zero, List.set_cons_succ]))
        (refine wpM_take (i := 10) (v := undef) rfl (by kernel_rfl) (by kernel_rfl) (by kernel_rfl) (by decide) (fun _ _ _ h => h) hcl hC (fun _ => hE) (Or.inr ⟨by rfl, rfl⟩) ?_; clear hcl; intro hcl; (try simp only [Act.put, List.getElem_toArray, List.getElem_cons_zero, List.getElem_cons_succ, List.setIfInBounds_toArray, List.set_cons_zero, List.set_cons_succ]))
        (refine wpM_take (i := 11) (v := undef) rfl (by kernel_rfl) (by kernel_rfl) (by kernel_rfl) (by decide) (fun _ _ _ h => h) hcl hC (fun _ => hE) (Or.inr ⟨by rfl, rfl⟩) ?_; clear hcl; intro hcl; (try simp only [Act.put, List.getElem_toArray, List.getElem_cons_zero, List.getElem_cons_succ, List.setIfInBounds_toArray, List.set_cons_zero, List.set_cons_succ]))
        (refine wpM_take (i := 12) (v := undef) rfl (by kernel_rfl) (by kernel_rfl) (by kernel_rfl) (by decide) (fun _ _ _ h => h) hcl hC (fun _ => hE) (Or.inr ⟨by rfl, rfl⟩) ?_; clear hcl; intro hcl; (try simp only [Act.put, List.getElem_toArray, List.getElem_cons_zero, List.getElem_cons_succ, List.setIfInBounds_toArray, List.set_cons_zero, List.set_cons_succ]))
        (refine wpM_take (i := 13) (v := ?_) rfl (by kernel_rfl) (by kernel_rfl) (by kernel_rfl) (by decide) (fun _ _ _ h => h) hcl hC (fun _ => hE) (Or.inl ⟨by rfl, ?_⟩) ?_; rotate_left; (· (intro w hSw; (try dsimp only at hSw); go_simp; (try with_reducible rfl))); clear hcl; intro hcl; (try simp only [Act.put, List.getElem_toArray, List.getElem_cons_zero, List.getElem_cons_succ, List.setIfInBounds_toArray, List.set_cons_zero, List.set_cons_succ]))
        (refine wpM_take (i := 14) (v := ?_) rfl (by kernel_rfl) (by kernel_rfl) (by kernel_rfl) (by decide) (fun _ _ _ h => h) hcl hC (fun _ => hE) (Or.inl ⟨by rfl, ?_⟩) ?_; rotate_left; (· (intro w hSw; (try dsimp only at hSw); go_simp; (try with_reducible rfl))); clear hcl; intro hcl; (try simp only [Act.put, List.getElem_toArray, List.getElem_cons_zero, List.getElem_cons_succ, List.setIfInBounds_toArray, List.set_cons_zero, List.set_cons_succ]))
        (refine wpM_take (i := 15) (v := ?_) rfl (by kernel_rfl) (by kernel_rfl) (by kernel_rfl) (by decide) (fun _ _ _ h => h) hcl hC (fun _ => hE) (Or.inl ⟨by rfl, ?_⟩) ?_; rotate_left; (· (intro w hSw; (try dsimp only at hSw); go_simp; (try with_reducible rfl))); clear hcl; intro hcl; (try simp only [Act.put, List.getElem_toArray, List.getElem_cons_zero, List.getElem_cons_succ, List.setIfInBounds_toArray, List.set_cons_zero, List.set_cons_succ]))
        refine wpM_done (by kernel_rfl) ?_
        clear hcl
        try simp only [List.getElem_toArray, List.getElem_cons_zero, List.getElem_cons_succ, List.setIfInBounds_toArray, List.set_cons_zero, List.set_cons_succ]
        go_wp2
        exact bodyPost_ret (v := .tuple #[.int .i64 (p : Int), .bool false]) (by simp [results, Tryz.results70, go_sem]) rfl ⟨by rw [hT.out], hbw.drew⟩
def CmpT (g : Nat) (lb : Array Value) (B : Nat) (w : World) (xs : List Tm) : Prop :=
  ∀ x ∈ xs, ∀ y ∈ xs, ∀ w', Below B w w' → Calls Tryz.prog g (#[.agg #[.int .i64 x.1.1, .int .u32 x.1.2, .int .i64 x.2], .agg #[.int .i64 y.1.1, .int .u32 y.1.2, .int .i64 y.2]] ++ lb) w' fun e w'' => e = .returned (.int .i64 (cmpT x y)) ∧ Below w'.heap.size w' w''
theorem bs_empty (e : List UInt8) : (bs e).toList = e := by rw [ByteArray.toList_eq]; rfl
set_option maxRecDepth 100000 in
theorem relem_any (s : List UInt8) (hs : s.length ≤ maxLen) (w : World) :
    Calls Tryz.prog 74 #[.string (bs s)] w fun e w' => e = .returned (.bool (elemB s)) ∧ w = w' := by
  have hz := bs_size s
  have hl := bs_empty s
  generalize hr : elemB s = r
  unfold elemB at hr
  have hrH := Lib.hid hr
  clear hr
  unfold maxLen at hs
  by_cases h0 : s = []
  · subst h0
    have hT : Hid (false = r) := Lib.hid (by rw [← hrH.out]; simp)
    have hz0 : ((bs []).size) = 0 := rfl
    clear hz
    go_enter Tryz.func74, Tryz.ntmps74
    go_wp2
    go_ret
    exact ⟨ret_bool hT.out, rfl⟩
  · have hne : (bs s).toList.isEmpty = false := by rw [hl, List.isEmpty_eq_false_iff]; exact h0
    have hne2 : (bs s).toList.isEmpty = false := hne
    have hpos : 1 ≤ s.length := by cases s with | nil => exact absurd rfl h0 | cons => simp
    by_cases h12 : s.length ≤ 12
    · have hT : Hid (true = r) := Lib.hid (by rw [← hrH.out]; symm; exact decide_eq_true ⟨hpos, h12⟩)
      have hd1 : decide ((1 : Int) ≤ (((bs s).size : Nat) : Int)) = true := decide_eq_true (by omega)
      have hd2 : decide ((((bs s).size : Nat) : Int) ≤ 12) = true := decide_eq_true (by omega)
      clear hl hz h0 hne2 hpos
      go_enter Tryz.func74, Tryz.ntmps74
      go_wp2
      go_ret
      exact ⟨ret_bool hT.out, rfl⟩
    · have hT : Hid (false = r) := Lib.hid (by rw [← hrH.out]; symm; exact decide_eq_false (by omega))
      have hd1 : decide ((1 : Int) ≤ (((bs s).size : Nat) : Int)) = true := decide_eq_true (by omega)
      have hd2 : decide ((((bs s).size : Nat) : Int) ≤ 12) = false := decide_eq_false (by omega)
      clear hl hz h0 hne2 hpos
      go_enter Tryz.func74, Tryz.ntmps74
      go_wp2
      go_ret
      exact ⟨ret_bool hT.out, rfl⟩
end Go.Proofs.YtadldndmmobpdaaGreatDoor
