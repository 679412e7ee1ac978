/- Put of sets: the set behind an addition. -/
import Derived.Test.YtffnpfponnhddaaGreatOtG
import Derived.Test.YtffnpfponnhddaaGreatIns
import Derived.Test.YtffnpfponnhddaaGreatM1
import Derived.Test.YtffnpfponnhddaaGreatN17
namespace Go.Proofs.YtffnpfponnhddaaGreat
open Go.RowKit

def putO (xs : List Am) (gs : List Tm) (a : Am) : (List Am × List Tm) × Int :=
  if oErr xs gs ≠ 0 then (([], []), oErr xs gs) else if chkT a.1 = false then (([], []), 2) else if elemB a.2 = false then (([], []), 3)
  else if ((xs.map Prod.fst).contains a.1 || gs.contains a.1) = true then ((xs, gs), 0) else if xs.length = 4096 then (([], []), 4) else ((insK Prod.fst xs a, gs), 0)
set_option maxRecDepth 100000 in
set_option maxHeartbeats 1000000 in
theorem bsA_gen (g : Nat) (lb : Array Value) (eg : ∀ args w, (callFunc g args).run Tryz.prog w = .ok (.enter g args) w) (B : Nat) (A : Option Addr) (n c : Nat) (xs : List Am) (t : Tm) (w : World) (hA : RdA w w.heap.size A n xs) (hn : n ≤ 1099511627776) (hasc : ascTP (xs.map Prod.fst))
    (hp : ∀ x ∈ xs, ∀ w', Below B w w' → Calls Tryz.prog g (#[.agg #[.int .i64 x.1.1.1, .int .u32 x.1.1.2, .int .i64 x.1.2, .string (bs x.2)], .agg #[.int .i64 t.1.1, .int .u32 t.1.2, .int .i64 t.2]] ++ lb) w' fun e w'' => e = .returned (.int .i64 (cmpT x.1 t)) ∧ Below w'.heap.size w' w'') (hB : B ≤ w.heap.size) :
    Calls Tryz.prog 69 #[.slice A n c, .agg #[.int .i64 t.1.1, .int .u32 t.1.2, .int .i64 t.2], .func (.func g) #[] lb] w
      fun e w' => e = .returned (.tuple #[.int .i64 (posT (xs.map Prod.fst) t : Int), .bool ((xs.map Prod.fst).contains t)]) ∧ Below w.heap.size w w' := by
  have hl := hA.len
  have hb0 : Below w.heap.size w (w.alloc (.cells #[.int .i64 t.1.1, .int .u32 t.1.2, .int .i64 t.2] 45)) := (Below.refl _ w).alloc (Nat.le_refl _) _
  have hbx := tbox t w
  generalize hW : w.alloc (.cells #[.int .i64 t.1.1, .int .u32 t.1.2, .int .i64 t.2] 45) = W at hb0 hbx
  have hltx := blk_lt hbx
  have hbxH := Lib.hid hbx
  have hps := posT_le (xs.map Prod.fst) t
  first | rw [List.length_map, hl] at hps | rw [hl] at hps
  have hbef := Lib.hid (fun (i : Nat) (x : Am) (h : xs[i]? = some x) => ascT_before hasc (t := t) (i := i) (x := x.1) (by first | exact h | (rw [List.getElem?_map, h]; rfl)))
  have hhas := Lib.hid (posT_has hasc (t := t))
  generalize hP : posT (xs.map Prod.fst) t = P at hps hbef hhas ⊢
  generalize (xs.map Prod.fst).contains t = r at hhas ⊢
  have hpH := Lib.hid hp
  have hlH := Lib.hid hl
  have hAW := Lib.hid (fun w' (h : Below w.heap.size w w') => (hA.below h).more h.size)
  clear hp hl hasc hP hbx hA
  go_enter Tryz.func69, Tryz.ntmps69
  go_wp2_with fail
  try rw [hW]
  clear hW
  go_loopg [9, 10] (n + 1) (fun g i j wr => ∃ p q : Nat, p ≤ P ∧ P ≤ q ∧ q ≤ n ∧ g = q - p + 1 ∧ i = .int .i64 (p : Int) ∧ j = .int .i64 (q : Int) ∧ Below W.heap.size W wr)
  case atStart => exact ⟨0, n, Nat.zero_le _, hps, Nat.le_refl _, rfl, rfl, rfl, Below.refl _ _⟩
  case round =>
    obtain ⟨p, q, hpP, hPq, hqn, rfl, rfl, rfl, hbr⟩ := hrel
    have hz := hbr.size
    have hz0 := hb0.size
    have hbw : Below w.heap.size w wr := hb0.trans (hbr.mono hz0)
    have hbx1 := blk_below hbxH.out hbr
    have hltx1 := blk_lt hbx1
    have t0 := blk_cell hbx1 0
    have t1 := blk_cell hbx1 1
    have t2 := blk_cell hbx1 2
    simp at t0 t1 t2
    clear hbx1
    by_cases hlt : p < q
    · obtain ⟨h, hh⟩ : ∃ h : Nat, h = (p + q) / 2 := ⟨_, rfl⟩
      have hph : p ≤ h := by omega
      have hhq : h < q := by omega
      have hhn : h < n := by omega
      have hlti : (p : Int) < (q : Int) := by omega
      have hmid : ((p : Int) + (q : Int)) / 2 = (h : Int) := by omega
      have hbA2' := hb0.size
      clear hh
      obtain ⟨bA, oA, x, rfl, hbA, hxx, hcp⟩ := (hAW.out wr hbw).at_ hhn
      have p0 := hcp 0 _ rfl
      have p1 := hcp 1 _ rfl
      have p2 := hcp 2 _ rfl
      have p3 := hcp 3 _ rfl
      rw [Nat.add_zero] at p0
      clear hcp
      have hbf := Lib.hid (hbef.out h x hxx)
      have hcm := fun w' (hb' : KQ wr.heap.size wr w') => hpH.out x (List.mem_of_getElem? hxx) w' ((hbw.trans (hb'.1.mono hbw.size)).mono hB)
      have hxH := Lib.hid hxx
      clear hxx
      by_cases hc : cmpT x.1 t < 0
      · have h3 : h < P := hbf.out.1 hc
        generalize cmpT x.1 t = z at hcm hc
        have hcmH := Lib.hid hcm
        clear hcm hbf
        have hq0 : KQ wr.heap.size wr wr := kq (Below.refl _ _)
        go_wp2_with fail
        go_region_held3 (fun w' => KQ wr.heap.size wr w') (first
      | with_reducible exact kq_call (by assumption) (by simp) (by assumption)
      | with_reducible exact kq_alloc (by with_reducible assumption) (Nat.le_refl _) _
      | with_reducible exact kq_alloc (kq_drew (by assumption)) (Nat.le_refl _) _
      | ((with_reducible refine kq ?_); (repeat (first | (with_reducible exact Below.refl _ _) | (with_reducible refine Below.drew ?_) | (with_reducible refine Below.alloc ?_ (by simp) _) | (with_reducible refine Below.setCell ?_ (by simp) _) | (with_reducible exact (by assumption : KQ _ _ _).1))); done))
          (first | ((with_reducible refine (hcmH.out _ (by with_reducible assumption)).mono ?_); rintro e w1 ⟨rfl, hb1⟩))
        have hF : KQ wr.heap.size wr w1 := by with_reducible assumption
        have hG := hbr.trans (hF.1.mono hz)
        clear hF
        go_wp2
        go_roundg (q - (h + 1) + 1)
        case measure => omega
        case rel => exact ⟨h + 1, q, by omega, hPq, hqn, rfl, by go_num, rfl, hG⟩
      · have h3 : ¬ h < P := fun e => hc (hbf.out.2 e)
        have hcd : decide (cmpT x.1 t < 0) = false := by simpa using hc
        generalize cmpT x.1 t = z at hcm hcd
        have hcmH := Lib.hid hcm
        clear hcm hbf hc
        have hq0 : KQ wr.heap.size wr wr := kq (Below.refl _ _)
        go_wp2_with fail
        go_region_held3 (fun w' => KQ wr.heap.size wr w') (first
      | with_reducible exact kq_call (by assumption) (by simp) (by assumption)
      | with_reducible exact kq_alloc (by with_reducible assumption) (Nat.le_refl _) _
      | with_reducible exact kq_alloc (kq_drew (by assumption)) (Nat.le_refl _) _
      | ((with_reducible refine kq ?_); (repeat (first | (with_reducible exact Below.refl _ _) | (with_reducible refine Below.drew ?_) | (with_reducible refine Below.alloc ?_ (by simp) _) | (with_reducible refine Below.setCell ?_ (by simp) _) | (with_reducible exact (by assumption : KQ _ _ _).1))); done))
          (first | ((with_reducible refine (hcmH.out _ (by with_reducible assumption)).mono ?_); rintro e w1 ⟨rfl, hb1⟩))
        have hF : KQ wr.heap.size wr w1 := by with_reducible assumption
        have hG := hbr.trans (hF.1.mono hz)
        clear hF
        go_wp2
        go_roundg (h - p + 1)
        case measure => omega
        case rel => exact ⟨p, h, hpP, by omega, by omega, rfl, rfl, rfl, hG⟩
    · obtain rfl : p = q := by omega
      obtain rfl : p = P := by omega
      by_cases hlt2 : p < n
      · have hlti : (p : Int) < (n : Int) := by omega
        obtain ⟨bA, oA, x, rfl, hbA, hxx, hcp⟩ := (hAW.out wr hbw).at_ hlt2
        have p0 := hcp 0 _ rfl
        have p1 := hcp 1 _ rfl
        have p2 := hcp 2 _ rfl
        have p3 := hcp 3 _ rfl
        rw [Nat.add_zero] at p0
        clear hcp
        have hcm := fun w' (hb' : KQ wr.heap.size wr w') => hpH.out x (List.mem_of_getElem? hxx) w' ((hbw.trans (hb'.1.mono hbw.size)).mono hB)
        have hT : Hid (decide (cmpT x.1 t = 0) = r) := Lib.hid (by first | (rw [hhas.out, List.getElem?_map, hxx]; rfl) | (rw [hhas.out, hxx]))
        clear hxx
        generalize cmpT x.1 t = z at hcm hT
        have hcmH := Lib.hid hcm
        clear hcm hbef hhas
        have hq0 : KQ wr.heap.size wr wr := kq (Below.refl _ _)
        by_cases hz0 : z = 0
        · subst hz0
          rw [show decide ((0 : Int) = 0) = true from rfl] at hT
          go_wp2_with fail
          go_region_held3 (fun w' => KQ wr.heap.size wr w') (first
      | with_reducible exact kq_call (by assumption) (by simp) (by assumption)
      | with_reducible exact kq_alloc (by with_reducible assumption) (Nat.le_refl _) _
      | with_reducible exact kq_alloc (kq_drew (by assumption)) (Nat.le_refl _) _
      | ((with_reducible refine kq ?_); (repeat (first | (with_reducible exact Below.refl _ _) | (with_reducible refine Below.drew ?_) | (with_reducible refine Below.alloc ?_ (by simp) _) | (with_reducible refine Below.setCell ?_ (by simp) _) | (with_reducible exact (by assumption : KQ _ _ _).1))); done))
            (first | ((with_reducible refine (hcmH.out _ (by with_reducible assumption)).mono ?_); rintro e w1 ⟨rfl, hb1⟩))
          have hF : KQ wr.heap.size wr w1 := by with_reducible assumption
          have hG := hbw.trans (hF.1.mono hbw.size)
          clear hF
          go_wp2
          exact bodyPost_ret (v := .tuple #[.int .i64 (p : Int), .bool true]) (by simp [results, Tryz.results69, go_sem]) rfl ⟨by rw [hT.out], hG⟩
        · have hzd : (z == 0) = false := by simpa using hz0
          rw [show decide (z = 0) = false from decide_eq_false hz0] at hT
          clear hz0
          go_wp2_with fail
          go_region_held3 (fun w' => KQ wr.heap.size wr w') (first
      | with_reducible exact kq_call (by assumption) (by simp) (by assumption)
      | with_reducible exact kq_alloc (by with_reducible assumption) (Nat.le_refl _) _
      | with_reducible exact kq_alloc (kq_drew (by assumption)) (Nat.le_refl _) _
      | ((with_reducible refine kq ?_); (repeat (first | (with_reducible exact Below.refl _ _) | (with_reducible refine Below.drew ?_) | (with_reducible refine Below.alloc ?_ (by simp) _) | (with_reducible refine Below.setCell ?_ (by simp) _) | (with_reducible exact (by assumption : KQ _ _ _).1))); done))
            (first | ((with_reducible refine (hcmH.out _ (by with_reducible assumption)).mono ?_); rintro e w1 ⟨rfl, hb1⟩))
          have hF : KQ wr.heap.size wr w1 := by with_reducible assumption
          have hG := hbw.trans (hF.1.mono hbw.size)
          clear hF
          go_wp2
          exact bodyPost_ret (v := .tuple #[.int .i64 (p : Int), .bool false]) (by simp [results, Tryz.results69, go_sem]) rfl ⟨by rw [hT.out], hG⟩
      · have hnlt : ¬ (p : Int) < (n : Int) := by omega
        have hT : Hid (false = r) := Lib.hid (by rw [hhas.out, List.getElem?_eq_none (by first | (rw [List.length_map, hlH.out]; omega) | (rw [hlH.out]; omega))])
        clear hbef hhas
        have hnd : decide ((p : Int) < (n : Int)) = false := decide_eq_false hnlt
        go_wp2_with fail
        refine wp_region_M (fun w' => KQ wr.heap.size wr w') (fun _ => True) 99 (by kernel_rfl) (kq (Below.refl _ _).drew) trivial ?_
        intro hcl
        have hC : KQ wr.heap.size wr wr.drew := kq (Below.refl _ _).drew
        have hE := trivial
        (refine wpM_take (i := 0) (v := ?_) rfl (by kernel_rfl) (by kernel_rfl) (by kernel_rfl) (by decide) (fun _ _ _ h => h) hcl hC (fun _ => hE) (Or.inl ⟨by rfl, ?_⟩) ?_; rotate_left; (· (intro w hSw; (try dsimp only at hSw); go_simp; (try with_reducible rfl))); clear hcl; intro hcl; (try simp only [Act.put, List.getElem_toArray, List.getElem_cons_zero, List.setIfInBounds_toArray, List.set_cons_zero, List.set_cons_succ]))
        (refine wpM_take (i := 1) (v := ?_) rfl (by kernel_rfl) (by kernel_rfl) (by kernel_rfl) (by decide) (fun _ _ _ h => h) hcl hC (fun _ => hE) (Or.inl ⟨by rfl, ?_⟩) ?_; rotate_left; (· (intro w hSw; (try dsimp only at hSw); go_simp; (try with_reducible rfl))); clear hcl; intro hcl; (try simp only [Act.put, List.getElem_toArray, List.getElem_cons_zero, List.getElem_cons_succ, List.setIfInBounds_toArray, List.set_cons_zero, List.set_cons_succ]))
        (refine wpM_take (i := 2) (v := ?_) rfl (by kernel_rfl) (by kernel_rfl) (by kernel_rfl) (by decide) (fun _ _ _ h => h) hcl hC (fun _ => hE) (Or.inl ⟨by rfl, ?_⟩) ?_; rotate_left; (· (intro w hSw; (try dsimp only at hSw); go_simp; (try with_reducible rfl))); clear hcl; intro hcl; (try simp only [Act.put, List.getElem_toArray, List.getElem_cons_zero, List.getElem_cons_succ, List.setIfInBounds_toArray, List.set_cons_zero, List.set_cons_succ]))
        (refine wpM_take (i := 3) (v := ?_) rfl (by kernel_rfl) (by kernel_rfl) (by kernel_rfl) (by decide) (fun _ _ _ h => h) hcl hC (fun _ => hE) (Or.inl ⟨by rfl, ?_⟩) ?_; rotate_left; (· (intro w hSw; (try dsimp only at hSw); go_simp; (try with_reducible rfl))); clear hcl; intro hcl; (try simp only [Act.put, List.getElem_toArray, List.getElem_cons_zero, List.getElem_cons_succ, List.setIfInBounds_toArray, List.set_cons_zero, List.set_cons_succ]))
        (refine wpM_take (i := 4) (v := ?_) rfl (by kernel_rfl) (by kernel_rfl) (by kernel_rfl) (by decide) (fun _ _ _ h => h) hcl hC (fun _ => hE) (Or.inl ⟨by rfl, ?_⟩) ?_; rotate_left; (· (intro w hSw; (try dsimp only at hSw); go_simp; (try with_reducible rfl))); clear hcl; intro hcl; (try simp only [Act.put, List.getElem_toArray, List.getElem_cons_zero, List.getElem_cons_succ, List.setIfInBounds_toArray, List.set_cons_zero, List.set_cons_succ]))
        (refine wpM_take (i := 5) (v := undef) rfl (by kernel_rfl) (by kernel_rfl) (by kernel_rfl) (by decide) (fun _ _ _ h => h) hcl hC (fun _ => hE) (Or.inr ⟨by rfl, rfl⟩) ?_; clear hcl; intro hcl; (try simp only [Act.put, List.getElem_toArray, List.getElem_cons_zero, List.getElem_cons_succ, List.setIfInBounds_toArray, List.set_cons_zero, List.set_cons_succ]))
        (refine wpM_take (i := 6) (v := undef) rfl (by kernel_rfl) (by kernel_rfl) (by kernel_rfl) (by decide) (fun _ _ _ h => h) hcl hC (fun _ => hE) (Or.inr ⟨by rfl, rfl⟩) ?_; clear hcl; intro hcl; (try simp only [Act.put, List.getElem_toArray, List.getElem_cons_zero, List.getElem_cons_succ, List.setIfInBounds_toArray, List.set_cons_zero, List.set_cons_succ]))
        (refine wpM_take (i := 7) (v := undef) rfl (by kernel_rfl) (by kernel_rfl) (by kernel_rfl) (by decide) (fun _ _ _ h => h) hcl hC (fun _ => hE) (Or.inr ⟨by rfl, rfl⟩) ?_; clear hcl; intro hcl; (try simp only [Act.put, List.getElem_toArray, List.getElem_cons_zero, List.getElem_cons_succ, List.setIfInBounds_toArray, List.set_cons_zero, List.set_cons_succ]))
        (refine wpM_take (i := 8) (v := undef) rfl (by kernel_rfl) (by kernel_rfl) (by kernel_rfl) (by decide) (fun _ _ _ h => h) hcl hC (fun _ => hE) (Or.inr ⟨by rfl, rfl⟩) ?_; clear hcl; intro hcl; (try simp only [Act.put, List.getElem_toArray, List.getElem_cons_zero, List.getElem_cons_succ, List.setIfInBounds_toArray, List.set_cons_zero, List.set_cons_succ]))
        (refine wpM_take (i := 9) (v := undef) rfl (by kernel_rfl) (by kernel_rfl) (by kernel_rfl) (by decide) (fun _ _ _ h => h) hcl hC (fun _ => hE) (Or.inr ⟨by rfl, rfl⟩) ?_; clear hcl; intro hcl; (try simp only [Act.put, List.getElem_toArray, List.getElem_cons_zero, List.getElem_cons_succ, List.setIfInBounds_toArray, List.set_cons_zero, List.set_cons_succ]))
        (refine wpM_take (i := 10) (v := undef) rfl (by kernel_rfl) (by kernel_rfl) (by kernel_rfl) (by decide) (fun _ _ _ h => h) hcl hC (fun _ => hE) (Or.inr ⟨by rfl, rfl⟩) ?_; clear hcl; intro hcl; (try simp only [Act.put, List.getElem_toArray, List.getElem_cons_zero, List.getElem_cons_succ, List.setIfInBounds_toArray, List.set_cons_zero, List.set_cons_succ]))
        (refine wpM_take (i := 11) (v := undef) rfl (by kernel_rfl) (by kernel_rfl) (by kernel_rfl) (by decide) (fun _ _ _ h => h) hcl hC (fun _ => hE) (Or.inr ⟨by rfl, rfl⟩) ?_; clear hcl; intro hcl; (try simp only [Act.put, List.getElem_toArray, List.getElem_cons_zero, List.getElem_cons_succ, List.setIfInBounds_toArray, List.set_cons_zero, List.set_cons_succ]))
        (refine wpM_take (i := 12) (v := undef) rfl (by kernel_rfl) (by kernel_rfl) (by kernel_rfl) (by decide) (fun _ _ _ h => h) hcl hC (fun _ => hE) (Or.inr ⟨by rfl, rfl⟩) ?_; clear hcl; intro hcl; (try simp only [Act.put, List.getElem_toArray, List.getElem_cons_zero, List.getElem_cons_succ, List.setIfInBounds_toArray, List.set_cons_zero, List.set_cons_succ]))
        (refine wpM_take (i := 13) (v := ?_) rfl (by kernel_rfl) (by kernel_rfl) (by kernel_rfl) (by decide) (fun _ _ _ h => h) hcl hC (fun _ => hE) (Or.inl ⟨by rfl, ?_⟩) ?_; rotate_left; (· (intro w hSw; (try dsimp only at hSw); go_simp; (try with_reducible rfl))); clear hcl; intro hcl; (try simp only [Act.put, List.getElem_toArray, List.getElem_cons_zero, List.getElem_cons_succ, List.setIfInBounds_toArray, List.set_cons_zero, List.set_cons_succ]))
        (refine wpM_take (i := 14) (v := ?_) rfl (by kernel_rfl) (by kernel_rfl) (by kernel_rfl) (by decide) (fun _ _ _ h => h) hcl hC (fun _ => hE) (Or.inl ⟨by rfl, ?_⟩) ?_; rotate_left; (· (intro w hSw; (try dsimp only at hSw); go_simp; (try with_reducible rfl))); clear hcl; intro hcl; (try simp only [Act.put, List.getElem_toArray, List.getElem_cons_zero, List.getElem_cons_succ, List.setIfInBounds_toArray, List.set_cons_zero, List.set_cons_succ]))
        (refine wpM_take (i := 15) (v := ?_) rfl (by kernel_rfl) (by kernel_rfl) (by kernel_rfl) (by decide) (fun _ _ _ h => h) hcl hC (fun _ => hE) (Or.inl ⟨by rfl, ?_⟩) ?_; rotate_left; (· (intro w hSw; (try dsimp only at hSw); go_simp; (try with_reducible rfl))); clear hcl; intro hcl; (try simp only [Act.put, List.getElem_toArray, List.getElem_cons_zero, List.getElem_cons_succ, List.setIfInBounds_toArray, List.set_cons_zero, List.set_cons_succ]))
        refine wpM_done (by kernel_rfl) ?_
        clear hcl
        try simp only [List.getElem_toArray, List.getElem_cons_zero, List.getElem_cons_succ, List.setIfInBounds_toArray, List.set_cons_zero, List.set_cons_succ]
        go_wp2
        exact bodyPost_ret (v := .tuple #[.int .i64 (p : Int), .bool false]) (by simp [results, Tryz.results69, go_sem]) rfl ⟨by rw [hT.out], hbw.drew⟩
set_option maxRecDepth 100000 in
set_option maxHeartbeats 4000000 in
theorem oput_any (A : Option Addr) (n c : Nat) (xs : List Am) (B : Option Addr) (m d : Nat) (gs : List Tm) (a : Am) (w : World) (hA : RdA w w.heap.size A n xs) (hB : RdT w w.heap.size B m gs) (hn : n ≤ 100000) (hm : m ≤ 100000) (hx : ∀ a ∈ xs, a.wf) (hg : ∀ t ∈ gs, t.wf) (hl : ∀ a ∈ xs, a.2.length ≤ maxLen) (ha : a.wf) (hal : a.2.length ≤ maxLen) :
    Calls Tryz.prog 39 #[.agg #[.slice A n c, .slice B m d], .agg #[.int .i64 a.1.1.1, .int .u32 a.1.1.2, .int .i64 a.1.2, .string (bs a.2)]] w (PostO w (putO xs gs a).1 (putO xs gs a).2) := by
  have hb0 : Below w.heap.size w (((w.alloc (.cells #[.slice A n c, .slice B m d] 59)).alloc (.cells #[.int .i64 a.1.1.1, .int .u32 a.1.1.2, .int .i64 a.1.2, .string (bs a.2)] 123)).alloc (.cells #[.slice none 0 0, .slice none 0 0] 59)) := (((Below.refl _ w).alloc (Nat.le_refl _) _).alloc (by simp) _).alloc (by simp; omega) _
  have hbx : (((w.alloc (.cells #[.slice A n c, .slice B m d] 59)).alloc (.cells #[.int .i64 a.1.1.1, .int .u32 a.1.1.2, .int .i64 a.1.2, .string (bs a.2)] 123)).alloc (.cells #[.slice none 0 0, .slice none 0 0] 59)).heap[w.heap.size]? = some (.cells #[.slice A n c, .slice B m d] 59 (0, 0)) := heap_old _ (by simp; omega) (heap_old _ (by simp) (heap_at _ _ rfl))
  have hba : (((w.alloc (.cells #[.slice A n c, .slice B m d] 59)).alloc (.cells #[.int .i64 a.1.1.1, .int .u32 a.1.1.2, .int .i64 a.1.2, .string (bs a.2)] 123)).alloc (.cells #[.slice none 0 0, .slice none 0 0] 59)).heap[w.heap.size + 1]? = some (.cells #[.int .i64 a.1.1.1, .int .u32 a.1.1.2, .int .i64 a.1.2, .string (bs a.2)] 123 (0, 0)) := heap_old _ (by simp) (heap_at _ _ (by simp))
  have hbr : (((w.alloc (.cells #[.slice A n c, .slice B m d] 59)).alloc (.cells #[.int .i64 a.1.1.1, .int .u32 a.1.1.2, .int .i64 a.1.2, .string (bs a.2)] 123)).alloc (.cells #[.slice none 0 0, .slice none 0 0] 59)).heap[w.heap.size + 1 + 1]? = some (.cells #[.slice none 0 0, .slice none 0 0] 59 (0, 0)) := heap_at _ _ (by simp)
  generalize hW : (((w.alloc (.cells #[.slice A n c, .slice B m d] 59)).alloc (.cells #[.int .i64 a.1.1.1, .int .u32 a.1.1.2, .int .i64 a.1.2, .string (bs a.2)] 123)).alloc (.cells #[.slice none 0 0, .slice none 0 0] 59)) = W at hb0 hbx hba hbr
  have hbxH := Lib.hid hbx
  have hbaH := Lib.hid hba
  have hbrH := Lib.hid hbr
  have hltx := blk_lt hbx
  have hlta := blk_lt hba
  have hltr := blk_lt hbr
  have s0 := blk_cell hbx 0
  have s1 := blk_cell hbx 1
  have r0 := blk_cell hbr 0
  have r1 := blk_cell hbr 1
  simp at s0 s1 r0 r1
  have hfr := blk_frozen hbr
  have hck := Lib.hid (ocheck_any A n c xs B m d gs W ((hA.below hb0).more hb0.size) ((hB.below hb0).more hb0.size) (by simp [maxLen]; omega) (by simp [maxLen]; omega) hx hg hl)
  have hnt := Lib.hid (onotag_any a.1 ha)
  have hel := Lib.hid (oelem_any a.2 hal)
  generalize hr : putO xs gs a = out
  unfold putO at hr
  have hxl := hA.len
  rw [hxl] at hr
  generalize hpe : oErr xs gs = p at hck hr
  by_cases hp : p = 0
  case neg =>
    rw [if_pos hp] at hr
    subst hr
    have hpn : (p != 0) = true := by simpa using hp
    clear hpe hp hbx hbr hA hB hba
    go_enter Tryz.func39, Tryz.ntmps39
    go_wp2_with fail
    refine hck.out.mono ?_
    rintro e w1 ⟨rfl, hv1⟩
    have hG := hb0.trans (hv1.mono hb0.size)
    have hr1 := blk_below hbrH.out hv1
    have hlr1 := blk_lt hr1
    clear r0 r1 hfr
    have r0 := blk_cell hr1 0
    have r1 := blk_cell hr1 1
    have hfr := blk_frozen hr1
    simp at r0 r1
    have hGs : Below w.heap.size w ((w1.setCell ⟨w.heap.size + 1 + 1, 0, none⟩ (.slice none 0 0)).setCell ⟨w.heap.size + 1 + 1, 1, none⟩ (.slice none 0 0)) := (hG.setCell (by dsimp only; omega) _).setCell (by dsimp only; omega) _
    go_wp2
    exact bodyPost_ret (v := .tuple #[.agg #[.slice none 0 0, .slice none 0 0], .int .i64 p]) (by simp [results, Tryz.results39, go_sem, r0, r1]) rfl (PostO.nil_ hGs)
  subst hp
  rw [if_neg (by simp)] at hr
  obtain ⟨hn4, hm4, _, _, hascA, hasc, _⟩ := sErr_zero.1 hpe
  rw [List.length_map, hA.len] at hn4
  rw [hB.len] at hm4
  cases hc1 : chkT a.1
  case false =>
    rw [hc1] at hnt hr
    rw [if_pos rfl] at hr
    subst hr
    clear hpe hbx hbr hA hB hasc hascA hba
    go_enter Tryz.func39, Tryz.ntmps39
    go_wp2_with fail
    refine hck.out.mono ?_
    rintro e w1 ⟨rfl, hv1⟩
    have hG1 := hb0.trans (hv1.mono hb0.size)
    have ha1 := blk_below hbaH.out hv1
    have a0 := blk_cell ha1 0
    have a1 := blk_cell ha1 1
    have a2 := blk_cell ha1 2
    have a3 := blk_cell ha1 3
    simp at a0 a1 a2 a3
    have hlta := blk_lt ha1
    go_wp2_with fail
    refine (hnt.out _).mono ?_
    rintro e w2 ⟨rfl, hv2⟩
    have hG := hG1.trans (hv2.mono hG1.size)
    have hr1 := blk_below (blk_below hbrH.out hv1) hv2
    have hlr1 := blk_lt hr1
    clear r0 r1 hfr
    have r0 := blk_cell hr1 0
    have r1 := blk_cell hr1 1
    have hfr := blk_frozen hr1
    simp at r0 r1
    have hGs : Below w.heap.size w ((w2.setCell ⟨w.heap.size + 1 + 1, 0, none⟩ (.slice none 0 0)).setCell ⟨w.heap.size + 1 + 1, 1, none⟩ (.slice none 0 0)) := (hG.setCell (by dsimp only; omega) _).setCell (by dsimp only; omega) _
    go_wp2
    exact bodyPost_ret (v := .tuple #[.agg #[.slice none 0 0, .slice none 0 0], .int .i64 2]) (by simp [results, Tryz.results39, go_sem, r0, r1]) rfl (PostO.nil_ hGs)
  rw [hc1] at hnt hr
  rw [if_neg (by simp)] at hr
  cases he1 : elemB a.2
  case false =>
    rw [he1] at hel hr
    rw [if_pos rfl] at hr
    subst hr
    clear hpe hbx hbr hA hB hasc hascA hba
    go_enter Tryz.func39, Tryz.ntmps39
    go_wp2_with fail
    refine hck.out.mono ?_
    rintro e w1 ⟨rfl, hv1⟩
    have hG1 := hb0.trans (hv1.mono hb0.size)
    have ha1 := blk_below hbaH.out hv1
    have a0 := blk_cell ha1 0
    have a1 := blk_cell ha1 1
    have a2 := blk_cell ha1 2
    have a3 := blk_cell ha1 3
    simp at a0 a1 a2 a3
    have hlta := blk_lt ha1
    go_wp2_with fail
    refine (hnt.out _).mono ?_
    rintro e w2 ⟨rfl, hv2⟩
    have hG := hG1.trans (hv2.mono hG1.size)
    have ha2 := blk_below ha1 hv2
    clear a0 a1 a2 a3 hlta
    have a0 := blk_cell ha2 0
    have a1 := blk_cell ha2 1
    have a2 := blk_cell ha2 2
    have a3 := blk_cell ha2 3
    simp at a0 a1 a2 a3
    have hlta := blk_lt ha2
    go_wp2_with fail
    refine (hel.out _).mono ?_
    rintro e w3 ⟨rfl, rfl⟩
    have hr1 := blk_below (blk_below hbrH.out hv1) hv2
    have hlr1 := blk_lt hr1
    clear r0 r1 hfr
    have r0 := blk_cell hr1 0
    have r1 := blk_cell hr1 1
    have hfr := blk_frozen hr1
    simp at r0 r1
    have hGs : Below w.heap.size w ((w2.setCell ⟨w.heap.size + 1 + 1, 0, none⟩ (.slice none 0 0)).setCell ⟨w.heap.size + 1 + 1, 1, none⟩ (.slice none 0 0)) := (hG.setCell (by dsimp only; omega) _).setCell (by dsimp only; omega) _
    go_wp2
    exact bodyPost_ret (v := .tuple #[.agg #[.slice none 0 0, .slice none 0 0], .int .i64 3]) (by simp [results, Tryz.results39, go_sem, r0, r1]) rfl (PostO.nil_ hGs)
  rw [he1] at hel hr
  rw [if_neg (by simp)] at hr
  have hAr := Lib.hid (fun w' (h : Below w.heap.size w w') => hA.below h)
  have hBr := Lib.hid (fun w' (h : Below w.heap.size w w') => hB.below h)
  have hbs := Lib.hid (fun w' (h : Below w.heap.size w w') => bsA_gen 70 #[] (fun _ _ => by kernel_rfl) w'.heap.size A n c xs a.1 w' ((hA.below h).more h.size) (by omega) hascA (fun x _ w'' _ => bytag_any x a.1 w'') (Nat.le_refl _))
  have hgo := Lib.hid (fun w' (h : Below w.heap.size w w') => ogone_any A n c xs B m d gs a.1 w' ((hB.below h).more h.size) (by omega) hasc)
  have hPl := posT_le (xs.map Prod.fst) a.1
  rw [List.length_map, hxl] at hPl
  have hins : Hid (insK Prod.fst xs a = xs.take (posT (xs.map Prod.fst) a.1) ++ a :: xs.drop (posT (xs.map Prod.fst) a.1)) := Lib.hid rfl
  generalize posT (xs.map Prod.fst) a.1 = P at hbs hPl hins
  generalize insK Prod.fst xs a = I at hr hins
  generalize (xs.map Prod.fst).contains a.1 = b at hbs hr
  generalize gs.contains a.1 = q at hgo hr
  have hrH := Lib.hid hr
  have hxlH := Lib.hid hxl
  have hzW := hb0.size
  clear hpe hbx hba hbr hA hB hx hg hl hasc hascA hr hxl ha hal
  go_enter Tryz.func39, Tryz.ntmps39
  go_wp2_with fail
  refine hck.out.mono ?_
  rintro e w1 ⟨rfl, hv1⟩
  have hG1 := hb0.trans (hv1.mono hb0.size)
  have ha1 := blk_below hbaH.out hv1
  have a0 := blk_cell ha1 0
  have a1 := blk_cell ha1 1
  have a2 := blk_cell ha1 2
  have a3 := blk_cell ha1 3
  simp at a0 a1 a2 a3
  have hlta := blk_lt ha1
  go_wp2_with fail
  refine (hnt.out _).mono ?_
  rintro e w2 ⟨rfl, hv2⟩
  have hG2 := hG1.trans (hv2.mono hG1.size)
  have ha2 := blk_below ha1 hv2
  clear a0 a1 a2 a3 hlta
  have a0 := blk_cell ha2 0
  have a1 := blk_cell ha2 1
  have a2 := blk_cell ha2 2
  have a3 := blk_cell ha2 3
  simp at a0 a1 a2 a3
  have hlta := blk_lt ha2
  go_wp2_with fail
  refine (hel.out _).mono ?_
  rintro e w3 ⟨rfl, rfl⟩
  have hs2 := blk_below (blk_below hbxH.out hv1) hv2
  have hr2 := blk_below (blk_below hbrH.out hv1) hv2
  clear r0 r1 hfr s0 s1 hltx hltr hck hnt hel hbxH hbaH hbrH
  have hltx := blk_lt hs2
  have s0 := blk_cell hs2 0
  have s1 := blk_cell hs2 1
  simp at s0 s1
  go_wp2_with fail
  refine (hbs.out _ hG2).mono ?_
  rintro e w4 ⟨rfl, hv4⟩
  have hG4 := hG2.trans (hv4.mono hG2.size)
  have hs4 := blk_below hs2 hv4
  have hr4 := blk_below hr2 hv4
  have ha4 := blk_below ha2 hv4
  clear s0 s1 hltx a0 a1 a2 a3 hlta hs2 hr2 ha1 ha2 hv1 hv2 hv4 hbs
  have hltx := blk_lt hs4
  have s0 := blk_cell hs4 0
  have s1 := blk_cell hs4 1
  simp at s0 s1
  have a0 := blk_cell ha4 0
  have a1 := blk_cell ha4 1
  have a2 := blk_cell ha4 2
  have a3 := blk_cell ha4 3
  simp at a0 a1 a2 a3
  have hlta := blk_lt ha4
  have hltr := blk_lt hr4
  have hsH := Lib.hid hs4
  have hrbH := Lib.hid hr4
  have haH := Lib.hid ha4
  clear hs4 hr4 ha4
  have hz4 := hG4.size
  have hclA := Lib.hid (fun w' (h : KQ w4.heap.size w4 w') => cloneA_any A n c xs w' ((hAr.out _ (hG4.trans (h.1.mono hz4))).more (hG4.trans (h.1.mono hz4)).size) hn)
  have hclT := Lib.hid (fun w' (h : KQ w4.heap.size w4 w') => cloneT_any B m d gs w' ((hBr.out _ (hG4.trans (h.1.mono hz4))).more (hG4.trans (h.1.mono hz4)).size) hm)
  go_upto_region 9 with (fail)
  go_cut [9] (fun sa wx => ∃ g A' c' B' d', sa = .pointer (some ⟨g, 0, none⟩) ∧ w4.heap.size ≤ g ∧ wx.heap[g]? = some (.cells #[.slice A' n c', .slice B' m d'] 59 (0, 0)) ∧ Ow wx w4.heap.size 123 4 (.slice A' n c') (xs.map Am.enc) ∧ Ow wx w4.heap.size 45 3 (.slice B' m d') (gs.map Tm.enc) ∧ Below w4.heap.size w4 wx)
  case first =>
    have hq0 : KQ w4.heap.size w4 w4 := kq (Below.refl _ _)
    go_region_held3 (fun w' => KQ w4.heap.size w4 w') (first
      | with_reducible assumption
      | with_reducible exact kq_call (by with_reducible assumption) (by first | exact Nat.le_refl _ | simp) (by with_reducible assumption)
      | ((repeat (first | (with_reducible refine kq_set ?_ (by first | (simp; done) | (simp; omega) | omega) _) | (with_reducible refine kq_alloc ?_ (by first | exact Nat.le_refl _ | (simp; done) | (simp; omega)) _))); (first | with_reducible assumption | exact kq (by with_reducible assumption)))
      | ((with_reducible refine kq ?_); (repeat (first | (with_reducible exact Below.refl _ _) | (with_reducible refine Below.drew ?_) | (with_reducible refine Below.alloc ?_ (by simp) _) | (with_reducible refine Below.setCell ?_ (by simp) _) | (with_reducible exact (by assumption : KQ _ _ _).1))); done))
      (first
        | (go_at_call 62
           (with_reducible refine (hclA.out _ (by first | with_reducible assumption | exact kq_drew (Below.refl _ _) | exact kq_drew ((Below.refl _ _).alloc (Nat.le_refl _) _) : KQ w4.heap.size w4 _)).mono ?_)
           rintro e v1 ⟨A1, c1, rfl, o1', hb1⟩
           have hk1 : Below w4.heap.size w4 v1 := (kq_call (by first | with_reducible assumption | exact kq_drew (Below.refl _ _) | exact kq_drew ((Below.refl _ _).alloc (Nat.le_refl _) _) : KQ w4.heap.size w4 _) (Nat.le_refl _) hb1).1
           have hz1 := hk1.size
           have o1 := o1'.base (base' := w4.heap.size) (by simp)
           (first
             | (have hx1 : v1.heap[w4.heap.size]? = some (.cells #[.slice none 0 0, .slice none 0 0] 59 (0, 0)) := (hb1.block _ (blk_lt (heap_drew (heap_at w4 _ rfl)))).trans (heap_drew (heap_at w4 _ rfl)))
             | skip)
          )
        | (go_at_call 63
           (with_reducible refine (hclT.out _ (by with_reducible assumption : KQ w4.heap.size w4 _)).mono ?_)
           rintro e v2 ⟨B2, d2, rfl, o2', hb2⟩
           have hk2 : Below w4.heap.size w4 v2 := (kq_call (by with_reducible assumption : KQ w4.heap.size w4 _) (Nat.le_refl _) hb2).1
           have hz2 := hk2.size
           have o2 := o2'.base (base' := w4.heap.size) (by first | exact hz1 | (simp; omega))
           have o12 : Ow v2 w4.heap.size 123 4 (.slice A1 n c1) (xs.map Am.enc) := by first | exact o1.below hb2 | exact (o1.below ((Below.refl _ _).alloc (Nat.le_refl _) _)).below hb2
           (first
             | (have hx2 := (hb2.block _ (blk_lt hx1)).trans hx1
                have hfx := blk_frozen hx2
                have hlx := blk_lt hx2
                have x0 := blk_cell hx2 0
                have x1 := blk_cell hx2 1
                simp at x0 x1)
             | (have hx2 : v2.heap[v1.heap.size]? = some (.cells #[.slice none 0 0, .slice none 0 0] 59 (0, 0)) := (hb2.block _ (blk_lt (heap_at v1 _ rfl))).trans (heap_at v1 _ rfl)
                have hfx := blk_frozen hx2
                have hlx := blk_lt hx2
                have x0 := blk_cell hx2 0
                have x1 := blk_cell hx2 1
                simp at x0 x1)
             | skip)
          ))
    all_goals
    (have oH := Lib.hid (And.intro o12 o2)
     have hk2H := Lib.hid hk2
     go_wp2_with fail
     go_meet
     first
       | (have hb3 : Below v2.heap.size v2 (v2.alloc (.cells #[.slice A1 n c1, .slice B2 m d2] 59)) := (Below.refl _ v2).alloc (Nat.le_refl _) _
          exact ⟨v2.heap.size, A1, c1, B2, d2, rfl, hz2, heap_at _ _ rfl, oH.out.1.below hb3, oH.out.2.below hb3, hk2H.out.trans (hb3.mono hz2)⟩)
       | (have ha3 := (oH.out.1.set_blk hx2 (by decide) 0 (.slice A1 n c1)).set_blk (blk_set hx2 0 (.slice A1 n c1)) (by decide) 1 (.slice B2 m d2)
          have hb3 := (oH.out.2.set_blk hx2 (by decide) 0 (.slice A1 n c1)).set_blk (blk_set hx2 0 (.slice A1 n c1)) (by decide) 1 (.slice B2 m d2)
          have hx3 := blk_set (blk_set hx2 0 (.slice A1 n c1)) 1 (.slice B2 m d2)
          exact ⟨_, A1, c1, B2, d2, rfl, by omega, hx3, ha3, hb3, (hk2H.out.setCell (by dsimp only; omega) _).setCell (by dsimp only; omega) _⟩))
  case rest =>
    obtain ⟨g9, A9, c9, B9, d9, rfl, hg9, hbX, oA, oB, hB9⟩ := hcut
    obtain ⟨w5, hw5⟩ : ∃ w5, w5 = wc := ⟨_, rfl⟩
    obtain rfl := hw5
    have hG5 : Below w.heap.size w w5 := hG4.trans (hB9.mono hz4)
    have hs5 := blk_below hsH.out hB9
    have hr5 := blk_below hrbH.out hB9
    have ha5 := blk_below haH.out hB9
    have hz5 := hB9.size
    have hltr4 := hltr
    clear s0 s1 hltx a0 a1 a2 a3 hlta hltr hclA hclT
    cases b
    case true =>
      have hlo := blk_lt hbX
      have b0 := blk_cell hbX 0
      have b1 := blk_cell hbX 1
      have hltr := blk_lt hr5
      have r0 := blk_cell hr5 0
      have r1 := blk_cell hr5 1
      simp at b0 b1 r0 r1
      have hfr := blk_frozen hr5
      have ha9 := (oA.set_blk hr5 (by decide) 0 (.slice A9 n c9)).set_blk (blk_set hr5 0 (.slice A9 n c9)) (by decide) 1 (.slice B9 m d9)
      have hb9 := (oB.set_blk hr5 (by decide) 0 (.slice A9 n c9)).set_blk (blk_set hr5 0 (.slice A9 n c9)) (by decide) 1 (.slice B9 m d9)
      have hGs : Below w.heap.size w ((w5.setCell ⟨w.heap.size + 1 + 1, 0, none⟩ (.slice A9 n c9)).setCell ⟨w.heap.size + 1 + 1, 1, none⟩ (.slice B9 m d9)) := (hG5.setCell (by dsimp only; omega) _).setCell (by dsimp only; omega) _
      have oH := Lib.hid (And.intro ha9 hb9)
      clear ha9 hb9
      go_wp2
      have hr := hrH.out
      rw [if_pos (by simp)] at hr
      subst hr
      exact bodyPost_ret (v := .tuple #[.agg #[.slice A9 n c9, .slice B9 m d9], .int .i64 0]) (by simp [results, Tryz.results39, go_sem, r0, r1]) rfl ⟨A9, n, c9, B9, m, d9, rfl, oH.out.1.rd.1, oH.out.2.rd.1, by omega, by omega, oH.out.1.rd.2.2.1, oH.out.1.rd.2.2.2, oH.out.2.rd.2.2.1, oH.out.2.rd.2.2.2, hGs⟩
    case false =>
      have hltx := blk_lt hs5
      have s0 := blk_cell hs5 0
      have s1 := blk_cell hs5 1
      simp at s0 s1
      have a0 := blk_cell ha5 0
      have a1 := blk_cell ha5 1
      have a2 := blk_cell ha5 2
      have a3 := blk_cell ha5 3
      simp at a0 a1 a2 a3
      have hlta := blk_lt ha5
      go_wp2_with fail
      refine (hgo.out w5 hG5).mono ?_
      rintro e w6 ⟨rfl, hv6⟩
      have hG6 := hG5.trans (hv6.mono hG5.size)
      have hs6 := blk_below hs5 hv6
      have hr6 := blk_below hr5 hv6
      have ha6 := blk_below ha5 hv6
      have hx6 := blk_below hbX hv6
      have oA6 := oA.below hv6
      have oB6 := oB.below hv6
      have hz6 := hv6.size
      clear s0 s1 hltx a0 a1 a2 a3 hlta hgo
      cases q
      case true =>
        have hlo := blk_lt hx6
        have b0 := blk_cell hx6 0
        have b1 := blk_cell hx6 1
        have hltr := blk_lt hr6
        have r0 := blk_cell hr6 0
        have r1 := blk_cell hr6 1
        simp at b0 b1 r0 r1
        have hfr := blk_frozen hr6
        have ha9 := (oA6.set_blk hr6 (by decide) 0 (.slice A9 n c9)).set_blk (blk_set hr6 0 (.slice A9 n c9)) (by decide) 1 (.slice B9 m d9)
        have hb9 := (oB6.set_blk hr6 (by decide) 0 (.slice A9 n c9)).set_blk (blk_set hr6 0 (.slice A9 n c9)) (by decide) 1 (.slice B9 m d9)
        have hGs : Below w.heap.size w ((w6.setCell ⟨w.heap.size + 1 + 1, 0, none⟩ (.slice A9 n c9)).setCell ⟨w.heap.size + 1 + 1, 1, none⟩ (.slice B9 m d9)) := (hG6.setCell (by dsimp only; omega) _).setCell (by dsimp only; omega) _
        have oH := Lib.hid (And.intro ha9 hb9)
        clear ha9 hb9
        go_wp2
        have hr := hrH.out
        rw [if_pos (by simp)] at hr
        subst hr
        exact bodyPost_ret (v := .tuple #[.agg #[.slice A9 n c9, .slice B9 m d9], .int .i64 0]) (by simp [results, Tryz.results39, go_sem, r0, r1]) rfl ⟨A9, n, c9, B9, m, d9, rfl, oH.out.1.rd.1, oH.out.2.rd.1, by omega, by omega, oH.out.1.rd.2.2.1, oH.out.1.rd.2.2.2, oH.out.2.rd.2.2.1, oH.out.2.rd.2.2.2, hGs⟩
      case false =>
        have hr := hrH.out
        rw [if_neg (by simp)] at hr
        have hltx := blk_lt hs6
        have s0 := blk_cell hs6 0
        have s1 := blk_cell hs6 1
        simp at s0 s1
        by_cases hn0 : n = 4096
        · rw [if_pos hn0] at hr
          subst hr
          have hnd : ((n : Int) == 4096) = true := by rw [beq_iff_eq]; omega
          have hnd2 : (n : Int) = 4096 := by omega
          clear hrH hn0
          have hltr := blk_lt hr6
          have r0 := blk_cell hr6 0
          have r1 := blk_cell hr6 1
          have hfr := blk_frozen hr6
          simp at r0 r1
          have hGs : Below w.heap.size w ((w6.setCell ⟨w.heap.size + 1 + 1, 0, none⟩ (.slice none 0 0)).setCell ⟨w.heap.size + 1 + 1, 1, none⟩ (.slice none 0 0)) := (hG6.setCell (by dsimp only; omega) _).setCell (by dsimp only; omega) _
          go_wp2
          exact bodyPost_ret (v := .tuple #[.agg #[.slice none 0 0, .slice none 0 0], .int .i64 4]) (by simp [results, Tryz.results39, go_sem, r0, r1]) rfl (PostO.nil_ hGs)
        · rw [if_neg hn0] at hr
          have hrH := Lib.hid hr
          have hnd : ((n : Int) == 4096) = false := by rw [beq_eq_false_iff_ne]; omega
          have hnd2 : ¬ (n : Int) = 4096 := by omega
          have a0 := blk_cell ha6 0
          have a1 := blk_cell ha6 1
          have a2 := blk_cell ha6 2
          have a3 := blk_cell ha6 3
          simp at a0 a1 a2 a3
          have hlta := blk_lt ha6
          have b0 := blk_cell hx6 0
          have b1 := blk_cell hx6 1
          simp at b0 b1
          have hlo := blk_lt hx6
          have hx6H := Lib.hid hx6
          have hr6H := Lib.hid hr6
          clear hr hs6 ha6 hx6 hr6 hs5 hr5 ha5 hbX
          go_wp2_with fail
          have hbO : Below w6.heap.size w6 (w6.alloc (.cells #[.int .i64 a.1.1.1, .int .u32 a.1.1.2, .int .i64 a.1.2, .string (bs a.2)] 123)) := (Below.refl _ w6).alloc (Nat.le_refl _) _
          refine (insA_any w4.heap.size A9 n c9 P xs a w6.heap.size _ (oA6.below hbO) hn hPl (heap_at _ _ rfl) (fun q hq => by have := (oA6.block q hq).2; omega) (by simp; omega)).mono ?_
          rintro e w7 ⟨A7, c7, rfl, o7, hg7⟩
          have hrow : ∀ q, (Value.slice A9 n c9).ownBlock = some q → w4.heap.size ≤ q := fun q hq => (oA6.block q hq).1
          have hx7 : w7.heap[g9]? = some (.cells #[.slice A9 n c9, .slice B9 m d9] 59 (0, 0)) := (hg7.block _ (by simp; omega) (fun e => (oA6.below hbO).ne_blk (blk_below hx6H.out hbO) (by decide) e.symm)).trans (blk_below hx6H.out hbO)
          have hr7 : w7.heap[w.heap.size + 1 + 1]? = some (.cells #[.slice none 0 0, .slice none 0 0] 59 (0, 0)) := (hg7.block _ (by simp; have := blk_lt hr6H.out; omega) (fun e => by have := hrow _ e.symm; omega)).trans (blk_below hr6H.out hbO)
          have oB7 : Ow w7 w4.heap.size 45 3 (.slice B9 m d9) (gs.map Tm.enc) := (oB6.below hbO).other (oA6.below hbO) (by decide) hg7
          have hG7 : Below w.heap.size w w7 := (hG6.trans (hbO.mono hG6.size)).grown hg7 (by simp; omega) (fun q hq => by have := hrow q hq; omega)
          rw [← hins.out] at o7
          clear s0 s1 hltx a0 a1 a2 a3 hlta b0 b1 hlo hg7 hrow hbO
          have hlo := blk_lt hx7
          have b0 := blk_cell hx7 0
          have b1 := blk_cell hx7 1
          have hltr := blk_lt hr7
          have r0 := blk_cell hr7 0
          have r1 := blk_cell hr7 1
          simp at b0 b1 r0 r1
          have hfo := blk_frozen hx7
          have hfr := blk_frozen hr7
          have hne : w.heap.size + 1 + 1 ≠ g9 := by omega
          have hne2 : g9 ≠ w.heap.size + 1 + 1 := by omega
          have hB1 : Below w.heap.size w (w7.setCell ⟨g9, 0, none⟩ (.slice A7 (n + 1) c7)) := hG7.setCell (by dsimp only; omega) _
          have hr9 : (w7.setCell ⟨g9, 0, none⟩ (.slice A7 (n + 1) c7)).heap[w.heap.size + 1 + 1]? = some (.cells #[.slice none 0 0, .slice none 0 0] 59 (0, 0)) := (((Below.refl g9 w7).setCell (Nat.le_refl _) _).block _ (by omega)).trans hr7
          have ha9 := ((o7.set_blk hx7 (by decide) 0 (.slice A7 (n + 1) c7)).set_blk hr9 (by decide) 0 (.slice A7 (n + 1) c7)).set_blk (blk_set hr9 0 _) (by decide) 1 (.slice B9 m d9)
          have hb9 := ((oB7.set_blk hx7 (by decide) 0 (.slice A7 (n + 1) c7)).set_blk hr9 (by decide) 0 (.slice A7 (n + 1) c7)).set_blk (blk_set hr9 0 _) (by decide) 1 (.slice B9 m d9)
          have oH := Lib.hid (And.intro ha9 hb9)
          have hx7H := Lib.hid hx7
          have hr7H := Lib.hid hr7
          have hB1H := Lib.hid hB1
          clear ha9 hb9 hx7 hr7 hr9 hB1
          go_wp2
          have hr := hrH.out
          subst hr
          exact bodyPost_ret (v := .tuple #[.agg #[.slice A7 (n + 1) c7, .slice B9 m d9], .int .i64 0]) (by simp [results, Tryz.results39, go_sem, r0, r1]) rfl ⟨A7, n + 1, c7, B9, m, d9, rfl, oH.out.1.rd.1, oH.out.2.rd.1, by omega, by omega, oH.out.1.rd.2.2.1, oH.out.1.rd.2.2.2, oH.out.2.rd.2.2.1, oH.out.2.rd.2.2.2, (hB1H.out.setCell (by dsimp only; omega) _).setCell (by dsimp only; omega) _⟩
end Go.Proofs.YtffnpfponnhddaaGreat
