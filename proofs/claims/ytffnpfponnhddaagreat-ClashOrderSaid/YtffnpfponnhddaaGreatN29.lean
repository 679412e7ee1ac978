/- ClashOrder's small words: the law's To of registers and counters, its Op. Counters: what is wrong with one. -/
import Derived.Test.YtffnpfponnhddaaGreatN05
import Derived.Test.YtffnpfponnhddaaGreatDef
namespace Go.Proofs.YtffnpfponnhddaaGreat
open Go.RowKit

theorem lto_any (v t o : Int) (w : World) : Calls Tryz.prog 18 #[.agg #[.int .i64 v, .int .u32 t, .int .i64 o]] w fun e w' => e = .returned (.agg #[.int .i64 v, .int .u32 t, .int .i64 o]) ∧ Below w.heap.size w w' := by
  go_enter Tryz.func18, Tryz.ntmps18
  go_wp2
  refine bodyPost_ret (v := .agg #[.int .i64 v, .int .u32 t, .int .i64 o]) (by simp [results, Tryz.results18, go_sem]) rfl ⟨rfl, ?_⟩
  repeat (with_reducible refine Below.setCell ?_ (by simp) _)
  exact ((Below.refl _ w).alloc (Nat.le_refl _) _).alloc (by simp) _
theorem nto_any (p m : Int) (w : World) : Calls Tryz.prog 19 #[.agg #[.int .i64 p, .int .i64 m]] w fun e w' => e = .returned (.agg #[.int .i64 p, .int .i64 m]) ∧ Below w.heap.size w w' := by
  go_enter Tryz.func19, Tryz.ntmps19
  go_wp2
  refine bodyPost_ret (v := .agg #[.int .i64 p, .int .i64 m]) (by simp [results, Tryz.results19, go_sem]) rfl ⟨rfl, ?_⟩
  repeat (with_reducible refine Below.setCell ?_ (by simp) _)
  exact ((Below.refl _ w).alloc (Nat.le_refl _) _).alloc (by simp) _
theorem opto_any (a v : Int) (nm : List UInt8) (w : World) : Calls Tryz.prog 7 #[.agg #[.int .i64 a, .string (bs nm), .int .i64 v]] w fun e w' => e = .returned (.agg #[.int .i64 a, .string (bs nm), .int .i64 v]) ∧ Below w.heap.size w w' := by
  go_enter Tryz.func7, Tryz.ntmps7
  go_wp2
  refine bodyPost_ret (v := .agg #[.int .i64 a, .string (bs nm), .int .i64 v]) (by simp [results, Tryz.results7, go_sem]) rfl ⟨rfl, ?_⟩
  repeat (with_reducible refine Below.setCell ?_ (by simp) _)
  exact ((Below.refl _ w).alloc (Nat.le_refl _) _).alloc (by simp) _
def eW (z : Int) : List Value := [.int .i64 z]
theorem within_any (lo hi : Int) (A : Option Addr) (n c : Nat) (xs : List Int) (w : World) (hA : Rd w w.heap.size 1 A n (xs.map eW)) (hn : n ≤ 1000) :
    Calls Tryz.prog 106 #[.int .i64 lo, .int .i64 hi, .slice A n c] w fun e w' => e = .returned (.bool (xs.all fun x => decide (lo ≤ x ∧ x ≤ hi))) ∧ Below w.heap.size w w' := by
  have hl : xs.length = n := by simpa using hA.1
  generalize hr : (xs.all fun x => decide (lo ≤ x ∧ x ≤ hi)) = r
  have hrH := Lib.hid hr
  clear hr
  go_enter Tryz.func106, Tryz.ntmps106
  go_wp2
  go_loopg [11] (n + 1) (fun g i wr => ∃ k : Nat, k ≤ n ∧ g = n + 1 - k ∧ i = .int .i64 (k : Int) ∧ (∀ x ∈ xs.take k, lo ≤ x ∧ x ≤ hi) ∧ Below w.heap.size w wr)
  case atStart => exact ⟨0, Nat.zero_le _, rfl, rfl, by simp, Below.refl _ _⟩
  case round =>
    obtain ⟨k, hk, rfl, rfl, htk, hbr⟩ := hrel
    by_cases hlt : k < n
    · obtain ⟨b, o, x, rfl, hb, hx, hc⟩ := (hA.below hbr).at_ hlt
      have q0 := hc 0 (.int .i64 x) rfl
      simp at q0
      have hlti : (k : Int) < (n : Int) := by omega
      have hbz := hbr.size
      have hltb : b < wr.heap.size := by omega
      have hin1 : IntKind.i64.wrap ((k : Int) + 1) = ((k + 1 : Nat) : Int) := by rw [IntWalk.i64_in _ (by omega)]; omega
      have hxm : x ∈ xs := List.mem_of_getElem? hx
      by_cases h1 : x < lo
      · have hT : Hid (false = r) := Lib.hid (by
          rw [← hrH.out]; symm; rw [List.all_eq_false]; exact ⟨x, hxm, by simp; omega⟩)
        have d1 : decide (x < lo) = true := decide_eq_true h1
        go_wp2
        go_ret
        exact ⟨ret_bool hT.out, hbr⟩
      · have d1 : decide (x < lo) = false := decide_eq_false h1
        by_cases h2 : hi < x
        · have hT : Hid (false = r) := Lib.hid (by
            rw [← hrH.out]; symm; rw [List.all_eq_false]; exact ⟨x, hxm, by simp; omega⟩)
          have d2 : decide (hi < x) = true := decide_eq_true h2
          go_wp2
          go_ret
          exact ⟨ret_bool hT.out, hbr⟩
        · have d2 : decide (hi < x) = false := decide_eq_false h2
          have hst : Hid (∀ y ∈ xs.take (k + 1), lo ≤ y ∧ y ≤ hi) := Lib.hid (by
            rw [List.take_add_one, hx]
            intro y hy
            rcases List.mem_append.1 hy with hy | hy
            · exact htk y hy
            · obtain rfl : y = x := by simpa using hy
              omega)
          clear htk
          go_wp2
          go_roundg (n + 1 - (k + 1))
          case measure => omega
          case rel => exact ⟨k + 1, by omega, rfl, by go_num, hst.out, hbr⟩
    · obtain rfl : k = n := by omega
      have hnl : ¬ (k : Int) < (k : Int) := by omega
      have hT : Hid (true = r) := Lib.hid (by
        rw [← hrH.out]; symm; rw [List.all_eq_true]
        intro y hy
        rw [List.take_of_length_le (by omega)] at htk
        exact decide_eq_true (htk y hy))
      clear htk
      go_wp2
      go_ret
      exact ⟨ret_bool hT.out, hbr⟩
theorem Rd.madeW {w : World} {g : Nat} {t : TypeId} (l : List Int) (h : w.heap[g]? = some (.cells (l.map fun z => Value.int .i64 z).toArray t (0, 0))) : Rd w w.heap.size 1 (some ⟨g, 0, none⟩) l.length (l.map eW) := by
  refine ⟨by simp, fun _ => ⟨g, 0, rfl, blk_lt h, fun k x hx j u hu => ?_⟩⟩
  rw [List.getElem?_map] at hx
  obtain ⟨z, hz, rfl⟩ := Option.map_eq_some_iff.1 hx
  have hj : j = 0 := by
    rcases j with _ | j
    · rfl
    · simp [eW] at hu
  subst hj
  obtain rfl : Value.int .i64 z = u := by simpa [eW] using hu
  rw [blk_cell h]
  simp [hz]
/-- Two amounts together. -/
def plusA (a b : Int) : Int × Int :=
  if ¬ (-1125899906842624 ≤ a ∧ a ≤ 1125899906842624 ∧ -1125899906842624 ≤ b ∧ b ≤ 1125899906842624) then (0, 2) else if ¬ (-1125899906842624 ≤ a + b ∧ a + b ≤ 1125899906842624) then (0, 12) else (a + b, 0)
theorem plus_any (a b : Int) (w : World) : Calls Tryz.prog 67 #[.int .i64 a, .int .i64 b] w fun e w' => e = .returned (.tuple #[.int .i64 (plusA a b).1, .int .i64 (plusA a b).2]) ∧ Below w.heap.size w w' := by
  have hb1 : Below w.heap.size w (w.alloc (.cells #[.int .i64 a, .int .i64 b] 2)) := (Below.refl _ w).alloc (Nat.le_refl _) _
  have r1 := Rd.madeW [a, b] (show (w.alloc (.cells #[.int .i64 a, .int .i64 b] 2)).heap[w.heap.size]? = some (.cells ([a, b].map fun z => Value.int .i64 z).toArray 2 (0, 0)) from heap_at _ _ rfl)
  have c1 := Lib.hid (within_any (-1125899906842624) 1125899906842624 (some ⟨w.heap.size, 0, none⟩) 2 2 [a, b] _ r1 (by decide))
  by_cases h1 : -1125899906842624 ≤ a ∧ a ≤ 1125899906842624 ∧ -1125899906842624 ≤ b ∧ b ≤ 1125899906842624
  case neg =>
    have hp : plusA a b = (0, 2) := by unfold plusA; rw [if_pos h1]
    have hd : ([a, b].all fun x => decide (-1125899906842624 ≤ x ∧ x ≤ 1125899906842624)) = false := by
      rw [Bool.eq_false_iff]; intro h; simp at h; omega
    rw [hd] at c1
    rw [hp]
    clear h1 hd hp r1
    go_enter Tryz.func67, Tryz.ntmps67
    go_wp2_with fail
    refine c1.out.mono ?_
    rintro e w1 ⟨rfl, hv1⟩
    have hG := hb1.trans (hv1.mono hb1.size)
    go_wp2
    exact bodyPost_ret (v := .tuple #[.int .i64 0, .int .i64 2]) (by simp [results, Tryz.results67, go_sem]) rfl ⟨rfl, hG⟩
  have hd : ([a, b].all fun x => decide (-1125899906842624 ≤ x ∧ x ≤ 1125899906842624)) = true := by simp; omega
  have hw1 : IntKind.i64.wrap (a + b) = a + b := IntWalk.i64_in _ (by omega)
  have hw2 : wrap64 (a + b) = a + b := IntWalk.wrap64_in _ ⟨by omega, by omega⟩
  rw [hd] at c1
  have c2 := Lib.hid (fun w1 (hv : Below w.heap.size w w1) => within_any (-1125899906842624) 1125899906842624 (some ⟨w1.heap.size, 0, none⟩) 1 1 [a + b] _ (Rd.madeW [a + b] (show (w1.alloc (.cells #[.int .i64 (a + b)] 2)).heap[w1.heap.size]? = some (.cells ([a + b].map fun z => Value.int .i64 z).toArray 2 (0, 0)) from heap_at _ _ rfl)) (by decide))
  by_cases h2 : -1125899906842624 ≤ a + b ∧ a + b ≤ 1125899906842624
  case neg =>
    have hp : plusA a b = (0, 12) := by unfold plusA; rw [if_neg (fun h => h h1), if_pos h2]
    have hd2 : ([a + b].all fun x => decide (-1125899906842624 ≤ x ∧ x ≤ 1125899906842624)) = false := by
      rw [Bool.eq_false_iff]; intro h; simp at h; omega
    rw [hd2] at c2
    rw [hp]
    clear h1 h2 hd hd2 hp r1
    go_enter Tryz.func67, Tryz.ntmps67
    go_wp2_with fail
    refine c1.out.mono ?_
    rintro e w1 ⟨rfl, hv1⟩
    have hG1 := hb1.trans (hv1.mono hb1.size)
    have hb2 : Below w1.heap.size w1 (w1.alloc (.cells #[.int .i64 (a + b)] 2)) := (Below.refl _ w1).alloc (Nat.le_refl _) _
    go_wp2_with fail
    refine (c2.out w1 hG1).mono ?_
    rintro e w2 ⟨rfl, hv2⟩
    have hG := hG1.trans ((hb2.trans (hv2.mono hb2.size)).mono hG1.size)
    go_wp2
    exact bodyPost_ret (v := .tuple #[.int .i64 0, .int .i64 12]) (by simp [results, Tryz.results67, go_sem]) rfl ⟨rfl, hG⟩
  have hp : plusA a b = (a + b, 0) := by unfold plusA; rw [if_neg (fun h => h h1), if_neg (fun h => h h2)]
  have hd2 : ([a + b].all fun x => decide (-1125899906842624 ≤ x ∧ x ≤ 1125899906842624)) = true := by simp; omega
  rw [hd2] at c2
  rw [hp]
  clear h1 h2 hd hd2 hp r1
  go_enter Tryz.func67, Tryz.ntmps67
  go_wp2_with fail
  refine c1.out.mono ?_
  rintro e w1 ⟨rfl, hv1⟩
  have hG1 := hb1.trans (hv1.mono hb1.size)
  have hb2 : Below w1.heap.size w1 (w1.alloc (.cells #[.int .i64 (a + b)] 2)) := (Below.refl _ w1).alloc (Nat.le_refl _) _
  go_wp2_with fail
  refine (c2.out w1 hG1).mono ?_
  rintro e w2 ⟨rfl, hv2⟩
  have hG := hG1.trans ((hb2.trans (hv2.mono hb2.size)).mono hG1.size)
  go_wp2
  exact bodyPost_ret (v := .tuple #[.int .i64 (a + b), .int .i64 0]) (by simp [results, Tryz.results67, go_sem]) rfl ⟨rfl, hG⟩
end Go.Proofs.YtffnpfponnhddaaGreat
namespace Go.Proofs.YtffnpfponnhddaaGreat
open Go.RowKit

def chkN (p m : Int) : Int := if p < 0 ∨ 1125899906842624 < p ∨ m < 0 ∨ 1125899906842624 < m then 2 else 0
theorem ret_intC {a b : Int} (h : a = b) : Ending.returned (.int .i64 a) = .returned (.int .i64 b) := by rw [h]
set_option maxRecDepth 100000 in
theorem ncheck_any (p m : Int) (w : World) : Calls Tryz.prog 44 #[.agg #[.int .i64 p, .int .i64 m]] w fun e w' => e = .returned (.int .i64 (chkN p m)) ∧ Below w.heap.size w w' := by
  generalize hr : chkN p m = r
  unfold chkN at hr
  have hrH := Lib.hid hr
  clear hr
  have hb1 : Below w.heap.size w (w.alloc (.cells #[.int .i64 p, .int .i64 m] 56)) := (Below.refl _ w).alloc (Nat.le_refl _) _
  have ix0 : ∀ w', (Instr.index 176 (.agg #[.int .i64 p, .int .i64 m]) (.int .i64 0)).run Tryz.prog w' = .ok (.int .i64 p) w' := fun _ => by kernel_rfl
  have ix1 : ∀ w', (Instr.index 176 (.agg #[.int .i64 p, .int .i64 m]) (.int .i64 1)).run Tryz.prog w' = .ok (.int .i64 m) w' := fun _ => by kernel_rfl
  go_enter Tryz.func44, Tryz.ntmps44
  go_wp2
  go_loopg [10] 3 (fun g i wr => ∃ k : Nat, k ≤ 2 ∧ g = 3 - k ∧ i = .int .i64 (k : Int) ∧ (1 ≤ k → 0 ≤ p ∧ p ≤ 1125899906842624) ∧ (2 ≤ k → 0 ≤ m ∧ m ≤ 1125899906842624) ∧ Below w.heap.size w wr)
  case atStart => exact ⟨0, by omega, rfl, rfl, fun h => absurd h (by omega), fun h => absurd h (by omega), hb1⟩
  case round =>
    obtain ⟨k, hk, rfl, rfl, hp, hm, hbr⟩ := hrel
    have hk3 : k = 0 ∨ k = 1 ∨ k = 2 := by omega
    rcases hk3 with rfl | rfl | rfl
    · clear hp hm
      by_cases h1 : p < 0
      · have hT : Hid (2 = r) := Lib.hid (by rw [← hrH.out, if_pos (.inl h1)])
        have d1 : decide (p < 0) = true := decide_eq_true h1
        go_wp2
        go_ret
        exact ⟨ret_intC hT.out, hbr⟩
      · have d1 : decide (p < 0) = false := decide_eq_false h1
        by_cases h2 : 1125899906842624 < p
        · have hT : Hid (2 = r) := Lib.hid (by rw [← hrH.out, if_pos (.inr (.inl h2))])
          have d2 : decide (1125899906842624 < p) = true := decide_eq_true h2
          go_wp2
          go_ret
          exact ⟨ret_intC hT.out, hbr⟩
        · have d2 : decide (1125899906842624 < p) = false := decide_eq_false h2
          go_wp2
          go_roundg 2
          case measure => omega
          case rel => exact ⟨1, by omega, rfl, by go_num, fun _ => ⟨by omega, by omega⟩, fun h => absurd h (by omega), hbr⟩
    · have hp1 := hp (by omega)
      have hpH := Lib.hid hp1
      clear hp hm hp1
      by_cases h1 : m < 0
      · have hT : Hid (2 = r) := Lib.hid (by rw [← hrH.out, if_pos (.inr (.inr (.inl h1)))])
        have d1 : decide (m < 0) = true := decide_eq_true h1
        go_wp2
        go_ret
        exact ⟨ret_intC hT.out, hbr⟩
      · have d1 : decide (m < 0) = false := decide_eq_false h1
        by_cases h2 : 1125899906842624 < m
        · have hT : Hid (2 = r) := Lib.hid (by rw [← hrH.out, if_pos (.inr (.inr (.inr h2)))])
          have d2 : decide (1125899906842624 < m) = true := decide_eq_true h2
          go_wp2
          go_ret
          exact ⟨ret_intC hT.out, hbr⟩
        · have d2 : decide (1125899906842624 < m) = false := decide_eq_false h2
          go_wp2
          go_roundg 1
          case measure => omega
          case rel => exact ⟨2, by omega, rfl, by go_num, fun _ => hpH.out, fun _ => ⟨by omega, by omega⟩, hbr⟩
    · have hT : Hid (0 = r) := Lib.hid (by
        have a1 := hp (by omega)
        have a2 := hm (by omega)
        rw [← hrH.out, if_neg (by omega)])
      clear hp hm
      go_wp2
      go_ret
      exact ⟨ret_intC hT.out, hbr⟩
theorem nvalue_any (p m : Int) (w : World) : Calls Tryz.prog 23 #[.agg #[.int .i64 p, .int .i64 m]] w fun e w' => e = .returned (.int .i64 (if chkN p m ≠ 0 then 0 else p - m)) ∧ Below w.heap.size w w' := by
  have hb1 : Below w.heap.size w (w.alloc (.cells #[.int .i64 p, .int .i64 m] 56)) := (Below.refl _ w).alloc (Nat.le_refl _) _
  have hbx : (w.alloc (.cells #[.int .i64 p, .int .i64 m] 56)).heap[w.heap.size]? = some (.cells #[.int .i64 p, .int .i64 m] 56 (0, 0)) := heap_at _ _ rfl
  have c1 := Lib.hid (ncheck_any p m (w.alloc (.cells #[.int .i64 p, .int .i64 m] 56)))
  generalize hW : w.alloc (.cells #[.int .i64 p, .int .i64 m] 56) = W at hb1 hbx c1
  by_cases h : chkN p m = 0
  · rw [h] at c1
    rw [if_neg (by rw [h]; simp)]
    have hb : ¬ (p < 0 ∨ 1125899906842624 < p ∨ m < 0 ∨ 1125899906842624 < m) := fun hh => by unfold chkN at h; rw [if_pos hh] at h; exact absurd h (by decide)
    have hw1 : IntKind.i64.wrap (p - m) = p - m := IntWalk.i64_in _ (by omega)
    have hw2 : wrap64 (p - m) = p - m := IntWalk.wrap64_in _ ⟨by omega, by omega⟩
    clear h hb
    have q0 := blk_cell hbx 0
    have q1 := blk_cell hbx 1
    simp at q0 q1
    have hlt := blk_lt hbx
    have hbxH := Lib.hid hbx
    clear hbx
    go_enter Tryz.func23, Tryz.ntmps23
    go_wp2_with fail
    refine c1.out.mono ?_
    rintro e w1 ⟨rfl, hv1⟩
    have hG := hb1.trans (hv1.mono hb1.size)
    have hbx1 := blk_below hbxH.out hv1
    clear q0 q1 hlt
    have q0 := blk_cell hbx1 0
    have q1 := blk_cell hbx1 1
    simp at q0 q1
    have hlt := blk_lt hbx1
    clear hbx1
    go_wp2
    go_ret
    exact ⟨rfl, hG⟩
  · rw [if_pos h]
    have hd : (chkN p m != 0) = true := by simp [h]
    generalize chkN p m = r at *
    have q0 := blk_cell hbx 0
    have q1 := blk_cell hbx 1
    simp at q0 q1
    have hlt := blk_lt hbx
    clear hbx h
    go_enter Tryz.func23, Tryz.ntmps23
    go_wp2_with fail
    refine c1.out.mono ?_
    rintro e w1 ⟨rfl, hv1⟩
    have hG := hb1.trans (hv1.mono hb1.size)
    go_wp2
    go_ret
    exact ⟨rfl, hG⟩
end Go.Proofs.YtffnpfponnhddaaGreat
