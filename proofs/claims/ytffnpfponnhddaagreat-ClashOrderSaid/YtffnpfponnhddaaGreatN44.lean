/- The document's Items of maps. The statements' own items of maps; SameItems. The law's FromValue; the document's SameValue. Regions of which two operations may come up at once. -/
import Derived.Test.YtffnpfponnhddaaGreatM20
import Derived.Test.YtffnpfponnhddaaGreatCoK
import Derived.Test.YtffnpfponnhddaaGreatGb
import Derived.Deep.MidRow
namespace Go.Proofs.YtffnpfponnhddaaGreat
open Go.RowKit

theorem infoItmR : (Tryz.prog.info? 100).map (fun i => (i.zero, i.size, i.bytes)) = some (some (.agg #[.string ⟨#[]⟩, .int .i64 0]), 2, 24) := by kernel_rfl
theorem eItmR : ElemInfo Tryz.prog 69 100 2 24 := by
  obtain ⟨i, hi, h0, h1, h2⟩ := info_parts infoItmR
  exact ⟨Tryz.underlying69, ⟨i, _, hi, h0, h1, h2, rfl⟩, by decide⟩
end Go.Proofs.YtffnpfponnhddaaGreat
namespace Go.Proofs.YtffnpfponnhddaaGreat
open Go.RowKit

set_option maxRecDepth 100000 in
set_option maxHeartbeats 1000000 in
theorem sameitems_any (A B : Option Addr) (n m c d : Nat) (xs ys : List Itm) (w : World) (hA : RdIt w w.heap.size A n xs) (hB : RdIt w w.heap.size B m ys) (hn : n ≤ maxLen) (hm : m ≤ maxLen) :
    Calls Tryz.prog 22 #[.slice A n c, .slice B m d] w fun e w' => e = .returned (.bool (decide (xs = ys))) ∧ Below w.heap.size w w' := by
  have hl := hA.len
  have hl2 := hB.len
  unfold maxLen at hn hm
  generalize hr : decide (xs = ys) = r
  have hrH := Lib.hid hr
  clear hr
  by_cases hnm : (n : Int) = (m : Int)
  · obtain rfl : n = m := by omega
    clear hnm
    go_enter Tryz.func22, Tryz.ntmps22
    go_wp2
    go_loopg [5] (n + 1) (fun g i wr => ∃ k : Nat, k ≤ n ∧ g = n + 1 - k ∧ i = .int .i64 (k : Int) ∧ xs.take k = ys.take k ∧ Below w.heap.size w wr)
    case atStart => exact ⟨0, Nat.zero_le _, rfl, rfl, rfl, Below.refl _ _⟩
    case round =>
      obtain ⟨k, hk, rfl, rfl, htk, hbr⟩ := hrel
      have hz := hbr.size
      by_cases hlt : k < n
      · obtain ⟨bA, oA, x, rfl, hbA, hp, hcp⟩ := (hA.below hbr).at_ hlt
        obtain ⟨bB, oB, y, rfl, hbB, hq, hcq⟩ := (hB.below hbr).at_ hlt
        have p0 := hcp 0 _ rfl
        have p1 := hcp 1 _ rfl
        have q0 := hcq 0 _ rfl
        have q1 := hcq 1 _ rfl
        rw [Nat.add_zero] at p0 q0
        clear hcp hcq
        have hbA2 : bA < wr.heap.size := by omega
        have hbB2 : bB < wr.heap.size := by omega
        have htkH := Lib.hid htk
        have hpH := Lib.hid hp
        have hqH := Lib.hid hq
        clear htk hp hq
        have hq0 : KQ wr.heap.size wr wr := kq (Below.refl _ _)
        obtain ⟨x1, x2⟩ := x
        obtain ⟨y1, y2⟩ := y
        dsimp only at p0 p1 q0 q1
        by_cases he : x1 = y1 ∧ x2 = y2
        · obtain ⟨rfl, rfl⟩ := he
          have hT : Hid (xs.take (k + 1) = ys.take (k + 1)) := Lib.hid (by rw [List.take_add_one, List.take_add_one, htkH.out, hpH.out, hqH.out])
          have hqb : ((bs x1).toList == (bs x1).toList) = true := by simp
          go_wp2
          go_region_held3 (fun w' => KQ wr.heap.size wr w') (first
      | with_reducible exact kq_call (by assumption) (by simp) (by assumption)
      | with_reducible exact kq_grown (by assumption) (by simp) (by assumption) (by simp [Value.ownBlock])
      | ((with_reducible refine kq ?_); (repeat (first | (with_reducible exact Below.refl _ _) | (with_reducible refine Below.drew ?_) | (with_reducible refine Below.alloc ?_ (by simp) _) | (with_reducible refine Below.setCell ?_ (by simp) _) | (with_reducible exact (by assumption : KQ _ _ _).1))); done)) (first | (go_at_call 0; skip))
          have hG : Below w.heap.size w wr.drew := hbr.drew
          go_wp2
          go_roundg (n + 1 - (k + 1))
          case measure => omega
          case rel => exact ⟨k + 1, by omega, rfl, by go_num, hT.out, hG⟩
        · have hT : Hid (false = r) := Lib.hid (by
            rw [← hrH.out]; symm; apply decide_eq_false; intro e; subst e
            have := hpH.out.symm.trans hqH.out
            simp at this; exact he ⟨this.1, this.2⟩)
          have hG : Below w.heap.size w wr.drew := hbr.drew
          by_cases h1 : x1 = y1
          · subst h1
            have h2 : ¬ x2 = y2 := fun e => he ⟨rfl, e⟩
            have hqb : ((bs x1).toList == (bs x1).toList) = true := by simp
            clear he
            go_wp2
            go_region_held3 (fun w' => KQ wr.heap.size wr w') (first
      | with_reducible exact kq_call (by assumption) (by simp) (by assumption)
      | with_reducible exact kq_grown (by assumption) (by simp) (by assumption) (by simp [Value.ownBlock])
      | ((with_reducible refine kq ?_); (repeat (first | (with_reducible exact Below.refl _ _) | (with_reducible refine Below.drew ?_) | (with_reducible refine Below.alloc ?_ (by simp) _) | (with_reducible refine Below.setCell ?_ (by simp) _) | (with_reducible exact (by assumption : KQ _ _ _).1))); done)) (first | (go_at_call 0; skip))
            go_wp2
            go_ret
            exact ⟨ret_bool hT.out, hG⟩
          · have hqb : ((bs x1).toList == (bs y1).toList) = false := by rw [bs_empty, bs_empty, beq_eq_false_iff_ne]; exact h1
            clear he
            go_wp2
            go_region_held3 (fun w' => KQ wr.heap.size wr w') (first
      | with_reducible exact kq_call (by assumption) (by simp) (by assumption)
      | with_reducible exact kq_grown (by assumption) (by simp) (by assumption) (by simp [Value.ownBlock])
      | ((with_reducible refine kq ?_); (repeat (first | (with_reducible exact Below.refl _ _) | (with_reducible refine Below.drew ?_) | (with_reducible refine Below.alloc ?_ (by simp) _) | (with_reducible refine Below.setCell ?_ (by simp) _) | (with_reducible exact (by assumption : KQ _ _ _).1))); done)) (first | (go_at_call 0; skip))
            go_wp2
            go_ret
            exact ⟨ret_bool hT.out, hG⟩
      · have hT : Hid (true = r) := Lib.hid (by
          rw [← hrH.out]; symm; apply decide_eq_true
          rw [List.take_of_length_le (by omega), List.take_of_length_le (by omega)] at htk
          exact htk)
        have hnl : ¬ ((k : Int) < (n : Int)) := by omega
        clear hA hB hl hl2
        go_wp2
        go_ret
        exact ⟨ret_bool hT.out, hbr⟩
  · have hT : Hid (false = r) := Lib.hid (by
      rw [← hrH.out]; symm; apply decide_eq_false; rintro rfl; omega)
    have hd : ((n : Int) != (m : Int)) = true := by simpa using hnm
    clear hA hB hl hl2
    go_enter Tryz.func22, Tryz.ntmps22
    go_wp2
    go_ret
    exact ⟨ret_bool hT.out, Below.refl _ _⟩
end Go.Proofs.YtffnpfponnhddaaGreat
namespace Go.Proofs.YtffnpfponnhddaaGreat
open Go.RowKit

set_option maxRecDepth 100000 in
set_option maxHeartbeats 4000000 in
theorem fromV_any (kd vl : Int) (A : Option Addr) (n c : Nat) (xs : List Itm) (w : World) (hA : RdIt w w.heap.size A n xs) (hn : n ≤ 1000000) :
    Calls Tryz.prog 11 #[.agg #[.int .i64 kd, .int .i64 vl, .slice A n c]] w fun e w' => ∃ A' c', e = .returned (.agg #[.int .i64 kd, .int .i64 vl, .slice A' n c']) ∧ RdIt w' w'.heap.size A' n xs ∧ Below w.heap.size w w' := by
  have hlH := Lib.hid hA.len
  have hAr := Lib.hid (fun w' (h : Below w.heap.size w w') => hA.below h)
  clear hA
  have hb0 : Below w.heap.size w (((w.alloc (.cells #[.int .i64 kd, .int .i64 vl, .slice A n c] 75)).alloc (.cells #[.int .i64 0, .int .i64 0, .slice none 0 0] 71)).alloc (.cells #[.int .i64 kd, .int .i64 vl, .slice none 0 0] 71)) := (((Below.refl _ w).alloc (Nat.le_refl _) _).alloc (by simp) _).alloc (by simp; omega) _
  have hs0 : (((w.alloc (.cells #[.int .i64 kd, .int .i64 vl, .slice A n c] 75)).alloc (.cells #[.int .i64 0, .int .i64 0, .slice none 0 0] 71)).alloc (.cells #[.int .i64 kd, .int .i64 vl, .slice none 0 0] 71)).heap[w.heap.size]? = some (.cells #[.int .i64 kd, .int .i64 vl, .slice A n c] 75 (0, 0)) := heap_old _ (by simp; omega) (heap_old _ (by simp) (heap_at _ _ rfl))
  have hr0 : (((w.alloc (.cells #[.int .i64 kd, .int .i64 vl, .slice A n c] 75)).alloc (.cells #[.int .i64 0, .int .i64 0, .slice none 0 0] 71)).alloc (.cells #[.int .i64 kd, .int .i64 vl, .slice none 0 0] 71)).heap[w.heap.size + 1]? = some (.cells #[.int .i64 0, .int .i64 0, .slice none 0 0] 71 (0, 0)) := heap_old _ (by simp) (heap_at _ _ (by simp))
  have ho0 : (((w.alloc (.cells #[.int .i64 kd, .int .i64 vl, .slice A n c] 75)).alloc (.cells #[.int .i64 0, .int .i64 0, .slice none 0 0] 71)).alloc (.cells #[.int .i64 kd, .int .i64 vl, .slice none 0 0] 71)).heap[w.heap.size + 1 + 1]? = some (.cells #[.int .i64 kd, .int .i64 vl, .slice none 0 0] 71 (0, 0)) := heap_at _ _ (by simp)
  go_enter Tryz.func11, Tryz.ntmps11
  go_wp2_with fail
  go_loopg [4] (n + 1) (fun g i wr => ∃ (k : Nat) (A' : Option Addr) (c' : Nat), k ≤ n ∧ g = n + 1 - k ∧ i = .int .i64 (k : Int) ∧ wr.heap[w.heap.size]? = some (.cells #[.int .i64 kd, .int .i64 vl, .slice A n c] 75 (0, 0)) ∧ wr.heap[w.heap.size + 1]? = some (.cells #[.int .i64 0, .int .i64 0, .slice none 0 0] 71 (0, 0)) ∧ wr.heap[w.heap.size + 1 + 1]? = some (.cells #[.int .i64 kd, .int .i64 vl, .slice A' k c'] 71 (0, 0)) ∧ Ow wr (w.heap.size + 1 + 1 + 1) 100 2 (.slice A' k c') ((xs.take k).map Itm.enc) ∧ Below w.heap.size w wr)
  case atStart => exact ⟨0, none, 0, Nat.zero_le _, rfl, rfl, hs0, hr0, ho0, Ow.nil_ _ _ _ _, hb0⟩
  case round =>
    clear hs0 hr0 ho0 hb0
    obtain ⟨k, A', c', hk, rfl, rfl, hs, hr, ho, hown, hbr⟩ := hrel
    have hz := hbr.size
    have hls := blk_lt hs
    have hlr := blk_lt hr
    have hlo := blk_lt ho
    have s2 := blk_cell hs 2
    have o0 := blk_cell ho 0
    have o1 := blk_cell ho 1
    have o2 := blk_cell ho 2
    have y0 := blk_cell hr 0
    have y1 := blk_cell hr 1
    have y2 := blk_cell hr 2
    have of := blk_frozen ho
    have yf := blk_frozen hr
    simp at s2 o0 o1 o2 y0 y1 y2
    have hsH := Lib.hid hs
    have hrH := Lib.hid hr
    have hoH := Lib.hid ho
    clear hs hr ho
    by_cases hlt : k < n
    · obtain ⟨bA, oA, u, rfl, hbA, hq, hcp⟩ := (hAr.out wr hbr).at_ hlt
      have p0 := hcp 0 _ rfl
      have p1 := hcp 1 _ rfl
      rw [Nat.add_zero] at p0
      clear hcp
      have hst : Hid ((xs.take (k + 1)).map Itm.enc = (xs.take k).map Itm.enc ++ [[.string (bs u.1), .int .i64 u.2]]) := Lib.hid (by rw [List.take_add_one, hq]; simp [Itm.enc])
      have hlk : Hid (((xs.take k).map Itm.enc).length = k) := Lib.hid (by simp; have := hlH.out; omega)
      have hlti : (k : Int) < (n : Int) := by omega
      clear hq
      have hlen1 : ∀ y ∈ ([[.string (bs u.1), .int .i64 u.2]] : List (List Value)), y.length = 2 := by simp
      have hone1 : ∀ y ∈ ([[.string (bs u.1), .int .i64 u.2]] : List (List Value)), ∀ v ∈ y, v.oneCell' = true := by simp [Value.oneCell']
      have hbA2 : bA < w.heap.size + 1 + 1 := by omega
      clear y0 y1 y2 yf
      go_upto_region 5 with (fail)
      refine wp_region_M (fun w' => KQ (w.heap.size + 1 + 1) wr w') (fun w' => w'.cell? ⟨w.heap.size + 1 + 1, 2, none⟩ = some (.slice A' k c')) 18 (by kernel_rfl) (kq (Below.refl _ _).drew) o2 ?_
      intro hcl
      have hC : KQ (w.heap.size + 1 + 1) wr wr.drew := kq (Below.refl _ _).drew
      have hE : wr.drew.cell? ⟨w.heap.size + 1 + 1, 2, none⟩ = some (.slice A' k c') := o2
      (refine wpM_take (i := 0) (v := ?_) rfl (by kernel_rfl) (by kernel_rfl) (by kernel_rfl) (by decide) (fun _ _ _ h => h) hcl hC (fun _ => hE) (Or.inl ⟨by rfl, ?_⟩) ?_; rotate_left; (· (intro w hSw; (try dsimp only at hSw); go_simp; (try with_reducible rfl))); clear hcl; intro hcl; (try simp only [Act.put, List.getElem_toArray, List.getElem_cons_zero, List.setIfInBounds_toArray, List.set_cons_zero, List.set_cons_succ]))
      (refine wpM_take0c (i := 1) (j := 16) (v := ?_) rfl rfl rfl (by kernel_rfl) (by kernel_rfl) (by kernel_rfl) (by kernel_rfl) (by kernel_rfl) (by decide) (fun _ _ _ h => h) hcl hC (fun _ => hE) (Or.inl ⟨by rfl, ?_⟩) ?_; rotate_left; (· (intro w hSw; (try dsimp only at hSw); go_simp; (try with_reducible rfl))); clear hcl; intro hcl; (try simp only [Act.put, List.getElem_toArray, List.getElem_cons_zero, List.getElem_cons_succ, List.setIfInBounds_toArray, List.set_cons_zero, List.set_cons_succ]))
      (refine wpM_take (i := 2) (v := ?_) rfl (by kernel_rfl) (by kernel_rfl) (by kernel_rfl) (by decide) (fun _ _ _ h => h) hcl hC (fun _ => hE) (Or.inl ⟨by rfl, ?_⟩) ?_; rotate_left; (· (intro w hSw; (try dsimp only at hSw); go_simp; (try with_reducible rfl))); clear hcl; intro hcl; (try simp only [Act.put, List.getElem_toArray, List.getElem_cons_zero, List.getElem_cons_succ, List.setIfInBounds_toArray, List.set_cons_zero, List.set_cons_succ]))
      (refine wpM_take (i := 3) (v := ?_) rfl (by kernel_rfl) (by kernel_rfl) (by kernel_rfl) (by decide) (fun _ _ _ h => h) hcl hC (fun _ => hE) (Or.inl ⟨by rfl, ?_⟩) ?_; rotate_left; (· (intro w hSw; (try dsimp only at hSw); go_simp; (try with_reducible rfl))); clear hcl; intro hcl; (try simp only [Act.put, List.getElem_toArray, List.getElem_cons_zero, List.getElem_cons_succ, List.setIfInBounds_toArray, List.set_cons_zero, List.set_cons_succ]))
      (refine wpM_take (i := 4) (v := ?_) rfl (by kernel_rfl) (by kernel_rfl) (by kernel_rfl) (by decide) (fun _ _ _ h => h) hcl hC (fun _ => hE) (Or.inl ⟨by rfl, ?_⟩) ?_; rotate_left; (· (intro w hSw; (try dsimp only at hSw); go_simp; (try with_reducible rfl))); clear hcl; intro hcl; (try simp only [Act.put, List.getElem_toArray, List.getElem_cons_zero, List.getElem_cons_succ, List.setIfInBounds_toArray, List.set_cons_zero, List.set_cons_succ]))
      (refine wpM_take (i := 5) (v := ?_) rfl (by kernel_rfl) (by kernel_rfl) (by kernel_rfl) (by decide) (fun _ _ _ h => h) hcl hC (fun _ => hE) (Or.inl ⟨by rfl, ?_⟩) ?_; rotate_left; (· (intro w hSw; (try dsimp only at hSw); go_simp; (try with_reducible rfl))); clear hcl; intro hcl; (try simp only [Act.put, List.getElem_toArray, List.getElem_cons_zero, List.getElem_cons_succ, List.setIfInBounds_toArray, List.set_cons_zero, List.set_cons_succ]))
      (refine wpM_take (i := 6) (v := ?_) rfl (by kernel_rfl) (by kernel_rfl) (by kernel_rfl) (by decide) (fun _ _ _ h => h) hcl hC (fun _ => hE) (Or.inl ⟨by rfl, ?_⟩) ?_; rotate_left; (· (intro w hSw; (try dsimp only at hSw); go_simp; (try with_reducible rfl))); clear hcl; intro hcl; (try simp only [Act.put, List.getElem_toArray, List.getElem_cons_zero, List.getElem_cons_succ, List.setIfInBounds_toArray, List.set_cons_zero, List.set_cons_succ]))
      (refine wpM_take (i := 7) (v := ?_) rfl (by kernel_rfl) (by kernel_rfl) (by kernel_rfl) (by decide) (fun _ _ _ h => h) hcl hC (fun _ => hE) (Or.inl ⟨by rfl, ?_⟩) ?_; rotate_left; (· (intro w hSw; (try dsimp only at hSw); go_simp; (try with_reducible rfl))); clear hcl; intro hcl; (try simp only [Act.put, List.getElem_toArray, List.getElem_cons_zero, List.getElem_cons_succ, List.setIfInBounds_toArray, List.set_cons_zero, List.set_cons_succ]))
      (refine wpM_take (i := 8) (v := ?_) rfl (by kernel_rfl) (by kernel_rfl) (by kernel_rfl) (by decide) (fun _ _ _ h => h) hcl hC (fun _ => hE) (Or.inl ⟨by rfl, ?_⟩) ?_; rotate_left; (· (intro w hSw; (try dsimp only at hSw); go_simp; (try with_reducible rfl))); clear hcl; intro hcl; (try simp only [Act.put, List.getElem_toArray, List.getElem_cons_zero, List.getElem_cons_succ, List.setIfInBounds_toArray, List.set_cons_zero, List.set_cons_succ]))
      (refine wpM_take (i := 9) (v := ?_) rfl (by kernel_rfl) (by kernel_rfl) (by kernel_rfl) (by decide) (fun _ _ _ h => h) hcl hC (fun _ => hE) (Or.inl ⟨by rfl, ?_⟩) ?_; rotate_left; (· (intro w hSw; (try dsimp only at hSw); go_simp; (try with_reducible rfl))); clear hcl; intro hcl; (try simp only [Act.put, List.getElem_toArray, List.getElem_cons_zero, List.getElem_cons_succ, List.setIfInBounds_toArray, List.set_cons_zero, List.set_cons_succ]))
      (refine wpM_take (i := 10) (v := ?_) rfl (by kernel_rfl) (by kernel_rfl) (by kernel_rfl) (by decide) (fun _ _ _ h => h) hcl hC (fun _ => hE) (Or.inl ⟨by rfl, ?_⟩) ?_; rotate_left; (· (intro w hSw; (try dsimp only at hSw); go_simp; (try with_reducible rfl))); clear hcl; intro hcl; (try simp only [Act.put, List.getElem_toArray, List.getElem_cons_zero, List.getElem_cons_succ, List.setIfInBounds_toArray, List.set_cons_zero, List.set_cons_succ]))
      (refine wpM_take (i := 11) (v := ?_) rfl (by kernel_rfl) (by kernel_rfl) (by kernel_rfl) (by decide) (fun _ _ _ h => h) hcl hC (fun _ => hE) (Or.inl ⟨by rfl, ?_⟩) ?_; rotate_left; (· (intro w hSw; (try dsimp only at hSw); go_simp; (try with_reducible rfl))); clear hcl; intro hcl; (try simp only [Act.put, List.getElem_toArray, List.getElem_cons_zero, List.getElem_cons_succ, List.setIfInBounds_toArray, List.set_cons_zero, List.set_cons_succ]))
      (refine wpM_take (i := 12) (v := ?_) rfl (by kernel_rfl) (by kernel_rfl) (by kernel_rfl) (by decide) (fun _ _ _ h => h) hcl hC (fun _ => hE) (Or.inl ⟨by rfl, ?_⟩) ?_; rotate_left; (· (intro w hSw; (try dsimp only at hSw); go_simp; (try with_reducible rfl))); clear hcl; intro hcl; (try simp only [Act.put, List.getElem_toArray, List.getElem_cons_zero, List.getElem_cons_succ, List.setIfInBounds_toArray, List.set_cons_zero, List.set_cons_succ]))
      (refine wpM_take (i := 13) (v := ?_) rfl (by kernel_rfl) (by kernel_rfl) (by kernel_rfl) (by decide) (fun _ _ _ h => h) hcl hC (fun _ => hE) (Or.inl ⟨by rfl, ?_⟩) ?_; rotate_left; (· (intro w hSw; (try dsimp only at hSw); go_simp; (try with_reducible rfl))); clear hcl; intro hcl; (try simp only [Act.put, List.getElem_toArray, List.getElem_cons_zero, List.getElem_cons_succ, List.setIfInBounds_toArray, List.set_cons_zero, List.set_cons_succ]))
      (refine wpM_take (i := 14) (v := ?_) rfl (by kernel_rfl) (by kernel_rfl) (by kernel_rfl) (by decide) (fun _ _ _ h => h) hcl hC (fun _ => hE) (Or.inl ⟨by rfl, ?_⟩) ?_; rotate_left; (· (intro w hSw; (try dsimp only at hSw); go_simp; (try with_reducible rfl))); clear hcl; intro hcl; (try simp only [Act.put, List.getElem_toArray, List.getElem_cons_zero, List.getElem_cons_succ, List.setIfInBounds_toArray, List.set_cons_zero, List.set_cons_succ]))
      have hW4 : wr.drew.heap[w.heap.size + 1 + 1]? = some (.cells #[.int .i64 kd, .int .i64 vl, .slice A' k c'] 71 (0, 0)) := heap_drew hoH.out
      have hs4 : wr.drew.heap[w.heap.size]? = some (.cells #[.int .i64 kd, .int .i64 vl, .slice (some ⟨bA, oA, none⟩) n c] 75 (0, 0)) := heap_drew hsH.out
      have hr4 : wr.drew.heap[w.heap.size + 1]? = some (.cells #[.int .i64 0, .int .i64 0, .slice none 0 0] 71 (0, 0)) := heap_drew hrH.out
      have hov : Ow wr.drew (w.heap.size + 1 + 1 + 1) 100 2 (.slice A' k c') ((xs.take k).map Itm.enc) := hown.below (Below.refl _ _).drew
      refine wpM_only (i := 15) rfl (by kernel_rfl) hcl (fun K hK => ?_)
      go_simp
      have hbO : Below wr.drew.heap.size wr.drew (wr.drew.alloc (.cells #[.string (bs u.1), .int .i64 u.2] 100)) := (Below.refl _ wr.drew).alloc (Nat.le_refl _) _
      have hW5 := blk_below hW4 hbO
      have hs5 := blk_below hs4 hbO
      have hr5 := blk_below hr4 hbO
      have hC5 : KQ (w.heap.size + 1 + 1) wr (wr.drew.alloc (.cells #[.string (bs u.1), .int .i64 u.2] 100)) := kq_call hC (by omega) hbO
      have hE5 := blk_cell hW5 2
      refine hK.out _ _ hC5 hE5 ?_
      clear hK K
      clear hcl
      intro hcl
      (try simp only [Act.put, List.getElem_toArray, List.getElem_cons_zero, List.getElem_cons_succ, List.setIfInBounds_toArray, List.set_cons_zero, List.set_cons_succ])
      clear hC hE
      refine wpM_only (i := 16) rfl (by kernel_rfl) hcl (fun K hK => ?_)
      refine step_append_rd _ rfl _ _ _ rfl eItmR (base := w.heap.size + 1 + 1 + 1) (v := .slice A' k c') (xs := (xs.take k).map Itm.enc) rfl (hov.below hbO) rfl (Rd.one' [.string (bs u.1), .int .i64 u.2] rfl) hlen1 hone1 (by rw [hlk.out]; unfold maxLen; omega) (by rw [hlk.out]; omega) (by simp at *; omega) ?_
      intro A2 n2 c2 w4 hn2 hown4 hg4 hat4
      obtain rfl : n2 = k + 1 := by rw [hn2, hlk.out]
      clear hn2
      have hbk := hov.block
      have hW6 : w4.heap[w.heap.size + 1 + 1]? = some (.cells #[.int .i64 kd, .int .i64 vl, .slice A' k c'] 71 (0, 0)) := (hg4.block _ (blk_lt hW5) (fun e => by have := (hbk _ e.symm).1; omega)).trans hW5
      have hs6 : w4.heap[w.heap.size]? = some (.cells #[.int .i64 kd, .int .i64 vl, .slice (some ⟨bA, oA, none⟩) n c] 75 (0, 0)) := (hg4.block _ (blk_lt hs5) (fun e => by have := (hbk _ e.symm).1; omega)).trans hs5
      have hr6 : w4.heap[w.heap.size + 1]? = some (.cells #[.int .i64 0, .int .i64 0, .slice none 0 0] 71 (0, 0)) := (hg4.block _ (blk_lt hr5) (fun e => by have := (hbk _ e.symm).1; omega)).trans hr5
      have hC6 : KQ (w.heap.size + 1 + 1) wr w4 := kq_grown hC5 (by omega) hg4 (fun g e => by have := (hbk g e).1; omega)
      have hE6 : w4.cell? ⟨w.heap.size + 1 + 1, 2, none⟩ = some (.slice A' k c') := blk_cell hW6 2
      have hof6 := blk_frozen hW6
      have hlo6 := blk_lt hW6
      have hG6 : Below w.heap.size w w4 := hbr.trans (hC6.1.mono (by omega))
      have hW6H := Lib.hid hW6
      have hs6H := Lib.hid hs6
      have hr6H := Lib.hid hr6
      clear hW6 hs6 hr6 hW5 hs5 hr5 hW4 hs4 hr4
      refine hK.out _ _ hC6 hE6 ?_
      clear hK K
      clear hcl
      intro hcl
      (try simp only [Act.put, List.getElem_toArray, List.getElem_cons_zero, List.getElem_cons_succ, List.setIfInBounds_toArray, List.set_cons_zero, List.set_cons_succ])
      have hC := hC6
      have hE := hE6
      (refine wpM_take (i := 17) (v := ?_) rfl (by kernel_rfl) (by kernel_rfl) (by kernel_rfl) (by decide) (fun _ _ _ h => h) hcl hC (fun _ => hE) (Or.inl ⟨by rfl, ?_⟩) ?_; rotate_left; (· (intro w hSw; (try dsimp only at hSw); go_simp; (try with_reducible rfl))); clear hcl; intro hcl; (try simp only [Act.put, List.getElem_toArray, List.getElem_cons_zero, List.getElem_cons_succ, List.setIfInBounds_toArray, List.set_cons_zero, List.set_cons_succ]))
      refine wpM_last (i := 18) rfl (by kernel_rfl) hcl (by kernel_rfl) (fun K hK => ?_)
      go_simp
      refine hK.out _ _ (kq_set hC6 (Nat.le_refl _) _) ?_
      clear hK K hcl
      intro hcl
      refine wpM_done (by kernel_rfl) ?_
      clear hcl
      try simp only [Act.put, List.getElem_toArray, List.getElem_cons_zero, List.getElem_cons_succ, List.setIfInBounds_toArray, List.set_cons_zero, List.set_cons_succ]
      clear hC hE hE6 hE5 o0 o1 o2 s2
      go_wp2
      go_roundg (n + 1 - (k + 1))
      case measure => omega
      case rel =>
        refine ⟨k + 1, A2, c2, by omega, rfl, by go_num, heap_set_ne (by dsimp only; omega) hs6H.out, heap_set_ne (by dsimp only; omega) hr6H.out, by rw [blk_set hW6H.out]; rfl, ?_, hG6.setCell (by dsimp only; omega) _⟩
        rw [hst.out]
        exact hown4.set_blk hW6H.out (by decide) 2 _
    · obtain rfl : k = n := by omega
      have hfin : Hid ((xs.take k).map Itm.enc = xs.map Itm.enc) := Lib.hid (by rw [List.take_of_length_le (by have := hlH.out; omega)])
      have hnli : ¬ (k : Int) < (k : Int) := by omega
      have hGs : Below w.heap.size w (((wr.setCell ⟨w.heap.size + 1, 0, none⟩ (.int .i64 kd)).setCell ⟨w.heap.size + 1, 1, none⟩ (.int .i64 vl)).setCell ⟨w.heap.size + 1, 2, none⟩ (.slice A' k c')) := ((hbr.setCell (by dsimp only; omega) _).setCell (by dsimp only; omega) _).setCell (by dsimp only; omega) _
      have hI1 : Rd wr wr.heap.size 2 A' k ((xs.take k).map Itm.enc) := hown.rd.1
      have hT1 := hown.ty
      have hRr := hrH.out
      have e1 : ∀ cs, wr.heap[w.heap.size + 1]? ≠ some (.cells cs 100 (0, 0)) := fun cs h => by rw [hRr] at h; injection h with h; injection h with _ h _; exact absurd h (by decide)
      have hI2 : Hid (RdIt (((wr.setCell ⟨w.heap.size + 1, 0, none⟩ (.int .i64 kd)).setCell ⟨w.heap.size + 1, 1, none⟩ (.int .i64 vl)).setCell ⟨w.heap.size + 1, 2, none⟩ (.slice A' k c')) (((wr.setCell ⟨w.heap.size + 1, 0, none⟩ (.int .i64 kd)).setCell ⟨w.heap.size + 1, 1, none⟩ (.int .i64 vl)).setCell ⟨w.heap.size + 1, 2, none⟩ (.slice A' k c')).heap.size A' k xs) := Lib.hid (by
        rw [show (((wr.setCell ⟨w.heap.size + 1, 0, none⟩ (.int .i64 kd)).setCell ⟨w.heap.size + 1, 1, none⟩ (.int .i64 vl)).setCell ⟨w.heap.size + 1, 2, none⟩ (.slice A' k c')).heap.size = wr.heap.size by simp]
        unfold RdIt
        rw [← hfin.out]
        exact Rd.other (w' := (((wr.setCell ⟨w.heap.size + 1, 0, none⟩ (.int .i64 kd)).setCell ⟨w.heap.size + 1, 1, none⟩ (.int .i64 vl)).setCell ⟨w.heap.size + 1, 2, none⟩ (.slice A' k c'))) hI1 hT1 e1 (fun b hb => by repeat (first | rw [heap_set_of b hb] | rfl)))
      clear hI1 hT1 e1 hown hRr
      go_wp2_with fail
      exact bodyPost_ret (v := .agg #[.int .i64 kd, .int .i64 vl, .slice A' k c']) (by simp [results, Tryz.results11, go_sem, y0, y1, y2]) rfl (by first | exact ⟨A', c', rfl, hI2.out, hGs⟩ | exact ⟨A', ⟨c', rfl⟩, hI2.out, hGs⟩)
set_option maxRecDepth 100000 in
set_option maxHeartbeats 1000000 in
theorem sameV_any (kd vl : Int) (A B : Option Addr) (n m c d : Nat) (xs : List Itm) (w : World) (hA : RdIt w w.heap.size A n xs) (hB : RdIt w w.heap.size B m xs) (hn : n ≤ 1000000) :
    Calls Tryz.prog 10 #[.agg #[.int .i64 kd, .int .i64 vl, .slice A n c], .agg #[.int .i64 kd, .int .i64 vl, .slice B m d]] w fun e w' => e = .returned (.bool true) ∧ Below w.heap.size w w' := by
  have hl1 := hA.len
  have hl2 := hB.len
  have hb0 : Below w.heap.size w ((w.alloc (.cells #[.int .i64 kd, .int .i64 vl, .slice A n c] 71)).alloc (.cells #[.int .i64 kd, .int .i64 vl, .slice B m d] 71)) := ((Below.refl _ w).alloc (Nat.le_refl _) _).alloc (by simp) _
  have cS := Lib.hid (sameitems_any A B n m c d xs xs _ ((hA.below hb0).more hb0.size) ((hB.below hb0).more hb0.size) (by unfold maxLen; omega) (by unfold maxLen; omega))
  rw [show decide (xs = xs) = true by simp] at cS
  clear hA hB hl1 hl2
  go_enter Tryz.func10, Tryz.ntmps10
  go_wp2_with fail
  refine cS.out.mono ?_
  rintro e w1 ⟨rfl, hv1⟩
  have hG := hb0.trans (hv1.mono hb0.size)
  go_wp2
  go_ret
  exact ⟨rfl, hG⟩
end Go.Proofs.YtffnpfponnhddaaGreat
namespace Go.Proofs.YtffnpfponnhddaaGreat
open Go.RowKit

section
variable {P : Program} {ops : Array Oper} {Q : Exit → Act → World → Prop} {md : Region.Mode} {C E : World → Prop} {m : Nat}
/-- Two operations may come up, ahead of number m: a goal for each. -/
theorem wpM_two {i j : Nat} {o o' : Oper} {f : Nat} {L : Array Bool} {a : Act} {w : World} (ho : ops[i]? = some o) (ho' : ops[j]? = some o') (hr : Region.ready md ops L = [i, j]) (hcl : ClosedL md ops L)
    (h : ∀ K : Act → World → Prop, Shut (∀ a w, C w → E w → (ClosedL md ops (L.setIfInBounds i true) → wpAnyM P md ops Q C E m f (L.setIfInBounds i true) a w) → K a w) →
      if Region.wanted o (yielded ops a.tmps) = true then Oper.wp P o a w K Q else K (a.put o.dst undef) w)
    (h' : ∀ K : Act → World → Prop, Shut (∀ a w, C w → E w → (ClosedL md ops (L.setIfInBounds j true) → wpAnyM P md ops Q C E m f (L.setIfInBounds j true) a w) → K a w) →
      if Region.wanted o' (yielded ops a.tmps) = true then Oper.wp P o' a w K Q else K (a.put o'.dst undef) w) : wpAnyM P md ops Q C E m (f + 1) L a w := by
  refine ⟨fun h0 => (by rw [hr] at h0; cases h0), fun k hk => ?_⟩
  have hcl' := hcl.set hk
  rw [hr] at hk
  rcases List.mem_cons.1 hk with rfl | hk
  · exact wpOp_step ho (fun K hK => h K fun a w hc he hh => hK a w ⟨hc, fun _ => he, hh hcl'⟩)
  · obtain rfl : k = j := by simpa using hk
    exact wpOp_step ho' (fun K hK => h' K fun a w hc he hh => hK a w ⟨hc, fun _ => he, hh hcl'⟩)
end
theorem yields_row {P : Program} {ops : Array Oper} {C : World → Prop} {oi : Oper} {a : Act} {ty : TypeId} {x : Operand} (hw : Region.wanted oi (yielded ops a.tmps) = true) (ho : oi.op = .load ty x) (g : Nat) (hx : a.eval x = .pointer (some ⟨g, 0, none⟩))
    (t : TypeId) (cs : Array Value) (fr : Nat × Nat) (d : TypeDesc) (hg : ∀ w, C w → w.heap[g]? = some (.cells cs t fr)) (hu : P.underlying ty = some d) (hd : (match d with | .struct _ | .array _ _ => true | _ => false) = true) (hi : (P.info? ty).map (·.size) = some cs.size) :
    YieldsIf P ops C oi (.agg cs) a := Or.inl ⟨hw, fun w hC => by
  unfold execOp
  simp only [ho, hx, Instr.loadAt, Instr.sureAddr, Sem.run_bind, Sem.run_pure, Result.andThen_ok, run_loadVar_row w g t ty cs fr d (hg w hC) hu hd hi]⟩
end Go.Proofs.YtffnpfponnhddaaGreat
