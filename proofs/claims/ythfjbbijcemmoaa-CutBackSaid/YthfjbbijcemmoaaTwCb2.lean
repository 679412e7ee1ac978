/- Plain laws: a vector, a cut, read behind what was written. The statement CutBack, walked. -/
import Derived.Test.YthfjbbijcemmoaaPde
import Derived.Test.YthfjbbijcemmoaaPdg
import Derived.Test.YthfjbbijcemmoaaVrC
import Derived.Test.YthfjbbijcemmoaaCmW
import Derived.Test.YthfjbbijcemmoaaCtW
import Derived.Test.YthfjbbijcemmoaaRsN
namespace Go.Proofs.Ythfjbbijcemmoaa

def preV (v : Vm) : Nat → Vm
  | 0 => zV
  | k + 1 => (preV v k).set (k : Int) (v.get (k : Int))
theorem preV_get (v : Vm) : ∀ (k : Nat), k ≤ 8 → ∀ o : Int, 0 ≤ o → o < 8 → (preV v k).get o = if o < k then v.get o else 0
  | 0, _, o, h0, h1 => by
    rw [if_neg (by omega)]
    obtain rfl | rfl | rfl | rfl | rfl | rfl | rfl | rfl : o = 0 ∨ o = 1 ∨ o = 2 ∨ o = 3 ∨ o = 4 ∨ o = 5 ∨ o = 6 ∨ o = 7 := by omega
    all_goals rfl
  | k + 1, hk, o, h0, h1 => by
    show ((preV v k).set (k : Int) (v.get (k : Int))).get o = _
    rw [get_set (by omega) (by omega) h0 h1, preV_get v k (by omega) o h0 h1]
    by_cases h : (k : Int) = o
    · rw [if_pos h, if_pos (by omega), h]
    · rw [if_neg h]
      by_cases h2 : o < k
      · rw [if_pos h2, if_pos (by omega)]
      · rw [if_neg h2, if_neg (by omega)]
theorem longV_zero {v : Vm} {o : Int} (h0 : 0 ≤ o) (h8 : o < 8) (h : (longV v : Int) ≤ o) : v.get o = 0 := by
  obtain rfl | rfl | rfl | rfl | rfl | rfl | rfl | rfl : o = 0 ∨ o = 1 ∨ o = 2 ∨ o = 3 ∨ o = 4 ∨ o = 5 ∨ o = 6 ∨ o = 7 := by omega
  · show v.d0 = 0
    revert h
    unfold longV
    (repeat' split) <;> intro h <;> omega
  · show v.d1 = 0
    revert h
    unfold longV
    (repeat' split) <;> intro h <;> omega
  · show v.d2 = 0
    revert h
    unfold longV
    (repeat' split) <;> intro h <;> omega
  · show v.d3 = 0
    revert h
    unfold longV
    (repeat' split) <;> intro h <;> omega
  · show v.d4 = 0
    revert h
    unfold longV
    (repeat' split) <;> intro h <;> omega
  · show v.d5 = 0
    revert h
    unfold longV
    (repeat' split) <;> intro h <;> omega
  · show v.d6 = 0
    revert h
    unfold longV
    (repeat' split) <;> intro h <;> omega
  · show v.d7 = 0
    revert h
    unfold longV
    (repeat' split) <;> intro h <;> omega
theorem longV_last {v : Vm} (h : 0 < longV v) : v.get ((longV v : Int) - 1) ≠ 0 := by
  by_cases h7 : v.d7 ≠ 0
  · have e : longV v = 8 := by unfold longV; rw [if_pos h7]
    rw [e]; exact h7
  by_cases h6 : v.d6 ≠ 0
  · have e : longV v = 7 := by unfold longV; rw [if_neg h7, if_pos h6]
    rw [e]; exact h6
  by_cases h5 : v.d5 ≠ 0
  · have e : longV v = 6 := by unfold longV; rw [if_neg h7, if_neg h6, if_pos h5]
    rw [e]; exact h5
  by_cases h4 : v.d4 ≠ 0
  · have e : longV v = 5 := by unfold longV; rw [if_neg h7, if_neg h6, if_neg h5, if_pos h4]
    rw [e]; exact h4
  by_cases h3 : v.d3 ≠ 0
  · have e : longV v = 4 := by unfold longV; rw [if_neg h7, if_neg h6, if_neg h5, if_neg h4, if_pos h3]
    rw [e]; exact h3
  by_cases h2 : v.d2 ≠ 0
  · have e : longV v = 3 := by unfold longV; rw [if_neg h7, if_neg h6, if_neg h5, if_neg h4, if_neg h3, if_pos h2]
    rw [e]; exact h2
  by_cases h1 : v.d1 ≠ 0
  · have e : longV v = 2 := by unfold longV; rw [if_neg h7, if_neg h6, if_neg h5, if_neg h4, if_neg h3, if_neg h2, if_pos h1]
    rw [e]; exact h1
  by_cases h0 : v.d0 ≠ 0
  · have e : longV v = 1 := by unfold longV; rw [if_neg h7, if_neg h6, if_neg h5, if_neg h4, if_neg h3, if_neg h2, if_neg h1, if_pos h0]
    rw [e]; exact h0
  exfalso
  have e : longV v = 0 := by unfold longV; rw [if_neg h7, if_neg h6, if_neg h5, if_neg h4, if_neg h3, if_neg h2, if_neg h1, if_neg h0]
  omega
theorem preV_long (v : Vm) : preV v (longV v) = v := vec_ext fun o h0 h8 => by
  rw [preV_get v _ (longV_le v) o h0 h8]
  by_cases h : o < longV v
  · rw [if_pos h]
  · rw [if_neg h, longV_zero h0 h8 (by omega)]
theorem readVs_back {v : Vm} (hv : vchk v = true) (hw : v.wf) : ∀ (k : Nat), k ≤ 8 → ∀ (pre more : List UInt8),
    readVs k (stR pre (((List.range k).map fun (i : Nat) => numB (v.get (i : Int)).toNat).flatten ++ more)) = (preV v k, stR (pre ++ ((List.range k).map fun (i : Nat) => numB (v.get (i : Int)).toNat).flatten) more)
  | 0, _, pre, more => by simp [readVs, preV]
  | k + 1, hk, pre, more => by
    have e : ((List.range (k + 1)).map fun (i : Nat) => numB (v.get (i : Int)).toNat).flatten = ((List.range k).map fun (i : Nat) => numB (v.get (i : Int)).toNat).flatten ++ numB (v.get (k : Int)).toNat := by
      rw [List.range_succ]; simp
    have h1 := get_nn hw (k : Int)
    have h2 := vchk_get hv (k : Int)
    rw [e, List.append_assoc]
    unfold readVs
    rw [readVs_back hv hw k (by omega) pre (numB (v.get (k : Int)).toNat ++ more)]
    dsimp only
    rw [intS_back (m := 1048576) (by omega) (by decide)]
    dsimp only
    rw [show (((v.get (k : Int)).toNat : Nat) : Int) = v.get (k : Int) by omega, List.append_assoc]
    rfl
theorem readV_back {v : Vm} (hv : vchk v = true) (hw : v.wf) (pre more : List UInt8) : readV (stR pre (writeV v ++ more)) = (v, stR (pre ++ writeV v) more) := by
  have hL := longV_le v
  unfold writeV partV
  unfold readV
  rw [List.append_assoc, intS_back (m := 8) hL (by decide)]
  dsimp only
  rw [readVs_back hv hw _ hL]
  dsimp only
  have hc : ¬ (0 < longV v ∧ v.get ((longV v : Int) - 1) = 0) := fun h => longV_last h.1 h.2
  rw [preV_long]
  simp only [if_neg hc]
  rw [if_neg (by simp [stR]), List.append_assoc]
theorem readC_back {v : Vm} {xs : List Im} (h : cutErr v xs = 0) (hw : v.wf) (pre more : List UInt8) : readC (stR pre (writeC v xs ++ more)) = (v, xs, stR (pre ++ writeC v xs) more) := by
  obtain ⟨h1, h2⟩ := cutErr_ok h
  have e : writeC v xs = writeV v ++ writeD xs := by unfold writeC; rw [if_neg (by simp [h])]
  rw [e, List.append_assoc]
  unfold readC
  rw [readV_back h1 hw]
  dsimp only
  rw [readD_back h2]
  dsimp only
  have hf : failS (stR (pre ++ writeV v ++ writeD xs) more) (cutErr v xs) = stR (pre ++ writeV v ++ writeD xs) more := by rw [h]; unfold failS; rw [if_neg (by simp)]
  rw [hf, if_neg (by simp [stR]), List.append_assoc]
end Go.Proofs.Ythfjbbijcemmoaa
namespace Go.Proofs.Ythfjbbijcemmoaa
open Go.RowKit

theorem grI_bk {n : Nat} (h : grI n = false) : n ≤ 1100 := by
  unfold grI at h
  rw [decide_eq_false_iff_not] at h
  omega
theorem bk_true {e : Ending} {w w' : World} {P : Prop} {n : Nat} (h : ∃ r : Bool, e = .returned (.bool r) ∧ (r = true ↔ P) ∧ Below n w w') (hP : P) : e = .returned (.bool true) ∧ Below n w w' := by
  obtain ⟨r, he, hr, hb⟩ := h
  exact ⟨by rw [he, hr.2 hP], hb⟩
theorem bk_false {e : Ending} {w w' : World} {P : Prop} {n : Nat} (h : ∃ r : Bool, e = .returned (.bool r) ∧ (r = true ↔ P) ∧ Below n w w') (hP : ¬ P) : e = .returned (.bool false) ∧ Below n w w' := by
  obtain ⟨r, he, hr, hb⟩ := h
  cases r
  · exact ⟨he, hb⟩
  · exact absurd (hr.1 rfl) hP
theorem bk_len {v : Vm} {xs : List Im} (h : cutErr (rcV v xs) (rcD v xs) = 0) : (rcD v xs).length ≤ 64 := (lerr_zero.1 (cut_ok.1 h).2.1).1
theorem bk_wf {v : Vm} {xs : List Im} (h : cutErr v xs = 0) : ∀ x ∈ xs, x.wf := fun x hx => chk_wf ((lerr_zero.1 (cut_ok.1 h).2.1).2.1 x hx)
theorem bk_vwf {v : Vm} (xs : List Im) (h : v.wf) : (rcV v xs).wf := by
  unfold rcV
  split
  · exact zV_wf
  · exact foldV_wf _ h
theorem writeC_len (v : Vm) (xs : List Im) (hv : v.wf) : (writeC v xs).length ≤ 2000 := by
  unfold writeC
  split
  · simp
  · have h1 := partV_len hv (longV v)
    rw [show partV v (longV v) = writeV v from rfl] at h1
    have h2 := longV_le v
    have h3 := writeD_len xs
    rw [List.length_append]
    omega
set_option maxRecDepth 100000 in
set_option maxHeartbeats 4000000 in
theorem cutback_any (v : Vm) (A : Option Addr) (n c : Nat) (xs : List Im) (l : List UInt8) (w : World) (hA : RdI w w.heap.size A n xs) (hv : v.wf) (hx : ∀ x ∈ xs, x.wf) :
    Calls Try.prog 12 #[.agg #[.int .u32 v.d0, .int .u32 v.d1, .int .u32 v.d2, .int .u32 v.d3, .int .u32 v.d4, .int .u32 v.d5, .int .u32 v.d6, .int .u32 v.d7, .slice A n c], .string (bs l)] w fun e w' => e = .returned (.bool true) ∧ Below w.heap.size w w' := by
  have hW : Below w.heap.size w (w.alloc (.cells #[.int .u32 v.d0, .int .u32 v.d1, .int .u32 v.d2, .int .u32 v.d3, .int .u32 v.d4, .int .u32 v.d5, .int .u32 v.d6, .int .u32 v.d7, .slice A n c] 49)) := (Below.refl _ w).alloc (Nat.le_refl _) _
  have hbA : (w.alloc (.cells #[.int .u32 v.d0, .int .u32 v.d1, .int .u32 v.d2, .int .u32 v.d3, .int .u32 v.d4, .int .u32 v.d5, .int .u32 v.d6, .int .u32 v.d7, .slice A n c] 49)).heap[w.heap.size]? = some (.cells #[.int .u32 v.d0, .int .u32 v.d1, .int .u32 v.d2, .int .u32 v.d3, .int .u32 v.d4, .int .u32 v.d5, .int .u32 v.d6, .int .u32 v.d7, .slice A n c] 49 (0, 0)) := heap_at _ _ rfl
  generalize hWe : (w.alloc (.cells #[.int .u32 v.d0, .int .u32 v.d1, .int .u32 v.d2, .int .u32 v.d3, .int .u32 v.d4, .int .u32 v.d5, .int .u32 v.d6, .int .u32 v.d7, .slice A n c] 49)) = W at hW hbA
  have hAk := Lib.hid hbA
  have hzW := hW.size
  have g1 := great_any A n c
  generalize hga : grI n = ga at g1
  have gaH := Lib.hid hga
  have hd : Hid ((1000 < l.length → decide ((1000 : Int) < (((bs l).size : Nat) : Int)) = true) ∧ (¬ 1000 < l.length → decide ((1000 : Int) < (((bs l).size : Nat) : Int)) = false)) := Lib.hid ⟨fun h => decide_eq_true (by rw [bs_size]; omega), fun h => decide_eq_false (by rw [bs_size]; omega)⟩
  clear hbA hga
  go_enter Try.func12, Try.ntmps12
  go_wp2_with fail
  refine (works8_any _).mono ?_
  rintro e w1 ⟨rfl, hb1⟩
  have hG1 : Below w.heap.size w w1 := hW.trans (hb1.mono hzW)
  skip
  have qX := blk_below hAk.out hb1
  have hltA1 := blk_lt qX
  have q0 := blk_cell qX 0
  have q1 := blk_cell qX 1
  have q2 := blk_cell qX 2
  have q3 := blk_cell qX 3
  have q4 := blk_cell qX 4
  have q5 := blk_cell qX 5
  have q6 := blk_cell qX 6
  have q7 := blk_cell qX 7
  have q8 := blk_cell qX 8
  simp at q0 q1 q2 q3 q4 q5 q6 q7 q8
  clear qX
  go_wp2_with fail
  refine (g1 _).mono ?_
  rintro e w2 ⟨rfl, hw2⟩
  obtain rfl := hw2.symm
  cases ga
  case true =>
    go_wp2
    go_ret
    exact ⟨rfl, hG1⟩
  by_cases hl1 : 1000 < l.length
  case pos =>
    have hdt := hd.out.1 hl1
    go_wp2
    go_ret
    exact ⟨rfl, hG1⟩
  have hdf := hd.out.2 hl1
  have hn := grI_bk gaH.out
  clear g1 gaH hd
  have hA1 : RdI w1 w1.heap.size A n xs := (hA.below hG1).more hG1.size
  have cA := Lib.hid (fun A' c' w' (h1 : RdI w' w'.heap.size A' n xs) => cmake_any v A' n c' xs w' h1 hn hv hx)
  have pw := Lib.hid (bk_vwf xs hv)
  have pk := Lib.hid (fun h : rcErr v xs = 0 => (make_law h).1)
  generalize rcV v xs = pv at *
  generalize rcD v xs = pd at *
  generalize rcErr v xs = pe at *
  have hl := hA1.len
  clear hA
  go_upto_region 5 with (fail)
  skip
  go_cut [5, 6] (fun sa sb wx => ∃ g A' n' c', sa = .pointer (some ⟨g, 0, none⟩) ∧ w1.heap.size ≤ g ∧ sb = .int .i64 pe ∧ wx.heap[g]? = some (.cells #[.int .u32 pv.d0, .int .u32 pv.d1, .int .u32 pv.d2, .int .u32 pv.d3, .int .u32 pv.d4, .int .u32 pv.d5, .int .u32 pv.d6, .int .u32 pv.d7, .slice A' n' c'] 50 (0, 0)) ∧ Ow wx w1.heap.size 35 2 (.slice A' n' c') ((pd).map Im.enc) ∧ Below w1.heap.size w1 wx)
  case first =>
        have hq0 : KQ w1.heap.size w1 w1 := kq (Below.refl _ _)
        go_region_held3 (fun w' => KQ w1.heap.size w1 w') (first
      | with_reducible exact kq_call (by assumption) (by simp) (by assumption)
      | with_reducible exact kq_grown (by assumption) (by simp) (by assumption) (by simp [Value.ownBlock])
      | ((repeat (first | (with_reducible refine kq_set ?_ (by first | (simp; done) | (simp; omega) | omega) _) | (with_reducible refine kq_alloc ?_ (by first | exact Nat.le_refl _ | (simp; done) | (simp; omega)) _))); (with_reducible assumption))
      | ((with_reducible refine kq ?_); (repeat (first | (with_reducible exact Below.refl _ _) | (with_reducible refine Below.drew ?_) | (with_reducible refine Below.alloc ?_ (by simp) _) | (with_reducible refine Below.setCell ?_ (by simp) _) | (with_reducible exact (by assumption : KQ _ _ _).1))); done))
          (first
            | (go_at_call 34; refine (cA.out A4 c4' _ (by first | exact hown4'.rd.1 | exact (hown4'.below ((Below.refl _ _).alloc (Nat.le_refl _) _)).rd.1)).mono ?_
               rintro e v5 ⟨A5, n5, c5, rfl, o5, hb5⟩
               have hz5 := hb5.size
               (try simp at hz5)
               have hq5 : KQ w1.heap.size w1 v5 := kq_call (by assumption) (Nat.le_refl _) hb5
               (first
                 | (have hx5 := (hb5.block _ (blk_lt hx4)).trans hx4
                    have hfx := blk_frozen hx5
                    have x0 := blk_cell hx5 0
                    have x1 := blk_cell hx5 1
                    have x2 := blk_cell hx5 2
                    have x3 := blk_cell hx5 3
                    have x4 := blk_cell hx5 4
                    have x5 := blk_cell hx5 5
                    have x6 := blk_cell hx5 6
                    have x7 := blk_cell hx5 7
                    have x8 := blk_cell hx5 8
                    simp at x0 x1 x2 x3 x4 x5 x6 x7 x8)
                 | (have hx5 : v5.heap[v4.heap.size]? = some (.cells #[.int .u32 0, .int .u32 0, .int .u32 0, .int .u32 0, .int .u32 0, .int .u32 0, .int .u32 0, .int .u32 0, .slice none 0 0] 50 (0, 0)) := (hb5.block _ (by simp; done)).trans (heap_at _ _ rfl)
                    have hfx := blk_frozen hx5
                    have x0 := blk_cell hx5 0
                    have x1 := blk_cell hx5 1
                    have x2 := blk_cell hx5 2
                    have x3 := blk_cell hx5 3
                    have x4 := blk_cell hx5 4
                    have x5 := blk_cell hx5 5
                    have x6 := blk_cell hx5 6
                    have x7 := blk_cell hx5 7
                    have x8 := blk_cell hx5 8
                    simp at x0 x1 x2 x3 x4 x5 x6 x7 x8)
                 | skip))
            | (refine step_append_rd _ rfl _ _ _ rfl eId (base := w1.heap.size) (v := .slice (some ⟨w1.heap.size, 0, none⟩) 0 0) (xs := []) rfl (Ow.made_at (by first | exact heap_drew (heap_at _ _ (by first | rfl | (simp; done))) | exact heap_drew (heap_old _ (by simp) (heap_drew (heap_at _ _ rfl)))) (by omega)) rfl (kq_rd (n := w1.heap.size) hA1 (Nat.le_refl _) (by assumption)) Im.len Im.one (by simp [maxLen]; omega) (by simp; omega) (by first | (simp; done) | (simp; omega)) ?_
               intro A4 n4 c4' v4 hn4 hown4 hg4 hat4
               obtain rfl : n = n4 := by simpa using hn4.symm
               clear hn4 hat4
               have hz4 := hg4.size
               simp at hz4
               have hown4' : Ow v4 w1.heap.size 35 2 (.slice A4 n c4') ((xs).map Im.enc) := by simpa using hown4
               clear hown4
               (try (have hx4 : v4.heap[w1.heap.size + 1]? = some (.cells #[.int .u32 0, .int .u32 0, .int .u32 0, .int .u32 0, .int .u32 0, .int .u32 0, .int .u32 0, .int .u32 0, .slice none 0 0] 50 (0, 0)) := (hg4.block _ (by simp; done) (by simp [Value.ownBlock]; done)).trans (heap_drew (heap_at _ _ (by simp; done)))))
               (try (have hx4 : v4.heap[w1.heap.size]? = some (.cells #[.int .u32 0, .int .u32 0, .int .u32 0, .int .u32 0, .int .u32 0, .int .u32 0, .int .u32 0, .int .u32 0, .slice none 0 0] 50 (0, 0)) := (hg4.block _ (by simp; omega) (by simp [Value.ownBlock]; done)).trans (heap_drew (heap_old _ (by simp; done) (heap_drew (heap_at _ _ rfl))))))
               have hq4 : KQ w1.heap.size w1 v4 := by
                 refine kq_grown ?_ (Nat.le_refl _) hg4 ?_
                 · assumption
                 · intro k hk; simp [Value.ownBlock] at hk; omega
               clear hg4)
            | (refine step_append_rd _ rfl _ _ _ rfl eId (base := w1.heap.size) (v := .slice (some ⟨w1.heap.size + 1, 0, none⟩) 0 0) (xs := []) rfl (Ow.made_at (by first | exact heap_drew (heap_at _ _ (by first | rfl | (simp; done))) | exact heap_drew (heap_old _ (by simp) (heap_drew (heap_at _ _ rfl)))) (by omega)) rfl (kq_rd (n := w1.heap.size) hA1 (Nat.le_refl _) (by assumption)) Im.len Im.one (by simp [maxLen]; omega) (by simp; omega) (by first | (simp; done) | (simp; omega)) ?_
               intro A4 n4 c4' v4 hn4 hown4 hg4 hat4
               obtain rfl : n = n4 := by simpa using hn4.symm
               clear hn4 hat4
               have hz4 := hg4.size
               simp at hz4
               have hown4' : Ow v4 w1.heap.size 35 2 (.slice A4 n c4') ((xs).map Im.enc) := by simpa using hown4
               clear hown4
               (try (have hx4 : v4.heap[w1.heap.size + 1]? = some (.cells #[.int .u32 0, .int .u32 0, .int .u32 0, .int .u32 0, .int .u32 0, .int .u32 0, .int .u32 0, .int .u32 0, .slice none 0 0] 50 (0, 0)) := (hg4.block _ (by simp; done) (by simp [Value.ownBlock]; done)).trans (heap_drew (heap_at _ _ (by simp; done)))))
               (try (have hx4 : v4.heap[w1.heap.size]? = some (.cells #[.int .u32 0, .int .u32 0, .int .u32 0, .int .u32 0, .int .u32 0, .int .u32 0, .int .u32 0, .int .u32 0, .slice none 0 0] 50 (0, 0)) := (hg4.block _ (by simp; omega) (by simp [Value.ownBlock]; done)).trans (heap_drew (heap_old _ (by simp; done) (heap_drew (heap_at _ _ rfl))))))
               have hq4 : KQ w1.heap.size w1 v4 := by
                 refine kq_grown ?_ (Nat.le_refl _) hg4 ?_
                 · assumption
                 · intro k hk; simp [Value.ownBlock] at hk; omega
               clear hg4))
        all_goals
          (go_wp2_with fail
           go_meet
           refine ⟨_, A5, n5, c5, rfl, by omega, rfl, ?_, ?_, ?_⟩
           · first
               | (with_reducible exact heap9 hx5 _ _ _ _ _ _ _ _ _)
               | (with_reducible exact heap_at _ _ rfl)
           · first
               | (with_reducible refine Ow.base (base := v4.heap.size) ?_ (by omega)
                  repeat (with_reducible refine Ow.setCell ?_ (by first | (simp; done) | (simp; omega) | omega) _)
                  with_reducible exact o5)
               | (with_reducible refine Ow.base (base := v4.heap.size + 1) ?_ (by omega)
                  repeat (with_reducible refine Ow.setCell ?_ (by first | (simp; done) | (simp; omega) | omega) _)
                  with_reducible exact o5.base (by simp))
               | exact (o5.below ((Below.refl _ _).alloc (Nat.le_refl _) _)).base (by omega)
           · first
               | (with_reducible exact (kq_alloc hq5 (Nat.le_refl _) _).1)
               | (have hq5B := hq5.1
                  repeat (first | (with_reducible exact hq5B) | (with_reducible refine Below.drew ?_) | (with_reducible refine Below.alloc ?_ (by first | (simp; done) | (simp; omega) | omega) _) | (with_reducible refine Below.setCell ?_ (by first | (simp; done) | (simp; omega) | omega) _))))
  case rest =>
    obtain ⟨gp, Ap, np, kp, rfl, hgp, rfl, hbP, op, hB2⟩ := hcut
    obtain ⟨w2, hw2⟩ : ∃ w2, w2 = wc := ⟨_, rfl⟩
    obtain rfl := hw2
    skip
    (try clear q0 q1 q2 q3 q4 q5 q6 q7 q8)
    (try clear s0 s1 s2 s3 s4 s5 s6 s7 s8)
    (try clear t0 t1 t2 t3 t4 t5 t6 t7 t8)
    (try clear i0 i1)
    clear cA hltA1 hl hA1
    have hG2 : Below w.heap.size w w2 := hG1.trans (hB2.mono hG1.size)
    by_cases hpe : pe = 0
    case neg =>
      have hne : (pe != 0) = true := by simpa using hpe
      go_wp2
      go_ret
      exact ⟨rfl, hG2⟩
    subst hpe
    have pk0 := pk.out rfl
    have hpd := (lerr_zero.1 (cut_ok.1 pk0).2.1).1
    have hpn : pd.length = np := by simpa using op.rd.2.1
    have hnp : np ≤ 64 := by omega
    have cW := cwrite_any pv Ap np kp pd w2 op.rd.1 (by omega) pw.out (bk_wf pk0)
    rw [pk0] at cW
    have hback := readC_back pk0 pw.out [] l
    have hwl := writeC_len pv pd pw.out
    have hsz : ¬ 9223372036854775807 < (bs (writeC pv pd)).size + (bs l).size := by rw [bs_size, bs_size]; omega
    have hapH := Lib.hid (bs_append (writeC pv pd) l)
    have hwfH := Lib.hid (stR_wf (pre := []) (post := writeC pv pd ++ l) (by simp; omega))
    have hwf2H := Lib.hid (stR_wf (pre := [] ++ writeC pv pd) (post := l) (by simp; omega))
    have hlen : (stR ([] ++ writeC pv pd) l).l.length - (stR ([] ++ writeC pv pd) l).a = l.length := by simp [stR]
    have hlenH := Lib.hid hlen
    have hbackH := Lib.hid hback
    have hsl : (((bs l).size : Nat) : Int) = (l.length : Int) := by rw [bs_size]
    generalize writeC pv pd = wc' at *
    have hP2 := Lib.hid hbP
    have opH := Lib.hid op
    have hb22 : Below w2.heap.size w2 w2 := Below.refl _ _
    have cW := Lib.hid cW
    clear hbP op hpd hpn pk0 pk hwl hback hlen hB2
    skip
    have qX := blk_below hP2.out hb22
    have hltP2 := blk_lt qX
    have q0 := blk_cell qX 0
    have q1 := blk_cell qX 1
    have q2 := blk_cell qX 2
    have q3 := blk_cell qX 3
    have q4 := blk_cell qX 4
    have q5 := blk_cell qX 5
    have q6 := blk_cell qX 6
    have q7 := blk_cell qX 7
    have q8 := blk_cell qX 8
    simp at q0 q1 q2 q3 q4 q5 q6 q7 q8
    clear qX
    go_wp2_with fail
    refine cW.out.mono ?_
    rintro e w3 ⟨rfl, hb3⟩
    skip
    (try clear q0 q1 q2 q3 q4 q5 q6 q7 q8)
    (try clear s0 s1 s2 s3 s4 s5 s6 s7 s8)
    (try clear t0 t1 t2 t3 t4 t5 t6 t7 t8)
    (try clear i0 i1)
    clear cW hltP2
    go_wp2_with fail
    rw [hapH.out]
    refine (pnew_any _ _).mono ?_
    rintro e w4 ⟨rfl, hw4⟩
    have hb4 : Below w3.heap.size w3 w4 := by rw [hw4]; exact (Below.refl _ w3).alloc (Nat.le_refl _) _
    have hR4 : RdrP w4 w3.heap.size (stR [] (wc' ++ l)) := by rw [hw4]; exact ⟨_, heap_at _ _ rfl, .inl ⟨rfl, rfl⟩⟩
    clear hw4
    have hb24 : Below w2.heap.size w2 w4 := hb3.trans (hb4.mono hb3.size)
    have hG4 : Below w.heap.size w w4 := hG2.trans (hb24.mono hG2.size)
    have hp4 : RdI w4 w3.heap.size Ap np pd := (((opH.out.below hb3).rd.1).below hb4)
    have hgp3 : gp < w3.heap.size := Nat.lt_of_lt_of_le (blk_lt hP2.out) hb3.size
    have hlt4 : w3.heap.size < w4.heap.size := hR4.lt
    have cRd := Lib.hid (fun w' (h : RdrP w' w3.heap.size (stR [] (wc' ++ l))) => (by have := cread_any w3.heap.size _ w' h hwfH.out; rw [hbackH.out] at this; exact this : Calls Try.prog 58 #[.pointer (some ⟨w3.heap.size, 0, none⟩)] w' fun r w'' => ∃ A n c, r = .returned (.agg #[.int .u32 pv.d0, .int .u32 pv.d1, .int .u32 pv.d2, .int .u32 pv.d3, .int .u32 pv.d4, .int .u32 pv.d5, .int .u32 pv.d6, .int .u32 pv.d7, .slice A n c]) ∧ Ow w'' w'.heap.size 35 2 (.slice A n c) (pd.map Im.enc) ∧ RdrP w'' w3.heap.size (stR ([] ++ wc') l) ∧ w'.grownBy w'' (some w3.heap.size)))
    have cS := Lib.hid (fun A' n' c' w' (h1 : RdI w' w'.heap.size A' n' pd) (h2 : RdI w' w'.heap.size Ap np pd) (h3 : n' ≤ maxLen) => (by have := csame_any pv pv A' Ap n' np c' kp pd pd w' h1 h2 h3 (by simp [maxLen]; omega); rw [show (eqV pv pv && decide (pd = pd)) = true from by rw [eqV_iff.2 rfl]; simp] at this; exact this : Calls Try.prog 55 #[.agg #[.int .u32 pv.d0, .int .u32 pv.d1, .int .u32 pv.d2, .int .u32 pv.d3, .int .u32 pv.d4, .int .u32 pv.d5, .int .u32 pv.d6, .int .u32 pv.d7, .slice A' n' c'], .agg #[.int .u32 pv.d0, .int .u32 pv.d1, .int .u32 pv.d2, .int .u32 pv.d3, .int .u32 pv.d4, .int .u32 pv.d5, .int .u32 pv.d6, .int .u32 pv.d7, .slice Ap np kp]] w' fun e w'' => e = .returned (.bool true) ∧ Below w'.heap.size w' w''))
    have cL := Lib.hid (fun w' (h : RdrP w' w3.heap.size (stR ([] ++ wc') l)) => (by have := pleft_any w3.heap.size _ w' h hwf2H.out; rw [hlenH.out] at this; exact this))
    skip
    have qX := blk_below hP2.out hb24
    have hltP4 := blk_lt qX
    have q0 := blk_cell qX 0
    have q1 := blk_cell qX 1
    have q2 := blk_cell qX 2
    have q3 := blk_cell qX 3
    have q4 := blk_cell qX 4
    have q5 := blk_cell qX 5
    have q6 := blk_cell qX 6
    have q7 := blk_cell qX 7
    have q8 := blk_cell qX 8
    simp at q0 q1 q2 q3 q4 q5 q6 q7 q8
    clear qX
    have hfe : (stR ([] ++ wc') l).fe = 0 := rfl
    have hq0 : KQ w3.heap.size w4 w4 := kq (Below.refl _ _)
    go_upto_region 10 with (fail)
    go_region_held3 (fun w' => KQ w3.heap.size w4 w') (first
      | with_reducible assumption
      | with_reducible exact kq_call (by assumption) (by omega) (by assumption)
      | with_reducible exact kq_grown (by assumption) (by omega) (by assumption) (by simp [Value.ownBlock])
      | ((with_reducible refine kq ?_); (repeat (first | (with_reducible exact Below.refl _ _) | (with_reducible refine Below.drew ?_) | (with_reducible refine Below.alloc ?_ (by first | omega | (simp; done) | (simp; omega)) _) | (with_reducible refine Below.setCell ?_ (by first | (simp; done) | omega | (simp; omega)) _) | (with_reducible exact (by assumption : KQ _ _ _).1))); done))
      (first
        | (go_at_call 58; refine (cRd.out _ (by first | exact hR4 | exact hR4.below (Below.refl _ _).drew)).mono ?_
           rintro e v5 ⟨A5, n5, c5, rfl, o5, hR5, hg5⟩
           have hz5 := hg5.size
           (try simp at hz5)
           have hq5 : KQ w3.heap.size w4 v5 := by
             refine kq_grown ?_ (by omega) hg5 ?_
             · assumption
             · intro k hk; injection hk with hk; omega
           clear hg5)
        | (go_at_call 55; refine (cS.out A5 n5 c5 _ (by first | exact o5.rd.1 | exact (o5.below (Below.refl _ _).drew).rd.1) (by exact (kq_rd (n := w3.heap.size) hp4 (Nat.le_refl _) (by assumption)).more (by first | omega | (simp; omega))) (Nat.le_trans o5.rd.2.2.1 o5.rd.2.2.2)).mono ?_
           rintro e v6 ⟨rfl, hb6⟩
           have hz6 := hb6.size
           (try simp at hz6)
           have hR6 : RdrP v6 w3.heap.size (stR ([] ++ wc') l) := (by first | exact hR5.below hb6 | exact (hR5.below (Below.refl _ _).drew).below hb6))
        | (go_at_call 48; refine (cL.out _ (by first | exact hR6 | exact hR6.below (Below.refl _ _).drew)).mono ?_
           rintro e v7 ⟨rfl, hb7⟩
           have hR7 : RdrP v7 w3.heap.size (stR ([] ++ wc') l) := (by first | exact hR6.below hb7 | exact (hR6.below (Below.refl _ _).drew).below hb7)
           obtain ⟨ev, hbR, hez⟩ := hR7
           obtain ⟨_, rfl⟩ := hez.resolve_right (fun h9 => absurd hfe h9.1)
           have z2 := blk_cell hbR 2
           simp at z2
           have hltz := blk_lt hbR
           clear hbR hez)
        | (go_at_call 49; refine (perr_any _ _ _ hltz z2).mono ?_
           rintro e v8 ⟨rfl, rfl⟩))
    have hF : KQ w3.heap.size w4 v7 := by with_reducible assumption
    have hG := hG4.trans (hF.1.mono (by have := hG2.trans (hb3.mono hG2.size); exact this.size))
    go_wp2
    go_ret
    exact ⟨rfl, hG⟩
end Go.Proofs.Ythfjbbijcemmoaa
