/- The statements' own look whether dots works at all. -/
import Derived.Test.YthfjbbijcemmoaaVcD
import Derived.Test.YthfjbbijcemmoaaDtW
import Derived.Test.YthfjbbijcemmoaaDmD
import Derived.Test.YthfjbbijcemmoaaDmA
namespace Go.Proofs.Ythfjbbijcemmoaa
open Go.RowKit

set_option maxRecDepth 100000 in
theorem id_any (o s : Int) (w : World) :
    Calls Try.prog 76 #[.int .i64 o, .int .u32 s] w fun e w' => e = .returned (.agg #[.int .i64 o, .int .u32 s]) ∧ Below w.heap.size w w' := by
  go_enter Try.func76, Try.ntmps76
  go_wp2
  refine bodyPost_ret (v := .agg #[.int .i64 o, .int .u32 s]) (by simp [results, Try.results76, go_sem]) rfl ⟨rfl, ?_⟩
  repeat (first | exact Below.refl _ _ | (refine Below.alloc ?_ (by first | (simp; done) | (simp; omega) | omega) _) | (refine Below.setCell ?_ (by first | (simp; done) | (simp; omega) | omega) _))
theorem beD_one {v : Nat} (h0 : v ≠ 0) (h : v < 256) : beD v = [UInt8.ofNat v] := by
  rw [beD_pos h0, show v / 256 = 0 from by omega, beD_zero, show v % 256 = v from by omega]; rfl
def wkL : List Im := [(2, 1), (1, 4), (1, 3), (1, 6), (1, 3)]
def wkM : List Im := [(1, 3), (1, 4), (1, 6), (2, 1)]
def wkV : Vm := ⟨0, 2, 0, 0, 0, 0, 0, 0⟩
def wkW : Vm := ⟨0, 4, 1, 0, 0, 0, 0, 0⟩
theorem wk_make : makeErr wkL = 0 ∧ makeOut wkL = wkM := by decide
theorem wk_fold : foldErr wkV wkM = 0 ∧ foldOut wkV wkM = wkW ∧ foldRest wkV wkM = [(1, 6)] := ⟨by decide, by rfl, by decide⟩
theorem wk_write : lerr [((1, 6) : Im)] = 0 ∧ writeD [((1, 6) : Im)] = [1, 1, 1, 1, 1, 6] := by
  refine ⟨by decide, ?_⟩
  unfold writeD
  rw [if_neg (by decide)]
  simp only [List.map_cons, List.map_nil, List.flatten_cons, List.flatten_nil, List.length_singleton, List.append_nil]
  unfold writeI numB
  rw [if_pos (by decide)]
  show UInt8.ofNat (beD 1).length :: beD 1 ++ (UInt8.ofNat (beD 1).length :: beD 1 ++ UInt8.ofNat (beD 6).length :: beD 6) = _
  rw [beD_one (v := 1) (by decide) (by decide), beD_one (v := 6) (by decide) (by decide)]
  rfl

set_option maxRecDepth 100000 in
set_option maxHeartbeats 2000000 in
theorem works_any (w : World) : Calls Try.prog 28 #[] w fun e w' => e = .returned (.bool true) ∧ Below w.heap.size w w' := by
  have cI := Lib.hid id_any
  go_enter Try.func28, Try.ntmps28
  go_wp2_with fail
  refine (cI.out _ _ _).mono ?_
  rintro e w1 ⟨rfl, hb1⟩
  go_wp2_with fail
  refine (cI.out _ _ _).mono ?_
  rintro e w2 ⟨rfl, hb2⟩
  replace hb2 := hb1.trans (hb2.mono hb1.size)
  go_wp2_with fail
  refine (cI.out _ _ _).mono ?_
  rintro e w3 ⟨rfl, hb3⟩
  replace hb3 := hb2.trans (hb3.mono hb2.size)
  go_wp2_with fail
  refine (cI.out _ _ _).mono ?_
  rintro e w4 ⟨rfl, hb4⟩
  replace hb4 := hb3.trans (hb4.mono hb3.size)
  go_wp2_with fail
  refine (cI.out _ _ _).mono ?_
  rintro e w5 ⟨rfl, hb5⟩
  replace hb5 := hb4.trans (hb5.mono hb4.size)
  clear hb1 hb2 hb3 hb4
  go_wp2_with fail
  refine (make_any _ 5 5 wkL _ (Rd.built Im.len rfl rfl) (by decide) (by simp [wkL, Im.wf])).mono ?_
  rintro e w6 ⟨A6, n6, c6, rfl, hG6, hb6⟩
  rw [wk_make.1]
  rw [wk_make.2] at hG6
  obtain rfl : n6 = 4 := by have := hG6.1.len; simpa [wkM] using this.symm
  replace hb6 : Below w.heap.size w w6 := (hb5.alloc hb5.size _).trans (hb6.mono (by simp; have := hb5.size; omega))
  go_wp2_with fail
  refine (fold_any wkV A6 4 c6 wkM w6 hG6.1 (by decide) (by simp [wkV, Vm.wf]) (by simp [wkM, Im.wf])).mono ?_
  rintro e w7 ⟨A7, n7, c7, rfl, ho7, hb7⟩
  rw [wk_fold.1, wk_fold.2.1]
  rw [wk_fold.2.2] at ho7
  replace hG6 := hG6.below hb7
  replace hb7 := hb6.trans (hb7.mono hb6.size)
  obtain rfl : n7 = 1 := by have := ho7.rd.2.1; simpa using this.symm
  go_wp2_with fail
  have hb8 := (Below.refl w7.heap.size w7).alloc (Nat.le_refl _) (.cells #[.int .u32 wkW.d0, .int .u32 wkW.d1, .int .u32 wkW.d2, .int .u32 wkW.d3, .int .u32 wkW.d4, .int .u32 wkW.d5, .int .u32 wkW.d6, .int .u32 wkW.d7] 25)
  refine (dtw_any A7 1 c7 [(1, 6)] _ ((ho7.below hb8).rd.1) (by decide) (by simp [Im.wf])).mono ?_
  rintro e w9 ⟨rfl, hb9⟩
  rw [wk_write.1, wk_write.2, show bs [1, 1, 1, 1, 1, 6] = ⟨#[1, 1, 1, 1, 1, 6]⟩ from rfl]
  have hbV : w9.heap[w7.heap.size]? = some (.cells #[.int .u32 wkW.d0, .int .u32 wkW.d1, .int .u32 wkW.d2, .int .u32 wkW.d3, .int .u32 wkW.d4, .int .u32 wkW.d5, .int .u32 wkW.d6, .int .u32 wkW.d7] 25 (0, 0)) := (hb9.block _ (by simp)).trans (heap_at _ _ rfl)
  have hb89 := hb8.trans (hb9.mono hb8.size)
  replace hG6 := hG6.below hb89
  replace ho7 := ho7.below hb89
  have hw9 := hb7.trans (hb89.mono hb7.size)
  clear hb8 hb9 hb89 hb7 hb6 hb5
  obtain ⟨bA, oA, u, rfl, hbA, hp, hcp⟩ := hG6.1.at_ (k := 0) (by decide)
  simp only [wkM, List.getElem?_cons_zero, Option.some.injEq] at hp
  subst hp
  have p0 := hcp 0 _ rfl
  have p1 := hcp 1 _ rfl
  simp at p0 p1
  obtain ⟨bB, oB, u, rfl, hbB, hp, hcq⟩ := ho7.rd.1.at_ (k := 0) (by decide)
  simp only [List.getElem?_cons_zero, Option.some.injEq] at hp
  subst hp
  have r0 := hcq 0 _ rfl
  have r1 := hcq 1 _ rfl
  simp at r0 r1
  clear hcp hcq
  have q0 := blk_cell hbV 0
  have q1 := blk_cell hbV 1
  have q2 := blk_cell hbV 2
  have q3 := blk_cell hbV 3
  have q4 := blk_cell hbV 4
  have q5 := blk_cell hbV 5
  have q6 := blk_cell hbV 6
  have q7 := blk_cell hbV 7
  simp at q0 q1 q2 q3 q4 q5 q6 q7
  have hlV := blk_lt hbV
  have hq0 : KQ w9.heap.size w9 w9 := kq (Below.refl _ _)
  have has1 := Lib.hid (fun w' (hb : Below w9.heap.size w9 w') => (show Calls Try.prog 26 #[.slice (some ⟨bA, oA, none⟩) 4 c6, .agg #[.int .i64 2, .int .u32 1]] w' fun e w'' => e = .returned (.bool true) ∧ Below w'.heap.size w' w'' from has_any (some ⟨bA, oA, none⟩) 4 c6 wkM (2, 1) w' ((hG6.1.below hb).more hb.size) (by decide)))
  have has2 := Lib.hid (fun w' (hb : Below w9.heap.size w9 w') => (show Calls Try.prog 26 #[.slice (some ⟨bA, oA, none⟩) 4 c6, .agg #[.int .i64 2, .int .u32 2]] w' fun e w'' => e = .returned (.bool false) ∧ Below w'.heap.size w' w'' from has_any (some ⟨bA, oA, none⟩) 4 c6 wkM (2, 2) w' ((hG6.1.below hb).more hb.size) (by decide)))
  have he : ∀ w, (binOp .eql 25 (.agg #[.int .u32 wkW.d0, .int .u32 wkW.d1, .int .u32 wkW.d2, .int .u32 wkW.d3, .int .u32 wkW.d4, .int .u32 wkW.d5, .int .u32 wkW.d6, .int .u32 wkW.d7]) (.agg #[.int .u32 0, .int .u32 4, .int .u32 1, .int .u32 0, .int .u32 0, .int .u32 0, .int .u32 0, .int .u32 0])).run Try.prog w = .ok (.bool true) w := by
    intro w
    have h := run_eql_ints (P := Try.prog) (t := 25) (k := .u32) Try.underlying25 (Option.eq_some_of_isSome (by kernel_rfl)) (by kernel_rfl) Try.underlying23 [0, 4, 1, 0, 0, 0, 0, 0] [0, 4, 1, 0, 0, 0, 0, 0] rfl rfl w
    show (binOp .eql 25 (.agg #[.int .u32 0, .int .u32 4, .int .u32 1, .int .u32 0, .int .u32 0, .int .u32 0, .int .u32 0, .int .u32 0]) _).run Try.prog w = _
    simpa using h
  clear hG6 ho7 hbV
  go_wp2_with fail
  go_region_held3 (fun w' => KQ w9.heap.size w9 w') (first
      | with_reducible exact kq_call (by assumption) (by simp) (by assumption)
      | with_reducible exact kq_grown (by assumption) (by simp) (by assumption) (by simp [Value.ownBlock])
      | ((with_reducible refine kq ?_); (repeat (first | (with_reducible exact Below.refl _ _) | (with_reducible refine Below.drew ?_) | (with_reducible refine Below.alloc ?_ (by simp) _) | (with_reducible refine Below.setCell ?_ (by simp) _) | (with_reducible exact (by assumption : KQ _ _ _).1))); done))
    (first
      | (go_at_call 76; refine (cI.out _ _ _).mono ?_; rintro e wx ⟨rfl, hbx⟩)
      | (go_at_call 26; first | ((with_reducible refine (has1.out _ (by with_reducible assumption : KQ w9.heap.size w9 _).1).mono ?_); rintro e wx ⟨rfl, hbx⟩) | ((with_reducible refine (has2.out _ (by with_reducible assumption : KQ w9.heap.size w9 _).1).mono ?_); rintro e wx ⟨rfl, hbx⟩)))
  go_wp2
  go_ret
  exact ⟨rfl, hw9.trans ((by with_reducible assumption : KQ w9.heap.size w9 _).1.mono hw9.size)⟩
end Go.Proofs.Ythfjbbijcemmoaa
