/- The document's Beyond: what of a set is not within a vector. -/
import Derived.Test.YthfjbbijcemmoaaDtF
import Derived.Test.YthfjbbijcemmoaaDg
namespace Go.Proofs.Ythfjbbijcemmoaa
open Go.RowKit


set_option maxRecDepth 100000 in
set_option maxHeartbeats 1000000 in
theorem rbeyondO_any (A : Option Addr) (n c : Nat) (xs : List Im) (v : Vm) (w : World) (hA : RdI w w.heap.size A n xs) (hn : n ≤ 1100) (hx : ∀ x ∈ xs, x.wf) :
    Calls Try.prog 20 #[.slice A n c, .agg #[.int .u32 v.d0, .int .u32 v.d1, .int .u32 v.d2, .int .u32 v.d3, .int .u32 v.d4, .int .u32 v.d5, .int .u32 v.d6, .int .u32 v.d7]] w fun e w' => ∃ A' n' c', e = .returned (.tuple #[.slice A' n' c', .int .i64 (lerr xs)]) ∧ Ow w' w.heap.size 35 2 (.slice A' n' c') ((beyondI xs v).map Im.enc) ∧ Below w.heap.size w w' := by
  have hb0 : Below w.heap.size w (w.alloc (.cells #[.int .u32 v.d0, .int .u32 v.d1, .int .u32 v.d2, .int .u32 v.d3, .int .u32 v.d4, .int .u32 v.d5, .int .u32 v.d6, .int .u32 v.d7] 25)) := (Below.refl _ w).alloc (Nat.le_refl _) _
  have h1 := rcheck_any A n c xs _ ((hA.below hb0).more hb0.size) (by simp [maxLen]; omega) hx
  have hl := hA.len
  generalize hr : beyondI xs v = out
  unfold beyondI at hr
  generalize lerr xs = p at h1 hr ⊢
  by_cases hp : p = 0
  · subst hp
    rw [if_neg (by simp)] at hr
    have hrH := Lib.hid hr
    clear hr
    go_enter Try.func20, Try.ntmps20
    go_wp2_with fail
    refine h1.mono ?_
    rintro e w1 ⟨rfl, hb1⟩
    replace hb1 : Below (w.heap.size + 1) (w.alloc (.cells #[.int .u32 v.d0, .int .u32 v.d1, .int .u32 v.d2, .int .u32 v.d3, .int .u32 v.d4, .int .u32 v.d5, .int .u32 v.d6, .int .u32 v.d7] 25)) w1 := hb1.mono (by simp)
    go_wp2_with fail
    go_loopg [7, 8] (n + 1) (fun g s i wr => ∃ (k : Nat) (A' : Option Addr) (n' c' : Nat) (zs : List Im), k ≤ n ∧ g = n + 1 - k ∧ i = .int .i64 (k : Int) ∧ s = .slice A' n' c' ∧ n' ≤ k ∧ Ow wr (w.heap.size + 1) 35 2 (.slice A' n' c') (zs.map Im.enc) ∧
      zs = (xs.take k).filter (fun x => !hasV v x) ∧ Below (w.heap.size + 1) (w.alloc (.cells #[.int .u32 v.d0, .int .u32 v.d1, .int .u32 v.d2, .int .u32 v.d3, .int .u32 v.d4, .int .u32 v.d5, .int .u32 v.d6, .int .u32 v.d7] 25)) wr)
    case atStart => exact ⟨0, none, 0, 0, [], Nat.zero_le _, rfl, rfl, rfl, Nat.le_refl _, Ow.nil_ _ _ _ _, rfl, hb1⟩
    case round =>
      obtain ⟨k, A', n', c', zs, hk, rfl, rfl, rfl, hnk, hown, hzs, hbx⟩ := hrel
      have hbr : Below w.heap.size w wr := hb0.trans (hbx.mono (by omega))
      have hz := hbr.size
      have hz1 := hbx.size
      simp only [World.size_alloc] at hz1
      have hzl : zs.length = n' := by simpa using hown.rd.2.1
      by_cases hlt : k < n
      · obtain ⟨bA, oA, u, rfl, hbA, hp, hcp⟩ := (hA.below hbr).at_ hlt
        have p0 := hcp 0 _ rfl
        have p1 := hcp 1 _ rfl
        rw [Nat.add_zero] at p0
        clear hcp
        have hbA2 : bA < wr.heap.size := by omega
        have hh := fun w' => rvhas_any v u (hx u (List.mem_of_getElem? hp)) w'
        have hbv : wr.heap[w.heap.size]? = some (.cells #[.int .u32 v.d0, .int .u32 v.d1, .int .u32 v.d2, .int .u32 v.d3, .int .u32 v.d4, .int .u32 v.d5, .int .u32 v.d6, .int .u32 v.d7] 25 (0, 0)) := (hbx.block _ (by omega)).trans (heap_at _ _ rfl)
        have q0 := blk_cell hbv 0
        have q1 := blk_cell hbv 1
        have q2 := blk_cell hbv 2
        have q3 := blk_cell hbv 3
        have q4 := blk_cell hbv 4
        have q5 := blk_cell hbv 5
        have q6 := blk_cell hbv 6
        have q7 := blk_cell hbv 7
        simp at q0 q1 q2 q3 q4 q5 q6 q7
        clear hbv
        have hbv2 : w.heap.size < wr.heap.size := by omega
        have hq0 : KQ wr.heap.size wr wr := kq (Below.refl _ _)
        have hfs := Lib.hid (filter_take_succ (p := fun x => !hasV v x) hp)
        have hzsH := Lib.hid hzs
        clear hzs hp
        obtain ⟨u1, u2⟩ := u
        dsimp only at p0 p1
        generalize hasV v (u1, u2) = b at hh hfs
        cases b
        · have hh := Lib.hid hh
          go_wp2_with fail
          go_region_held3 (fun w' => KQ wr.heap.size wr w') (first
      | with_reducible exact kq_call (by assumption) (by simp) (by assumption)
      | with_reducible exact kq_grown (by assumption) (by simp) (by assumption) (by simp [Value.ownBlock])
      | ((with_reducible refine kq ?_); (repeat (first | (with_reducible exact Below.refl _ _) | (with_reducible refine Below.drew ?_) | (with_reducible refine Below.alloc ?_ (by simp) _) | (with_reducible refine Below.setCell ?_ (by simp) _) | (with_reducible exact (by assumption : KQ _ _ _).1))); done)) (first | (go_at_call 66; refine (hh.out _).mono ?_; rintro e w2 ⟨rfl, hb3⟩))
          have hb2 : Below wr.heap.size wr w2 := (by with_reducible assumption : KQ wr.heap.size wr w2).1
          have hz2 := hb2.size
          have hbO : Below wr.heap.size wr (w2.alloc (.cells #[.int .i64 u1, .int .u32 u2] 35)) := hb2.alloc hb2.size _
          have hlen1 : ∀ y ∈ ([[.int .i64 u1, .int .u32 u2]] : List (List Value)), y.length = 2 := by simp
          have hone1 : ∀ y ∈ ([[.int .i64 u1, .int .u32 u2]] : List (List Value)), ∀ v ∈ y, v.oneCell' = true := by simp [Value.oneCell']
          go_wp2_with (at_builtin; refine wpList_append_rd _ rfl _ _ _ rfl eId (base := w.heap.size + 1) (v := .slice A' n' c') (xs := zs.map Im.enc) rfl (hown.below hbO) rfl (Rd.one' [.int .i64 u1, .int .u32 u2] rfl) hlen1 hone1 (by simp [maxLen]; omega) (by simp; omega) (by simp; omega) ?_; intro A2 n2 c2 w4 hn2 hown2 hg4 hat2; (obtain rfl : n2 = n' + 1 := (by rw [hn2]; simp [hzl])); clear hn2)
          go_roundg (n + 1 - (k + 1))
          case measure => omega
          case rel =>
            refine ⟨k + 1, A2, n' + 1, c2, zs ++ [(u1, u2)], by omega, rfl, by go_num, rfl, by omega, by rw [List.map_append]; exact hown2, ?_, ?_⟩
            · rw [hfs.out, hzsH.out]; simp
            · exact ((hbx.trans (hb2.mono hz1)).alloc (by omega) _).grown hg4 (by simp; omega) (fun g e => by have := (hown.block g e).1; omega)
        · have hh := Lib.hid hh
          go_wp2_with fail
          go_region_held3 (fun w' => KQ wr.heap.size wr w') (first
      | with_reducible exact kq_call (by assumption) (by simp) (by assumption)
      | with_reducible exact kq_grown (by assumption) (by simp) (by assumption) (by simp [Value.ownBlock])
      | ((with_reducible refine kq ?_); (repeat (first | (with_reducible exact Below.refl _ _) | (with_reducible refine Below.drew ?_) | (with_reducible refine Below.alloc ?_ (by simp) _) | (with_reducible refine Below.setCell ?_ (by simp) _) | (with_reducible exact (by assumption : KQ _ _ _).1))); done)) (first | (go_at_call 66; refine (hh.out _).mono ?_; rintro e w2 ⟨rfl, hb3⟩))
          have hb2 : Below wr.heap.size wr w2 := (by with_reducible assumption : KQ wr.heap.size wr w2).1
          have hG := hbx.trans (hb2.mono hz1)
          go_wp2
          go_roundg (n + 1 - (k + 1))
          case measure => omega
          case rel => exact ⟨k + 1, A', n', c', zs, by omega, rfl, by go_num, rfl, by omega, hown.below hb2, by rw [hfs.out, hzsH.out]; simp, hG⟩
      · rw [List.take_of_length_le (by omega), hrH.out] at hzs
        have hgot := hown.base (base' := w.heap.size) (by omega)
        rw [hzs] at hgot
        go_wp2
        refine bodyPost_ret (v := .tuple #[.slice A' n' c', .int .i64 0]) (by simp [results, Try.results20, go_sem]) rfl ⟨A', n', c', rfl, hgot, hbr⟩
  · rw [if_pos hp] at hr
    subst hr
    go_enter Try.func20, Try.ntmps20
    go_wp2_with fail
    refine h1.mono ?_
    rintro e w1 ⟨rfl, hb1⟩
    go_wp2
    refine bodyPost_ret (v := .tuple #[.slice none 0 0, .int .i64 p]) (by simp [results, Try.results20, go_sem]) rfl ⟨none, 0, 0, rfl, Ow.nil_ _ _ _ _, hb0.trans (hb1.mono (by simp))⟩
theorem rbeyond_any (A : Option Addr) (n c : Nat) (xs : List Im) (v : Vm) (w : World) (hA : RdI w w.heap.size A n xs) (hn : n ≤ 1100) (hx : ∀ x ∈ xs, x.wf) :
    Calls Try.prog 20 #[.slice A n c, .agg #[.int .u32 v.d0, .int .u32 v.d1, .int .u32 v.d2, .int .u32 v.d3, .int .u32 v.d4, .int .u32 v.d5, .int .u32 v.d6, .int .u32 v.d7]] w fun e w' => ∃ A' n' c', e = .returned (.tuple #[.slice A' n' c', .int .i64 (lerr xs)]) ∧ GotI w' A' n' (beyondI xs v) ∧ Below w.heap.size w w' :=
  (rbeyondO_any A n c xs v w hA hn hx).mono fun _ _ ⟨A', n', c', he, ho, hb⟩ => ⟨A', n', c', he, gotI_own ho, hb⟩
end Go.Proofs.Ythfjbbijcemmoaa
