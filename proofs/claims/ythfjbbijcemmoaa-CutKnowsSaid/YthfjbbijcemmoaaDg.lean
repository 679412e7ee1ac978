/- The document's own: is a name in a list; what is wrong with two sets. The document's Minus: what of one set is not in another. -/
import Derived.Test.YthfjbbijcemmoaaDb
namespace Go.Proofs.Ythfjbbijcemmoaa
open Go.RowKit

set_option maxRecDepth 100000 in
theorem rhas_any (A : Option Addr) (n c : Nat) (xs : List Im) (x : Im) (w : World) (hA : RdI w w.heap.size A n xs) (hn : n ≤ maxLen) :
    Calls Try.prog 27 #[.slice A n c, .agg #[.int .i64 x.1, .int .u32 x.2]] w fun e w' => e = .returned (.bool (xs.contains x)) ∧ Below w.heap.size w w' := by
  have hl := hA.len
  unfold maxLen at hn
  generalize hr : xs.contains x = r
  have hrH := Lib.hid hr
  clear hr
  obtain ⟨x1, x2⟩ := x
  go_enter Try.func27, Try.ntmps27
  go_wp2
  go_loopg [5] (n + 1) (fun g i wr => ∃ k : Nat, k ≤ n ∧ g = n + 1 - k ∧ i = .int .i64 (k : Int) ∧ (∀ u ∈ xs.take k, (u == (x1, x2)) = false) ∧ Below (w.heap.size + 1) (w.alloc (.cells #[.int .i64 x1, .int .u32 x2] 35)) wr)
  case atStart => exact ⟨0, Nat.zero_le _, rfl, rfl, by simp, Below.refl _ _⟩
  case round =>
    obtain ⟨k, hk, rfl, rfl, hno, hbr⟩ := hrel
    have hb : Below w.heap.size w wr := ((Below.refl _ w).alloc (Nat.le_refl _) _).trans (hbr.mono (Nat.le_succ _))
    have hz := hb.size
    have hz1 := hbr.size
    simp only [World.size_alloc] at hz1
    by_cases hlt : k < n
    · obtain ⟨bA, oA, u, rfl, hbA, hp, hcp⟩ := (hA.below hb).at_ hlt
      have p0 := hcp 0 _ rfl
      have p1 := hcp 1 _ rfl
      rw [Nat.add_zero] at p0
      clear hcp
      have hbx : wr.heap[w.heap.size]? = some (.cells #[.int .i64 x1, .int .u32 x2] 35 (0, 0)) := (hbr.block _ (by omega)).trans (heap_at _ _ rfl)
      have q0 := blk_cell hbx 0
      have q1 := blk_cell hbx 1
      simp at q0 q1
      clear hbx
      have hbA2 : bA < wr.heap.size := by omega
      have hbx2 : w.heap.size < wr.heap.size := by omega
      obtain ⟨u1, u2⟩ := u
      dsimp only at p0 p1
      have hnoH := Lib.hid hno
      have hpH := Lib.hid hp
      clear hno hp
      have hq0 : KQ wr.heap.size wr wr := kq (Below.refl _ _)
      by_cases h1 : u1 = x1
      · subst h1
        by_cases h2 : u2 = x2
        · subst h2
          have hT : Hid (true = r) := Lib.hid (by rw [← hrH.out]; symm; rw [List.contains_iff_mem]; exact List.mem_of_getElem? hpH.out)
          go_wp2
          go_region_held3 (fun w' => KQ wr.heap.size wr w') (first
      | with_reducible exact kq_call (by assumption) (by simp) (by assumption)
      | with_reducible exact kq_grown (by assumption) (by simp) (by assumption) (by simp [Value.ownBlock])
      | ((with_reducible refine kq ?_); (repeat (first | (with_reducible exact Below.refl _ _) | (with_reducible refine Below.drew ?_) | (with_reducible refine Below.alloc ?_ (by simp) _) | (with_reducible refine Below.setCell ?_ (by simp) _) | (with_reducible exact (by assumption : KQ _ _ _).1))); done)) (first | (go_at_call 0; skip))
          have hG : Below w.heap.size w wr.drew := hb.drew
          go_wp2
          go_ret
          exact ⟨ret_bool hT.out, hG⟩
        · have hT : Hid (∀ y ∈ xs.take (k + 1), (y == (u1, x2)) = false) := Lib.hid (all_take_succ hnoH.out hpH.out (by simp [h2]))
          go_wp2
          go_region_held3 (fun w' => KQ wr.heap.size wr w') (first
      | with_reducible exact kq_call (by assumption) (by simp) (by assumption)
      | with_reducible exact kq_grown (by assumption) (by simp) (by assumption) (by simp [Value.ownBlock])
      | ((with_reducible refine kq ?_); (repeat (first | (with_reducible exact Below.refl _ _) | (with_reducible refine Below.drew ?_) | (with_reducible refine Below.alloc ?_ (by simp) _) | (with_reducible refine Below.setCell ?_ (by simp) _) | (with_reducible exact (by assumption : KQ _ _ _).1))); done)) (first | (go_at_call 0; skip))
          have hG : Below (w.heap.size + 1) (w.alloc (.cells #[.int .i64 u1, .int .u32 x2] 35)) wr.drew := hbr.drew
          go_wp2
          go_roundg (n + 1 - (k + 1))
          case measure => omega
          case rel => exact ⟨k + 1, by omega, rfl, by go_num, hT.out, hG⟩
      · have hT : Hid (∀ y ∈ xs.take (k + 1), (y == (x1, x2)) = false) := Lib.hid (all_take_succ hnoH.out hpH.out (by simp [h1]))
        go_wp2
        go_region_held3 (fun w' => KQ wr.heap.size wr w') (first
      | with_reducible exact kq_call (by assumption) (by simp) (by assumption)
      | with_reducible exact kq_grown (by assumption) (by simp) (by assumption) (by simp [Value.ownBlock])
      | ((with_reducible refine kq ?_); (repeat (first | (with_reducible exact Below.refl _ _) | (with_reducible refine Below.drew ?_) | (with_reducible refine Below.alloc ?_ (by simp) _) | (with_reducible refine Below.setCell ?_ (by simp) _) | (with_reducible exact (by assumption : KQ _ _ _).1))); done)) (first | (go_at_call 0; skip))
        have hG : Below (w.heap.size + 1) (w.alloc (.cells #[.int .i64 x1, .int .u32 x2] 35)) wr.drew := hbr.drew
        go_wp2
        go_roundg (n + 1 - (k + 1))
        case measure => omega
        case rel => exact ⟨k + 1, by omega, rfl, by go_num, hT.out, hG⟩
    · have hT : Hid (false = r) := Lib.hid (by
        rw [← hrH.out]; symm
        have h := all_take_all (by rw [show k = n from by omega] at hno; exact hno) hA.len
        rw [Bool.eq_false_iff]
        intro hc
        have := h _ (List.contains_iff_mem.1 hc)
        simp at this)
      go_wp2
      go_ret
      exact ⟨ret_bool hT.out, hb⟩

theorem rboth_any (A B : Option Addr) (n m c d : Nat) (xs ys : List Im) (w : World) (hA : RdI w w.heap.size A n xs) (hB : RdI w w.heap.size B m ys) (hn : n ≤ maxLen) (hm : m ≤ maxLen) (hx : ∀ x ∈ xs, x.wf) (hy : ∀ x ∈ ys, x.wf) :
    Calls Try.prog 61 #[.slice A n c, .slice B m d] w fun e w' => e = .returned (.int .i64 (lerr2 xs ys)) ∧ Below w.heap.size w w' := by
  have h1 := rcheck_any A n c xs w hA hn hx
  have h2 := fun w' (hb : Below w.heap.size w w') => rcheck_any B m d ys w' ((hB.below hb).more hb.size) hm hy
  generalize hr : lerr2 xs ys = r
  unfold lerr2 at hr
  generalize lerr xs = p at h1 hr
  generalize lerr ys = q at h2 hr
  have h2 := Lib.hid h2
  by_cases hp : p = 0
  · subst hp
    rw [if_neg (by simp)] at hr
    subst hr
    go_enter Try.func61, Try.ntmps61
    go_wp2_with fail
    refine h1.mono ?_
    rintro e w1 ⟨rfl, hb1⟩
    go_wp2_with fail
    refine (h2.out w1 hb1).mono ?_
    rintro e w2 ⟨rfl, hb2⟩
    have hG : Below w.heap.size w w2 := hb1.trans (hb2.mono hb1.size)
    go_wp2
    go_ret
    exact ⟨rfl, hG⟩
  · rw [if_pos hp] at hr
    subst hr
    go_enter Try.func61, Try.ntmps61
    go_wp2_with fail
    refine h1.mono ?_
    rintro e w1 ⟨rfl, hb1⟩
    go_wp2
    go_ret
    exact ⟨rfl, hb1⟩
end Go.Proofs.Ythfjbbijcemmoaa
namespace Go.Proofs.Ythfjbbijcemmoaa
open Go.RowKit

/-- A list as a call leaves it. -/
def GotI (w : World) (A : Option Addr) (n : Nat) (xs : List Im) : Prop := RdI w w.heap.size A n xs ∧ n ≤ maxLen
theorem GotI.below {w w' : World} {A : Option Addr} {n : Nat} {xs : List Im} (h : GotI w A n xs) (hb : Below w.heap.size w w') : GotI w' A n xs := ⟨(h.1.below hb).more hb.size, h.2⟩
theorem gotI_nil (w : World) : GotI w none 0 [] := ⟨Rd.nil_, Nat.zero_le _⟩
theorem gotI_own {w : World} {base : Nat} {A : Option Addr} {n c : Nat} {xs : List Im} (h : Ow w base 35 2 (.slice A n c) (xs.map Im.enc)) : GotI w A n xs := ⟨h.rd.1, Nat.le_trans h.rd.2.2.1 h.rd.2.2.2⟩

set_option maxRecDepth 100000 in
set_option maxHeartbeats 1000000 in
theorem rminus_any (A B : Option Addr) (n m c d : Nat) (xs ys : List Im) (w : World) (hA : RdI w w.heap.size A n xs) (hB : RdI w w.heap.size B m ys) (hn : n ≤ 1100) (hm : m ≤ maxLen) (hx : ∀ x ∈ xs, x.wf) (hy : ∀ x ∈ ys, x.wf) :
    Calls Try.prog 18 #[.slice A n c, .slice B m d] w fun e w' => ∃ A' n' c', e = .returned (.tuple #[.slice A' n' c', .int .i64 (lerr2 xs ys)]) ∧ GotI w' A' n' (minusI xs ys) ∧ Below w.heap.size w w' := by
  have h1 := rboth_any A B n m c d xs ys w hA hB (by simp [maxLen]; omega) hm hx hy
  have hl := hA.len
  generalize hr : minusI xs ys = out
  unfold minusI at hr
  generalize lerr2 xs ys = p at h1 hr ⊢
  by_cases hp : p = 0
  · subst hp
    rw [if_neg (by simp)] at hr
    have hrH := Lib.hid hr
    clear hr
    go_enter Try.func18, Try.ntmps18
    go_wp2_with fail
    refine h1.mono ?_
    rintro e w1 ⟨rfl, hb1⟩
    go_wp2_with fail
    go_loopg [7, 8] (n + 1) (fun g s i wr => ∃ (k : Nat) (A' : Option Addr) (n' c' : Nat) (zs : List Im), k ≤ n ∧ g = n + 1 - k ∧ i = .int .i64 (k : Int) ∧ s = .slice A' n' c' ∧ n' ≤ k ∧ Ow wr w.heap.size 35 2 (.slice A' n' c') (zs.map Im.enc) ∧
      zs = (xs.take k).filter (fun x => !ys.contains x) ∧ Below w.heap.size w wr)
    case atStart => exact ⟨0, none, 0, 0, [], Nat.zero_le _, rfl, rfl, rfl, Nat.le_refl _, Ow.nil_ _ _ _ _, rfl, hb1⟩
    case round =>
      obtain ⟨k, A', n', c', zs, hk, rfl, rfl, rfl, hnk, hown, hzs, hbr⟩ := hrel
      have hz := hbr.size
      have hzl : zs.length = n' := by simpa using hown.rd.2.1
      by_cases hlt : k < n
      · obtain ⟨bA, oA, u, rfl, hbA, hp, hcp⟩ := (hA.below hbr).at_ hlt
        have p0 := hcp 0 _ rfl
        have p1 := hcp 1 _ rfl
        rw [Nat.add_zero] at p0
        clear hcp
        have hbA2 : bA < wr.heap.size := by omega
        have hh := rhas_any B m d ys u wr ((hB.below hbr).more hz) hm
        have hfs := Lib.hid (filter_take_succ (p := fun x => !ys.contains x) hp)
        have hzsH := Lib.hid hzs
        clear hzs hp
        obtain ⟨u1, u2⟩ := u
        dsimp only at p0 p1
        generalize ys.contains (u1, u2) = b at hh hfs
        cases b
        · go_wp2_with fail
          refine hh.mono ?_
          rintro e w2 ⟨rfl, hb2⟩
          replace p0 := (hb2.cell (p := ⟨bA, _, none⟩) hbA2).trans p0
          replace p1 := (hb2.cell (p := ⟨bA, _, none⟩) hbA2).trans p1
          have hz2 := hb2.size
          have hbO : Below wr.heap.size wr (w2.alloc (.cells #[.int .i64 u1, .int .u32 u2] 35)) := hb2.alloc hb2.size _
          have hlen1 : ∀ y ∈ ([[.int .i64 u1, .int .u32 u2]] : List (List Value)), y.length = 2 := by simp
          have hone1 : ∀ y ∈ ([[.int .i64 u1, .int .u32 u2]] : List (List Value)), ∀ v ∈ y, v.oneCell' = true := by simp [Value.oneCell']
          go_wp2_with (at_builtin; refine wpList_append_rd _ rfl _ _ _ rfl eId (base := w.heap.size) (v := .slice A' n' c') (xs := zs.map Im.enc) rfl (hown.below hbO) rfl (Rd.one' [.int .i64 u1, .int .u32 u2] rfl) hlen1 hone1 (by simp [maxLen]; omega) (by simp; omega) (by simp; omega) ?_; intro A2 n2 c2 w4 hn2 hown2 hg4 hat2; (obtain rfl : n2 = n' + 1 := (by rw [hn2]; simp [hzl])); clear hn2)
          go_roundg (n + 1 - (k + 1))
          case measure => omega
          case rel =>
            refine ⟨k + 1, A2, n' + 1, c2, zs ++ [(u1, u2)], by omega, rfl, by go_num, rfl, by omega, by rw [List.map_append]; exact hown2, ?_, ?_⟩
            · rw [hfs.out, hzsH.out]; simp
            · exact ((hbr.trans (hb2.mono hz)).alloc (by omega) _).grown hg4 (by simp; omega) (fun g e => (hown.block g e).1)
        · go_wp2_with fail
          refine hh.mono ?_
          rintro e w2 ⟨rfl, hb2⟩
          have hG : Below w.heap.size w w2 := hbr.trans (hb2.mono hz)
          go_wp2
          go_roundg (n + 1 - (k + 1))
          case measure => omega
          case rel => exact ⟨k + 1, A', n', c', zs, by omega, rfl, by go_num, rfl, by omega, hown.below hb2, by rw [hfs.out, hzsH.out]; simp, hG⟩
      · rw [List.take_of_length_le (by omega), hrH.out] at hzs
        have hgot := gotI_own hown
        rw [hzs] at hgot
        go_wp2
        refine bodyPost_ret (v := .tuple #[.slice A' n' c', .int .i64 0]) (by simp [results, Try.results18, go_sem]) rfl ⟨A', n', c', rfl, hgot, hbr⟩
  · rw [if_pos hp] at hr
    subst hr
    go_enter Try.func18, Try.ntmps18
    go_wp2_with fail
    refine h1.mono ?_
    rintro e w1 ⟨rfl, hb1⟩
    go_wp2
    refine bodyPost_ret (v := .tuple #[.slice none 0 0, .int .i64 p]) (by simp [results, Try.results18, go_sem]) rfl ⟨none, 0, 0, rfl, gotI_nil _, hb1⟩
end Go.Proofs.Ythfjbbijcemmoaa
