/- Sets of names: the document's check; whether two lists are the same; a list of one's own. Are two lists of names the same? Is a name in one? -/
import Derived.Test.YthfjbbijcemmoaaDa
import Derived.RegionTactic
namespace Go.Proofs.Ythfjbbijcemmoaa
open Go.RowKit

set_option maxRecDepth 100000 in
theorem rcheck_any (A : Option Addr) (n c : Nat) (xs : List Im) (w : World) (hA : RdI w w.heap.size A n xs) (hn : n ≤ maxLen) (hx : ∀ x ∈ xs, x.wf) :
    Calls Try.prog 25 #[.slice A n c] w fun e w' => e = .returned (.int .i64 (lerr xs)) ∧ Below w.heap.size w w' := by
  have hnm := rnames_any A n c xs w hA hn hx
  have hl := hA.len
  unfold maxLen at hn
  generalize hr : lerr xs = r
  unfold lerr at hr
  rw [hl] at hr
  by_cases h64 : (64 : Int) < (n : Int)
  · have hrH := Lib.hid hr
    clear hr
    go_enter Try.func25, Try.ntmps25
    go_wp2
    go_ret
    exact ⟨ret_int (by rw [← hrH.out, if_pos (by omega)]), Below.refl _ _⟩
  rw [if_neg (by omega)] at hr
  generalize hc : xs.all chk = r2 at hnm hr
  clear hc
  cases r2
  · rw [if_pos rfl] at hr
    subst hr
    go_enter Try.func25, Try.ntmps25
    go_wp2_with fail
    refine hnm.mono ?_
    rintro e w1 ⟨rfl, hb1⟩
    go_wp2
    go_ret
    exact ⟨rfl, hb1⟩
  rw [if_neg (by simp)] at hr
  have hrH := Lib.hid hr
  clear hr
  go_enter Try.func25, Try.ntmps25
  go_wp2_with fail
  refine hnm.mono ?_
  rintro e w1 ⟨rfl, hb1⟩
  go_wp2_with fail
  go_loopg [3] (n + 1) (fun g i wr => ∃ m k : Nat, k = m + 1 ∧ m ≤ n ∧ g = n + 1 - m ∧ i = .int .i64 (k : Int) ∧ (∀ j x y, j < m → xs[j]? = some x → xs[j + 1]? = some y → cmpI x y < 0) ∧ Below w.heap.size w wr)
  case atStart => exact ⟨0, 1, rfl, Nat.zero_le _, rfl, rfl, by simp, hb1⟩
  case round =>
    obtain ⟨m, k, hkm, hm, rfl, rfl, hno, hbr⟩ := hrel
    have hz := hbr.size
    by_cases hlt : k < n
    · have hw : IntKind.i64.wrap ((k : Int) - 1) = (m : Int) := by rw [IntWalk.i64_in _ (by omega)]; omega
      have hmn : m < n := by omega
      obtain ⟨bA, oA, x, rfl, hbA, hp, hcp⟩ := (hA.below hbr).at_ hmn
      obtain ⟨bB, oB, y, he, _, hq, hcq⟩ := (hA.below hbr).at_ hlt
      obtain ⟨rfl, rfl⟩ : bA = bB ∧ oA = oB := by simpa using he
      clear he
      have p0 := hcp 0 _ rfl
      have p1 := hcp 1 _ rfl
      have q0 := hcq 0 _ rfl
      have q1 := hcq 1 _ rfl
      rw [Nat.add_zero] at p0 q0
      clear hcp hcq
      have hbA2 : bA < wr.heap.size := by omega
      have hcm := fun w' => rcmp_any x y (hx x (List.mem_of_getElem? hp)) (hx y (List.mem_of_getElem? hq)) w'
      have hqs : xs[m + 1]? = some y := by rw [← hkm]; exact hq
      clear hq
      have hq := hqs
      clear hqs
      have hkH := Lib.hid hkm
      clear hkm
      have hnoH := Lib.hid hno
      have hpH := Lib.hid hp
      have hqH := Lib.hid hq
      clear hno hp hq
      have hq0 : KQ wr.heap.size wr wr := kq (Below.refl _ _)
      by_cases hge : 0 ≤ cmpI x y
      · have hT : Hid (3 = r) := Lib.hid (by
          rw [← hrH.out, if_neg]
          intro ha
          have := (ascB_iff xs).1 ha m x y hpH.out hqH.out
          omega)
        generalize cmpI x y = z at hcm hge
        have hcm := Lib.hid hcm
        go_wp2
        go_region_held3 (fun w' => KQ wr.heap.size wr w') (first
      | with_reducible exact kq_call (by assumption) (by simp) (by assumption)
      | with_reducible exact kq_grown (by assumption) (by simp) (by assumption) (by simp [Value.ownBlock])
      | ((with_reducible refine kq ?_); (repeat (first | (with_reducible exact Below.refl _ _) | (with_reducible refine Below.drew ?_) | (with_reducible refine Below.alloc ?_ (by simp) _) | (with_reducible refine Below.setCell ?_ (by simp) _) | (with_reducible exact (by assumption : KQ _ _ _).1))); done))
          (first | (go_at_call 74; refine (hcm.out _).mono ?_; rintro e w2 ⟨rfl, hb2⟩))
        have hF : KQ wr.heap.size wr w2 := by with_reducible assumption
        have hG : Below w.heap.size w w2 := hbr.trans (hF.1.mono hz)
        clear hF
        go_wp2
        go_ret
        exact ⟨ret_int hT.out, hG⟩
      · have hT : Hid (∀ j x y, j < m + 1 → xs[j]? = some x → xs[j + 1]? = some y → cmpI x y < 0) := Lib.hid (by
          intro j x' y' hj h1 h2
          rcases Nat.lt_succ_iff_lt_or_eq.1 hj with h | rfl
          · exact hnoH.out j x' y' h h1 h2
          · rw [hpH.out] at h1
            rw [hqH.out] at h2
            cases h1
            cases h2
            omega)
        generalize cmpI x y = z at hcm hge
        have hcm := Lib.hid hcm
        have hdz : decide (0 ≤ z) = false := by simpa using hge
        go_wp2
        go_region_held3 (fun w' => KQ wr.heap.size wr w') (first
      | with_reducible exact kq_call (by assumption) (by simp) (by assumption)
      | with_reducible exact kq_grown (by assumption) (by simp) (by assumption) (by simp [Value.ownBlock])
      | ((with_reducible refine kq ?_); (repeat (first | (with_reducible exact Below.refl _ _) | (with_reducible refine Below.drew ?_) | (with_reducible refine Below.alloc ?_ (by simp) _) | (with_reducible refine Below.setCell ?_ (by simp) _) | (with_reducible exact (by assumption : KQ _ _ _).1))); done))
          (first | (go_at_call 74; refine (hcm.out _).mono ?_; rintro e w2 ⟨rfl, hb2⟩))
        have hF : KQ wr.heap.size wr w2 := by with_reducible assumption
        have hG : Below w.heap.size w w2 := hbr.trans (hF.1.mono hz)
        clear hF
        go_wp2
        go_roundg (n + 1 - (m + 1))
        case measure => omega
        case rel => exact ⟨m + 1, k + 1, by rw [← hkH.out], by omega, rfl, by go_num, hT.out, hG⟩
    · have hT : Hid (0 = r) := Lib.hid (by
        rw [← hrH.out, if_pos]
        rw [ascB_iff]
        intro j x y h1 h2
        have := (List.getElem?_eq_some_iff.1 h2).1
        exact hno j x y (by omega) h1 h2)
      go_wp2
      go_ret
      exact ⟨ret_int hT.out, hbr⟩
theorem infoId : (Try.prog.info? 35).map (fun i => (i.zero, i.size, i.bytes)) = some (some (.agg #[.int .i64 0, .int .u32 0]), 2, 16) := by kernel_rfl
theorem eId : ElemInfo Try.prog 22 35 2 16 := by
  obtain ⟨i, hi, h0, h1, h2⟩ := info_parts infoId
  exact ⟨Try.underlying22, ⟨i, _, hi, h0, h1, h2, rfl⟩, by decide⟩

/-- A list of one's own. -/
theorem own_any (A : Option Addr) (n c : Nat) (xs : List Im) (w : World) (hA : RdI w w.heap.size A n xs) (hn : n ≤ 1100) :
    Calls Try.prog 15 #[.slice A n c] w fun e w' => ∃ A' c', e = .returned (.slice A' n c') ∧ Ow w' w.heap.size 35 2 (.slice A' n c') (xs.map Im.enc) ∧ Below w.heap.size w w' := by
  have hl := hA.len
  go_enter Try.func15, Try.ntmps15
  go_wp2_with (at_builtin; refine wpList_append_rd _ rfl _ _ _ rfl eId (base := w.heap.size) (v := .slice (some ⟨w.heap.size, 0, none⟩) 0 0) (xs := []) rfl (Ow.made0 _ _ _ (Nat.le_refl _)) rfl (Rd.below hA ((Below.refl _ w).alloc (Nat.le_refl _) _)) Im.len Im.one (by simp [maxLen]; omega) (by simp; omega) (by simp) ?_; intro A2 n2 c2 w4 hn2 hown2 hg4 hat2; (obtain rfl : n2 = n := (by rw [hn2]; simp)); clear hn2)
  go_ret
  exact ⟨A2, c2, rfl, by simpa using hown2, ((Below.refl _ w).alloc (Nat.le_refl _) _).grown hg4 (by simp) (fun g e => by simp [Value.ownBlock] at e; omega)⟩
end Go.Proofs.Ythfjbbijcemmoaa
namespace Go.Proofs.Ythfjbbijcemmoaa
open Go.RowKit

set_option maxRecDepth 100000 in
theorem same_any (A B : Option Addr) (n m c d : Nat) (xs ys : List Im) (w : World) (hA : RdI w w.heap.size A n xs) (hB : RdI w w.heap.size B m ys) (hn : n ≤ maxLen) (hm : m ≤ maxLen) :
    Calls Try.prog 21 #[.slice A n c, .slice B m d] w fun e w' => e = .returned (.bool (decide (xs = ys))) ∧ Below w.heap.size w w' := by
  have hl := hA.len
  have hl2 := hB.len
  unfold maxLen at hn hm
  generalize hr : decide (xs = ys) = r
  have hrH := Lib.hid hr
  clear hr
  by_cases hnm : (n : Int) = (m : Int)
  · obtain rfl : n = m := by omega
    clear hnm
    go_enter Try.func21, Try.ntmps21
    go_wp2
    go_loopg [5] (n + 1) (fun g i wr => ∃ k : Nat, k ≤ n ∧ g = n + 1 - k ∧ i = .int .i64 (k : Int) ∧ xs.take k = ys.take k ∧ Below w.heap.size w wr)
    case atStart => exact ⟨0, Nat.zero_le _, rfl, rfl, rfl, Below.refl _ _⟩
    case round =>
      obtain ⟨k, hk, rfl, rfl, htk, hbr⟩ := hrel
      have hz := hbr.size
      by_cases hlt : k < n
      · obtain ⟨bA, oA, x, rfl, hbA, hp, hcp⟩ := (hA.below hbr).at_ hlt
        obtain ⟨bB, oB, y, rfl, hbB, hq, hcq⟩ := (hB.below hbr).at_ hlt
        have p0 := hcp 0 _ rfl
        have p1 := hcp 1 _ rfl
        have q0 := hcq 0 _ rfl
        have q1 := hcq 1 _ rfl
        rw [Nat.add_zero] at p0 q0
        clear hcp hcq
        have hbA2 : bA < wr.heap.size := by omega
        have hbB2 : bB < wr.heap.size := by omega
        have hiff := Lib.hid (take_succ_eq htk hp hq)
        have hpH := Lib.hid hp
        have hqH := Lib.hid hq
        clear htk hp hq
        have hq0 : KQ wr.heap.size wr wr := kq (Below.refl _ _)
        obtain ⟨x1, x2⟩ := x
        obtain ⟨y1, y2⟩ := y
        dsimp only at p0 p1 q0 q1
        by_cases h1 : x1 = y1
        · subst h1
          by_cases h2 : x2 = y2
          · subst h2
            have hT := Lib.hid (hiff.out.2 rfl)
            clear hiff
            go_wp2
            go_region_held3 (fun w' => KQ wr.heap.size wr w') (first
      | with_reducible exact kq_call (by assumption) (by simp) (by assumption)
      | with_reducible exact kq_grown (by assumption) (by simp) (by assumption) (by simp [Value.ownBlock])
      | ((with_reducible refine kq ?_); (repeat (first | (with_reducible exact Below.refl _ _) | (with_reducible refine Below.drew ?_) | (with_reducible refine Below.alloc ?_ (by simp) _) | (with_reducible refine Below.setCell ?_ (by simp) _) | (with_reducible exact (by assumption : KQ _ _ _).1))); done)) (first | (go_at_call 0; skip))
            have hG : Below w.heap.size w wr.drew := hbr.drew
            go_wp2
            go_roundg (n + 1 - (k + 1))
            case measure => omega
            case rel => exact ⟨k + 1, by omega, rfl, by go_num, hT.out, hG⟩
          · have hT : Hid (false = r) := Lib.hid (by
              rw [← hrH.out]; symm; apply decide_eq_false; intro e; subst e
              have := hpH.out.symm.trans hqH.out
              simp at this; exact h2 this)
            clear hiff
            go_wp2
            go_region_held3 (fun w' => KQ wr.heap.size wr w') (first
      | with_reducible exact kq_call (by assumption) (by simp) (by assumption)
      | with_reducible exact kq_grown (by assumption) (by simp) (by assumption) (by simp [Value.ownBlock])
      | ((with_reducible refine kq ?_); (repeat (first | (with_reducible exact Below.refl _ _) | (with_reducible refine Below.drew ?_) | (with_reducible refine Below.alloc ?_ (by simp) _) | (with_reducible refine Below.setCell ?_ (by simp) _) | (with_reducible exact (by assumption : KQ _ _ _).1))); done)) (first | (go_at_call 0; skip))
            have hG : Below w.heap.size w wr.drew := hbr.drew
            go_wp2
            go_ret
            exact ⟨ret_bool hT.out, hG⟩
        · have hT : Hid (false = r) := Lib.hid (by
              rw [← hrH.out]; symm; apply decide_eq_false; intro e; subst e
              have := hpH.out.symm.trans hqH.out
              simp at this; exact h1 this.1)
          clear hiff
          go_wp2
          go_region_held3 (fun w' => KQ wr.heap.size wr w') (first
      | with_reducible exact kq_call (by assumption) (by simp) (by assumption)
      | with_reducible exact kq_grown (by assumption) (by simp) (by assumption) (by simp [Value.ownBlock])
      | ((with_reducible refine kq ?_); (repeat (first | (with_reducible exact Below.refl _ _) | (with_reducible refine Below.drew ?_) | (with_reducible refine Below.alloc ?_ (by simp) _) | (with_reducible refine Below.setCell ?_ (by simp) _) | (with_reducible exact (by assumption : KQ _ _ _).1))); done)) (first | (go_at_call 0; skip))
          have hG : Below w.heap.size w wr.drew := hbr.drew
          go_wp2
          go_ret
          exact ⟨ret_bool hT.out, hG⟩
      · have hT : Hid (true = r) := Lib.hid (by
          rw [← hrH.out]; symm; apply decide_eq_true
          rw [List.take_of_length_le (by omega), List.take_of_length_le (by omega)] at htk
          exact htk)
        go_wp2
        go_ret
        exact ⟨ret_bool hT.out, hbr⟩
  · have hT : Hid (false = r) := Lib.hid (by
      rw [← hrH.out]; symm; apply decide_eq_false; rintro rfl; omega)
    have hd : ((n : Int) == (m : Int)) = false := by simpa using hnm
    go_enter Try.func21, Try.ntmps21
    go_wp2
    go_ret
    exact ⟨ret_bool hT.out, Below.refl _ _⟩
end Go.Proofs.Ythfjbbijcemmoaa
