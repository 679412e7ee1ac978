/- Sets of names: what is wrong with one (both checks), whether two lists are the same, a list of one's own. -/
import Derived.Test.YthfjbbijcemmoaaDtB
namespace Go.Proofs.Ythfjbbijcemmoaa
open Go.RowKit


set_option maxRecDepth 100000 in
theorem check_any (A : Option Addr) (n c : Nat) (xs : List Im) (w : World) (hA : RdI w w.heap.size A n xs) (hn : n ≤ maxLen) (hx : ∀ x ∈ xs, x.wf) :
    Calls Try.prog 24 #[.slice A n c] w fun e w' => e = .returned (.int .i64 (lerr xs)) ∧ Below w.heap.size w w' := by
  have hnm := names_any A n c xs w hA hn hx
  have hl := hA.len
  unfold maxLen at hn
  generalize hr : lerr xs = r
  unfold lerr at hr
  rw [hl] at hr
  by_cases h64 : (64 : Int) < (n : Int)
  · have hrH := Lib.hid hr
    clear hr
    go_enter Try.func24, Try.ntmps24
    go_wp2
    go_ret
    exact ⟨ret_int (by rw [← hrH.out, if_pos (by omega)]), Below.refl _ _⟩
  rw [if_neg (by omega)] at hr
  generalize hc : xs.all chk = r2 at hnm hr
  clear hc
  cases r2
  · rw [show errI false = 2 from rfl] at hnm
    rw [if_pos rfl] at hr
    subst hr
    go_enter Try.func24, Try.ntmps24
    go_wp2_with fail
    refine hnm.mono ?_
    rintro e w1 ⟨rfl, hb1⟩
    go_wp2
    go_ret
    exact ⟨rfl, hb1⟩
  rw [show errI true = 0 from rfl] at hnm
  rw [if_neg (by simp)] at hr
  have hrH := Lib.hid hr
  clear hr
  go_enter Try.func24, Try.ntmps24
  go_wp2_with fail
  refine hnm.mono ?_
  rintro e w1 ⟨rfl, hb1⟩
  go_wp2_with fail
  go_loopg [4] (n + 1) (fun g i wr => ∃ m k : Nat, k = m + 1 ∧ m ≤ n ∧ g = n + 1 - m ∧ i = .int .i64 (k : Int) ∧ (∀ j x y, j < m → xs[j]? = some x → xs[j + 1]? = some y → cmpI x y < 0) ∧ Below w.heap.size w wr)
  case atStart => exact ⟨0, 1, rfl, Nat.zero_le _, rfl, rfl, by simp, hb1⟩
  case round =>
    obtain ⟨m, k, hkm, hm, rfl, rfl, hno, hbr⟩ := hrel
    have hz := hbr.size
    by_cases hlt : k < n
    · have hw : IntKind.i64.wrap ((k : Int) - 1) = (m : Int) := by rw [IntWalk.i64_in _ (by omega)]; omega
      have hmn : m < n := by omega
      obtain ⟨bA, oA, x, rfl, hbA, hp, hcp⟩ := (hA.below hbr).at_ hmn
      obtain ⟨bB, oB, y, he, _, hq, hcq⟩ := (hA.below hbr).at_ hlt
      obtain ⟨rfl, rfl⟩ : bA = bB ∧ oA = oB := by simpa using he
      clear he
      have p0 := hcp 0 _ rfl
      have p1 := hcp 1 _ rfl
      have q0 := hcq 0 _ rfl
      have q1 := hcq 1 _ rfl
      rw [Nat.add_zero] at p0 q0
      clear hcp hcq
      have hbA2 : bA < wr.heap.size := by omega
      have hcm := fun w' => cmp_any x y w'
      have hqs : xs[m + 1]? = some y := by rw [← hkm]; exact hq
      clear hq
      have hq := hqs
      clear hqs
      have hkH := Lib.hid hkm
      clear hkm
      have hnoH := Lib.hid hno
      have hpH := Lib.hid hp
      have hqH := Lib.hid hq
      clear hno hp hq
      have hq0 : KQ wr.heap.size wr wr := kq (Below.refl _ _)
      by_cases hge : 0 ≤ cmpI x y
      · have hT : Hid (3 = r) := Lib.hid (by
          rw [← hrH.out, if_neg]
          intro ha
          have := (ascB_iff xs).1 ha m x y hpH.out hqH.out
          omega)
        generalize cmpI x y = z at hcm hge
        have hcm := Lib.hid hcm
        go_wp2
        go_region_held3 (fun w' => KQ wr.heap.size wr w') (first
      | with_reducible exact kq_call (by assumption) (by simp) (by assumption)
      | with_reducible exact kq_grown (by assumption) (by simp) (by assumption) (by simp [Value.ownBlock])
      | ((with_reducible refine kq ?_); (repeat (first | (with_reducible exact Below.refl _ _) | (with_reducible refine Below.drew ?_) | (with_reducible refine Below.alloc ?_ (by simp) _) | (with_reducible refine Below.setCell ?_ (by simp) _) | (with_reducible exact (by assumption : KQ _ _ _).1))); done))
          (first | (go_at_call 72; refine (hcm.out _).mono ?_; rintro e w2 ⟨rfl, hb2⟩))
        have hF : KQ wr.heap.size wr w2 := by with_reducible assumption
        have hG : Below w.heap.size w w2 := hbr.trans (hF.1.mono hz)
        clear hF
        go_wp2
        go_ret
        exact ⟨ret_int hT.out, hG⟩
      · have hT : Hid (∀ j x y, j < m + 1 → xs[j]? = some x → xs[j + 1]? = some y → cmpI x y < 0) := Lib.hid (by
          intro j x' y' hj h1 h2
          rcases Nat.lt_succ_iff_lt_or_eq.1 hj with h | rfl
          · exact hnoH.out j x' y' h h1 h2
          · rw [hpH.out] at h1
            rw [hqH.out] at h2
            cases h1
            cases h2
            omega)
        generalize cmpI x y = z at hcm hge
        have hcm := Lib.hid hcm
        have hdz : decide (0 ≤ z) = false := by simpa using hge
        go_wp2
        go_region_held3 (fun w' => KQ wr.heap.size wr w') (first
      | with_reducible exact kq_call (by assumption) (by simp) (by assumption)
      | with_reducible exact kq_grown (by assumption) (by simp) (by assumption) (by simp [Value.ownBlock])
      | ((with_reducible refine kq ?_); (repeat (first | (with_reducible exact Below.refl _ _) | (with_reducible refine Below.drew ?_) | (with_reducible refine Below.alloc ?_ (by simp) _) | (with_reducible refine Below.setCell ?_ (by simp) _) | (with_reducible exact (by assumption : KQ _ _ _).1))); done))
          (first | (go_at_call 72; refine (hcm.out _).mono ?_; rintro e w2 ⟨rfl, hb2⟩))
        have hF : KQ wr.heap.size wr w2 := by with_reducible assumption
        have hG : Below w.heap.size w w2 := hbr.trans (hF.1.mono hz)
        clear hF
        go_wp2
        go_roundg (n + 1 - (m + 1))
        case measure => omega
        case rel => exact ⟨m + 1, k + 1, by rw [← hkH.out], by omega, rfl, by go_num, hT.out, hG⟩
    · have hT : Hid (0 = r) := Lib.hid (by
        rw [← hrH.out, if_pos]
        rw [ascB_iff]
        intro j x y h1 h2
        have := (List.getElem?_eq_some_iff.1 h2).1
        exact hno j x y (by omega) h1 h2)
      go_wp2
      go_ret
      exact ⟨ret_int hT.out, hbr⟩
end Go.Proofs.Ythfjbbijcemmoaa
