/- The functions Great of the statements' packages: is an argument too much to be asked? -/
import Derived.Test.YtgjiaipheohmoaaClC
namespace Go.Proofs.Ytgjiaipheohmoaa
open Go.RowKit

theorem great12_any (A B : Option Addr) (n m c d : Nat) (w : World) :
    Calls Try.prog 21 #[.agg #[.slice A n c, .slice B m d]] w fun e w' => e = .returned (.bool (decide (200 < n) || decide (200 < m))) ∧ Below w.heap.size w w' := by
  go_enter Try.func21, Try.ntmps21
  go_wp2
  all_goals
    go_ret
    refine ⟨ret_bool ?_, (Below.refl _ _).alloc (Nat.le_refl _) _⟩
    rw [Bool.eq_iff_iff]
    simp only [Bool.or_eq_true, decide_eq_true_eq, true_iff]
    omega

theorem great13_any (A B : Option Addr) (n m c d : Nat) (w : World) :
    Calls Try.prog 22 #[.agg #[.slice A n c, .slice B m d]] w fun e w' => e = .returned (.bool (decide (100 < n) || decide (200 < m))) ∧ Below w.heap.size w w' := by
  go_enter Try.func22, Try.ntmps22
  go_wp2
  all_goals
    go_ret
    refine ⟨ret_bool ?_, (Below.refl _ _).alloc (Nat.le_refl _) _⟩
    rw [Bool.eq_iff_iff]
    simp only [Bool.or_eq_true, decide_eq_true_eq, true_iff]
    omega

/-- Great14 at the state of no kind. -/
def gr14 (l : Nat) (nm : ByteArray) : Bool := decide (100 < l) || decide (1000 < nm.size)
set_option maxHeartbeats 1000000 in
theorem great14_any (a v o s n t ao : Int) (nm : ByteArray) (A : Option Addr) (l c : Nat) (k r0 r1 r2 n0 n1 : Value) (w : World) :
    Calls Try.prog 15 #[.agg #[k, r0, r1, r2, n0, n1, .slice none 0 0, .slice none 0 0, .slice none 0 0, .slice none 0 0],
      .agg #[.int .i64 a, .string nm, .int .i64 v, .int .i64 o, .int .u32 s, .int .i64 n, .int .u32 t, .int .i64 ao, .slice A l c]] w
      fun e w' => e = .returned (.bool (gr14 l nm)) ∧ Below w.heap.size w w' := by
  go_enter Try.func15, Try.ntmps15
  go_wp2_with fail
  refine (great12_any _ _ _ _ _ _ _).mono ?_
  rintro e w1 ⟨rfl, hb1⟩
  obtain ⟨hc1, hf1⟩ := bcell hb1
  have hz1 := hb1.size
  simp only [World.size_alloc] at hz1
  have hz2 : w.heap.size < w1.heap.size := by omega
  have hz3 : w.heap.size + 1 < w1.heap.size := by omega
  go_wp2_with fail
  refine (great13_any _ _ _ _ _ _ _).mono ?_
  rintro e w2 ⟨rfl, hb2⟩
  obtain ⟨hc2, hf2⟩ := bcell hb2
  go_wp2
  all_goals
    go_ret
    refine ⟨ret_bool ?_, (((Below.refl _ _).alloc (Nat.le_refl _) _).alloc (by simp) _).trans ((hb1.mono (by simp; omega)).trans (hb2.mono (by omega)))⟩
    rw [Bool.eq_iff_iff]
    simp only [gr14, Bool.or_eq_true, decide_eq_true_eq, true_iff]
    omega

/-- Great15: of a transaction of these parts. -/
def gr15 (ps : List Pt) : Bool := decide (30 < ps.length) || ps.any fun p => decide (500 < p.key.size) || gr14 p.l p.name

set_option maxRecDepth 100000 in
set_option maxHeartbeats 2000000 in
theorem great15_any (h0 h1 h2 h3 h4 h5 h6 h7 h8 h9 h10 : Value) (A : Option Addr) (n c : Nat) (ps : List Pt) (w : World)
    (hA : Rd w w.heap.size 10 A n (ps.map Pt.enc)) (hn : n ≤ maxLen) :
    Calls Try.prog 5 #[.agg #[h0, h1, h2, h3, h4, h5, h6, h7, h8, h9, h10, .slice A n c]] w
      fun e w' => e = .returned (.bool (gr15 ps)) ∧ Below w.heap.size w w' := by
  unfold maxLen at hn
  have hl := hA.len
  by_cases h30 : 30 < n
  · go_enter Try.func5, Try.ntmps5
    go_wp2
    go_ret
    refine ⟨ret_bool ?_, (Below.refl _ _).alloc (Nat.le_refl _) _⟩
    simp [gr15, hl, h30]
  go_enter Try.func5, Try.ntmps5
  go_wp2
  go_loopg [3] (n + 1) (fun g i wr => ∃ k : Nat, k ≤ n ∧ g = n + 1 - k ∧ i = .int .i64 k ∧ (∀ p ∈ ps.take k, (decide (500 < p.key.size) || gr14 p.l p.name) = false) ∧
    Below (w.heap.size + 1) (w.alloc (.cells #[h0, h1, h2, h3, h4, h5, h6, h7, h8, h9, h10, .slice A n c] 31)) wr)
  case atStart => exact ⟨0, Nat.zero_le _, rfl, rfl, by simp, Below.refl _ _⟩
  case round =>
    obtain ⟨k, hk, rfl, rfl, hno, hbr⟩ := hrel
    obtain ⟨hc, hf⟩ := bcell hbr
    have hz := hbr.size
    simp only [World.size_alloc] at hz
    have hz1 : w.heap.size < wr.heap.size := by omega
    have hl := Lib.hid hl
    by_cases hlt : k < n
    · obtain ⟨bA, oA, p, rfl, hbA, hp, hcp⟩ := hA.at_ hlt
      have p0 := hcp 0 _ rfl
      have p1 := hcp 1 _ rfl
      have p2 := hcp 2 _ rfl
      have p3 := hcp 3 _ rfl
      have p4 := hcp 4 _ rfl
      have p5 := hcp 5 _ rfl
      have p6 := hcp 6 _ rfl
      have p7 := hcp 7 _ rfl
      have p8 := hcp 8 _ rfl
      have p9 := hcp 9 _ rfl
      rw [Nat.add_zero] at p0
      clear hcp
      have hpm : p ∈ ps := List.mem_of_getElem? hp
      have hy : bA < wr.heap.size := by omega
      by_cases hkey : 500 < (p.key.size : Int)
      · have hT : Hid (gr15 ps = true) := by
          show gr15 ps = true
          have : (ps.any fun p => decide (500 < p.key.size) || gr14 p.l p.name) = true := List.any_eq_true.2 ⟨p, hpm, by simp; left; omega⟩
          simp [gr15, this]
        go_wp2
        go_ret
        exact ⟨ret_bool hT.out.symm, ((Below.refl _ w).alloc (Nat.le_refl _) _).trans (hbr.mono (by omega))⟩
      · go_wp2_with fail
        refine (great14_any _ _ _ _ _ _ _ _ _ _ _ _ _ _ _ _ _ _).mono ?_
        rintro e w1 ⟨rfl, hb1⟩
        have hb2 : Below (w.heap.size + 1) (w.alloc (.cells #[h0, h1, h2, h3, h4, h5, h6, h7, h8, h9, h10, .slice (some ⟨bA, oA, none⟩) n c] 31)) w1 := hbr.trans (hb1.mono (by omega))
        generalize hg : gr14 p.l p.name = r
        cases r
        case true =>
          have hT : Hid (gr15 ps = true) := by
            show gr15 ps = true
            have : (ps.any fun p => decide (500 < p.key.size) || gr14 p.l p.name) = true := List.any_eq_true.2 ⟨p, hpm, by simp [hg]⟩
            simp [gr15, this]
          clear hg
          go_wp2
          go_ret
          exact ⟨ret_bool hT.out.symm, ((Below.refl _ w).alloc (Nat.le_refl _) _).trans (hb2.mono (by omega))⟩
        case false =>
          have hT : Hid ((decide (500 < p.key.size) || gr14 p.l p.name) = false) := by
            show (decide (500 < p.key.size) || gr14 p.l p.name) = false
            simp [hg]; omega
          clear hg
          go_wp2
          go_roundg (n + 1 - (k + 1))
          case measure => omega
          case rel => exact ⟨k + 1, by omega, rfl, by go_num, all_take_succ hno hp hT.out, hb2⟩
    · have hT : Hid (gr15 ps = false) := by
        show gr15 ps = false
        have hall := all_take_all (by rw [show k = n from by omega] at hno; exact hno) hA.len
        have : (ps.any fun p => decide (500 < p.key.size) || gr14 p.l p.name) = false := by
          rw [← Bool.not_eq_true]
          intro h
          obtain ⟨p, h1, h2⟩ := List.any_eq_true.1 h
          rw [hall p h1] at h2
          cases h2
        simp only [gr15, this, Bool.or_false, decide_eq_false_iff_not]
        rw [hl.out]
        exact h30
      go_wp2
      go_ret
      exact ⟨ret_bool hT.out.symm, ((Below.refl _ w).alloc (Nat.le_refl _) _).trans (hbr.mono (by omega))⟩
end Go.Proofs.Ytgjiaipheohmoaa
