/- Lists of names: too great to be asked, the same, made of names alone, in order. -/
import Derived.Test.YthfjbbijcemmoaaDtA
namespace Go.Proofs.Ythfjbbijcemmoaa
open Go.RowKit

theorem RdI.below {w w' : World} {B n : Nat} {A : Option Addr} {xs : List Im} (h : RdI w B A n xs) (hb : Below B w w') : RdI w' B A n xs := Rd.below h hb
theorem RdI.more {w : World} {B B' n : Nat} {A : Option Addr} {xs : List Im} (h : RdI w B A n xs) (hb : B ≤ B') : RdI w B' A n xs := Rd.more h hb
theorem RdI.len {w : World} {B n : Nat} {A : Option Addr} {xs : List Im} (h : RdI w B A n xs) : xs.length = n := by simpa using h.1
theorem great_any (A : Option Addr) (n c : Nat) (w : World) :
    Calls Try.prog 13 #[.slice A n c] w fun e w' => e = .returned (.bool (grI n)) ∧ w' = w := by
  generalize hr : grI n = r
  have hrH := Lib.hid hr
  clear hr
  by_cases h1 : (400 : Int) < (n : Int)
  · by_cases h2 : (n : Int) = 1024
    · have hd : ((n : Int) == 1024) = true := by simpa using h2
      have hq := Lib.hid h2
      go_enter Try.func13, Try.ntmps13
      go_wp2
      go_ret
      exact ⟨ret_bool (by rw [← hrH.out]; have := hq.out; unfold grI; symm; first | (apply decide_eq_true; omega) | (apply decide_eq_false; omega) | (rw [Bool.eq_iff_iff]; simp; omega)), rfl⟩
    · by_cases h3 : (n : Int) = 1025
      · have hq := Lib.hid h3
        go_enter Try.func13, Try.ntmps13
        go_wp2
        go_ret
        exact ⟨ret_bool (by rw [← hrH.out]; have := hq.out; unfold grI; symm; first | (apply decide_eq_true; omega) | (apply decide_eq_false; omega) | (rw [Bool.eq_iff_iff]; simp; omega)), rfl⟩
      · have hq := Lib.hid h3
        have hq2 := Lib.hid h2
        have hq1 := Lib.hid h1
        go_enter Try.func13, Try.ntmps13
        go_wp2
        go_ret
        exact ⟨ret_bool (by rw [← hrH.out]; have := hq.out; have := hq1.out; have := hq2.out; unfold grI; symm; first | (apply decide_eq_true; omega) | (apply decide_eq_false; omega) | (rw [Bool.eq_iff_iff]; simp; omega)), rfl⟩
  · have hq1 := Lib.hid h1
    go_enter Try.func13, Try.ntmps13
    go_wp2
    go_ret
    exact ⟨ret_bool (by rw [← hrH.out]; have := hq1.out; unfold grI; symm; first | (apply decide_eq_true; omega) | (apply decide_eq_false; omega) | (rw [Bool.eq_iff_iff]; simp; omega)), rfl⟩

theorem names1_any (x : Im) (hx : x.wf) (w : World) :
    Calls Try.prog 99 #[.agg #[.int .i64 x.1, .int .u32 x.2]] w fun e w' => e = .returned (.bool (!chk x)) ∧ Below w.heap.size w w' := by
  have hch := chk_any x hx
  generalize chk x = r at hch ⊢
  cases r
  · rw [show errI false = 2 from rfl] at hch
    go_enter Try.func99, Try.ntmps99
    go_wp2_with fail
    refine (hch _).mono ?_
    rintro e w1 ⟨rfl, hb1⟩
    have hb2 : Below w.heap.size w w1 := ((Below.refl _ w).alloc (Nat.le_refl _) _).trans (hb1.mono (by simp))
    go_wp2
    go_ret
    exact ⟨rfl, hb2⟩
  · rw [show errI true = 0 from rfl] at hch
    go_enter Try.func99, Try.ntmps99
    go_wp2_with fail
    refine (hch _).mono ?_
    rintro e w1 ⟨rfl, hb1⟩
    have hb2 : Below w.heap.size w w1 := ((Below.refl _ w).alloc (Nat.le_refl _) _).trans (hb1.mono (by simp))
    go_wp2
    go_ret
    exact ⟨rfl, hb2⟩


theorem ixf_any (A : Option Addr) (n c : Nat) (xs : List Im) (w : World) (hA : RdI w w.heap.size A n xs) (hn : n ≤ maxLen) (hx : ∀ x ∈ xs, x.wf) :
    Calls Try.prog 98 #[.slice A n c, .func (.func 99) #[] #[]] w
      fun e w' => e = .returned (.int .i64 (firstI (fun x => !chk x) xs)) ∧ Below w.heap.size w w' := by
  unfold maxLen at hn
  go_enter Try.func98, Try.ntmps98
  go_wp2
  go_loopg [8] (n + 1) (fun g i wr => ∃ k : Nat, k ≤ n ∧ g = n + 1 - k ∧ i = .int .i64 k ∧ (∀ u ∈ xs.take k, (!chk u) = false) ∧ Below w.heap.size w wr)
  case atStart => exact ⟨0, Nat.zero_le _, rfl, rfl, by simp, Below.refl _ _⟩
  case round =>
    obtain ⟨k, hk, rfl, rfl, hno, hbr⟩ := hrel
    have hz := hbr.size
    by_cases hlt : k < n
    · obtain ⟨bA, oA, u, rfl, hbA, hp, hcp⟩ := (hA.below hbr).at_ hlt
      have p0 := hcp 0 _ rfl
      have p1 := hcp 1 _ rfl
      rw [Nat.add_zero] at p0
      clear hcp
      have huw := hx u (List.mem_of_getElem? hp)
      go_wp2_with fail
      refine (names1_any u huw wr).mono ?_
      rintro e w1 ⟨rfl, hb1⟩
      have hb2 := hbr.trans (hb1.mono hz)
      generalize hx' : (!chk u) = r
      cases r
      case true =>
        have hT := Lib.hid (firstI_at (p := fun x => !chk x) hno hp hx')
        clear hx'
        go_wp2
        go_ret
        exact ⟨ret_int hT.out.symm, hb2⟩
      case false =>
        have hT := Lib.hid hx'
        clear hx'
        go_wp2
        go_roundg (n + 1 - (k + 1))
        case measure => omega
        case rel => exact ⟨k + 1, by omega, rfl, by go_num, all_take_succ hno hp hT.out, hb2⟩
    · have hT := Lib.hid (firstI_none (p := fun x => !chk x) (all_take_all (by rw [show k = n from by omega] at hno; exact hno) hA.len))
      go_wp2
      go_ret
      exact ⟨ret_int hT.out.symm, hbr⟩
theorem names_any (A : Option Addr) (n c : Nat) (xs : List Im) (w : World) (hA : RdI w w.heap.size A n xs) (hn : n ≤ maxLen) (hx : ∀ x ∈ xs, x.wf) :
    Calls Try.prog 67 #[.slice A n c] w fun e w' => e = .returned (.int .i64 (errI (xs.all chk))) ∧ Below w.heap.size w w' := by
  have hcf : Calls Try.prog 92 #[.slice A n c, .func (.func 99) #[] #[]] w
      fun e w' => e = .returned (.bool (!xs.all chk)) ∧ Below w.heap.size w w' := by
    have hr : decide (0 ≤ firstI (fun x => !chk x) xs) = !xs.all chk := by rw [firstI_any, List.all_eq_not_any_not]; simp
    have hrH := Lib.hid hr
    clear hr
    go_enter Try.func92, Try.ntmps92
    go_wp2_with fail
    refine (ixf_any A n c xs w hA hn hx).mono ?_
    rintro e w1 ⟨rfl, hb1⟩
    generalize firstI (fun x => !chk x) xs = z at hrH ⊢
    go_wp2
    go_ret
    exact ⟨ret_bool hrH.out, hb1⟩
  generalize xs.all chk = r at hcf ⊢
  cases r
  · go_enter Try.func67, Try.ntmps67
    go_wp2_with fail
    refine hcf.mono ?_
    rintro e w1 ⟨rfl, hb1⟩
    go_wp2
    go_ret
    exact ⟨rfl, hb1⟩
  · go_enter Try.func67, Try.ntmps67
    go_wp2_with fail
    refine hcf.mono ?_
    rintro e w1 ⟨rfl, hb1⟩
    go_wp2
    go_ret
    exact ⟨rfl, hb1⟩
theorem rnames_any (A : Option Addr) (n c : Nat) (xs : List Im) (w : World) (hA : RdI w w.heap.size A n xs) (hn : n ≤ maxLen) (hx : ∀ x ∈ xs, x.wf) :
    Calls Try.prog 73 #[.slice A n c] w fun e w' => e = .returned (.bool (xs.all chk)) ∧ Below w.heap.size w w' := by
  unfold maxLen at hn
  go_enter Try.func73, Try.ntmps73
  go_wp2
  go_loopg [3] (n + 1) (fun g i wr => ∃ k : Nat, k ≤ n ∧ g = n + 1 - k ∧ i = .int .i64 k ∧ (∀ u ∈ xs.take k, (!chk u) = false) ∧ Below w.heap.size w wr)
  case atStart => exact ⟨0, Nat.zero_le _, rfl, rfl, by simp, Below.refl _ _⟩
  case round =>
    obtain ⟨k, hk, rfl, rfl, hno, hbr⟩ := hrel
    have hz := hbr.size
    by_cases hlt : k < n
    · obtain ⟨bA, oA, u, rfl, hbA, hp, hcp⟩ := (hA.below hbr).at_ hlt
      have p0 := hcp 0 _ rfl
      have p1 := hcp 1 _ rfl
      rw [Nat.add_zero] at p0
      clear hcp
      have huw := hx u (List.mem_of_getElem? hp)
      go_wp2_with fail
      refine (rchk_any u huw wr).mono ?_
      rintro e w1 ⟨rfl, hb1⟩
      have hb2 := hbr.trans (hb1.mono hz)
      generalize hx' : chk u = r
      cases r
      case false =>
        have hT : Hid (false = xs.all chk) := Lib.hid (by symm; rw [List.all_eq_false]; exact ⟨u, List.mem_of_getElem? hp, by simp [hx']⟩)
        clear hx'
        go_wp2
        go_ret
        exact ⟨ret_bool hT.out, hb2⟩
      case true =>
        have hT : Hid ((!chk u) = false) := Lib.hid (by simp [hx'])
        clear hx'
        go_wp2
        go_roundg (n + 1 - (k + 1))
        case measure => omega
        case rel => exact ⟨k + 1, by omega, rfl, by go_num, all_take_succ hno hp hT.out, hb2⟩
    · have hT : Hid (true = xs.all chk) := Lib.hid (by symm; rw [List.all_eq_true]; intro x hx; have := all_take_all (by rw [show k = n from by omega] at hno; exact hno) hA.len x hx; simpa using this)
      go_wp2
      go_ret
      exact ⟨ret_bool hT.out, hbr⟩
end Go.Proofs.Ythfjbbijcemmoaa
