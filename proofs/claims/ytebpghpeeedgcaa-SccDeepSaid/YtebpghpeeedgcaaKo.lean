/- What is wrong with a list of who each comes behind: the program's Check. -/
import Derived.Test.YtebpghpeeedgcaaKn
namespace Go.Proofs.Ytebpghpeeedgcaa
open Go.RowKit

def firstZ {α : Type} (p : α → Bool) (xs : List α) : Int := match xs.findIdx? p with | some i => (i : Int) | none => -1
theorem firstZ_at {α : Type} {p : α → Bool} {xs : List α} {k : Nat} {u : α} (h : ∀ x ∈ xs.take k, p x = false) (hu : xs[k]? = some u) (hp : p u = true) : firstZ p xs = (k : Int) := by
  unfold firstZ
  obtain ⟨hk, he⟩ := List.getElem?_eq_some_iff.1 hu
  have : xs.findIdx? p = some k := by
    rw [List.findIdx?_eq_some_iff_getElem]
    refine ⟨hk, by rw [he]; exact hp, fun j hj => ?_⟩
    have := h xs[j] (List.mem_iff_getElem?.2 ⟨j, by rw [List.getElem?_take_of_lt hj, List.getElem?_eq_getElem (by omega)]⟩)
    simp [this]
  rw [this]
theorem firstZ_none {α : Type} {p : α → Bool} {xs : List α} (h : ∀ x ∈ xs, p x = false) : firstZ p xs = -1 := by
  unfold firstZ
  rw [List.findIdx?_eq_none_iff.2 fun x hx => by simp [h x hx]]
theorem firstZ_any {α : Type} (p : α → Bool) (xs : List α) : decide (0 ≤ firstZ p xs) = xs.any p := by
  unfold firstZ
  cases h : xs.findIdx? p with
  | none =>
    have := List.findIdx?_eq_none_iff.1 h
    rw [show xs.any p = false by rw [List.any_eq_false]; intro x hx; simp [this x hx]]
    simp
  | some i =>
    obtain ⟨h1, h2, _⟩ := List.findIdx?_eq_some_iff_getElem.1 h
    rw [show xs.any p = true from List.any_eq_true.2 ⟨_, List.getElem_mem h1, h2⟩]
    simp
theorem ret_intN {a b : Int} (h : a = b) : Ending.returned (.int .i64 a) = .returned (.int .i64 b) := by rw [h]
/-- A function value that tells of numbers. -/
def PredN (g : Nat) (lb : Array Value) (p : Int → Bool) (B : Nat) (w : World) (xs : List Int) : Prop :=
  ∀ x ∈ xs, ∀ w', Below B w w' → Calls Try.prog g (#[.int .i64 x] ++ lb) w' fun e w'' => e = .returned (.bool (p x)) ∧ Below w'.heap.size w' w''
set_option maxRecDepth 100000 in
theorem ixN_gen (g : Nat) (lb : Array Value) (p : Int → Bool) (eg : ∀ args w, (callFunc g args).run Try.prog w = .ok (.enter g args) w) (B : Nat) (A : Option Addr) (n c : Nat) (xs : List Int) (w : World) (hA : Rd w w.heap.size 1 A n (xs.map eI)) (hn : n ≤ 1000000) (hp : PredN g lb p B w xs) (hB : B ≤ w.heap.size) :
    Calls Try.prog 28 #[.slice A n c, .func (.func g) #[] lb] w
      fun e w' => e = .returned (.int .i64 (firstZ p xs)) ∧ Below w.heap.size w w' := by
  have hp := Lib.hid hp
  have hl : xs.length = n := by simpa using hA.1
  have hlH := Lib.hid hl
  clear hl
  go_enter Try.func28, Try.ntmps28
  go_wp2
  go_loopg [8] (n + 1) (fun g i wr => ∃ k : Nat, k ≤ n ∧ g = n + 1 - k ∧ i = .int .i64 k ∧ (∀ u ∈ xs.take k, p u = false) ∧ Below w.heap.size w wr)
  case atStart => exact ⟨0, Nat.zero_le _, rfl, rfl, by simp, Below.refl _ _⟩
  case round =>
    obtain ⟨k, hk, rfl, rfl, hno, hbr⟩ := hrel
    have hz := hbr.size
    by_cases hlt : k < n
    · have hlti : (k : Int) < (n : Int) := by omega
      obtain ⟨bA, oA, u, rfl, hbA, hq, hcp⟩ := Rd.at_ (enc := eI) (hA.below hbr) hlt
      have p0 := hcp 0 _ rfl
      rw [Nat.add_zero, Nat.mul_one] at p0
      clear hcp
      have hnoH := Lib.hid hno
      have hqH := Lib.hid hq
      clear hno hq
      go_wp2_with fail
      refine (hp.out u (List.mem_of_getElem? hqH.out) wr (hbr.mono hB)).mono ?_
      rintro e w1 ⟨rfl, hb1⟩
      have hb2 := hbr.trans (hb1.mono hz)
      generalize hx' : p u = r
      cases r
      case true =>
        have hT := Lib.hid (firstZ_at hnoH.out hqH.out hx')
        clear hx'
        go_wp2
        go_ret
        exact ⟨ret_intN hT.out.symm, hb2⟩
      case false =>
        have hT := Lib.hid hx'
        clear hx'
        go_wp2
        go_roundg (n + 1 - (k + 1))
        case measure => omega
        case rel => exact ⟨k + 1, by omega, rfl, by go_num, all_take_succ hnoH.out hqH.out hT.out, hb2⟩
    · have hnlt : ¬ (k : Int) < (n : Int) := by omega
      have hT := Lib.hid (firstZ_none (p := p) (all_take_all (by rw [show k = n from by omega] at hno; exact hno) hlH.out))
      clear hno
      go_wp2
      go_ret
      exact ⟨ret_intN hT.out.symm, hbr⟩
set_option maxRecDepth 100000 in
theorem ctN_gen (g : Nat) (lb : Array Value) (p : Int → Bool) (eg : ∀ args w, (callFunc g args).run Try.prog w = .ok (.enter g args) w) (B : Nat) (A : Option Addr) (n c : Nat) (xs : List Int) (w : World) (hA : Rd w w.heap.size 1 A n (xs.map eI)) (hn : n ≤ 1000000) (hp : PredN g lb p B w xs) (hB : B ≤ w.heap.size) :
    Calls Try.prog 23 #[.slice A n c, .func (.func g) #[] lb] w
      fun e w' => e = .returned (.bool (xs.any p)) ∧ Below w.heap.size w w' := by
  have cI := Lib.hid (ixN_gen g lb p eg B A n c xs w hA hn hp hB)
  have hf := firstZ_any p xs
  rw [← hf]
  generalize firstZ p xs = q at cI
  clear hf hp
  go_enter Try.func23, Try.ntmps23
  go_wp2_with fail
  refine cI.out.mono ?_
  rintro e w1 ⟨rfl, hb1⟩
  go_wp2
  go_ret
  exact ⟨rfl, hb1⟩
/-- How many steps there are. -/
def sumL (rs : List Rw) : Nat := (rs.map Rw.l).sum
theorem sumL_take (rs : List Rw) {k : Nat} {r : Rw} (h : rs[k]? = some r) : sumL (rs.take (k + 1)) = sumL (rs.take k) + r.l := by
  unfold sumL
  rw [List.take_add_one, h]; simp
theorem sumL_le (rs : List Rw) (k : Nat) : sumL (rs.take k) ≤ sumL rs := by
  unfold sumL
  conv => rhs; rw [← List.take_append_drop k rs]
  rw [List.map_append, List.sum_append]; omega
set_option maxRecDepth 100000 in
theorem steps_any (A : Option Addr) (n c : Nat) (rs : List Rw) (w : World) (hA : RdG w w.heap.size A n rs) (hn : n ≤ maxLen) (hm : ∀ r ∈ rs, r.l ≤ 100000000) :
    Calls Try.prog 29 #[.slice A n c] w fun e w' => (∃ q : Int, e = .returned (.int .i64 q) ∧ (65536 < q ↔ 65536 < sumL rs)) ∧ Below w.heap.size w w' := by
  unfold maxLen at hn
  have hl := hA.len
  have hmH := Lib.hid hm
  clear hm
  go_enter Try.func29, Try.ntmps29
  go_wp2
  go_loopg [3, 8] (n + 1) (fun g q i wr => ∃ (k : Nat) (z : Int), k ≤ n ∧ g = n + 1 - k ∧ i = .int .i64 k ∧ q = .int .i64 z ∧ z = (sumL (rs.take k) : Int) ∧ z ≤ 65536 ∧ Below w.heap.size w wr)
  case atStart => exact ⟨0, 0, Nat.zero_le _, rfl, rfl, rfl, by simp [sumL], by omega, Below.refl _ _⟩
  case round =>
    obtain ⟨k, z, hk, rfl, rfl, rfl, hz, hz2, hbr⟩ := hrel
    by_cases hlt : k < n
    · have hlti : (k : Int) < (n : Int) := by omega
      obtain ⟨bA, oA, r, rfl, hbA, hq, hcp, _⟩ := (hA.below hbr).at_ hlt
      have hm := hmH.out r (List.mem_of_getElem? hq)
      have hs := sumL_take rs hq
      have hw : IntKind.i64.wrap (z + (r.l : Int)) = z + (r.l : Int) := IntWalk.i64_in _ (by omega)
      have hz0 : 0 ≤ z := by omega
      by_cases hg : 65536 < z + (r.l : Int)
      · have hle := sumL_le rs (k + 1)
        have hT : Hid (65536 < z + (r.l : Int) ↔ 65536 < sumL rs) := Lib.hid (by omega)
        clear hs hz hle
        go_wp2
        go_ret
        exact ⟨⟨_, rfl, hT.out⟩, hbr⟩
      · have hT : Hid (z + (r.l : Int) = (sumL (rs.take (k + 1)) : Int)) := Lib.hid (by omega)
        clear hs hz
        go_wp2
        go_roundg (n + 1 - (k + 1))
        case measure => omega
        case rel => exact ⟨k + 1, _, by omega, rfl, by go_num, rfl, hT.out, by omega, hbr⟩
    · have hnlt : ¬ (k : Int) < (n : Int) := by omega
      have hT : Hid (65536 < z ↔ 65536 < sumL rs) := Lib.hid (by rw [List.take_of_length_le (by omega)] at hz; omega)
      clear hz
      go_wp2
      go_ret
      exact ⟨⟨_, rfl, hT.out⟩, hbr⟩
def longP (n : Nat) (rs : List Rw) : Bool := decide (1024 < n) || decide (65536 < sumL rs)
set_option maxRecDepth 100000 in
theorem long_any (A : Option Addr) (n c : Nat) (rs : List Rw) (w : World) (hA : RdG w w.heap.size A n rs) (hn : n ≤ maxLen) (hm : ∀ r ∈ rs, r.l ≤ 100000000) :
    Calls Try.prog 22 #[.slice A n c] w fun e w' => e = .returned (.bool (longP n rs)) ∧ Below w.heap.size w w' := by
  have cS := Lib.hid (steps_any A n c rs w hA hn hm)
  unfold longP
  by_cases h1 : 1024 < n
  · have h1i : (1024 : Int) < (n : Int) := by omega
    rw [decide_eq_true h1, Bool.true_or]
    clear hm
    go_enter Try.func22, Try.ntmps22
    go_wp2
    go_ret
    exact ⟨rfl, Below.refl _ _⟩
  · have h1i : ¬ (1024 : Int) < (n : Int) := by omega
    have h1d : decide ((1024 : Int) < (n : Int)) = false := decide_eq_false h1i
    rw [decide_eq_false h1, Bool.false_or]
    obtain ⟨b, hb⟩ : ∃ b, decide (65536 < sumL rs) = b := ⟨_, rfl⟩
    rw [hb]
    have cS : Hid (Calls Try.prog 29 #[.slice A n c] w fun e w' => (∃ q : Int, e = .returned (.int .i64 q) ∧ decide (65536 < q) = b) ∧ Below w.heap.size w w') := Lib.hid (cS.out.mono (fun e w' ⟨⟨q, he, hq⟩, hb1⟩ => ⟨⟨q, he, by rw [← hb, Bool.eq_iff_iff, decide_eq_true_iff, decide_eq_true_iff]; exact hq⟩, hb1⟩))
    clear hm hb
    go_enter Try.func22, Try.ntmps22
    go_wp2_with fail
    refine cS.out.mono ?_
    rintro e w1 ⟨⟨q, rfl, hq⟩, hb1⟩
    subst hq
    go_wp2
    go_ret
    exact ⟨rfl, hb1⟩
end Go.Proofs.Ytebpghpeeedgcaa
