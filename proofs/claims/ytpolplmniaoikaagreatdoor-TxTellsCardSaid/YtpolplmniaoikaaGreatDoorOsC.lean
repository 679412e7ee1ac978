/- Binary search for a tag; strictly; sets of additions: what is wrong with one, both checks. -/
import Derived.Test.YtpolplmniaoikaaGreatDoorTl
namespace Go.Proofs.YtpolplmniaoikaaGreatDoor
open Go.RowKit

/-- A function value that compares additions by their tags. -/
def CmpA (g : Nat) (lb : Array Value) (B : Nat) (w : World) (xs : List Am) : Prop :=
  ∀ x ∈ xs, ∀ y ∈ xs, ∀ w', Below B w w' → Calls Tryz.prog g (#[.agg #[.int .i64 x.1.1.1, .int .u32 x.1.1.2, .int .i64 x.1.2, .string (bs x.2)], .agg #[.int .i64 y.1.1.1, .int .u32 y.1.1.2, .int .i64 y.1.2, .string (bs y.2)]] ++ lb) w' fun e w'' => e = .returned (.int .i64 (cmpT x.1 y.1)) ∧ Below w'.heap.size w' w''
def CmpT (g : Nat) (lb : Array Value) (B : Nat) (w : World) (xs : List Tm) : Prop :=
  ∀ x ∈ xs, ∀ y ∈ xs, ∀ w', Below B w w' → Calls Tryz.prog g (#[.agg #[.int .i64 x.1.1, .int .u32 x.1.2, .int .i64 x.2], .agg #[.int .i64 y.1.1, .int .u32 y.1.2, .int .i64 y.2]] ++ lb) w' fun e w'' => e = .returned (.int .i64 (cmpT x y)) ∧ Below w'.heap.size w' w''
theorem bs_empty (e : List UInt8) : (bs e).toList = e := by rw [ByteArray.toList_eq]; rfl
set_option maxRecDepth 100000 in
theorem oelem_any (s : List UInt8) (hs : s.length ≤ maxLen) (w : World) :
    Calls Tryz.prog 157 #[.string (bs s)] w fun e w' => e = .returned (.bool (elemB s)) ∧ w = w' := by
  have hz := bs_size s
  have hl := bs_empty s
  generalize hr : elemB s = r
  unfold elemB at hr
  have hrH := Lib.hid hr
  clear hr
  unfold maxLen at hs
  by_cases h0 : s = []
  · subst h0
    have hT : Hid (false = r) := Lib.hid (by rw [← hrH.out]; simp)
    have hz0 : ((bs []).size) = 0 := rfl
    clear hz
    go_enter Tryz.func157, Tryz.ntmps157
    go_wp2
    go_ret
    exact ⟨ret_bool hT.out, rfl⟩
  · have hne : (bs s).toList.isEmpty = false := by rw [hl, List.isEmpty_eq_false_iff]; exact h0
    have hne2 : (bs s).toList.isEmpty = false := hne
    have hpos : 1 ≤ s.length := by cases s with | nil => exact absurd rfl h0 | cons => simp
    by_cases h12 : s.length ≤ 12
    · have hT : Hid (true = r) := Lib.hid (by rw [← hrH.out]; symm; exact decide_eq_true ⟨hpos, h12⟩)
      have hd1 : decide ((1 : Int) ≤ (((bs s).size : Nat) : Int)) = true := decide_eq_true (by omega)
      have hd2 : decide ((((bs s).size : Nat) : Int) ≤ 12) = true := decide_eq_true (by omega)
      clear hl hz h0 hne2 hpos
      go_enter Tryz.func157, Tryz.ntmps157
      go_wp2
      go_ret
      exact ⟨ret_bool hT.out, rfl⟩
    · have hT : Hid (false = r) := Lib.hid (by rw [← hrH.out]; symm; exact decide_eq_false (by omega))
      have hd1 : decide ((1 : Int) ≤ (((bs s).size : Nat) : Int)) = true := decide_eq_true (by omega)
      have hd2 : decide ((((bs s).size : Nat) : Int) ≤ 12) = false := decide_eq_false (by omega)
      clear hl hz h0 hne2 hpos
      go_enter Tryz.func157, Tryz.ntmps157
      go_wp2
      go_ret
      exact ⟨ret_bool hT.out, rfl⟩
set_option maxRecDepth 100000 in
theorem relem_any (s : List UInt8) (hs : s.length ≤ maxLen) (w : World) :
    Calls Tryz.prog 141 #[.string (bs s)] w fun e w' => e = .returned (.bool (elemB s)) ∧ w = w' := by
  have hz := bs_size s
  have hl := bs_empty s
  generalize hr : elemB s = r
  unfold elemB at hr
  have hrH := Lib.hid hr
  clear hr
  unfold maxLen at hs
  by_cases h0 : s = []
  · subst h0
    have hT : Hid (false = r) := Lib.hid (by rw [← hrH.out]; simp)
    have hz0 : ((bs []).size) = 0 := rfl
    clear hz
    go_enter Tryz.func141, Tryz.ntmps141
    go_wp2
    go_ret
    exact ⟨ret_bool hT.out, rfl⟩
  · have hne : (bs s).toList.isEmpty = false := by rw [hl, List.isEmpty_eq_false_iff]; exact h0
    have hne2 : (bs s).toList.isEmpty = false := hne
    have hpos : 1 ≤ s.length := by cases s with | nil => exact absurd rfl h0 | cons => simp
    by_cases h12 : s.length ≤ 12
    · have hT : Hid (true = r) := Lib.hid (by rw [← hrH.out]; symm; exact decide_eq_true ⟨hpos, h12⟩)
      have hd1 : decide ((1 : Int) ≤ (((bs s).size : Nat) : Int)) = true := decide_eq_true (by omega)
      have hd2 : decide ((((bs s).size : Nat) : Int) ≤ 12) = true := decide_eq_true (by omega)
      clear hl hz h0 hne2 hpos
      go_enter Tryz.func141, Tryz.ntmps141
      go_wp2
      go_ret
      exact ⟨ret_bool hT.out, rfl⟩
    · have hT : Hid (false = r) := Lib.hid (by rw [← hrH.out]; symm; exact decide_eq_false (by omega))
      have hd1 : decide ((1 : Int) ≤ (((bs s).size : Nat) : Int)) = true := decide_eq_true (by omega)
      have hd2 : decide ((((bs s).size : Nat) : Int) ≤ 12) = false := decide_eq_false (by omega)
      clear hl hz h0 hne2 hpos
      go_enter Tryz.func141, Tryz.ntmps141
      go_wp2
      go_ret
      exact ⟨ret_bool hT.out, rfl⟩
end Go.Proofs.YtpolplmniaoikaaGreatDoor
