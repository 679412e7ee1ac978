/- Which fields a message has: inst.form; the document's hasB, hasC, hasA, hasV. -/
import Derived.Test.YtfhandglpjnonaaGreatDoorQg
namespace Go.Proofs.YtfhandglpjnonaaGreatDoor
open Go.RowKit

def hB (k : Int) : Bool := !(k == 5)
def hS (k : Int) : Bool := k == 7
def hV (k s : Int) : Bool := k == 7 && !(s == 0)
def hC (k s : Int) : Bool := k == 1 || k == 3 || k == 5 || hV k s
def hA (k s : Int) : Bool := hC k s || k == 2
theorem ret_has {a1 a2 a3 a4 a5 b1 b2 b3 b4 b5 : Bool} (h1 : a1 = b1) (h2 : a2 = b2) (h3 : a3 = b3) (h4 : a4 = b4) (h5 : a5 = b5) :
    Ending.returned (.agg #[.bool a1, .bool a2, .bool a3, .bool a4, .bool a5]) = .returned (.agg #[.bool b1, .bool b2, .bool b3, .bool b4, .bool b5]) := by rw [h1, h2, h3, h4, h5]
set_option maxRecDepth 100000 in
set_option maxHeartbeats 4000000 in
theorem form_any (k s : Int) (w : World) : Calls Tryz.prog 29 #[.int .i64 k, .int .i64 s] w fun e w' =>
    e = .returned (.agg #[.bool (hB k), .bool (hS k), .bool (hV k s), .bool (hC k s), .bool (hA k s)]) ∧ Below w.heap.size w w' := by
  by_cases h7 : k = 7
  · subst h7
    by_cases hs : s = 0
    · subst hs
      go_enter Tryz.func29, Tryz.ntmps29
      go_wp2
      exact bodyPost_ret (v := .agg #[.bool true, .bool true, .bool false, .bool false, .bool false]) (by simp [results, Tryz.results29, go_sem]) rfl ⟨ret_has (by simp [hB]) (by simp [hS]) (by simp [hV]) (by simp [hV, hC]) (by simp [hV, hC, hA]), ((Below.refl _ w).alloc (Nat.le_refl _) _).alloc (by simp) _⟩
    · have hsd : (s == 0) = false := by simpa using hs
      go_enter Tryz.func29, Tryz.ntmps29
      go_wp2
      exact bodyPost_ret (v := .agg #[.bool true, .bool true, .bool true, .bool true, .bool true]) (by simp [results, Tryz.results29, go_sem]) rfl ⟨ret_has (by simp [hB]) (by simp [hS]) (by simp [hV, hsd]) (by simp [hV, hC, hsd]) (by simp [hV, hC, hA, hsd]), ((Below.refl _ w).alloc (Nat.le_refl _) _).alloc (by simp) _⟩
  have h7d : (k == 7) = false := by simpa using h7
  by_cases h1 : k = 1
  · subst h1
    go_enter Tryz.func29, Tryz.ntmps29
    go_wp2
    exact bodyPost_ret (v := .agg #[.bool true, .bool false, .bool false, .bool true, .bool true]) (by simp [results, Tryz.results29, go_sem]) rfl ⟨ret_has (by simp [hB]) (by simp [hS]) (by simp [hV]) (by simp [hV, hC]) (by simp [hV, hC, hA]), ((Below.refl _ w).alloc (Nat.le_refl _) _).alloc (by simp) _⟩
  have h1d : (k == 1) = false := by simpa using h1
  by_cases h3 : k = 3
  · subst h3
    go_enter Tryz.func29, Tryz.ntmps29
    go_wp2
    exact bodyPost_ret (v := .agg #[.bool true, .bool false, .bool false, .bool true, .bool true]) (by simp [results, Tryz.results29, go_sem]) rfl ⟨ret_has (by simp [hB]) (by simp [hS]) (by simp [hV]) (by simp [hV, hC]) (by simp [hV, hC, hA]), ((Below.refl _ w).alloc (Nat.le_refl _) _).alloc (by simp) _⟩
  have h3d : (k == 3) = false := by simpa using h3
  by_cases h5 : k = 5
  · subst h5
    go_enter Tryz.func29, Tryz.ntmps29
    go_wp2
    exact bodyPost_ret (v := .agg #[.bool false, .bool false, .bool false, .bool true, .bool true]) (by simp [results, Tryz.results29, go_sem]) rfl ⟨ret_has (by simp [hB]) (by simp [hS]) (by simp [hV]) (by simp [hV, hC]) (by simp [hV, hC, hA]), ((Below.refl _ w).alloc (Nat.le_refl _) _).alloc (by simp) _⟩
  have h5d : (k == 5) = false := by simpa using h5
  by_cases h2 : k = 2
  · subst h2
    go_enter Tryz.func29, Tryz.ntmps29
    go_wp2
    exact bodyPost_ret (v := .agg #[.bool true, .bool false, .bool false, .bool false, .bool true]) (by simp [results, Tryz.results29, go_sem]) rfl ⟨ret_has (by simp [hB]) (by simp [hS]) (by simp [hV]) (by simp [hV, hC]) (by simp [hV, hC, hA]), ((Below.refl _ w).alloc (Nat.le_refl _) _).alloc (by simp) _⟩
  have h2d : (k == 2) = false := by simpa using h2
  have h5n : (k != 5) = true := by simpa using h5
  go_enter Tryz.func29, Tryz.ntmps29
  go_wp2
  exact bodyPost_ret (v := .agg #[.bool true, .bool false, .bool false, .bool false, .bool false]) (by simp [results, Tryz.results29, go_sem]) rfl ⟨ret_has (by simp [hB, h5d]) (by simp [hS, h7d]) (by simp [hV, h7d]) (by simp [hV, hC, h7d, h1d, h3d, h5d]) (by simp [hV, hC, hA, h7d, h1d, h3d, h5d, h2d]), ((Below.refl _ w).alloc (Nat.le_refl _) _).alloc (by simp) _⟩
end Go.Proofs.YtfhandglpjnonaaGreatDoor
