/- The document's Make of interests. -/
import Derived.Test.YtelipindcacphaaGreatDoorHi
namespace Go.Proofs.YtelipindcacphaaGreatDoor
open Go.RowKit

def cndR (l : List (List UInt8)) (i k : Nat) : Bool := !((!decide (l.getD k [] = l.getD i []) && withinB (l.getD i []) (l.getD k [])) || (decide (l.getD k [] = l.getD i []) && decide (k < i)))
/-- What Make leaves. -/
def PostMk (w : World) (r : Int) (out : List (List UInt8)) (e : Ending) (w' : World) : Prop := ∃ A' n' c', e = .returned (.tuple #[.slice A' n' c', .int .i64 r]) ∧ GotS w' A' n' out ∧ Below w.heap.size w w'
theorem keepR_all (l : List (List UInt8)) (i : Nat) : keepR l i = (List.range l.length).all (cndR l i) := rfl
theorem all_range_succ (f : Nat → Bool) (q : Nat) : (List.range (q + 1)).all f = ((List.range q).all f && f q) := by rw [List.range_succ, List.all_append]; simp
theorem Ow.dr {w : World} {base : Nat} {e : TypeId} {sz : Nat} {v : Value} {xs : List (List Value)} (h : Ow w base e sz v xs) (n : Nat) : Ow (w.drewN n) base e sz v xs := h.below (below_dr (Below.refl _ _) n)
end Go.Proofs.YtelipindcacphaaGreatDoor
