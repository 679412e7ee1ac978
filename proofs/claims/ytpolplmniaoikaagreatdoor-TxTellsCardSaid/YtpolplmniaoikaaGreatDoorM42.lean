/- The first place at which something holds (plain). The library at lists of texts: IndexFunc, ContainsFunc, Clone, DeleteFunc, Grow, Concat, Equal. -/
import Derived.Lib.Hide
import Derived.Test.YtpolplmniaoikaaGreatDoorM29
import Derived.Test.YtpolplmniaoikaaGreatDoorGc
import Derived.Test.YtpolplmniaoikaaGreatDoorM4
import Derived.Lib.SliceRun
import Derived.Lib.AppendZeros
import Derived.Shelf.Abstract
import Derived.Deep.DeepCutAuto
import Derived.Deep.RegionHeld3
import Derived.Deep.LoopGhost
namespace Go.Proofs.YtpolplmniaoikaaGreatDoor
def firstH {α : Type} (p : α → Bool) (xs : List α) : Int := match xs.findIdx? p with | some i => (i : Int) | none => -1
theorem firstH_at {α : Type} {p : α → Bool} {l : List α} {k : Nat} {x : α} (h : ∀ y ∈ l.take k, p y = false) (hx : l[k]? = some x) (hp : p x = true) : firstH p l = k := by
  have hk : k < l.length := (List.getElem?_eq_some_iff.1 hx).1
  have he : l[k] = x := (List.getElem?_eq_some_iff.1 hx).2
  have : l.findIdx? p = some k := by
    rw [List.findIdx?_eq_some_iff_getElem]
    refine ⟨hk, by rw [he]; exact hp, fun j hj => ?_⟩
    have := h l[j] (List.mem_iff_getElem?.2 ⟨j, by rw [List.getElem?_take_of_lt hj]; simp⟩)
    simp [this]
  simp [firstH, this]
theorem firstH_none {α : Type} {p : α → Bool} {l : List α} (h : ∀ y ∈ l, p y = false) : firstH p l = -1 := by
  have : l.findIdx? p = none := List.findIdx?_eq_none_iff.2 h
  simp [firstH, this]
theorem firstH_any {α : Type} (p : α → Bool) (l : List α) : decide (0 ≤ firstH p l) = l.any p := by
  unfold firstH
  cases h : l.findIdx? p with
  | none =>
    rw [List.findIdx?_eq_none_iff] at h
    have h2 : l.any p = false := by rw [List.any_eq_false]; intro x hx; simp [h x hx]
    rw [h2]; rfl
  | some i =>
    have h2 : l.any p = true := by
      obtain ⟨hi, hp, _⟩ := List.findIdx?_eq_some_iff_getElem.1 h
      exact List.any_eq_true.2 ⟨_, List.getElem_mem hi, hp⟩
    rw [h2]; simp
end Go.Proofs.YtpolplmniaoikaaGreatDoor
namespace Go.Proofs.YtpolplmniaoikaaGreatDoor
open Go.RowKit

theorem bs_emptyH (e : List UInt8) : (bs e).toList = e := by rw [ByteArray.toList_eq]; rfl
theorem filter_takeH {α : Type} {l : List α} {p : α → Bool} {k : Nat} {u : α} (h : l[k]? = some u) : (l.take (k + 1)).filter p = (l.take k).filter p ++ if p u then [u] else [] := by
  rw [List.take_add_one, h, List.filter_append]
  by_cases hp : p u = true
  · simp [hp]
  · simp [hp]
set_option maxRecDepth 100000
/-- A function value that answers p of such things, wherever what lay below block B stands. -/
def PredStr (g : Nat) (lb : Array Value) (p : List UInt8 → Bool) (B : Nat) (w : World) (xs : List (List UInt8)) : Prop :=
  ∀ x ∈ xs, ∀ w', Below B w w' → Calls Tryz.prog g (#[.string (bs x)] ++ lb) w' fun e w'' => e = .returned (.bool (p x)) ∧ Below w'.heap.size w' w''
end Go.Proofs.YtpolplmniaoikaaGreatDoor
