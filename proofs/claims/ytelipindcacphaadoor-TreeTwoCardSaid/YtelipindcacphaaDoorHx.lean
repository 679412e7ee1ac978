/- The first place at which something holds (plain). -/
import Derived.Lib.Hide
namespace Go.Proofs.YtelipindcacphaaDoor
def firstH {α : Type} (p : α → Bool) (xs : List α) : Int := match xs.findIdx? p with | some i => (i : Int) | none => -1
theorem firstH_at {α : Type} {p : α → Bool} {l : List α} {k : Nat} {x : α} (h : ∀ y ∈ l.take k, p y = false) (hx : l[k]? = some x) (hp : p x = true) : firstH p l = k := by
  have hk : k < l.length := (List.getElem?_eq_some_iff.1 hx).1
  have he : l[k] = x := (List.getElem?_eq_some_iff.1 hx).2
  have : l.findIdx? p = some k := by
    rw [List.findIdx?_eq_some_iff_getElem]
    refine ⟨hk, by rw [he]; exact hp, fun j hj => ?_⟩
    have := h l[j] (List.mem_iff_getElem?.2 ⟨j, by rw [List.getElem?_take_of_lt hj]; simp⟩)
    simp [this]
  simp [firstH, this]
theorem firstH_none {α : Type} {p : α → Bool} {l : List α} (h : ∀ y ∈ l, p y = false) : firstH p l = -1 := by
  have : l.findIdx? p = none := List.findIdx?_eq_none_iff.2 h
  simp [firstH, this]
theorem firstH_any {α : Type} (p : α → Bool) (l : List α) : decide (0 ≤ firstH p l) = l.any p := by
  unfold firstH
  cases h : l.findIdx? p with
  | none =>
    rw [List.findIdx?_eq_none_iff] at h
    have h2 : l.any p = false := by rw [List.any_eq_false]; intro x hx; simp [h x hx]
    rw [h2]; rfl
  | some i =>
    have h2 : l.any p = true := by
      obtain ⟨hi, hp, _⟩ := List.findIdx?_eq_some_iff_getElem.1 h
      exact List.any_eq_true.2 ⟨_, List.getElem_mem hi, hp⟩
    rw [h2]; simp
end Go.Proofs.YtelipindcacphaaDoor
