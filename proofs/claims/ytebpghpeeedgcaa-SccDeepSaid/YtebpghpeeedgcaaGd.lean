/- Writing an element of a row of one's own: elements of any number of cells. -/
import Derived.Test.YtebpghpeeedgcaaGc
namespace Go.Proofs.Ytebpghpeeedgcaa
open Go.RowKit

theorem setL_mid {α : Type} : ∀ (vs : List α) (l : List α) (i : Nat), i + vs.length ≤ l.length → setL l i vs = l.take i ++ vs ++ l.drop (i + vs.length)
  | [], l, i, h => by simp [setL]
  | v :: r, l, i, h => by
    have hi : i < l.length := by simp at h; omega
    rw [setL, setL_mid r (l.set i v) (i + 1) (by simp at h ⊢; omega), List.take_add_one, List.getElem?_set_self hi]
    simp only [Option.toList_some, List.length_cons]
    rw [List.take_set_of_le (Nat.le_refl _), List.drop_set_of_lt (by omega), show i + 1 + r.length = i + (r.length + 1) by omega]
    simp
theorem Ow.setL {w : World} {base g n c sz : Nat} {e : TypeId} {xs : List (List Value)} (h : Ow w base e sz (.slice (some ⟨g, 0, none⟩) n c) xs) {k : Nat} (hk : k < n) {vs : List Value} (hv : vs.length = sz) :
    Ow (w.setCells g (k * sz) vs) base e sz (.slice (some ⟨g, 0, none⟩) n c) (xs.set k vs) := by
  have hl : xs.length = n := h.rd.2.1
  have hall := h.1
  have h2 := h.2
  rw [hl] at h2
  have hflat : ∀ m, m ≤ n → (xs.take m).flatten = xs.flatten.take (m * sz) ∧ (xs.drop m).flatten = xs.flatten.drop (m * sz) := by
    intro m hm
    have h1 : xs.flatten = (xs.take m).flatten ++ (xs.drop m).flatten := by rw [← List.flatten_append, List.take_append_drop]
    have h2 : (xs.take m).flatten.length = m * sz := by rw [flat_len (fun x hx => hall x (List.mem_of_mem_take hx)), List.length_take, Nat.min_eq_left (by omega)]
    rw [h1, ← h2]
    exact ⟨(List.take_left' rfl).symm, (List.drop_left' rfl).symm⟩
  have hfl : xs.flatten.length = n * sz := by rw [flat_len hall, hl]
  have hle : k * sz + sz ≤ n * sz := by rw [← Nat.succ_mul]; exact Nat.mul_le_mul_right _ hk
  refine ⟨fun x hx => ?_, ?_⟩
  · rcases List.mem_or_eq_of_mem_set hx with h' | rfl
    · exact hall x h'
    · exact hv
  · have h3 := ownsRow_setCells vs (k * sz) h2
    rw [setL_mid vs _ _ (by rw [hv, hfl]; exact hle), hv] at h3
    rw [List.length_set, hl, List.set_eq_take_append_cons_drop, if_pos (by omega), List.flatten_append, List.flatten_cons, (hflat k (by omega)).1, (hflat (k + 1) (by omega)).2, Nat.succ_mul, ← List.append_assoc]
    exact h3
theorem gr_setCells {g : Nat} (vs : List Value) {a w : World} (i : Nat) (h : a.grownBy w (some g)) : a.grownBy (w.setCells g i vs) (some g) := grown_setCells vs i h
end Go.Proofs.Ytebpghpeeedgcaa
