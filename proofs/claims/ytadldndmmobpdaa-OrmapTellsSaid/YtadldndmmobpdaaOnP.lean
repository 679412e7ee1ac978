/- Rows of puts beside stores into a map's own box. -/
import Derived.Test.YtadldndmmobpdaaOnC
namespace Go.Proofs.Ytadldndmmobpdaa
open Go.RowKit

theorem RdP.set_other {w : World} {B n g : Nat} {A : Option Addr} {xs : List Pm} {t : TypeId} {a b : Option Addr} {p q r s : Nat} (h : RdP w B A n xs) (hg : w.heap[g]? = some (.cells #[.slice a p q, .slice b r s] t (0, 0))) (i : Nat) (u : Value) : RdP (w.setCell ⟨g, i, none⟩ u) B A n xs :=
  ⟨h.1, fun hn => by
    obtain ⟨b', o, e, hb, hc⟩ := h.2 hn
    refine ⟨b', o, e, hb, fun k x hx j v hv => ?_⟩
    have hne : b' ≠ g := by
      rintro rfl
      have hl := h.1
      obtain ⟨x0, hx0⟩ : ∃ x0, (xs.map Pm.enc)[0]? = some x0 := ⟨_, List.getElem?_eq_getElem (by omega)⟩
      rw [List.getElem?_map] at hx0
      obtain ⟨y, hy, rfl⟩ := Option.map_eq_some_iff.1 hx0
      have h0 := hc 0 (Pm.enc y) (by rw [List.getElem?_map, hy]; rfl) 0 _ rfl
      rw [blk_cell hg] at h0
      rcases Nat.lt_or_ge (o + 0 * 7 + 0) 2 with h2 | h2
      · have h3 : o = 0 ∨ o = 1 := by omega
        rcases h3 with rfl | rfl <;> simp at h0
      · rw [Array.getElem?_eq_none (by simpa using h2)] at h0; cases h0
    have h9 := hc k x hx j v hv
    refine (World.cell?_setCell_other _ ⟨g, i, none⟩ _ u (fun e => hne (congrArg Addr.block e).symm)).trans ?_
    exact h9⟩
theorem Ow.rdP {w : World} {base n c : Nat} {e : TypeId} {A : Option Addr} {xs : List Pm} (h : Ow w base e 7 (.slice A n c) (xs.map Pm.enc)) : RdP w w.heap.size A n xs := h.rd.1
end Go.Proofs.Ytadldndmmobpdaa
