/- Rows of additions and of tags beside stores into a set's own box. -/
import Derived.Test.YtadldndmmobpdaaOtC
namespace Go.Proofs.Ytadldndmmobpdaa
open Go.RowKit

theorem RdA.set_other {w : World} {B n g : Nat} {A : Option Addr} {xs : List Am} {t : TypeId} {a b : Option Addr} {p q r s : Nat} (h : RdA w B A n xs) (hg : w.heap[g]? = some (.cells #[.slice a p q, .slice b r s] t (0, 0))) (i : Nat) (u : Value) : RdA (w.setCell ⟨g, i, none⟩ u) B A n xs :=
  ⟨h.1, fun hn => by
    obtain ⟨b', o, e, hb, hc⟩ := h.2 hn
    refine ⟨b', o, e, hb, fun k x hx j v hv => ?_⟩
    have hne : b' ≠ g := by
      rintro rfl
      have hl := h.1
      obtain ⟨x0, hx0⟩ : ∃ x0, (xs.map Am.enc)[0]? = some x0 := ⟨_, List.getElem?_eq_getElem (by omega)⟩
      rw [List.getElem?_map] at hx0
      obtain ⟨y, hy, rfl⟩ := Option.map_eq_some_iff.1 hx0
      have h0 := hc 0 (Am.enc y) (by rw [List.getElem?_map, hy]; rfl) 0 _ rfl
      rw [blk_cell hg] at h0
      rcases Nat.lt_or_ge (o + 0 * 4 + 0) 2 with h2 | h2
      · have h3 : o = 0 ∨ o = 1 := by omega
        rcases h3 with rfl | rfl <;> simp at h0
      · rw [Array.getElem?_eq_none (by simpa using h2)] at h0; cases h0
    have h9 := hc k x hx j v hv
    refine (World.cell?_setCell_other _ ⟨g, i, none⟩ _ u (fun e => hne (congrArg Addr.block e).symm)).trans ?_
    exact h9⟩
theorem Ow.rdA {w : World} {base n c : Nat} {e : TypeId} {A : Option Addr} {xs : List Am} (h : Ow w base e 4 (.slice A n c) (xs.map Am.enc)) : RdA w w.heap.size A n xs := h.rd.1
theorem Ow.rdT {w : World} {base n c : Nat} {e : TypeId} {A : Option Addr} {xs : List Tm} (h : Ow w base e 3 (.slice A n c) (xs.map Tm.enc)) : RdT w w.heap.size A n xs := h.rd.1
theorem RdT.set_other {w : World} {B n g : Nat} {A : Option Addr} {xs : List Tm} {t : TypeId} {a b : Option Addr} {p q r s : Nat} (h : RdT w B A n xs) (hg : w.heap[g]? = some (.cells #[.slice a p q, .slice b r s] t (0, 0))) (i : Nat) (u : Value) : RdT (w.setCell ⟨g, i, none⟩ u) B A n xs :=
  ⟨h.1, fun hn => by
    obtain ⟨b', o, e, hb, hc⟩ := h.2 hn
    refine ⟨b', o, e, hb, fun k x hx j v hv => ?_⟩
    have hne : b' ≠ g := by
      rintro rfl
      have hl := h.1
      obtain ⟨x0, hx0⟩ : ∃ x0, (xs.map Tm.enc)[0]? = some x0 := ⟨_, List.getElem?_eq_getElem (by omega)⟩
      rw [List.getElem?_map] at hx0
      obtain ⟨y, hy, rfl⟩ := Option.map_eq_some_iff.1 hx0
      have h0 := hc 0 (Tm.enc y) (by rw [List.getElem?_map, hy]; rfl) 0 _ rfl
      rw [blk_cell hg] at h0
      rcases Nat.lt_or_ge (o + 0 * 3 + 0) 2 with h2 | h2
      · have h3 : o = 0 ∨ o = 1 := by omega
        rcases h3 with rfl | rfl <;> simp at h0
      · rw [Array.getElem?_eq_none (by simpa using h2)] at h0; cases h0
    have h9 := hc k x hx j v hv
    refine (World.cell?_setCell_other _ ⟨g, i, none⟩ _ u (fun e => hne (congrArg Addr.block e).symm)).trans ?_
    exact h9⟩
theorem Ow.ne_blk {w : World} {base g sz : Nat} {e t : TypeId} {v : Value} {xs : List (List Value)} {cs : Array Value} (h : Ow w base e sz v xs) (hg : w.heap[g]? = some (.cells cs t (0, 0))) (hne : e ≠ t) : v.ownBlock ≠ some g := by
  rcases h.2.2 with ⟨rfl, _⟩ | ⟨g', cap, cur, rfl, _, hh, _⟩
  · simp [Value.ownBlock]
  · intro e1
    injection e1 with e1
    dsimp only at e1
    subst e1
    rw [hh] at hg
    injection hg with hg
    injection hg with _ h2
    exact hne h2
end Go.Proofs.Ytadldndmmobpdaa
