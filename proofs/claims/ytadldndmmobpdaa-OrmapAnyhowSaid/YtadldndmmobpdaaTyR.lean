/- The type of a row's block. -/
import Derived.Test.YtadldndmmobpdaaM10
namespace Go.Proofs.Ytadldndmmobpdaa
open Go.RowKit

/-- A row lies in a block of its type. -/
def TyR (w : World) (e : TypeId) (A : Option Addr) (n : Nat) : Prop := 0 < n → ∃ b o cs, A = some ⟨b, o, none⟩ ∧ w.heap[b]? = some (.cells cs e (0, 0))
theorem TyR.nil_ (w : World) (e : TypeId) (A : Option Addr) : TyR w e A 0 := fun h => absurd h (by decide)
theorem Ow.ty {w : World} {base n c sz : Nat} {e : TypeId} {A : Option Addr} {xs : List (List Value)} (h : Ow w base e sz (.slice A n c) xs) : TyR w e A n := by
  intro hn
  rcases h.2.2 with ⟨h1, h2⟩ | ⟨g, cap, cur, h1, _, h3, _⟩
  · injection h1 with _ h4 _; omega
  · injection h1 with h4 _ _
    exact ⟨g, 0, cur, h4, h3⟩
theorem TyR.below {w w' : World} {e : TypeId} {A : Option Addr} {n : Nat} (h : TyR w e A n) (hb : Below w.heap.size w w') : TyR w' e A n := fun hn => by
  obtain ⟨b, o, cs, h1, h2⟩ := h hn
  exact ⟨b, o, cs, h1, blk_below h2 hb⟩
theorem TyR.setC {w : World} {e : TypeId} {A : Option Addr} {n : Nat} (h : TyR w e A n) (g i : Nat) (u : Value) : TyR (w.setCell ⟨g, i, none⟩ u) e A n := fun hn => by
  obtain ⟨b, o, cs, h1, h2⟩ := h hn
  by_cases hg : g = b
  · subst hg; exact ⟨g, o, _, h1, blk_set h2 i u⟩
  · exact ⟨b, o, cs, h1, heap_set_ne (p := ⟨g, i, none⟩) hg h2⟩
theorem TyR.kept {w w' : World} {e : TypeId} {A : Option Addr} {n r : Nat} (h : TyR w e A n) (hg : w.grownBy w' (some r)) (hr : ∀ cs, w.heap[r]? ≠ some (.cells cs e (0, 0))) : TyR w' e A n := fun hn => by
  obtain ⟨b, o, cs, h1, h2⟩ := h hn
  have hne : b ≠ r := fun e => hr cs (e ▸ h2)
  exact ⟨b, o, cs, h1, (hg.block b (blk_lt h2) (fun e => hne (by injection e))).trans h2⟩
theorem Rd.ty_kept {w w' : World} {B sz : Nat} {e : TypeId} {A : Option Addr} {n r : Nat} {xs : List (List Value)} (h : Rd w B sz A n xs) (ht : TyR w e A n) (hg : w.grownBy w' (some r)) (hr : ∀ cs, w.heap[r]? ≠ some (.cells cs e (0, 0))) : Rd w' B sz A n xs := by
  refine ⟨h.1, fun h0 => ?_⟩
  obtain ⟨g, o, he, hgB, hc⟩ := h.2 h0
  obtain ⟨b, o', cs, h1, h2⟩ := ht h0
  rw [he] at h1
  injection h1 with h1
  injection h1 with h1 _
  subst h1
  have hne : g ≠ r := fun e => hr cs (e ▸ h2)
  have hbl := hg.block g (blk_lt h2) (fun e => hne (by injection e))
  refine ⟨g, o, he, hgB, fun i x hi j u hu => ?_⟩
  rw [← hc i x hi j u hu]
  simp [World.cell?, hbl]
end Go.Proofs.Ytadldndmmobpdaa
