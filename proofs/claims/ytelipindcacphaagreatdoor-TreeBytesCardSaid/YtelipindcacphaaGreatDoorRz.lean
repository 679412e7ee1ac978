/- The document's Read of names: the next name that a reader has. The document's Read of sets: the next set that a reader has. -/
import Derived.Test.YtelipindcacphaaGreatDoorRx
import Derived.Test.YtelipindcacphaaGreatDoorRy
namespace Go.Proofs.YtelipindcacphaaGreatDoor
open Go.RowKit

theorem RdrD.set {w : World} {B g : Nat} {S : Rs} {cs : Array Value} {t : TypeId} (h : RdrD w B S) (hg : w.heap[g]? = some (.cells cs t (0, 0))) (_ : True) (h2 : t ≠ 34) (i : Nat) (u : Value) : RdrD (w.setCell ⟨g, i, none⟩ u) B S :=
  h.grown (gr_set (World.grownBy.refl w _) i u) (fun g' cs' t' e hb => by
    injection e with e; subst e
    rw [hg] at hb
    injection hb with hb; injection hb with _ ht
    exact ht ▸ h2)
end Go.Proofs.YtelipindcacphaaGreatDoor
namespace Go.Proofs.YtelipindcacphaaGreatDoor
open Go.RowKit

theorem RdrD.appended {w w' : World} {B : Nat} {S : Rs} {base : Nat} {e : TypeId} {sz : Nat} {v : Value} {xs : List (List Value)} (h : RdrD w B S) (ho : Ow w base e sz v xs) (hg : w.grownBy w' v.ownBlock) (_ : True) (h2 : e ≠ 34) : RdrD w' B S :=
  h.grown hg (fun g cs t er hb => by
    rcases ho.2.2 with ⟨rfl, _⟩ | ⟨g', cap, cur, rfl, _, hh, _⟩
    · cases er
    · simp only [Value.ownBlock, Option.some.injEq] at er
      subst er
      rw [hh] at hb
      injection hb with hb; injection hb with _ ht
      exact ht ▸ h2)
end Go.Proofs.YtelipindcacphaaGreatDoor
