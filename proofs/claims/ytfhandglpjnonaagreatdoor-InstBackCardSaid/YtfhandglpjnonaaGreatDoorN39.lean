/- Interests' bytes, both: Write. Interests of a reader, both: Read. -/
import Derived.Test.YtfhandglpjnonaaGreatDoorN30
import Derived.Test.YtfhandglpjnonaaGreatDoorN16
import Derived.Test.YtfhandglpjnonaaGreatDoorN37
namespace Go.Proofs.YtfhandglpjnonaaGreatDoor
open Go.RowKit
theorem VarM.neP {w : World} {B : Nat} {S : Rs} (hv : VarM w) (h : RdrP w B S) : B ≠ 1 := by
 rintro rfl
 obtain ⟨m, hm⟩ := hv
 obtain ⟨ev, hb, _⟩ := h
 have := jA hb 0
 simp at this
 rw [hm] at this
 cases this
theorem VarM.grown {w w' : World} {B : Nat} (hv : VarM w) (hg : w.grownBy w' (some B)) (hne : B ≠ 1) : VarM w' := by
 have hlt := hv.lt
 obtain ⟨m, hm⟩ := hv
 refine ⟨m, ?_⟩
 have hb := hg.block _ hlt (fun e => hne (Option.some.inj e).symm)
 unfold World.cell? at hm ⊢
 dsimp only at hm ⊢
 rw [hb]
 exact hm
end Go.Proofs.YtfhandglpjnonaaGreatDoor
