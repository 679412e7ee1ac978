/- A region that draws its order: the condition that holds throughout may be taken anew on the way. -/
import Derived.Test.YthfjbbijcemmoaaReg
namespace Go.Proofs.Ythfjbbijcemmoaa
open Go.RowKit

section
variable {P : Program} {ops : Array Oper} {Q : Exit → Act → World → Prop} {md : Region.Mode} {C E C' E' : World → Prop} {m m' : Nat}
/-- A stronger condition from here on. -/
theorem wpAnyM_mono (hC : ∀ w, C' w → C w) (hE : ∀ w, E w) : ∀ (f : Nat) (L : Array Bool) (a : Act) (w : World), wpAnyM P md ops Q C' E' m' f L a w → wpAnyM P md ops Q C E m f L a w
  | 0, _, _, _, h => h
  | f + 1, _, _, _, h => ⟨h.1, fun i hi => wpOp_mono (fun a' w' h' => ⟨hC _ h'.1, fun _ => hE _, wpAnyM_mono hC hE f _ a' w' h'.2.2⟩) (h.2 i hi)⟩
theorem wpM_now {C' : World → Prop} {f : Nat} {L : Array Bool} {a : Act} {w : World} (h : wpAnyM P md ops Q C' (fun _ => True) m f L a w) : wpAnyM P md ops Q (fun _ => True) (fun _ => True) m f L a w :=
  wpAnyM_mono (fun _ _ => trivial) (fun _ => trivial) f L a w h
end
end Go.Proofs.Ythfjbbijcemmoaa
