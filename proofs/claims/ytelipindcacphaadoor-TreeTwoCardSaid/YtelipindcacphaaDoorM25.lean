/- Names of transactions: what ident and the document's chapter 5 say of one, of two, of a list. Lists of names: too great to be asked, the same, made of names alone, in order. Sets of names: what is wrong with one (both checks), whether two lists are the same, a list of one's own. Sets of names: the document's check; whether two lists are the same; a list of one's own. Are two lists of names the same? Is a name in one? -/
import Derived.Test.YtelipindcacphaaDoorRows
import Derived.Test.YtelipindcacphaaDoorDef
import Derived.Deep.DeepCutAuto
import Derived.Deep.RegionHeld3
import Derived.Test.YtelipindcacphaaDoorGb
import Derived.Deep.LoopGhost
import Derived.RegionTactic
namespace Go.Proofs.YtelipindcacphaaDoor
open Go.RowKit

def Im.enc (x : Im) : List Value := [.int .i64 x.1, .int .u32 x.2]
theorem Im.len {xs : List Im} : ∀ x ∈ xs.map Im.enc, x.length = 2 := by
  intro x hx; obtain ⟨t, _, rfl⟩ := List.mem_map.1 hx; rfl
theorem Im.one {xs : List Im} : ∀ x ∈ xs.map Im.enc, ∀ u ∈ x, u.oneCell' = true := by
  intro x hx u hu; obtain ⟨t, _, rfl⟩ := List.mem_map.1 hx
  simp only [Im.enc, List.mem_cons, List.not_mem_nil, or_false] at hu
  rcases hu with rfl | rfl <;> rfl
/-- A list of names, read whole. -/
def RdI (w : World) (B : Nat) (A : Option Addr) (n : Nat) (xs : List Im) : Prop := Rd w B 2 A n (xs.map Im.enc)


end Go.Proofs.YtelipindcacphaaDoor
namespace Go.Proofs.YtelipindcacphaaDoor
open Go.RowKit

theorem RdI.below {w w' : World} {B n : Nat} {A : Option Addr} {xs : List Im} (h : RdI w B A n xs) (hb : Below B w w') : RdI w' B A n xs := Rd.below h hb
theorem RdI.more {w : World} {B B' n : Nat} {A : Option Addr} {xs : List Im} (h : RdI w B A n xs) (hb : B ≤ B') : RdI w B' A n xs := Rd.more h hb
theorem RdI.len {w : World} {B n : Nat} {A : Option Addr} {xs : List Im} (h : RdI w B A n xs) : xs.length = n := by simpa using h.1
end Go.Proofs.YtelipindcacphaaDoor
namespace Go.Proofs.YtelipindcacphaaDoor
open Go.RowKit


end Go.Proofs.YtelipindcacphaaDoor
namespace Go.Proofs.YtelipindcacphaaDoor
open Go.RowKit

theorem infoId : (Tryd.prog.info? 25).map (fun i => (i.zero, i.size, i.bytes)) = some (some (.agg #[.int .i64 0, .int .u32 0]), 2, 16) := by kernel_rfl
end Go.Proofs.YtelipindcacphaaDoor
namespace Go.Proofs.YtelipindcacphaaDoor
open Go.RowKit

end Go.Proofs.YtelipindcacphaaDoor
