/- Operations' names (tags): what ident and the document's chapter 5 say of one, of two; reading lists of them. -/
import Derived.Test.YtelipindcacphaaDoorM25
import Derived.Test.YtelipindcacphaaDoorTg
namespace Go.Proofs.YtelipindcacphaaDoor
open Go.RowKit

def Tm.enc (t : Tm) : List Value := [.int .i64 t.1.1, .int .u32 t.1.2, .int .i64 t.2]
theorem Tm.len {xs : List Tm} : ∀ x ∈ xs.map Tm.enc, x.length = 3 := by
  intro x hx; obtain ⟨t, _, rfl⟩ := List.mem_map.1 hx; rfl
theorem Tm.one {xs : List Tm} : ∀ x ∈ xs.map Tm.enc, ∀ u ∈ x, u.oneCell' = true := by
  intro x hx u hu; obtain ⟨t, _, rfl⟩ := List.mem_map.1 hx
  simp only [Tm.enc, List.mem_cons, List.not_mem_nil, or_false] at hu
  rcases hu with rfl | rfl | rfl <;> rfl
/-- A list of tags, read whole. -/
def RdT (w : World) (B : Nat) (A : Option Addr) (n : Nat) (xs : List Tm) : Prop := Rd w B 3 A n (xs.map Tm.enc)
theorem RdT.below {w w' : World} {B n : Nat} {A : Option Addr} {xs : List Tm} (h : RdT w B A n xs) (hb : Below B w w') : RdT w' B A n xs := Rd.below h hb
theorem RdT.more {w : World} {B B' n : Nat} {A : Option Addr} {xs : List Tm} (h : RdT w B A n xs) (hb : B ≤ B') : RdT w B' A n xs := Rd.more h hb
theorem RdT.len {w : World} {B n : Nat} {A : Option Addr} {xs : List Tm} (h : RdT w B A n xs) : xs.length = n := by simpa using h.1
theorem infoTag : (Tryd.prog.info? 49).map (fun i => (i.zero, i.size, i.bytes)) = some (some (.agg #[.int .i64 0, .int .u32 0, .int .i64 0]), 3, 24) := by kernel_rfl
theorem eTag : ElemInfo Tryd.prog 52 49 3 24 := by
  obtain ⟨i, hi, h0, h1, h2⟩ := info_parts infoTag
  exact ⟨Tryd.underlying52, ⟨i, _, hi, h0, h1, h2, rfl⟩, by decide⟩

/-- The box of a tag that came by value. -/
theorem tbox (t : Tm) (w : World) : (w.alloc (.cells #[.int .i64 t.1.1, .int .u32 t.1.2, .int .i64 t.2] 49)).heap[w.heap.size]? = some (.cells #[.int .i64 t.1.1, .int .u32 t.1.2, .int .i64 t.2] 49 (0, 0)) := heap_at _ _ rfl

end Go.Proofs.YtelipindcacphaaDoor
