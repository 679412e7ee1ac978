/- More on blocks behind stores and allocations. -/
import Derived.Test.YthfjbbijcemmoaaKq
namespace Go.Proofs.Ythfjbbijcemmoaa
open Go.RowKit

theorem heap_set_ne {w : World} {x : Option Obj} {k : Nat} {p : Addr} {u : Value} (hne : p.block ≠ k) (h : w.heap[k]? = x) : (w.setCell p u).heap[k]? = x :=
  (Below.heap_setCell w p u k (fun e => hne e.symm)).trans h
/-- A store into a block that is newer than what is spoken of. -/
theorem gr_set_new {a w : World} {g : Nat} {row : Option Nat} (h : a.grownBy w row) (hg : a.heap.size ≤ g) (i : Nat) (u : Value) : a.grownBy (w.setCell ⟨g, i, none⟩ u) row :=
  ⟨h.os, h.tape, h.output, by simpa [World.setCell] using h.size, fun k hk hne => (heap_set_ne (p := ⟨g, i, none⟩) (u := u) (by dsimp only; omega) rfl).trans (h.block k hk hne)⟩
theorem gr_alloc {a w : World} {row : Option Nat} (h : a.grownBy w row) (o : Obj) : a.grownBy (w.alloc o) row := h.trans (World.grownBy_alloc _ _ _)
/-- A list of elements, built anew. -/
theorem Rd.built {w : World} {e : TypeId} {sz n : Nat} {xs : List (List Value)} {cs : Array Value} (hl : ∀ x ∈ xs, x.length = sz) (hc : cs = xs.flatten.toArray) (hn : xs.length = n) :
    Rd (w.alloc (.cells cs e)) (w.alloc (.cells cs e)).heap.size sz (some ⟨w.heap.size, 0, none⟩) n xs := by
  refine ⟨hn, fun _ => ⟨_, 0, rfl, by simp, fun k x hx j u hu => ?_⟩⟩
  have h := heap_at w (.cells cs e) rfl
  rw [blk_cell h, hc]
  simpa using flat_get hl hx hu
/-- A block of eight cells, each set anew. -/
theorem blk_set8 {w : World} {g : Nat} {t : TypeId} {a0 a1 a2 a3 a4 a5 a6 a7 : Value} (h : w.heap[g]? = some (.cells #[a0, a1, a2, a3, a4, a5, a6, a7] t (0, 0))) (x0 x1 x2 x3 x4 x5 x6 x7 : Value) :
    ((((((((w.setCell ⟨g, 0, none⟩ x0).setCell ⟨g, 1, none⟩ x1).setCell ⟨g, 2, none⟩ x2).setCell ⟨g, 3, none⟩ x3).setCell ⟨g, 4, none⟩ x4).setCell ⟨g, 5, none⟩ x5).setCell ⟨g, 6, none⟩ x6).setCell ⟨g, 7, none⟩ x7).heap[g]? = some (.cells #[x0, x1, x2, x3, x4, x5, x6, x7] t (0, 0)) := by
  have h0 := blk_set h 0 x0
  rw [show (#[a0, a1, a2, a3, a4, a5, a6, a7] : Array Value).setIfInBounds 0 x0 = #[x0, a1, a2, a3, a4, a5, a6, a7] from by simp] at h0
  have h1 := blk_set h0 1 x1
  rw [show (#[x0, a1, a2, a3, a4, a5, a6, a7] : Array Value).setIfInBounds 1 x1 = #[x0, x1, a2, a3, a4, a5, a6, a7] from by simp] at h1
  have h2 := blk_set h1 2 x2
  rw [show (#[x0, x1, a2, a3, a4, a5, a6, a7] : Array Value).setIfInBounds 2 x2 = #[x0, x1, x2, a3, a4, a5, a6, a7] from by simp] at h2
  have h3 := blk_set h2 3 x3
  rw [show (#[x0, x1, x2, a3, a4, a5, a6, a7] : Array Value).setIfInBounds 3 x3 = #[x0, x1, x2, x3, a4, a5, a6, a7] from by simp] at h3
  have h4 := blk_set h3 4 x4
  rw [show (#[x0, x1, x2, x3, a4, a5, a6, a7] : Array Value).setIfInBounds 4 x4 = #[x0, x1, x2, x3, x4, a5, a6, a7] from by simp] at h4
  have h5 := blk_set h4 5 x5
  rw [show (#[x0, x1, x2, x3, x4, a5, a6, a7] : Array Value).setIfInBounds 5 x5 = #[x0, x1, x2, x3, x4, x5, a6, a7] from by simp] at h5
  have h6 := blk_set h5 6 x6
  rw [show (#[x0, x1, x2, x3, x4, x5, a6, a7] : Array Value).setIfInBounds 6 x6 = #[x0, x1, x2, x3, x4, x5, x6, a7] from by simp] at h6
  have h7 := blk_set h6 7 x7
  rw [show (#[x0, x1, x2, x3, x4, x5, x6, a7] : Array Value).setIfInBounds 7 x7 = #[x0, x1, x2, x3, x4, x5, x6, x7] from by simp] at h7
  exact h7
theorem gr_set8 {a w : World} {g : Nat} {row : Option Nat} (h : a.grownBy w row) (hg : a.heap.size ≤ g) (x0 x1 x2 x3 x4 x5 x6 x7 : Value) :
    a.grownBy ((((((((w.setCell ⟨g, 0, none⟩ x0).setCell ⟨g, 1, none⟩ x1).setCell ⟨g, 2, none⟩ x2).setCell ⟨g, 3, none⟩ x3).setCell ⟨g, 4, none⟩ x4).setCell ⟨g, 5, none⟩ x5).setCell ⟨g, 6, none⟩ x6).setCell ⟨g, 7, none⟩ x7) row :=
  gr_set_new (gr_set_new (gr_set_new (gr_set_new (gr_set_new (gr_set_new (gr_set_new (gr_set_new h hg 0 _) hg 1 _) hg 2 _) hg 3 _) hg 4 _) hg 5 _) hg 6 _) hg 7 _
end Go.Proofs.Ythfjbbijcemmoaa
