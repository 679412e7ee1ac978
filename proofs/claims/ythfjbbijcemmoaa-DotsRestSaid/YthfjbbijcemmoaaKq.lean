/- What a call keeps of old memory, as a condition for regions that draw their order. -/
import Derived.Test.YthfjbbijcemmoaaRow
namespace Go.Proofs.Ythfjbbijcemmoaa
open Go.RowKit

/-- Below block n the world w is as W was: as a fact and as a rule. -/
abbrev KQ (n : Nat) (W w : World) : Prop := Below n W w ∧ ∀ b o, b < n → w.cell? ⟨b, o, none⟩ = W.cell? ⟨b, o, none⟩
theorem kq {n : Nat} {W w : World} (h : Below n W w) : KQ n W w := ⟨h, fun b _ hlt => h.cell (p := ⟨b, _, none⟩) hlt⟩
theorem kq_drew {n : Nat} {W w : World} (h : Below n W w) : KQ n W w.drew := kq h.drew
theorem kq_alloc {n : Nat} {W w : World} (h : KQ n W w) (hn : n ≤ W.heap.size) (x : Obj) : KQ n W (w.alloc x) := kq (h.1.alloc (Nat.le_trans hn h.1.size) x)
theorem kq_call {n : Nat} {W w w1 : World} (h : KQ n W w) (hn : n ≤ W.heap.size) (hb : Below w.heap.size w w1) : KQ n W w1 := kq (h.1.trans (hb.mono (Nat.le_trans hn h.1.size)))
theorem kq_set {n : Nat} {W w : World} (h : KQ n W w) {p : Addr} (hp : n ≤ p.block) (u : Value) : KQ n W (w.setCell p u) := kq (h.1.setCell hp u)
theorem kq_grown {n : Nat} {W w w1 : World} {row : Option Nat} (h : KQ n W w) (hn : n ≤ W.heap.size) (hg : w.grownBy w1 row) (hr : ∀ k, row = some k → n ≤ k) : KQ n W w1 :=
  kq (h.1.grown hg (Nat.le_trans hn h.1.size) hr)
theorem kq_rd {n B sz l : Nat} {W w : World} {A : Option Addr} {xs : List (List Value)} (hr : Rd W B sz A l xs) (hB : B ≤ n) (h : KQ n W w) : Rd w B sz A l xs := hr.below (h.1.mono hB)
theorem Ow.made0 (w : World) {base : Nat} (e : TypeId) (sz : Nat) (hb : base ≤ w.heap.size) : Ow (w.alloc (.cells #[] e)) base e sz (.slice (some ⟨w.heap.size, 0, none⟩) 0 0) [] :=
  ⟨by simp, World.ownsRow_made w #[] 0 hb (by decide) (by simp)⟩
theorem Ow.made0d (w : World) {base g : Nat} (e : TypeId) (sz : Nat) (hb : base ≤ w.heap.size) (hg : g = w.heap.size) : Ow (w.alloc (.cells #[] e)).drew base e sz (.slice (some ⟨g, 0, none⟩) 0 0) [] := by
  subst hg; exact Ow.made0 w e sz hb
/-- A block that an append leaves alone: its cells, and that none is frozen. -/
theorem grown_cells {w w1 : World} {row : Option Nat} {b : Nat} {cs : Array Value} {t : TypeId} (hg : w.grownBy w1 row) (hb : w.heap[b]? = some (.cells cs t (0, 0))) (hne : some b ≠ row) :
    w1.heap[b]? = some (.cells cs t (0, 0)) ∧ (∀ o, w1.cell? ⟨b, o, none⟩ = cs[o]?) ∧ ∀ o, w1.frozen? ⟨b, o, none⟩ = false := by
  have h := (hg.block b (Array.getElem?_eq_some_iff.1 hb).1 hne).trans hb
  exact ⟨h, fun o => by simp [World.cell?, h], fun o => by simp [World.frozen?, h]⟩
theorem heap_at (w : World) (o : Obj) {k : Nat} (h : k = w.heap.size) : (w.alloc o).heap[k]? = some o := by subst h; exact heap_alloc_new w o
theorem heap_old {w : World} {x : Option Obj} (o : Obj) {k : Nat} (hk : k < w.heap.size) (h : w.heap[k]? = x) : (w.alloc o).heap[k]? = x := (Below.heap_alloc w o k hk).trans h
theorem heap_drew {w : World} {x : Option Obj} {k : Nat} (h : w.heap[k]? = x) : w.drew.heap[k]? = x := h
theorem blk_set {w : World} {g : Nat} {cs : Array Value} {t : TypeId} (h : w.heap[g]? = some (.cells cs t (0, 0))) (i : Nat) (u : Value) :
    (w.setCell ⟨g, i, none⟩ u).heap[g]? = some (.cells (cs.setIfInBounds i u) t (0, 0)) := by
  simp [World.setCell, Array.getElem?_modify, h]
theorem blk_cell {w : World} {g : Nat} {cs : Array Value} {t : TypeId} (h : w.heap[g]? = some (.cells cs t (0, 0))) (o : Nat) : w.cell? ⟨g, o, none⟩ = cs[o]? := by simp [World.cell?, h]
theorem blk_frozen {w : World} {g : Nat} {cs : Array Value} {t : TypeId} (h : w.heap[g]? = some (.cells cs t (0, 0))) (o : Nat) : w.frozen? ⟨g, o, none⟩ = false := by simp [World.frozen?, h]
theorem blk_lt {w : World} {g : Nat} {x : Obj} (h : w.heap[g]? = some x) : g < w.heap.size := (Array.getElem?_eq_some_iff.1 h).1
theorem blk_below {w w' : World} {g : Nat} {x : Obj} (h : w.heap[g]? = some x) (hb : Below w.heap.size w w') : w'.heap[g]? = some x := (hb.block g (blk_lt h)).trans h

theorem Ow.base {w : World} {base base' : Nat} {e : TypeId} {sz : Nat} {v : Value} {xs : List (List Value)} (h : Ow w base e sz v xs) (hb : base' ≤ base) : Ow w base' e sz v xs := by
  refine ⟨h.1, h.2.1, ?_⟩
  rcases h.2.2 with h2 | ⟨g, cap, cur, hv, hg, r⟩
  · exact .inl h2
  · exact .inr ⟨g, cap, cur, hv, Nat.le_trans hb hg, r⟩
/-- Two rows of unlike element types: the one stays where the other is appended to. -/
theorem Ow.other {w w' : World} {b1 b2 : Nat} {e1 e2 : TypeId} {s1 s2 : Nat} {v1 v2 : Value} {xs ys : List (List Value)} (h : Ow w b1 e1 s1 v1 xs) (h2 : Ow w b2 e2 s2 v2 ys) (hne : e1 ≠ e2)
    (hg : w.grownBy w' v2.ownBlock) : Ow w' b1 e1 s1 v1 xs := by
  refine ⟨h.1, h.2.kept hg ?_⟩
  rcases h.2.2 with ⟨rfl, _⟩ | ⟨g, cap, cur, rfl, _, hh, _⟩
  · exact .inl rfl
  · refine .inr ?_
    rcases h2.2.2 with ⟨rfl, _⟩ | ⟨g2, cap2, cur2, rfl, _, hh2, _⟩
    · simp [Value.ownBlock]
    · simp only [Value.ownBlock, ne_eq, Option.some.injEq]
      rintro rfl
      rw [hh] at hh2
      injection hh2 with hh2
      injection hh2 with _ ht
      exact hne ht
/-- One new element, laid in a block of its own. -/
theorem Rd.one' {w : World} {e : TypeId} {sz g : Nat} (x : List Value) (hg : g = w.heap.size) : Rd (w.alloc (.cells x.toArray e)) (g + 1) sz (some ⟨g, 0, none⟩) 1 [x] := by
  subst hg
  refine ⟨rfl, fun _ => ⟨_, 0, rfl, Nat.lt_succ_self _, fun k y hy j u hu => ?_⟩⟩
  obtain rfl : k = 0 := by have := (List.getElem?_eq_some_iff.1 hy).1; simp at this; omega
  simp only [List.getElem?_cons_zero, Option.some.injEq] at hy
  subst hy
  have := heap_at w (.cells x.toArray e) rfl
  rw [blk_cell (cs := x.toArray) (t := e) this]
  simpa using hu
/-- The same behind a draw. -/
theorem Rd.one {w : World} {e : TypeId} {sz g : Nat} (x : List Value) (hg : g = w.heap.size) : Rd (w.alloc (.cells x.toArray e)).drew (g + 1) sz (some ⟨g, 0, none⟩) 1 [x] := by
  subst hg
  refine ⟨rfl, fun _ => ⟨_, 0, rfl, Nat.lt_succ_self _, fun k y hy j u hu => ?_⟩⟩
  obtain rfl : k = 0 := by have := (List.getElem?_eq_some_iff.1 hy).1; simp at this; omega
  simp only [List.getElem?_cons_zero, Option.some.injEq] at hy
  subst hy
  have := heap_at w (.cells x.toArray e) rfl
  show (w.alloc (.cells x.toArray e)).cell? _ = _
  rw [blk_cell (cs := x.toArray) (t := e) this]
  simpa using hu
/-- A store into a block of another element type. -/
theorem Ow.set_blk {w : World} {base : Nat} {e t : TypeId} {sz g : Nat} {v : Value} {xs : List (List Value)} {cs : Array Value} (h : Ow w base e sz v xs) (hg : w.heap[g]? = some (.cells cs t (0, 0))) (hne : e ≠ t) (i : Nat) (u : Value) :
    Ow (w.setCell ⟨g, i, none⟩ u) base e sz v xs := by
  refine ⟨h.1, h.2.1, ?_⟩
  rcases h.2.2 with h2 | ⟨g', cap, cur, hv, hb, hh, r⟩
  · exact .inl h2
  · refine .inr ⟨g', cap, cur, hv, hb, ?_, r⟩
    rw [Below.heap_setCell _ _ _ _ (fun e => by
      simp only at e
      subst e
      rw [hg] at hh
      injection hh with hh
      injection hh with _ ht
      exact hne ht.symm)]
    exact hh
/-- Only block g, of another element type, has turned. -/
theorem Ow.other_blk {w w' : World} {base : Nat} {e t : TypeId} {sz g : Nat} {v : Value} {xs : List (List Value)} {cs : Array Value} (h : Ow w base e sz v xs) (hg : w.heap[g]? = some (.cells cs t (0, 0))) (hne : e ≠ t)
    (hgr : w.grownBy w' (some g)) : Ow w' base e sz v xs := by
  refine ⟨h.1, h.2.kept hgr ?_⟩
  rcases h.2.2 with ⟨rfl, _⟩ | ⟨g', cap, cur, rfl, _, hh, _⟩
  · exact .inl rfl
  · refine .inr ?_
    simp only [Value.ownBlock, ne_eq, Option.some.injEq]
    rintro rfl
    rw [hg] at hh
    injection hh with hh
    injection hh with _ ht
    exact hne ht.symm
theorem grown_set {a w : World} {g : Nat} (h : a.grownBy w (some g)) (i : Nat) (u : Value) : a.grownBy (w.setCell ⟨g, i, none⟩ u) (some g) :=
  ⟨h.os, h.tape, h.output, by simpa [World.setCell] using h.size, fun k hk hne => (Below.heap_setCell w _ u k (fun e => hne (by simp only at e; rw [e]))).trans (h.block k hk hne)⟩
end Go.Proofs.Ythfjbbijcemmoaa
