/- Writing an element of a row of one's own: elements of two cells. -/
import Derived.Test.YthfjbbijcemmoaaKq
namespace Go.Proofs.Ythfjbbijcemmoaa
open Go.RowKit

theorem gr_below {w w' : World} (h : Below w.heap.size w w') (row : Option Nat) : w.grownBy w' row := ⟨h.os, h.tape, h.output, h.size, fun k hk _ => h.block k hk⟩
theorem gr_set {a w : World} {g : Nat} (h : a.grownBy w (some g)) (i : Nat) (u : Value) : a.grownBy (w.setCell ⟨g, i, none⟩ u) (some g) :=
  ⟨h.os, h.tape, h.output, by simpa [World.setCell] using h.size, fun k hk hne => (Below.heap_setCell w _ u k (fun e => hne (by simp only at e; rw [e]))).trans (h.block k hk hne)⟩
theorem ownsRow_set {w : World} {base g n c sz : Nat} {e : TypeId} {fl : List Value} (h : w.ownsRow base e sz (.slice (some ⟨g, 0, none⟩) n c) n fl) (i : Nat) (u : Value) :
    (w.setCell ⟨g, i, none⟩ u).ownsRow base e sz (.slice (some ⟨g, 0, none⟩) n c) n (fl.set i u) := by
  obtain ⟨hl, h⟩ := h
  rcases h with ⟨h, _⟩ | ⟨g', cap, cur, hv, hb, hg, hn, hm, hs, ht⟩
  · cases h
  · injection hv with h1 h2 h3
    injection h1 with h1
    injection h1 with h1
    subst h1; subst h3
    refine ⟨by rw [List.length_set]; exact hl, .inr ⟨g, c, cur.setIfInBounds i u, rfl, hb, blk_set hg i u, hn, hm, by rw [Array.size_setIfInBounds]; exact hs, ?_⟩⟩
    rw [Array.toList_setIfInBounds, List.take_set, ht]
theorem flat_set2 : ∀ {xs : List (List Value)} {k : Nat} {u v : Value}, (∀ x ∈ xs, x.length = 2) → k < xs.length → (xs.flatten.set (k * 2) u).set (k * 2 + 1) v = (xs.set k [u, v]).flatten
  | [], k, u, v, _, hk => by simp at hk
  | x :: xs, k, u, v, hl, hk => by
    have hx : x.length = 2 := hl x (by simp)
    match x, hx with
    | [a, b], _ =>
      cases k with
      | zero => simp
      | succ k =>
        have ih := flat_set2 (u := u) (v := v) (fun x hx => hl x (by simp [hx])) (show k < xs.length by simpa using hk)
        rw [show (k + 1) * 2 = k * 2 + 1 + 1 by omega]
        simp only [List.flatten_cons, List.cons_append, List.nil_append, List.set_cons_succ]
        rw [ih]
theorem Ow.set2 {w : World} {base g n c : Nat} {e : TypeId} {xs : List (List Value)} (h : Ow w base e 2 (.slice (some ⟨g, 0, none⟩) n c) xs) {k : Nat} (hk : k < n) (u v : Value) :
    Ow ((w.setCell ⟨g, k * 2, none⟩ u).setCell ⟨g, k * 2 + 1, none⟩ v) base e 2 (.slice (some ⟨g, 0, none⟩) n c) (xs.set k [u, v]) := by
  have hl : xs.length = n := h.rd.2.1
  have hall := h.1
  have h2 := h.2
  rw [hl] at h2
  refine ⟨fun x hx => ?_, ?_⟩
  · rcases List.mem_or_eq_of_mem_set hx with h' | rfl
    · exact hall x h'
    · rfl
  · rw [← flat_set2 hall (by omega), List.length_set, hl]
    exact ownsRow_set (ownsRow_set h2 _ u) _ v
/-- The address of a row of one's own. -/
theorem Ow.addr {w : World} {base n c sz : Nat} {e : TypeId} {A : Option Addr} {xs : List (List Value)} (h : Ow w base e sz (.slice A n c) xs) (hn : 0 < n) :
    ∃ g, A = some ⟨g, 0, none⟩ ∧ base ≤ g ∧ g < w.heap.size ∧ (∀ o, w.frozen? ⟨g, o, none⟩ = false) ∧ ∀ k (x : List Value), xs[k]? = some x → ∀ j u, x[j]? = some u → w.cell? ⟨g, k * sz + j, none⟩ = some u := by
  have hr := h.rd
  obtain ⟨hl, ho⟩ := h
  rcases ho.2 with ⟨h, h0⟩ | ⟨g, cap, cur, hv, hb, hg, hn', hm, hs, ht⟩
  · injection h with _ h2; omega
  · injection hv with h1 h2 h3
    subst h1
    obtain ⟨b, o, he, hlt, hc⟩ := hr.1.2 hn
    injection he with he
    injection he with he1 he2
    subst he1; subst he2
    exact ⟨g, rfl, hb, hlt, fun o => blk_frozen hg o, fun k x hx j u hu => by have := hc k x hx j u hu; rwa [Nat.zero_add] at this⟩
/-- A row of two-cell elements, a shorter look at it: its first elements. -/
theorem Ow.front {w : World} {base g n c sz : Nat} {e : TypeId} {xs : List (List Value)} (h : Ow w base e sz (.slice (some ⟨g, 0, none⟩) n c) xs) {k : Nat} (hk : k ≤ n) :
    Ow w base e sz (.slice (some ⟨g, 0, none⟩) k c) (xs.take k) := by
  have hl : xs.length = n := h.rd.2.1
  obtain ⟨hall, h⟩ := h
  refine ⟨fun x hx => hall x (List.mem_of_mem_take hx), ?_⟩
  rw [hl] at h
  obtain ⟨hfl, h⟩ := h
  have hlk : (xs.take k).length = k := by rw [List.length_take]; omega
  have hflat : (xs.take k).flatten = xs.flatten.take (k * sz) := by
    have h1 : xs.flatten = (xs.take k).flatten ++ (xs.drop k).flatten := by rw [← List.flatten_append, List.take_append_drop]
    have h2 : (xs.take k).flatten.length = k * sz := by rw [flat_len (fun x hx => hall x (List.mem_of_mem_take hx)), hlk]
    rw [h1, ← h2, List.take_left']
    rfl
  rcases h with ⟨h, _⟩ | ⟨g', cap, cur, hv, hb, hg, hn, hm, hs, ht⟩
  · cases h
  · injection hv with h1 h2 h3
    injection h1 with h1
    injection h1 with h1
    subst h1; subst h3
    refine ⟨by rw [flat_len (fun x hx => hall x (List.mem_of_mem_take hx))], .inr ⟨g, c, cur, by rw [hlk], hb, hg, by omega, hm, hs, ?_⟩⟩
    rw [hlk, hflat, ← ht, List.take_take, Nat.min_eq_left (Nat.mul_le_mul_right _ hk)]
end Go.Proofs.Ythfjbbijcemmoaa
