/- Writing an element of a row of one's own: elements of two cells. clear(s[i:]) of a row of one's own. -/
import Derived.Test.YtffnpfponnhddaaGreatGa
import Derived.Laws.IdiomCopy
namespace Go.Proofs.YtffnpfponnhddaaGreat
open Go.RowKit

theorem gr_below {w w' : World} (h : Below w.heap.size w w') (row : Option Nat) : w.grownBy w' row := ⟨h.os, h.tape, h.output, h.size, fun k hk _ => h.block k hk⟩
theorem gr_set {a w : World} {g : Nat} (h : a.grownBy w (some g)) (i : Nat) (u : Value) : a.grownBy (w.setCell ⟨g, i, none⟩ u) (some g) :=
  ⟨h.os, h.tape, h.output, by simpa [World.setCell] using h.size, fun k hk hne => (Below.heap_setCell w _ u k (fun e => hne (by simp only at e; rw [e]))).trans (h.block k hk hne)⟩
theorem ownsRow_set {w : World} {base g n c sz : Nat} {e : TypeId} {fl : List Value} (h : w.ownsRow base e sz (.slice (some ⟨g, 0, none⟩) n c) n fl) (i : Nat) (u : Value) :
    (w.setCell ⟨g, i, none⟩ u).ownsRow base e sz (.slice (some ⟨g, 0, none⟩) n c) n (fl.set i u) := by
  obtain ⟨hl, h⟩ := h
  rcases h with ⟨h, _⟩ | ⟨g', cap, cur, hv, hb, hg, hn, hm, hs, ht⟩
  · cases h
  · injection hv with h1 h2 h3
    injection h1 with h1
    injection h1 with h1
    subst h1; subst h3
    refine ⟨by rw [List.length_set]; exact hl, .inr ⟨g, c, cur.setIfInBounds i u, rfl, hb, blk_set hg i u, hn, hm, by rw [Array.size_setIfInBounds]; exact hs, ?_⟩⟩
    rw [Array.toList_setIfInBounds, List.take_set, ht]
theorem flat_set2 : ∀ {xs : List (List Value)} {k : Nat} {u v : Value}, (∀ x ∈ xs, x.length = 2) → k < xs.length → (xs.flatten.set (k * 2) u).set (k * 2 + 1) v = (xs.set k [u, v]).flatten
  | [], k, u, v, _, hk => by simp at hk
  | x :: xs, k, u, v, hl, hk => by
    have hx : x.length = 2 := hl x (by simp)
    match x, hx with
    | [a, b], _ =>
      cases k with
      | zero => simp
      | succ k =>
        have ih := flat_set2 (u := u) (v := v) (fun x hx => hl x (by simp [hx])) (show k < xs.length by simpa using hk)
        rw [show (k + 1) * 2 = k * 2 + 1 + 1 by omega]
        simp only [List.flatten_cons, List.cons_append, List.nil_append, List.set_cons_succ]
        rw [ih]
theorem Ow.set2 {w : World} {base g n c : Nat} {e : TypeId} {xs : List (List Value)} (h : Ow w base e 2 (.slice (some ⟨g, 0, none⟩) n c) xs) {k : Nat} (hk : k < n) (u v : Value) :
    Ow ((w.setCell ⟨g, k * 2, none⟩ u).setCell ⟨g, k * 2 + 1, none⟩ v) base e 2 (.slice (some ⟨g, 0, none⟩) n c) (xs.set k [u, v]) := by
  have hl : xs.length = n := h.rd.2.1
  have hall := h.1
  have h2 := h.2
  rw [hl] at h2
  refine ⟨fun x hx => ?_, ?_⟩
  · rcases List.mem_or_eq_of_mem_set hx with h' | rfl
    · exact hall x h'
    · rfl
  · rw [← flat_set2 hall (by omega), List.length_set, hl]
    exact ownsRow_set (ownsRow_set h2 _ u) _ v
/-- The address of a row of one's own. -/
theorem Ow.addr {w : World} {base n c sz : Nat} {e : TypeId} {A : Option Addr} {xs : List (List Value)} (h : Ow w base e sz (.slice A n c) xs) (hn : 0 < n) :
    ∃ g, A = some ⟨g, 0, none⟩ ∧ base ≤ g ∧ g < w.heap.size ∧ (∀ o, w.frozen? ⟨g, o, none⟩ = false) ∧ ∀ k (x : List Value), xs[k]? = some x → ∀ j u, x[j]? = some u → w.cell? ⟨g, k * sz + j, none⟩ = some u := by
  have hr := h.rd
  obtain ⟨hl, ho⟩ := h
  rcases ho.2 with ⟨h, h0⟩ | ⟨g, cap, cur, hv, hb, hg, hn', hm, hs, ht⟩
  · injection h with _ h2; omega
  · injection hv with h1 h2 h3
    subst h1
    obtain ⟨b, o, he, hlt, hc⟩ := hr.1.2 hn
    injection he with he
    injection he with he1 he2
    subst he1; subst he2
    exact ⟨g, rfl, hb, hlt, fun o => blk_frozen hg o, fun k x hx j u hu => by have := hc k x hx j u hu; rwa [Nat.zero_add] at this⟩
/-- A row of two-cell elements, a shorter look at it: its first elements. -/
theorem Ow.front {w : World} {base g n c sz : Nat} {e : TypeId} {xs : List (List Value)} (h : Ow w base e sz (.slice (some ⟨g, 0, none⟩) n c) xs) {k : Nat} (hk : k ≤ n) :
    Ow w base e sz (.slice (some ⟨g, 0, none⟩) k c) (xs.take k) := by
  have hl : xs.length = n := h.rd.2.1
  obtain ⟨hall, h⟩ := h
  refine ⟨fun x hx => hall x (List.mem_of_mem_take hx), ?_⟩
  rw [hl] at h
  obtain ⟨hfl, h⟩ := h
  have hlk : (xs.take k).length = k := by rw [List.length_take]; omega
  have hflat : (xs.take k).flatten = xs.flatten.take (k * sz) := by
    have h1 : xs.flatten = (xs.take k).flatten ++ (xs.drop k).flatten := by rw [← List.flatten_append, List.take_append_drop]
    have h2 : (xs.take k).flatten.length = k * sz := by rw [flat_len (fun x hx => hall x (List.mem_of_mem_take hx)), hlk]
    rw [h1, ← h2, List.take_left']
    rfl
  rcases h with ⟨h, _⟩ | ⟨g', cap, cur, hv, hb, hg, hn, hm, hs, ht⟩
  · cases h
  · injection hv with h1 h2 h3
    injection h1 with h1
    injection h1 with h1
    subst h1; subst h3
    refine ⟨by rw [flat_len (fun x hx => hall x (List.mem_of_mem_take hx))], .inr ⟨g, c, cur, by rw [hlk], hb, hg, by omega, hm, hs, ?_⟩⟩
    rw [hlk, hflat, ← ht, List.take_take, Nat.min_eq_left (Nat.mul_le_mul_right _ hk)]
end Go.Proofs.YtffnpfponnhddaaGreat
namespace Go.Proofs.YtffnpfponnhddaaGreat
open Go.RowKit

def setL {α : Type} : List α → Nat → List α → List α
  | l, _, [] => l
  | l, i, v :: r => setL (l.set i v) (i + 1) r
theorem setL_eq {α : Type} : ∀ (vs : List α) (l : List α) (i : Nat), i + vs.length = l.length → setL l i vs = l.take i ++ vs
  | [], l, i, h => by simp [setL, List.take_of_length_le (show l.length ≤ i by simp at h; omega)]
  | v :: r, l, i, h => by
    have hi : i < l.length := by simp at h; omega
    rw [setL, setL_eq r (l.set i v) (i + 1) (by simp at h ⊢; omega), List.take_add_one, List.getElem?_set_self hi]
    simp [List.take_set_of_le]
theorem ownsRow_setCells {base g n c sz : Nat} {e : TypeId} : ∀ (vs : List Value) {w : World} {fl : List Value} (i : Nat), w.ownsRow base e sz (.slice (some ⟨g, 0, none⟩) n c) n fl →
    (w.setCells g i vs).ownsRow base e sz (.slice (some ⟨g, 0, none⟩) n c) n (setL fl i vs)
  | [], _, _, _, h => h
  | v :: r, _, _, i, h => ownsRow_setCells r (i + 1) (ownsRow_set h i v)
theorem grown_setCells {g : Nat} : ∀ (vs : List Value) {a w : World} (i : Nat), a.grownBy w (some g) → a.grownBy (w.setCells g i vs) (some g)
  | [], _, _, _, h => h
  | v :: r, _, _, i, h => grown_setCells r (i + 1) (grown_set h i v)
theorem flat_replicate {α : Type} (l : List α) (n : Nat) : (List.replicate n l).flatten.length = n * l.length := by simp
theorem zeroCells_list (z : Array Value) (n : Nat) (hz : 0 < z.size) : (Builtin.zeroCells z n).toList = (List.replicate n z.toList).flatten := by
  apply List.ext_getElem?
  intro i
  by_cases hi : i < n * z.size
  · have hk : i / z.size < n := by
      rw [Nat.div_lt_iff_lt_mul hz]; exact hi
    have hj : i % z.size < z.size := Nat.mod_lt _ hz
    have e : i = i / z.size * z.size + i % z.size := by rw [Nat.mul_comm]; exact (Nat.div_add_mod _ _).symm
    have hf := flat_get (xs := List.replicate n z.toList) (sz := z.size) (fun x hx => by rw [List.eq_of_mem_replicate hx]; simp) (k := i / z.size) (x := z.toList) (j := i % z.size) (u := z[i % z.size]) (by rw [List.getElem?_replicate, if_pos hk]) (by simp [hj])
    rw [← e] at hf
    rw [hf]
    simp [Builtin.zeroCells, hi, hj]
  · rw [List.getElem?_eq_none (by simp [Builtin.zeroCells]; omega), List.getElem?_eq_none (by simp; omega)]
theorem run_clear_row {P : Program} {t e : TypeId} {z : Value} (ht : P.underlying t = some (.slice e)) (hv : ∀ w, (zeroValue e).run P w = .ok z w) (h1 : ∀ v ∈ z.cells.toList, v.oneCell' = true)
    {w : World} {base g n c c' sz i : Nat} {xs : List (List Value)} (hz : z.cells.size = sz) (hs : 0 < sz) (hown : Ow w base e sz (.slice (some ⟨g, 0, none⟩) n c) xs) (hi : i < n) :
    ∃ w', (∀ ty, (Builtin.clear_ #[t] ty #[.slice (some ⟨g, i * sz, none⟩) (n - i) c']).run P w = .ok (.tuple #[]) w') ∧ Ow w' base e sz (.slice (some ⟨g, 0, none⟩) n c) (xs.take i ++ List.replicate (n - i) z.cells.toList) ∧ w.grownBy w' (some g) := by
  subst hz
  have hl : xs.length = n := hown.rd.2.1
  have hall := hown.1
  have hfl : xs.flatten.length = n * z.cells.size := by rw [flat_len hall, hl]
  obtain ⟨g', he, hgb, hgl, hfz, hcell⟩ := hown.addr (by omega)
  injection he with he
  injection he with he
  subst he
  have hlen : (Builtin.zeroCells z.cells (n - i)).toList.length = (n - i) * z.cells.size := by rw [zeroCells_list _ _ hs]; simp
  have hst := run_storeCells_cells (P := P) g (i * z.cells.size) (Builtin.zeroCells z.cells (n - i)).toList 0 w (fun j hj => by
    rw [hlen] at hj
    have hlt : i * z.cells.size + j < n * z.cells.size := by
      have : i * z.cells.size + (n - i) * z.cells.size = n * z.cells.size := by rw [← Nat.add_mul]; congr 1; omega
      omega
    have hk : (i * z.cells.size + j) / z.cells.size < n := by rw [Nat.div_lt_iff_lt_mul hs]; exact hlt
    have hx : xs[(i * z.cells.size + j) / z.cells.size]? = some (xs[(i * z.cells.size + j) / z.cells.size]'(by omega)) := List.getElem?_eq_getElem (by omega)
    have hxl := hall _ (List.getElem_mem (l := xs) (n := (i * z.cells.size + j) / z.cells.size) (by omega))
    have hm : (i * z.cells.size + j) % z.cells.size < z.cells.size := Nat.mod_lt _ hs
    have := hcell _ _ hx ((i * z.cells.size + j) % z.cells.size) _ (List.getElem?_eq_getElem (by omega))
    rw [show (i * z.cells.size + j) / z.cells.size * z.cells.size + (i * z.cells.size + j) % z.cells.size = i * z.cells.size + j by rw [Nat.mul_comm]; exact Nat.div_add_mod _ _] at this
    rw [Nat.add_zero, this]; rfl) (fun j _ => hfz _) (fun v hv => by
    rw [zeroCells_list _ _ hs] at hv
    obtain ⟨l, hl1, hl2⟩ := List.mem_flatten.1 hv
    rw [List.eq_of_mem_replicate hl1] at hl2
    exact h1 v hl2)
  refine ⟨w.setCells g (i * z.cells.size + 0) (Builtin.zeroCells z.cells (n - i)).toList, ?_, ?_, grown_setCells _ _ (World.grownBy.refl w _)⟩
  · obtain ⟨m, hm⟩ : ∃ m, n - i = m + 1 := ⟨n - i - 1, by omega⟩
    rw [hm] at hst ⊢
    intro ty
    simp [Builtin.clear_, run_underlying ht, hv, hst]
  · have h2 := hown.2
    rw [hl] at h2
    have h3 := ownsRow_setCells (Builtin.zeroCells z.cells (n - i)).toList (i * z.cells.size + 0) h2
    have hle : (xs.take i ++ List.replicate (n - i) z.cells.toList).length = n := by simp; omega
    refine ⟨fun x hx => ?_, ?_⟩
    · rcases List.mem_append.1 hx with h | h
      · exact hall x (List.mem_of_mem_take h)
      · rw [List.eq_of_mem_replicate h]; simp
    · have hadd : i * z.cells.size + (n - i) * z.cells.size = n * z.cells.size := by rw [← Nat.add_mul]; congr 1; omega
      rw [setL_eq _ _ _ (by rw [hlen, hfl]; omega), zeroCells_list _ _ hs] at h3
      have hflat : (xs.take i).flatten = xs.flatten.take (i * z.cells.size) := by
        have h1 : xs.flatten = (xs.take i).flatten ++ (xs.drop i).flatten := by rw [← List.flatten_append, List.take_append_drop]
        have h2 : (xs.take i).flatten.length = i * z.cells.size := by rw [flat_len (fun x hx => hall x (List.mem_of_mem_take hx)), List.length_take]; congr 1; omega
        rw [h1, ← h2, List.take_left']
        rfl
      rw [hle, List.flatten_append, hflat]
      rw [zeroCells_list _ _ hs]
      exact h3
end Go.Proofs.YtffnpfponnhddaaGreat
