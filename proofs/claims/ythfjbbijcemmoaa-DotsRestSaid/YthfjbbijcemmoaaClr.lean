/- clear(s[i:]) of a row of one's own. -/
import Derived.Test.YthfjbbijcemmoaaSet
import Derived.Laws.IdiomCopy
namespace Go.Proofs.Ythfjbbijcemmoaa
open Go.RowKit

def setL {α : Type} : List α → Nat → List α → List α
  | l, _, [] => l
  | l, i, v :: r => setL (l.set i v) (i + 1) r
theorem setL_eq {α : Type} : ∀ (vs : List α) (l : List α) (i : Nat), i + vs.length = l.length → setL l i vs = l.take i ++ vs
  | [], l, i, h => by simp [setL, List.take_of_length_le (show l.length ≤ i by simp at h; omega)]
  | v :: r, l, i, h => by
    have hi : i < l.length := by simp at h; omega
    rw [setL, setL_eq r (l.set i v) (i + 1) (by simp at h ⊢; omega), List.take_add_one, List.getElem?_set_self hi]
    simp [List.take_set_of_le]
theorem ownsRow_setCells {base g n c sz : Nat} {e : TypeId} : ∀ (vs : List Value) {w : World} {fl : List Value} (i : Nat), w.ownsRow base e sz (.slice (some ⟨g, 0, none⟩) n c) n fl →
    (w.setCells g i vs).ownsRow base e sz (.slice (some ⟨g, 0, none⟩) n c) n (setL fl i vs)
  | [], _, _, _, h => h
  | v :: r, _, _, i, h => ownsRow_setCells r (i + 1) (ownsRow_set h i v)
theorem grown_setCells {g : Nat} : ∀ (vs : List Value) {a w : World} (i : Nat), a.grownBy w (some g) → a.grownBy (w.setCells g i vs) (some g)
  | [], _, _, _, h => h
  | v :: r, _, _, i, h => grown_setCells r (i + 1) (grown_set h i v)
theorem flat_replicate {α : Type} (l : List α) (n : Nat) : (List.replicate n l).flatten.length = n * l.length := by simp
theorem zeroCells_list (z : Array Value) (n : Nat) (hz : 0 < z.size) : (Builtin.zeroCells z n).toList = (List.replicate n z.toList).flatten := by
  apply List.ext_getElem?
  intro i
  by_cases hi : i < n * z.size
  · have hk : i / z.size < n := by
      rw [Nat.div_lt_iff_lt_mul hz]; exact hi
    have hj : i % z.size < z.size := Nat.mod_lt _ hz
    have e : i = i / z.size * z.size + i % z.size := by rw [Nat.mul_comm]; exact (Nat.div_add_mod _ _).symm
    have hf := flat_get (xs := List.replicate n z.toList) (sz := z.size) (fun x hx => by rw [List.eq_of_mem_replicate hx]; simp) (k := i / z.size) (x := z.toList) (j := i % z.size) (u := z[i % z.size]) (by rw [List.getElem?_replicate, if_pos hk]) (by simp [hj])
    rw [← e] at hf
    rw [hf]
    simp [Builtin.zeroCells, hi, hj]
  · rw [List.getElem?_eq_none (by simp [Builtin.zeroCells]; omega), List.getElem?_eq_none (by simp; omega)]
theorem run_clear_row {P : Program} {t e : TypeId} {z : Value} (ht : P.underlying t = some (.slice e)) (hv : ∀ w, (zeroValue e).run P w = .ok z w) (h1 : ∀ v ∈ z.cells.toList, v.oneCell' = true)
    {w : World} {base g n c c' sz i : Nat} {xs : List (List Value)} (hz : z.cells.size = sz) (hs : 0 < sz) (hown : Ow w base e sz (.slice (some ⟨g, 0, none⟩) n c) xs) (hi : i < n) :
    ∃ w', (∀ ty, (Builtin.clear_ #[t] ty #[.slice (some ⟨g, i * sz, none⟩) (n - i) c']).run P w = .ok (.tuple #[]) w') ∧ Ow w' base e sz (.slice (some ⟨g, 0, none⟩) n c) (xs.take i ++ List.replicate (n - i) z.cells.toList) ∧ w.grownBy w' (some g) := by
  subst hz
  have hl : xs.length = n := hown.rd.2.1
  have hall := hown.1
  have hfl : xs.flatten.length = n * z.cells.size := by rw [flat_len hall, hl]
  obtain ⟨g', he, hgb, hgl, hfz, hcell⟩ := hown.addr (by omega)
  injection he with he
  injection he with he
  subst he
  have hlen : (Builtin.zeroCells z.cells (n - i)).toList.length = (n - i) * z.cells.size := by rw [zeroCells_list _ _ hs]; simp
  have hst := run_storeCells_cells (P := P) g (i * z.cells.size) (Builtin.zeroCells z.cells (n - i)).toList 0 w (fun j hj => by
    rw [hlen] at hj
    have hlt : i * z.cells.size + j < n * z.cells.size := by
      have : i * z.cells.size + (n - i) * z.cells.size = n * z.cells.size := by rw [← Nat.add_mul]; congr 1; omega
      omega
    have hk : (i * z.cells.size + j) / z.cells.size < n := by rw [Nat.div_lt_iff_lt_mul hs]; exact hlt
    have hx : xs[(i * z.cells.size + j) / z.cells.size]? = some (xs[(i * z.cells.size + j) / z.cells.size]'(by omega)) := List.getElem?_eq_getElem (by omega)
    have hxl := hall _ (List.getElem_mem (l := xs) (n := (i * z.cells.size + j) / z.cells.size) (by omega))
    have hm : (i * z.cells.size + j) % z.cells.size < z.cells.size := Nat.mod_lt _ hs
    have := hcell _ _ hx ((i * z.cells.size + j) % z.cells.size) _ (List.getElem?_eq_getElem (by omega))
    rw [show (i * z.cells.size + j) / z.cells.size * z.cells.size + (i * z.cells.size + j) % z.cells.size = i * z.cells.size + j by rw [Nat.mul_comm]; exact Nat.div_add_mod _ _] at this
    rw [Nat.add_zero, this]; rfl) (fun j _ => hfz _) (fun v hv => by
    rw [zeroCells_list _ _ hs] at hv
    obtain ⟨l, hl1, hl2⟩ := List.mem_flatten.1 hv
    rw [List.eq_of_mem_replicate hl1] at hl2
    exact h1 v hl2)
  refine ⟨w.setCells g (i * z.cells.size + 0) (Builtin.zeroCells z.cells (n - i)).toList, ?_, ?_, grown_setCells _ _ (World.grownBy.refl w _)⟩
  · obtain ⟨m, hm⟩ : ∃ m, n - i = m + 1 := ⟨n - i - 1, by omega⟩
    rw [hm] at hst ⊢
    intro ty
    simp [Builtin.clear_, run_underlying ht, hv, hst]
  · have h2 := hown.2
    rw [hl] at h2
    have h3 := ownsRow_setCells (Builtin.zeroCells z.cells (n - i)).toList (i * z.cells.size + 0) h2
    have hle : (xs.take i ++ List.replicate (n - i) z.cells.toList).length = n := by simp; omega
    refine ⟨fun x hx => ?_, ?_⟩
    · rcases List.mem_append.1 hx with h | h
      · exact hall x (List.mem_of_mem_take h)
      · rw [List.eq_of_mem_replicate h]; simp
    · have hadd : i * z.cells.size + (n - i) * z.cells.size = n * z.cells.size := by rw [← Nat.add_mul]; congr 1; omega
      rw [setL_eq _ _ _ (by rw [hlen, hfl]; omega), zeroCells_list _ _ hs] at h3
      have hflat : (xs.take i).flatten = xs.flatten.take (i * z.cells.size) := by
        have h1 : xs.flatten = (xs.take i).flatten ++ (xs.drop i).flatten := by rw [← List.flatten_append, List.take_append_drop]
        have h2 : (xs.take i).flatten.length = i * z.cells.size := by rw [flat_len (fun x hx => hall x (List.mem_of_mem_take hx)), List.length_take]; congr 1; omega
        rw [h1, ← h2, List.take_left']
        rfl
      rw [hle, List.flatten_append, hflat]
      rw [zeroCells_list _ _ hs]
      exact h3
end Go.Proofs.Ythfjbbijcemmoaa
