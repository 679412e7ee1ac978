/- The plain law of slices.Compact; what a sorted list without its repeats comes to. What the library's sort of structs leaves, in the words of rows. -/
import Derived.Test.YtfhandglpjnonaaGreatDoorPl
import Derived.Test.YtfhandglpjnonaaGreatDoorGc
import Derived.Test.YtfhandglpjnonaaGreatDoorN25
import Derived.Shelf.SlSortCmp.WholeK
import Derived.Shelf.SlSortCmp.NoneTotal
namespace Go.Proofs.YtfhandglpjnonaaGreatDoor

/-- Each run of equal names, its first one alone. -/
def compactI : List Im → List Im
  | [] => []
  | [x] => [x]
  | x :: y :: r => if x = y then compactI (y :: r) else x :: compactI (y :: r)
theorem compactI_cons (a : Im) : ∀ (m : List Im) (b : Im), m.head? = some b → compactI (a :: m) = if a = b then compactI m else a :: compactI m
  | [], b, h => by simp at h
  | c :: m, b, h => by simp at h; subst h; rfl
theorem compactI_snoc : ∀ (l : List Im) (y z : Im), compactI (l ++ [y, z]) = if y = z then compactI (l ++ [y]) else compactI (l ++ [y]) ++ [z]
  | [], y, z => by
    by_cases h : y = z
    · subst h; simp [compactI]
    · simp [compactI, h]
  | a :: l, y, z => by
    have ih := compactI_snoc l y z
    obtain ⟨b, hb⟩ : ∃ b, (l ++ [y]).head? = some b := by cases l <;> simp
    have hb2 : (l ++ [y, z]).head? = some b := by cases l <;> simpa using hb
    rw [List.cons_append, List.cons_append, compactI_cons a _ b hb, compactI_cons a _ b hb2, ih]
    by_cases h : y = z <;> by_cases h2 : a = b <;> simp [h, h2]
theorem take_two {l : List Im} {k : Nat} {y z : Im} (hy : l[k]? = some y) (hz : l[k + 1]? = some z) : l.take (k + 2) = l.take k ++ [y, z] ∧ l.take (k + 1) = l.take k ++ [y] := by
  have h1 : l.take (k + 1) = l.take k ++ [y] := by rw [List.take_add_one, hy]; rfl
  refine ⟨?_, h1⟩
  rw [show k + 2 = k + 1 + 1 from rfl, List.take_add_one, hz, h1]; simp
theorem compactI_step {l : List Im} {k : Nat} {y z : Im} (hy : l[k]? = some y) (hz : l[k + 1]? = some z) :
    compactI (l.take (k + 2)) = if y = z then compactI (l.take (k + 1)) else compactI (l.take (k + 1)) ++ [z] := by
  obtain ⟨h1, h2⟩ := take_two hy hz
  rw [h1, h2, compactI_snoc]
theorem compactI_mem : ∀ (l : List Im) (z : Im), z ∈ compactI l ↔ z ∈ l
  | [], z => by simp [compactI]
  | [x], z => by simp [compactI]
  | x :: y :: r, z => by
    have ih := compactI_mem (y :: r) z
    rw [compactI]
    split
    · rename_i h; subst h; rw [ih]; simp
    · rw [List.mem_cons, ih]; simp
theorem compactI_asc : ∀ (l : List Im), l.Pairwise (fun x y => ¬ ltI y x) → asc (compactI l)
  | [], _ => .nil
  | [x], _ => by simp [compactI]
  | x :: y :: r, h => by
    obtain ⟨h1, h2⟩ := List.pairwise_cons.1 h
    have ih := compactI_asc (y :: r) h2
    rw [compactI]
    split
    · exact ih
    · rename_i hne
      refine asc_cons.2 ⟨fun z hz => ?_, ih⟩
      rw [compactI_mem] at hz
      have hxy : ltI x y := by
        rcases Classical.em (ltI x y) with h' | h'
        · exact h'
        · exact absurd (ltI_total hne h') (h1 y (by simp))
      rcases List.mem_cons.1 hz with rfl | hz
      · exact hxy
      · have h3 := (List.pairwise_cons.1 h2).1 z hz
        have h4 := h1 z (by simp [hz])
        rcases Classical.em (x = z) with rfl | hne2
        · exact absurd hxy h3
        · rcases Classical.em (ltI x z) with h' | h'
          · exact h'
          · exact absurd (ltI_total hne2 h') h4
/-- A sorted list without its repeats is the document's set. -/
theorem compactI_make {xs l : List Im} (hs : l.Pairwise (fun x y => ¬ ltI y x)) (hm : ∀ z, z ∈ l ↔ z ∈ xs) : compactI l = makeI xs :=
  (makeI_of (compactI_asc l hs) (fun z => (compactI_mem l z).trans (hm z))).symm
end Go.Proofs.YtfhandglpjnonaaGreatDoor
namespace Go.Proofs.YtfhandglpjnonaaGreatDoor
open Go.RowKit Go.Sort

section
variable {α : Type} [Inhabited α] {enc : α → List Value} {k : Nat}
theorem flatK_list (hk : ∀ x, (enc x).length = k) (hk0 : 0 < k) (ys : List α) : (flatK enc k ys.toArray).toList = (ys.map enc).flatten := by
  apply List.ext_getElem?
  intro t
  by_cases ht : t < ys.length * k
  · have h1 : t / k < ys.length := by rw [Nat.div_lt_iff_lt_mul hk0]; exact ht
    have h2 : t % k < k := Nat.mod_lt _ hk0
    have e : t = t / k * k + t % k := by rw [Nat.mul_comm]; exact (Nat.div_add_mod _ _).symm
    have hx : (enc ys[t / k])[t % k]? = some ((enc ys[t / k])[t % k]'(by rw [hk]; exact h2)) := List.getElem?_eq_getElem _
    have hf := flat_get (xs := ys.map enc) (sz := k) (fun x hx => by obtain ⟨y, _, rfl⟩ := List.mem_map.1 hx; exact hk y) (k := t / k) (x := enc ys[t / k]) (j := t % k) (by rw [List.getElem?_map, List.getElem?_eq_getElem h1]; rfl) hx
    rw [← e] at hf
    rw [hf]
    have hg := get_flatK enc k ys.toArray t (by simpa using ht)
    have hlt : t < (flatK enc k ys.toArray).size := by rw [size_flatK]; simpa using ht
    rw [getElem!_pos _ t hlt] at hg
    rw [Array.getElem?_toList, Array.getElem?_eq_getElem hlt, hg]
    have h3 : ys.toArray[t / k]! = ys[t / k] := by rw [getElem!_pos _ _ (by simpa using h1)]; simp
    rw [h3, getElem!_pos _ _ (by rw [hk]; exact h2)]
  · rw [List.getElem?_eq_none (by rw [Array.length_toList, size_flatK]; simpa using ht), List.getElem?_eq_none (by
      rw [flat_len (sz := k) (fun x hx => by obtain ⟨y, _, rfl⟩ := List.mem_map.1 hx; exact hk y)]; simpa using ht)]
theorem setMany_list : ∀ (vs : List Value) (s : Nat) (F : Array Value), (setMany F s vs).toList = setL F.toList s vs
  | [], _, _ => rfl
  | v :: r, s, F => by rw [setMany, setMany_list r, setL, Array.toList_setIfInBounds]
theorem holdsK_of {w : World} {base g n c : Nat} {e : TypeId} (hk : ∀ x, (enc x).length = k) (hk0 : 0 < k) {xs : List α} (h : Ow w base e k (.slice (some ⟨g, 0, none⟩) n c) (xs.map enc)) (hn : 0 < n) : HoldsK enc k w g 0 xs.toArray := by
  obtain ⟨g', he, _, _, hf, hc⟩ := h.addr hn
  injection he with he
  injection he with he
  subst he
  intro j hj
  have hlt := hj
  rw [size_flatK] at hj
  have hj' : j < xs.length * k := by simpa using hj
  refine ⟨?_, hf _⟩
  have h1 : j / k < xs.length := by rw [Nat.div_lt_iff_lt_mul hk0]; exact hj'
  have h2 : j % k < k := Nat.mod_lt _ hk0
  have e : j / k * k + j % k = j := by rw [Nat.mul_comm]; exact Nat.div_add_mod _ _
  rw [get_flatK enc k xs.toArray j hj]
  have h3 : xs.toArray[j / k]! = xs[j / k] := by rw [getElem!_pos _ _ (by simpa using h1)]; simp
  rw [h3, getElem!_pos _ _ (by rw [hk]; exact h2)]
  have := hc (j / k) (enc xs[j / k]) (by rw [List.getElem?_map, List.getElem?_eq_getElem h1]; rfl) (j % k) _ (List.getElem?_eq_getElem (by rw [hk]; exact h2))
  rw [e] at this
  simpa using this
theorem gr_grow (w : World) (os : Array Obj) (row : Option Nat) : w.grownBy (Sort.grow w os) row :=
  ⟨rfl, rfl, rfl, by simp [Sort.grow], fun k hk _ => by simp [Sort.grow, Array.getElem?_append, hk]⟩
theorem sorted_ow {w : World} {base g n c m : Nat} {e : TypeId} (hk : ∀ x, (enc x).length = k) (hk0 : 0 < k) {xs ys : List α} (h : Ow w base e k (.slice (some ⟨g, 0, none⟩) n c) (xs.map enc)) (hn : 0 < n) (hl : ys.length = n) (os : Array Obj) :
    Ow (sortWorldK enc k w g 0 m ys.toArray os) base e k (.slice (some ⟨g, 0, none⟩) n c) (ys.map enc) ∧ w.grownBy (sortWorldK enc k w g 0 m ys.toArray os) (some g) := by
  have hH := holdsK_of hk hk0 h hn
  have hlx : xs.length = n := by simpa using h.rd.2.1
  have hself : Sort.putRow id w g 0 (flatK enc k xs.toArray) = w := Sort.putRow_self id w g 0 _ hH
  have hput : putRowK enc k w g 0 ys.toArray = w.setCells g 0 ((ys.map enc).flatten) := by
    have h1 := setCells_putRow w g 0 ((ys.map enc).flatten) 0 (flatK enc k xs.toArray) (by
      rw [size_flatK, flat_len (sz := k) (fun x hx => by obtain ⟨y, _, rfl⟩ := List.mem_map.1 hx; exact hk y)]; simp [hl, hlx])
    rw [hself] at h1
    rw [h1]
    unfold putRowK
    congr 1
    apply Array.ext'
    have hlen : 0 + ((ys.map enc).flatten).length = (flatK enc k xs.toArray).toList.length := by
      rw [flatK_list hk hk0, flat_len (sz := k) (fun x hx => by obtain ⟨y, _, rfl⟩ := List.mem_map.1 hx; exact hk y), flat_len (sz := k) (fun x hx => by obtain ⟨y, _, rfl⟩ := List.mem_map.1 hx; exact hk y)]
      simp [hl, hlx]
    rw [setMany_list, setL_eq _ _ _ hlen, flatK_list hk hk0]
    simp
  have ho := h.2
  rw [List.length_map, hlx] at ho
  have ho2 := ownsRow_setCells ((ys.map enc).flatten) 0 ho
  rw [setL_eq _ _ _ (by
    rw [flat_len (sz := k) (fun x hx => by obtain ⟨y, _, rfl⟩ := List.mem_map.1 hx; exact hk y), flat_len (sz := k) (fun x hx => by obtain ⟨y, _, rfl⟩ := List.mem_map.1 hx; exact hk y)]; simp [hl, hlx]), List.take_zero, List.nil_append] at ho2
  have h2 : Ow (w.setCells g 0 ((ys.map enc).flatten)) base e k (.slice (some ⟨g, 0, none⟩) n c) (ys.map enc) :=
    ⟨fun x hx => by obtain ⟨y, _, rfl⟩ := List.mem_map.1 hx; exact hk y, by rw [List.length_map, hl]; exact ho2⟩
  have hg2 : w.grownBy (w.setCells g 0 ((ys.map enc).flatten)) (some g) := grown_setCells _ _ (World.grownBy.refl w _)
  have e1 : putRowK enc k (Sort.ahead w m) g 0 ys.toArray = Sort.ahead (putRowK enc k w g 0 ys.toArray) m := rfl
  have e2 : sortWorldK enc k w g 0 m ys.toArray os = Sort.grow (Sort.ahead (w.setCells g 0 ((ys.map enc).flatten)) m) os := by
    unfold sortWorldK; rw [e1, hput]
  rw [e2]
  have h3 : Ow (Sort.ahead (w.setCells g 0 ((ys.map enc).flatten)) m) base e k (.slice (some ⟨g, 0, none⟩) n c) (ys.map enc) := h2
  have hg3 : w.grownBy (Sort.ahead (w.setCells g 0 ((ys.map enc).flatten)) m) (some g) := ⟨hg2.os, hg2.tape, hg2.output, hg2.size, hg2.block⟩
  exact ⟨h3.kept (gr_grow _ os none) (fun _ _ _ _ _ _ e => by cases e), hg3.trans (gr_grow _ os _)⟩
end
end Go.Proofs.YtfhandglpjnonaaGreatDoor
