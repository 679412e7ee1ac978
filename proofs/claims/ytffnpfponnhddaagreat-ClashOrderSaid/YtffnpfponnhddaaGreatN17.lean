/- The plain law of slices.Compact; what a sorted list without its repeats comes to. What the library's sort of structs leaves, in the words of rows. The library's sort of names: its text is the one that the kit has walked. The library's sort of tags: its text is the one that the kit has walked. The library's Sort and Compact of texts: their text is the one that the kit has walked. slices.Clone at names. slices.Values, AppendSeq, Collect at names. slices.SortFunc and SortedFunc at names. Compact of sets, both: without word of what was taken away within a vector. Rows of additions and of tags beside stores into a set's own box. -/
import Derived.Test.YtffnpfponnhddaaGreatPl
import Derived.Test.YtffnpfponnhddaaGreatGc
import Derived.Test.YtffnpfponnhddaaGreatM3
import Derived.Shelf.SlSortCmp.WholeK
import Derived.Shelf.SlSortCmp.NoneTotal
import Derived.Test.YtffnpfponnhddaaGreatRows
import Derived.Shelf.SlLaysF0
import Derived.Shelf.SlGeneric
import Derived.Shelf.Sort.Plain
import Derived.Shelf.Slices.CompactS
import Derived.Shelf.Slices.In.SortNone
import Derived.Test.YtffnpfponnhddaaGreatN07
import Derived.Lib.SliceRun
import Derived.TacticsInMore
import Derived.LoopNIn
import Derived.LoopIn
import Derived.Shelf.Abstract
import Derived.Test.YtffnpfponnhddaaGreatN15
namespace Go.Proofs.YtffnpfponnhddaaGreat

/-- Each run of equal names, its first one alone. -/
def compactI : List Im → List Im
  | [] => []
  | [x] => [x]
  | x :: y :: r => if x = y then compactI (y :: r) else x :: compactI (y :: r)
theorem compactI_cons (a : Im) : ∀ (m : List Im) (b : Im), m.head? = some b → compactI (a :: m) = if a = b then compactI m else a :: compactI m
  | [], b, h => by simp at h
  | c :: m, b, h => by simp at h; subst h; rfl
theorem compactI_snoc : ∀ (l : List Im) (y z : Im), compactI (l ++ [y, z]) = if y = z then compactI (l ++ [y]) else compactI (l ++ [y]) ++ [z]
  | [], y, z => by
    by_cases h : y = z
    · subst h; simp [compactI]
    · simp [compactI, h]
  | a :: l, y, z => by
    have ih := compactI_snoc l y z
    obtain ⟨b, hb⟩ : ∃ b, (l ++ [y]).head? = some b := by cases l <;> simp
    have hb2 : (l ++ [y, z]).head? = some b := by cases l <;> simpa using hb
    rw [List.cons_append, List.cons_append, compactI_cons a _ b hb, compactI_cons a _ b hb2, ih]
    by_cases h : y = z <;> by_cases h2 : a = b <;> simp [h, h2]
theorem take_two {l : List Im} {k : Nat} {y z : Im} (hy : l[k]? = some y) (hz : l[k + 1]? = some z) : l.take (k + 2) = l.take k ++ [y, z] ∧ l.take (k + 1) = l.take k ++ [y] := by
  have h1 : l.take (k + 1) = l.take k ++ [y] := by rw [List.take_add_one, hy]; rfl
  refine ⟨?_, h1⟩
  rw [show k + 2 = k + 1 + 1 from rfl, List.take_add_one, hz, h1]; simp
theorem compactI_step {l : List Im} {k : Nat} {y z : Im} (hy : l[k]? = some y) (hz : l[k + 1]? = some z) :
    compactI (l.take (k + 2)) = if y = z then compactI (l.take (k + 1)) else compactI (l.take (k + 1)) ++ [z] := by
  obtain ⟨h1, h2⟩ := take_two hy hz
  rw [h1, h2, compactI_snoc]
theorem compactI_mem : ∀ (l : List Im) (z : Im), z ∈ compactI l ↔ z ∈ l
  | [], z => by simp [compactI]
  | [x], z => by simp [compactI]
  | x :: y :: r, z => by
    have ih := compactI_mem (y :: r) z
    rw [compactI]
    split
    · rename_i h; subst h; rw [ih]; simp
    · rw [List.mem_cons, ih]; simp
theorem compactI_asc : ∀ (l : List Im), l.Pairwise (fun x y => ¬ ltI y x) → asc (compactI l)
  | [], _ => .nil
  | [x], _ => by simp [compactI]
  | x :: y :: r, h => by
    obtain ⟨h1, h2⟩ := List.pairwise_cons.1 h
    have ih := compactI_asc (y :: r) h2
    rw [compactI]
    split
    · exact ih
    · rename_i hne
      refine asc_cons.2 ⟨fun z hz => ?_, ih⟩
      rw [compactI_mem] at hz
      have hxy : ltI x y := by
        rcases Classical.em (ltI x y) with h' | h'
        · exact h'
        · exact absurd (ltI_total hne h') (h1 y (by simp))
      rcases List.mem_cons.1 hz with rfl | hz
      · exact hxy
      · have h3 := (List.pairwise_cons.1 h2).1 z hz
        have h4 := h1 z (by simp [hz])
        rcases Classical.em (x = z) with rfl | hne2
        · exact absurd hxy h3
        · rcases Classical.em (ltI x z) with h' | h'
          · exact h'
          · exact absurd (ltI_total hne2 h') h4
/-- A sorted list without its repeats is the document's set. -/
theorem compactI_make {xs l : List Im} (hs : l.Pairwise (fun x y => ¬ ltI y x)) (hm : ∀ z, z ∈ l ↔ z ∈ xs) : compactI l = makeI xs :=
  (makeI_of (compactI_asc l hs) (fun z => (compactI_mem l z).trans (hm z))).symm
end Go.Proofs.YtffnpfponnhddaaGreat
namespace Go.Proofs.YtffnpfponnhddaaGreat
open Go.RowKit Go.Sort

section
variable {α : Type} [Inhabited α] {enc : α → List Value} {k : Nat}
theorem flatK_list (hk : ∀ x, (enc x).length = k) (hk0 : 0 < k) (ys : List α) : (flatK enc k ys.toArray).toList = (ys.map enc).flatten := by
  apply List.ext_getElem?
  intro t
  by_cases ht : t < ys.length * k
  · have h1 : t / k < ys.length := by rw [Nat.div_lt_iff_lt_mul hk0]; exact ht
    have h2 : t % k < k := Nat.mod_lt _ hk0
    have e : t = t / k * k + t % k := by rw [Nat.mul_comm]; exact (Nat.div_add_mod _ _).symm
    have hx : (enc ys[t / k])[t % k]? = some ((enc ys[t / k])[t % k]'(by rw [hk]; exact h2)) := List.getElem?_eq_getElem _
    have hf := flat_get (xs := ys.map enc) (sz := k) (fun x hx => by obtain ⟨y, _, rfl⟩ := List.mem_map.1 hx; exact hk y) (k := t / k) (x := enc ys[t / k]) (j := t % k) (by rw [List.getElem?_map, List.getElem?_eq_getElem h1]; rfl) hx
    rw [← e] at hf
    rw [hf]
    have hg := get_flatK enc k ys.toArray t (by simpa using ht)
    have hlt : t < (flatK enc k ys.toArray).size := by rw [size_flatK]; simpa using ht
    rw [getElem!_pos _ t hlt] at hg
    rw [Array.getElem?_toList, Array.getElem?_eq_getElem hlt, hg]
    have h3 : ys.toArray[t / k]! = ys[t / k] := by rw [getElem!_pos _ _ (by simpa using h1)]; simp
    rw [h3, getElem!_pos _ _ (by rw [hk]; exact h2)]
  · rw [List.getElem?_eq_none (by rw [Array.length_toList, size_flatK]; simpa using ht), List.getElem?_eq_none (by
      rw [flat_len (sz := k) (fun x hx => by obtain ⟨y, _, rfl⟩ := List.mem_map.1 hx; exact hk y)]; simpa using ht)]
theorem setMany_list : ∀ (vs : List Value) (s : Nat) (F : Array Value), (setMany F s vs).toList = setL F.toList s vs
  | [], _, _ => rfl
  | v :: r, s, F => by rw [setMany, setMany_list r, setL, Array.toList_setIfInBounds]
theorem holdsK_of {w : World} {base g n c : Nat} {e : TypeId} (hk : ∀ x, (enc x).length = k) (hk0 : 0 < k) {xs : List α} (h : Ow w base e k (.slice (some ⟨g, 0, none⟩) n c) (xs.map enc)) (hn : 0 < n) : HoldsK enc k w g 0 xs.toArray := by
  obtain ⟨g', he, _, _, hf, hc⟩ := h.addr hn
  injection he with he
  injection he with he
  subst he
  intro j hj
  have hlt := hj
  rw [size_flatK] at hj
  have hj' : j < xs.length * k := by simpa using hj
  refine ⟨?_, hf _⟩
  have h1 : j / k < xs.length := by rw [Nat.div_lt_iff_lt_mul hk0]; exact hj'
  have h2 : j % k < k := Nat.mod_lt _ hk0
  have e : j / k * k + j % k = j := by rw [Nat.mul_comm]; exact Nat.div_add_mod _ _
  rw [get_flatK enc k xs.toArray j hj]
  have h3 : xs.toArray[j / k]! = xs[j / k] := by rw [getElem!_pos _ _ (by simpa using h1)]; simp
  rw [h3, getElem!_pos _ _ (by rw [hk]; exact h2)]
  have := hc (j / k) (enc xs[j / k]) (by rw [List.getElem?_map, List.getElem?_eq_getElem h1]; rfl) (j % k) _ (List.getElem?_eq_getElem (by rw [hk]; exact h2))
  rw [e] at this
  simpa using this
theorem gr_grow (w : World) (os : Array Obj) (row : Option Nat) : w.grownBy (Sort.grow w os) row :=
  ⟨rfl, rfl, rfl, by simp [Sort.grow], fun k hk _ => by simp [Sort.grow, Array.getElem?_append, hk]⟩
theorem sorted_ow {w : World} {base g n c m : Nat} {e : TypeId} (hk : ∀ x, (enc x).length = k) (hk0 : 0 < k) {xs ys : List α} (h : Ow w base e k (.slice (some ⟨g, 0, none⟩) n c) (xs.map enc)) (hn : 0 < n) (hl : ys.length = n) (os : Array Obj) :
    Ow (sortWorldK enc k w g 0 m ys.toArray os) base e k (.slice (some ⟨g, 0, none⟩) n c) (ys.map enc) ∧ w.grownBy (sortWorldK enc k w g 0 m ys.toArray os) (some g) := by
  have hH := holdsK_of hk hk0 h hn
  have hlx : xs.length = n := by simpa using h.rd.2.1
  have hself : Sort.putRow id w g 0 (flatK enc k xs.toArray) = w := Sort.putRow_self id w g 0 _ hH
  have hput : putRowK enc k w g 0 ys.toArray = w.setCells g 0 ((ys.map enc).flatten) := by
    have h1 := setCells_putRow w g 0 ((ys.map enc).flatten) 0 (flatK enc k xs.toArray) (by
      rw [size_flatK, flat_len (sz := k) (fun x hx => by obtain ⟨y, _, rfl⟩ := List.mem_map.1 hx; exact hk y)]; simp [hl, hlx])
    rw [hself] at h1
    rw [h1]
    unfold putRowK
    congr 1
    apply Array.ext'
    have hlen : 0 + ((ys.map enc).flatten).length = (flatK enc k xs.toArray).toList.length := by
      rw [flatK_list hk hk0, flat_len (sz := k) (fun x hx => by obtain ⟨y, _, rfl⟩ := List.mem_map.1 hx; exact hk y), flat_len (sz := k) (fun x hx => by obtain ⟨y, _, rfl⟩ := List.mem_map.1 hx; exact hk y)]
      simp [hl, hlx]
    rw [setMany_list, setL_eq _ _ _ hlen, flatK_list hk hk0]
    simp
  have ho := h.2
  rw [List.length_map, hlx] at ho
  have ho2 := ownsRow_setCells ((ys.map enc).flatten) 0 ho
  rw [setL_eq _ _ _ (by
    rw [flat_len (sz := k) (fun x hx => by obtain ⟨y, _, rfl⟩ := List.mem_map.1 hx; exact hk y), flat_len (sz := k) (fun x hx => by obtain ⟨y, _, rfl⟩ := List.mem_map.1 hx; exact hk y)]; simp [hl, hlx]), List.take_zero, List.nil_append] at ho2
  have h2 : Ow (w.setCells g 0 ((ys.map enc).flatten)) base e k (.slice (some ⟨g, 0, none⟩) n c) (ys.map enc) :=
    ⟨fun x hx => by obtain ⟨y, _, rfl⟩ := List.mem_map.1 hx; exact hk y, by rw [List.length_map, hl]; exact ho2⟩
  have hg2 : w.grownBy (w.setCells g 0 ((ys.map enc).flatten)) (some g) := grown_setCells _ _ (World.grownBy.refl w _)
  have e1 : putRowK enc k (Sort.ahead w m) g 0 ys.toArray = Sort.ahead (putRowK enc k w g 0 ys.toArray) m := rfl
  have e2 : sortWorldK enc k w g 0 m ys.toArray os = Sort.grow (Sort.ahead (w.setCells g 0 ((ys.map enc).flatten)) m) os := by
    unfold sortWorldK; rw [e1, hput]
  rw [e2]
  have h3 : Ow (Sort.ahead (w.setCells g 0 ((ys.map enc).flatten)) m) base e k (.slice (some ⟨g, 0, none⟩) n c) (ys.map enc) := h2
  have hg3 : w.grownBy (Sort.ahead (w.setCells g 0 ((ys.map enc).flatten)) m) (some g) := ⟨hg2.os, hg2.tape, hg2.output, hg2.size, hg2.block⟩
  exact ⟨h3.kept (gr_grow _ os none) (fun _ _ _ _ _ _ e => by cases e), hg3.trans (gr_grow _ os _)⟩
end
end Go.Proofs.YtffnpfponnhddaaGreat
namespace Go.Proofs.YtffnpfponnhddaaGreat
open Go.Shelf

end Go.Proofs.YtffnpfponnhddaaGreat
namespace Go.Proofs.YtffnpfponnhddaaGreat
open Go.Shelf

def sortTg_ren : Go.Shelf.Ren := ⟨fun | 6 => 74 | 15 => 93 | 14 => 110 | 28 => 124 | 29 => 125 | 20 => 138 | 21 => 139 | 22 => 140 | 23 => 141 | 24 => 142 | 25 => 143 | 26 => 144 | 27 => 145 | 46 => 157 | 47 => 148 | 48 => 149 | 49 => 158 | 50 => 159 | 57 => 163 | n => n, fun | 22 => 30 | 24 => 45 | 25 => 153 | 3 => 3 | 39 => 183 | 0 => 0 | 53 => 22 | 55 => 215 | 4 => 4 | 46 => 207 | 45 => 206 | 50 => 162 | 5 => 5 | 9 => 9 | 66 => 230 | 70 => 234 | 76 => 243 | 77 => 244 | n => n, fun | n => n⟩
theorem sortTg : Go.Proofs.SlLaysF0.n6 Tryz.prog sortTg_ren := {
  mixed := by kernel_rfl
  f6 := ⟨Tryz.f74.name, by decide, Tryz.func74.trans (congrArg some (by kernel_rfl))⟩
  f14 := ⟨Tryz.f110.name, by decide, Tryz.func110.trans (congrArg some (by kernel_rfl))⟩
  f15 := Tryz.func93.trans (congrArg some (by kernel_rfl))
  f20 := ⟨Tryz.f138.name, by decide, Tryz.func138.trans (congrArg some (by kernel_rfl))⟩
  f21 := ⟨Tryz.f139.name, by decide, Tryz.func139.trans (congrArg some (by kernel_rfl))⟩
  f22 := ⟨Tryz.f140.name, by decide, Tryz.func140.trans (congrArg some (by kernel_rfl))⟩
  f23 := ⟨Tryz.f141.name, by decide, Tryz.func141.trans (congrArg some (by kernel_rfl))⟩
  f24 := ⟨Tryz.f142.name, by decide, Tryz.func142.trans (congrArg some (by kernel_rfl))⟩
  f25 := ⟨Tryz.f143.name, by decide, Tryz.func143.trans (congrArg some (by kernel_rfl))⟩
  f26 := ⟨Tryz.f144.name, by decide, Tryz.func144.trans (congrArg some (by kernel_rfl))⟩
  f27 := ⟨Tryz.f145.name, by decide, Tryz.func145.trans (congrArg some (by kernel_rfl))⟩
  f28 := Tryz.func124.trans (congrArg some (by kernel_rfl))
  f29 := Tryz.func125.trans (congrArg some (by kernel_rfl))
  f46 := ⟨Tryz.f157.name, by decide, Tryz.func157.trans (congrArg some (by kernel_rfl))⟩
  f47 := Tryz.func148.trans (congrArg some (by kernel_rfl))
  f48 := Tryz.func149.trans (congrArg some (by kernel_rfl))
  f49 := ⟨Tryz.f158.name, by decide, Tryz.func158.trans (congrArg some (by kernel_rfl))⟩
  f50 := ⟨Tryz.f159.name, by decide, Tryz.func159.trans (congrArg some (by kernel_rfl))⟩
  f57 := ⟨Tryz.f163.name, by decide, Tryz.func163.trans (congrArg some (by kernel_rfl))⟩
  t0 := Tryz.underlying0
  a0 := Tryz.isAgg0
  z0 := Tryz.sizeOf0
  v0 := Tryz.zeroValue0
  t3 := Tryz.underlying3
  a3 := Tryz.isAgg3
  z3 := Tryz.sizeOf3
  v3 := Tryz.zeroValue3
  t4 := Tryz.underlying4
  a4 := Tryz.isAgg4
  z4 := Tryz.sizeOf4
  v4 := Tryz.zeroValue4
  t5 := Tryz.underlying5
  a5 := Tryz.isAgg5
  z5 := Tryz.sizeOf5
  v5 := Tryz.zeroValue5
  t9 := Tryz.underlying9
  a9 := Tryz.isAgg9
  z9 := Tryz.sizeOf9
  v9 := Tryz.zeroValue9
  t22 := Tryz.underlying30
  a22 := Tryz.isAgg30
  z22 := Tryz.sizeOf30
  v22 := Tryz.zeroValue30
  t25 := Tryz.underlying153
  a25 := Tryz.isAgg153
  z25 := Tryz.sizeOf153
  v25 := Tryz.zeroValue153
  t39 := Tryz.underlying183
  a39 := Tryz.isAgg183
  z39 := Tryz.sizeOf183
  v39 := Tryz.zeroValue183
  t45 := Tryz.underlying206
  a45 := Tryz.isAgg206
  z45 := Tryz.sizeOf206
  v45 := Tryz.zeroValue206
  t46 := Tryz.underlying207
  a46 := Tryz.isAgg207
  z46 := Tryz.sizeOf207
  v46 := Tryz.zeroValue207
  t50 := Tryz.underlying162
  a50 := Tryz.isAgg162
  z50 := Tryz.sizeOf162
  v50 := Tryz.zeroValue162
  t53 := Tryz.underlying22
  a53 := Tryz.isAgg22
  z53 := Tryz.sizeOf22
  v53 := Tryz.zeroValue22
  t55 := Tryz.underlying215
  a55 := Tryz.isAgg215
  z55 := Tryz.sizeOf215
  v55 := Tryz.zeroValue215
  t66 := Tryz.underlying230
  a66 := Tryz.isAgg230
  z66 := Tryz.sizeOf230
  v66 := Tryz.zeroValue230
  t70 := Tryz.underlying234
  a70 := Tryz.isAgg234
  z70 := Tryz.sizeOf234
  v70 := Tryz.zeroValue234
  t76 := Tryz.underlying243
  a76 := Tryz.isAgg243
  z76 := Tryz.sizeOf243
  v76 := Tryz.zeroValue243
  t77 := Tryz.underlying244
  a77 := Tryz.isAgg244
  z77 := Tryz.sizeOf244
  v77 := Tryz.zeroValue244 }
end Go.Proofs.YtffnpfponnhddaaGreat
namespace Go.Proofs.YtffnpfponnhddaaGreat
open Go.Shelf Go.Sort Go.RowKit Go.Lib

def sh_lays190_ren : Go.Shelf.Ren := ⟨fun | 190 => 46 | 125 => 93 | 258 => 92 | 128 => 124 | 129 => 125 | 302 => 115 | 303 => 116 | 304 => 117 | 305 => 118 | 306 => 119 | 307 => 120 | 308 => 121 | 309 => 122 | 310 => 123 | 333 => 147 | 329 => 148 | 330 => 149 | 334 => 150 | 335 => 151 | 336 => 98 | 344 => 161 | n => n, fun | 31 => 102 | 9 => 9 | 3 => 3 | 46 => 183 | 0 => 0 | 51 => 22 | 53 => 215 | 4 => 4 | 183 => 207 | 182 => 206 | 131 => 162 | 5 => 5 | 218 => 230 | 222 => 234 | 228 => 243 | 229 => 244 | n => n, fun | n => n⟩
theorem sh_lays190 : Go.Proofs.Lays.n190 Tryz.prog sh_lays190_ren := {
  mixed := by kernel_rfl
  f125 := Tryz.func93.trans (congrArg some (by kernel_rfl))
  f128 := Tryz.func124.trans (congrArg some (by kernel_rfl))
  f129 := Tryz.func125.trans (congrArg some (by kernel_rfl))
  f190 := Tryz.func46.trans (congrArg some (by kernel_rfl))
  f258 := Tryz.func92.trans (congrArg some (by kernel_rfl))
  f302 := Tryz.func115.trans (congrArg some (by kernel_rfl))
  f303 := Tryz.func116.trans (congrArg some (by kernel_rfl))
  f304 := Tryz.func117.trans (congrArg some (by kernel_rfl))
  f305 := Tryz.func118.trans (congrArg some (by kernel_rfl))
  f306 := Tryz.func119.trans (congrArg some (by kernel_rfl))
  f307 := Tryz.func120.trans (congrArg some (by kernel_rfl))
  f308 := Tryz.func121.trans (congrArg some (by kernel_rfl))
  f309 := Tryz.func122.trans (congrArg some (by kernel_rfl))
  f310 := Tryz.func123.trans (congrArg some (by kernel_rfl))
  f329 := Tryz.func148.trans (congrArg some (by kernel_rfl))
  f330 := Tryz.func149.trans (congrArg some (by kernel_rfl))
  f333 := Tryz.func147.trans (congrArg some (by kernel_rfl))
  f334 := Tryz.func150.trans (congrArg some (by kernel_rfl))
  f335 := Tryz.func151.trans (congrArg some (by kernel_rfl))
  f336 := Tryz.func98.trans (congrArg some (by kernel_rfl))
  f344 := Tryz.func161.trans (congrArg some (by kernel_rfl))
  t0 := Tryz.underlying0
  a0 := Tryz.isAgg0
  z0 := Tryz.sizeOf0
  v0 := Tryz.zeroValue0
  t3 := Tryz.underlying3
  a3 := Tryz.isAgg3
  z3 := Tryz.sizeOf3
  v3 := Tryz.zeroValue3
  t4 := Tryz.underlying4
  a4 := Tryz.isAgg4
  z4 := Tryz.sizeOf4
  v4 := Tryz.zeroValue4
  t5 := Tryz.underlying5
  a5 := Tryz.isAgg5
  z5 := Tryz.sizeOf5
  v5 := Tryz.zeroValue5
  t9 := Tryz.underlying9
  a9 := Tryz.isAgg9
  z9 := Tryz.sizeOf9
  v9 := Tryz.zeroValue9
  t31 := Tryz.underlying102
  a31 := Tryz.isAgg102
  z31 := Tryz.sizeOf102
  v31 := Tryz.zeroValue102
  t46 := Tryz.underlying183
  a46 := Tryz.isAgg183
  z46 := Tryz.sizeOf183
  v46 := Tryz.zeroValue183
  t51 := Tryz.underlying22
  a51 := Tryz.isAgg22
  z51 := Tryz.sizeOf22
  v51 := Tryz.zeroValue22
  t53 := Tryz.underlying215
  a53 := Tryz.isAgg215
  z53 := Tryz.sizeOf215
  v53 := Tryz.zeroValue215
  t131 := Tryz.underlying162
  a131 := Tryz.isAgg162
  z131 := Tryz.sizeOf162
  v131 := Tryz.zeroValue162
  t182 := Tryz.underlying206
  a182 := Tryz.isAgg206
  z182 := Tryz.sizeOf206
  v182 := Tryz.zeroValue206
  t183 := Tryz.underlying207
  a183 := Tryz.isAgg207
  z183 := Tryz.sizeOf207
  v183 := Tryz.zeroValue207
  t218 := Tryz.underlying230
  a218 := Tryz.isAgg230
  z218 := Tryz.sizeOf230
  v218 := Tryz.zeroValue230
  t222 := Tryz.underlying234
  a222 := Tryz.isAgg234
  z222 := Tryz.sizeOf234
  v222 := Tryz.zeroValue234
  t228 := Tryz.underlying243
  a228 := Tryz.isAgg243
  z228 := Tryz.sizeOf243
  v228 := Tryz.zeroValue243
  t229 := Tryz.underlying244
  a229 := Tryz.isAgg244
  z229 := Tryz.sizeOf244
  v229 := Tryz.zeroValue244 }
theorem shSortS (blk off cap : Nat) (ss : List (List UInt8)) (w : World) (hH : Holds encStr w blk off ss.toArray) (hblk : blk < w.heap.size) (hsz : ss.length < 4611686018427387904) :
    Calls Tryz.prog 46 #[.slice (some ⟨blk, off, none⟩) ss.length cap] w fun e w' =>
      e = .returned (.tuple #[]) ∧ ∃ n os, w' = grow (putRow encStr (Sort.ahead w n) blk off (ss.mergeSort fun x y => decide (x ≤ y)).toArray) os := Any.slices_Sort_string sh_lays190 blk off cap ss w hH hblk hsz
def sh_lays194_ren : Go.Shelf.Ren := ⟨fun | 194 => 47 | n => n, fun | 31 => 102 | 9 => 9 | 3 => 3 | 4 => 4 | 0 => 0 | n => n, fun | n => n⟩
theorem sh_lays194 : Go.Proofs.Lays.n194 Tryz.prog sh_lays194_ren := {
  mixed := by kernel_rfl
  f194 := Tryz.func47.trans (congrArg some (by kernel_rfl))
  t0 := Tryz.underlying0
  a0 := Tryz.isAgg0
  z0 := Tryz.sizeOf0
  v0 := Tryz.zeroValue0
  t3 := Tryz.underlying3
  a3 := Tryz.isAgg3
  z3 := Tryz.sizeOf3
  v3 := Tryz.zeroValue3
  t4 := Tryz.underlying4
  a4 := Tryz.isAgg4
  z4 := Tryz.sizeOf4
  v4 := Tryz.zeroValue4
  t9 := Tryz.underlying9
  a9 := Tryz.isAgg9
  z9 := Tryz.sizeOf9
  v9 := Tryz.zeroValue9
  t31 := Tryz.underlying102
  a31 := Tryz.isAgg102
  z31 := Tryz.sizeOf102
  v31 := Tryz.zeroValue102 }
theorem shCompS (blk off cap : Nat) (zs : List (List UInt8)) (w : World) (hH : Holds encStr w blk off zs.toArray) (hsz : zs.length ≤ 9223372036854775807) (hcap : zs.length ≤ cap) :
    Calls Tryz.prog 47 #[.slice (some ⟨blk, off, none⟩) zs.length cap] w fun e w' => e = .returned (.slice (some ⟨blk, off, none⟩) (Lib.compact zs).length cap) ∧ ∃ q, w' = putRow encStr (Sort.ahead w q) blk off (Lib.compact zs ++ List.replicate (zs.length - (Lib.compact zs).length) []).toArray := Any.slices_Compact_string sh_lays194 blk off cap zs w hH hsz hcap
theorem shCompS0 (a : Option Addr) (cap : Nat) (w : World) :
    Calls Tryz.prog 47 #[.slice a 0 cap] w fun e w' => e = .returned (.slice a 0 cap) ∧ w' = w := Any.slices_Compact_string_empty sh_lays194 a cap w
theorem shSortS0 (p : Option Addr) (cap : Nat) (w : World) :
    Calls Tryz.prog 46 #[.slice p 0 cap] w fun e w' => e = .returned (.tuple #[]) ∧ w' = w := Any.slices_Sort_string_none sh_lays190 p cap w
end Go.Proofs.YtffnpfponnhddaaGreat
namespace Go.Proofs.YtffnpfponnhddaaGreat
open Go.RowKit

theorem RdI.kp {N B n0 n : Nat} {w w' : World} {A : Option Addr} {xs : List Im} (h : RdI w n0 A n xs) (hk : KpB N B w w') (h1 : n0 ≤ N) (h2 : n0 ≤ B) : RdI w' n0 A n xs :=
  Rd.keep h fun b o hb => World.cell?_of_block (a := ⟨b, o, none⟩) (hk.block b (by omega) (by omega))
end Go.Proofs.YtffnpfponnhddaaGreat
namespace Go.Proofs.YtffnpfponnhddaaGreat
open Go.RowKit

attribute [local go_sem] Oper.semAt_some

end Go.Proofs.YtffnpfponnhddaaGreat
namespace Go.Proofs.YtffnpfponnhddaaGreat
open Go.RowKit

set_option maxRecDepth 100000 in
theorem cmp_lays (x y : Im) (w : World) :
    Calls Tryz.prog 103 #[.agg #[.int .i64 x.1, .int .u32 x.2], .agg #[.int .i64 y.1, .int .u32 y.2]] w fun e w' => e = .returned (.int .i64 (cmpI x y)) ∧ ∃ q os, w' = Sort.grow (w.drewN q) os := by
  generalize hr : cmpI x y = r
  rw [cmpI_ord] at hr
  have hc1 := ccmp_any x.1 y.1
  have hc2 := ccmpu_any x.2 y.2
  have ho := or_any
  generalize ordI x.1 y.1 = p at *
  generalize ordI x.2 y.2 = q at *
  have hc1 := Lib.hid hc1
  have hc2 := Lib.hid hc2
  have ho := Lib.hid (fun g w h0 h1 h2 => hr ▸ ho g p q w h0 h1 h2)
  clear hr
  go_enter Tryz.func103, Tryz.ntmps103
  go_wp2
  go_region_held3 (fun w' => KQ (w.heap.size + 2) ((w.alloc (.cells #[.int .i64 x.1, .int .u32 x.2] 43)).alloc (.cells #[.int .i64 y.1, .int .u32 y.2] 43)) w') (first
      | with_reducible exact kq_call (by assumption) (by simp) (by assumption)
      | with_reducible exact kq_grown (by assumption) (by simp) (by assumption) (by simp [Value.ownBlock])
      | ((with_reducible refine kq ?_); (repeat (first | (with_reducible exact Below.refl _ _) | (with_reducible refine Below.drew ?_) | (with_reducible refine Below.alloc ?_ (by simp) _) | (with_reducible refine Below.setCell ?_ (by simp) _) | (with_reducible exact (by assumption : KQ _ _ _).1))); done))
    (first
      | (go_at_call 104; refine (hc1.out _).mono ?_; rintro e w1 ⟨rfl, rfl⟩)
      | (go_at_call 126; refine (hc2.out _).mono ?_; rintro e w1 ⟨rfl, rfl⟩)
      | (go_at_call 95; refine (ho.out _ _ (by simp) (blk_cell (heap_drew (heap_at _ _ (by simp))) 0) (blk_cell (heap_drew (heap_at _ _ (by simp))) 1)).mono ?_; rintro e w1 ⟨rfl, rfl⟩))
  go_wp2
  go_ret
  refine ⟨rfl, 1, #[.cells #[.int .i64 x.1, .int .u32 x.2] 43, .cells #[.int .i64 y.1, .int .u32 y.2] 43, .cells #[.int .i64 p, .int .i64 q] 3], ?_⟩
  rw [Sort.alloc_eq_grow, Sort.alloc_eq_grow, Sort.alloc_eq_grow, Sort.grow_grow, Sort.grow_grow, Sort.drew_grow]
  rfl
theorem ltOf_cmp (x y : Im) : ltOf cmpI x y = decide (cmpI x y < 0) := rfl
theorem swo_cmp : Sort.SWO (ltOf cmpI) where
  irrefl x := by rw [ltOf_cmp, decide_eq_false_iff_not]; exact ltI_irrefl x
  trans x y z h1 h2 := by
    rw [ltOf_cmp, decide_eq_true_eq] at *
    exact ltI_trans h1 h2
  ntrans x y z h1 h2 := by
    rw [ltOf_cmp, decide_eq_false_iff_not] at *
    intro h
    rcases Classical.em (x = y) with rfl | hne
    · exact h2 h
    · have h3 := ltI_total hne h1
      exact h2 (ltI_trans h3 h)
theorem cmp_hands (g n : Nat) (w : World) : CmpLays Tryz.prog 103 #[] Im.enc 2 cmpI g 0 n w := by
  intro m os dk _ x y
  exact cmp_lays x y _

end Go.Proofs.YtffnpfponnhddaaGreat
namespace Go.Proofs.YtffnpfponnhddaaGreat
open Go.RowKit

/-- What a function leaves that gives a set and what is wrong. -/
def PostO (w : World) (X : List Am × List Tm) (er : Int) (e : Ending) (w' : World) : Prop :=
  ∃ A n c B m d, e = .returned (.tuple #[.agg #[.slice A n c, .slice B m d], .int .i64 er]) ∧ RdA w' w'.heap.size A n X.1 ∧ RdT w' w'.heap.size B m X.2 ∧ n ≤ 5000 ∧ m ≤ 9000 ∧ n ≤ c ∧ c ≤ maxLen ∧ m ≤ d ∧ d ≤ maxLen ∧ Below w.heap.size w w'
theorem PostO.nil_ {w w' : World} {er : Int} (hb : Below w.heap.size w w') : PostO w ([], []) er (.returned (.tuple #[.agg #[.slice none 0 0, .slice none 0 0], .int .i64 er])) w' :=
  ⟨none, 0, 0, none, 0, 0, rfl, ⟨rfl, fun h => absurd h (by decide)⟩, ⟨rfl, fun h => absurd h (by decide)⟩, by omega, by omega, by omega, by simp [maxLen], by omega, by simp [maxLen], hb⟩
def compO (xs : List Am) (gs : List Tm) (v : Vm) : List Am × List Tm := if oErr xs gs ≠ 0 then ([], []) else (xs, gs.filter fun t => !hasV v t.1)
end Go.Proofs.YtffnpfponnhddaaGreat
namespace Go.Proofs.YtffnpfponnhddaaGreat
open Go.RowKit

theorem RdA.set_other {w : World} {B n g : Nat} {A : Option Addr} {xs : List Am} {t : TypeId} {a b : Option Addr} {p q r s : Nat} (h : RdA w B A n xs) (hg : w.heap[g]? = some (.cells #[.slice a p q, .slice b r s] t (0, 0))) (i : Nat) (u : Value) : RdA (w.setCell ⟨g, i, none⟩ u) B A n xs :=
  ⟨h.1, fun hn => by
    obtain ⟨b', o, e, hb, hc⟩ := h.2 hn
    refine ⟨b', o, e, hb, fun k x hx j v hv => ?_⟩
    have hne : b' ≠ g := by
      rintro rfl
      have hl := h.1
      obtain ⟨x0, hx0⟩ : ∃ x0, (xs.map Am.enc)[0]? = some x0 := ⟨_, List.getElem?_eq_getElem (by omega)⟩
      rw [List.getElem?_map] at hx0
      obtain ⟨y, hy, rfl⟩ := Option.map_eq_some_iff.1 hx0
      have h0 := hc 0 (Am.enc y) (by rw [List.getElem?_map, hy]; rfl) 0 _ rfl
      rw [blk_cell hg] at h0
      rcases Nat.lt_or_ge (o + 0 * 4 + 0) 2 with h2 | h2
      · have h3 : o = 0 ∨ o = 1 := by omega
        rcases h3 with rfl | rfl <;> simp at h0
      · rw [Array.getElem?_eq_none (by simpa using h2)] at h0; cases h0
    have h9 := hc k x hx j v hv
    refine (World.cell?_setCell_other _ ⟨g, i, none⟩ _ u (fun e => hne (congrArg Addr.block e).symm)).trans ?_
    exact h9⟩
theorem Ow.rdA {w : World} {base n c : Nat} {e : TypeId} {A : Option Addr} {xs : List Am} (h : Ow w base e 4 (.slice A n c) (xs.map Am.enc)) : RdA w w.heap.size A n xs := h.rd.1
theorem Ow.rdT {w : World} {base n c : Nat} {e : TypeId} {A : Option Addr} {xs : List Tm} (h : Ow w base e 3 (.slice A n c) (xs.map Tm.enc)) : RdT w w.heap.size A n xs := h.rd.1
theorem RdT.set_other {w : World} {B n g : Nat} {A : Option Addr} {xs : List Tm} {t : TypeId} {a b : Option Addr} {p q r s : Nat} (h : RdT w B A n xs) (hg : w.heap[g]? = some (.cells #[.slice a p q, .slice b r s] t (0, 0))) (i : Nat) (u : Value) : RdT (w.setCell ⟨g, i, none⟩ u) B A n xs :=
  ⟨h.1, fun hn => by
    obtain ⟨b', o, e, hb, hc⟩ := h.2 hn
    refine ⟨b', o, e, hb, fun k x hx j v hv => ?_⟩
    have hne : b' ≠ g := by
      rintro rfl
      have hl := h.1
      obtain ⟨x0, hx0⟩ : ∃ x0, (xs.map Tm.enc)[0]? = some x0 := ⟨_, List.getElem?_eq_getElem (by omega)⟩
      rw [List.getElem?_map] at hx0
      obtain ⟨y, hy, rfl⟩ := Option.map_eq_some_iff.1 hx0
      have h0 := hc 0 (Tm.enc y) (by rw [List.getElem?_map, hy]; rfl) 0 _ rfl
      rw [blk_cell hg] at h0
      rcases Nat.lt_or_ge (o + 0 * 3 + 0) 2 with h2 | h2
      · have h3 : o = 0 ∨ o = 1 := by omega
        rcases h3 with rfl | rfl <;> simp at h0
      · rw [Array.getElem?_eq_none (by simpa using h2)] at h0; cases h0
    have h9 := hc k x hx j v hv
    refine (World.cell?_setCell_other _ ⟨g, i, none⟩ _ u (fun e => hne (congrArg Addr.block e).symm)).trans ?_
    exact h9⟩
theorem Ow.ne_blk {w : World} {base g sz : Nat} {e t : TypeId} {v : Value} {xs : List (List Value)} {cs : Array Value} (h : Ow w base e sz v xs) (hg : w.heap[g]? = some (.cells cs t (0, 0))) (hne : e ≠ t) : v.ownBlock ≠ some g := by
  rcases h.2.2 with ⟨rfl, _⟩ | ⟨g', cap, cur, rfl, _, hh, _⟩
  · simp [Value.ownBlock]
  · intro e1
    injection e1 with e1
    dsimp only at e1
    subst e1
    rw [hh] at hg
    injection hg with hg
    injection hg with _ h2
    exact hne h2
end Go.Proofs.YtffnpfponnhddaaGreat
