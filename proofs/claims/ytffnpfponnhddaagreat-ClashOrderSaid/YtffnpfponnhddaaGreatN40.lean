/- The document's Get of maps. Plain words on lists of texts: in order, without repeats (no program in sight). Lists of texts: the library's Sort and Compact in the words of rows. Elems of sets, both: all elements, in order, each once. The document's Elems of sets. -/
import Derived.Test.YtffnpfponnhddaaGreatM19
import Derived.Test.YtffnpfponnhddaaGreatM1
import Derived.Lib.SlicesCompact
import Derived.Test.YtffnpfponnhddaaGreatN17
import Derived.Test.YtffnpfponnhddaaGreatN05
import Derived.Test.YtffnpfponnhddaaGreatN15
namespace Go.Proofs.YtffnpfponnhddaaGreat
open Go.RowKit

def zeroP : Pm := (((0, 0), 0), ([], (0, (0, 0))))
/-- What the document has found in the first puts. -/
def accD (xs : List Pm) (f : List UInt8) (k : Nat) : Option Pm := ((xs.take k).filter fun p => decide (p.2.1 = f)).foldl stepD none
theorem accD_in {xs : List Pm} {f : List UInt8} {k : Nat} {u : Pm} (hu : xs[k]? = some u) (hf : u.2.1 = f) : accD xs f (k + 1) = stepD (accD xs f k) u := by
  unfold accD
  rw [filter_takeG hu, if_pos (by simpa using hf), List.foldl_append]; rfl
theorem accD_out {xs : List Pm} {f : List UInt8} {k : Nat} {u : Pm} (hu : xs[k]? = some u) (hf : ¬ u.2.1 = f) : accD xs f (k + 1) = accD xs f k := by
  unfold accD
  rw [filter_takeG hu, if_neg (by simpa using hf), List.append_nil]
theorem getM_acc {xs : List Pm} {gs : List Tm} {f : List UInt8} {n : Nat} (h : mErr xs gs = 0) (hn : xs.length = n) : getM xs gs f = ((accD xs f n).getD zeroP |>.2.2.1, (accD xs f n).isSome) := by
  obtain ⟨_, _, _, _, hasc, _, _⟩ := sErr_zero.1 h
  have h1 : maxL (ofM xs gs f) = accD xs f n := by
    unfold ofM accD
    rw [if_neg (by rw [h]; simp), List.take_of_length_le (by omega)]
    exact maxL_D (ascK_filter _ hasc)
  unfold getM
  rw [h1]
  cases accD xs f n <;> rfl
end Go.Proofs.YtffnpfponnhddaaGreat
namespace Go.Proofs.YtffnpfponnhddaaGreat
open Go.Sort

theorem leS_trans {x y z : List UInt8} (h : x ≤ y) (h2 : y ≤ z) : x ≤ z := List.le_trans h h2
theorem ltS_of {x y : List UInt8} (h : x ≤ y) (hne : x ≠ y) : x < y := by
  rcases Classical.em (x < y) with h1 | h1
  · exact h1
  · exact absurd (List.le_antisymm h (List.not_lt.1 h1)) hne
theorem ltS_le {x y : List UInt8} (h : x < y) : x ≤ y := List.le_of_lt h
theorem ltS_irrefl (x : List UInt8) : ¬ x < x := List.lt_irrefl x
theorem ltS_trans {x y z : List UInt8} (h : x < y) (h2 : y < z) : x < z := List.lt_trans h h2
theorem ltS_total {x y : List UInt8} (hne : x ≠ y) (h : ¬ x < y) : y < x := ltS_of (List.not_lt.1 h) (Ne.symm hne)
/-- A list of texts, in order. -/
def sortS (xs : List (List UInt8)) : List (List UInt8) := xs.mergeSort fun x y => decide (x ≤ y)
theorem sortS_len (xs : List (List UInt8)) : (sortS xs).length = xs.length := List.length_mergeSort xs
theorem sortS_mem (xs : List (List UInt8)) (z : List UInt8) : z ∈ sortS xs ↔ z ∈ xs := List.mem_mergeSort
theorem sortS_asc (xs : List (List UInt8)) : (sortS xs).Pairwise (fun x y => x ≤ y) := by
  have := List.pairwise_mergeSort (le := fun (x y : List UInt8) => decide (x ≤ y)) (fun a b c h1 h2 => by simp at *; exact leS_trans h1 h2) (fun a b => by rcases List.le_total a b with h | h <;> simp [h]) xs
  exact this.imp (fun h => by simpa using h)
theorem compS_le (xs : List (List UInt8)) : (Lib.compact xs).length ≤ xs.length := by
  unfold Lib.compact Lib.compactUpTo
  rw [List.length_map]
  exact Nat.le_trans (List.length_filter_le _ _) (by simp)
theorem compU_mem (d : Array (List UInt8)) (z : List UInt8) : ∀ m, z ∈ Lib.compactUpTo d m ↔ ∃ j, j < m ∧ d[j]! = z
  | 0 => by simp [Lib.compactUpTo]
  | m + 1 => by
    rw [Lib.compactUpTo_succ, List.mem_append, compU_mem d z m]
    constructor
    · rintro (⟨j, hj, h⟩ | h)
      · exact ⟨j, by omega, h⟩
      · split at h
        · exact ⟨m, by omega, (List.mem_singleton.1 h).symm⟩
        · cases h
    · rintro ⟨j, hj, h⟩
      by_cases hjm : j < m
      · exact .inl ⟨j, hjm, h⟩
      · obtain rfl : j = m := by omega
        by_cases hk : Lib.keeps d j = true
        · exact .inr (by rw [if_pos hk]; simp [h])
        · have hk' : ¬ (j = 0 ∨ d[j]! ≠ d[j - 1]!) := by
            intro hh; exact hk (by unfold Lib.keeps; exact decide_eq_true hh)
          have h0 : j ≠ 0 := fun e => hk' (.inl e)
          have h1 : d[j]! = d[j - 1]! := Classical.not_not.1 (fun e => hk' (.inr e))
          exact .inl ⟨j - 1, by omega, by rw [← h1]; exact h⟩
theorem compS_mem (xs : List (List UInt8)) (z : List UInt8) : z ∈ Lib.compact xs ↔ z ∈ xs := by
  unfold Lib.compact
  rw [compU_mem]
  constructor
  · rintro ⟨j, hj, h⟩
    rw [← h, getElem!_pos _ _ (by simpa using hj)]
    simp
  · intro h
    obtain ⟨j, hj⟩ := List.mem_iff_getElem?.1 h
    obtain ⟨hl, he⟩ := List.getElem?_eq_some_iff.1 hj
    exact ⟨j, hl, by rw [getElem!_pos _ _ (by simpa using hl)]; simpa using he⟩
/-- Texts that rise strictly. -/
abbrev ascS (l : List (List UInt8)) : Prop := l.Pairwise (fun x y => x < y)
theorem compS_asc {xs : List (List UInt8)} (h : xs.Pairwise (fun x y => x ≤ y)) : ascS (Lib.compact xs) := by
  have hle : ∀ i j, i ≤ j → j < xs.length → xs.toArray[i]! ≤ xs.toArray[j]! := by
    intro i j hij hj
    rw [getElem!_pos _ i (by simp; omega), getElem!_pos _ j (by simpa using hj)]
    rcases Nat.lt_or_eq_of_le hij with h1 | h1
    · simpa using (List.pairwise_iff_getElem.1 h) i j (by omega) hj h1
    · subst h1; exact List.le_refl _
  unfold Lib.compact Lib.compactUpTo ascS
  rw [List.pairwise_map]
  have hr : (List.range xs.length).Pairwise (fun i j => i < j ∧ j < xs.length) := by
    rw [List.pairwise_iff_getElem]
    intro i j hi hj hij
    simp at hi hj ⊢
    omega
  refine (hr.sublist (List.filter_sublist (p := Lib.keeps xs.toArray))).imp_of_mem ?_
  intro i j hi hj ⟨hij, hjl⟩
  have hk := (List.mem_filter.1 hj).2
  unfold Lib.keeps at hk
  rw [decide_eq_true_eq] at hk
  have h1 : xs.toArray[j]! ≠ xs.toArray[j - 1]! := hk.resolve_left (by omega)
  have h2 := hle i (j - 1) (by omega) (by omega)
  have h3 := ltS_of (hle (j - 1) j (by omega) hjl) (Ne.symm h1)
  rcases Classical.em (xs.toArray[i]! = xs.toArray[j - 1]!) with e | e
  · rw [e]; exact h3
  · exact ltS_trans (ltS_of h2 e) h3
theorem ascS_ext : ∀ {xs ys : List (List UInt8)}, ascS xs → ascS ys → (∀ x, x ∈ xs ↔ x ∈ ys) → xs = ys
  | [], ys, _, _, h => by
    cases ys with
    | nil => rfl
    | cons y ys => have := (h y).2 (by simp); simp at this
  | x :: xs, [], _, _, h => by have := (h x).1 (by simp); simp at this
  | x :: xs, y :: ys, hx, hy, h => by
    obtain ⟨hx1, hx2⟩ := List.pairwise_cons.1 hx
    obtain ⟨hy1, hy2⟩ := List.pairwise_cons.1 hy
    have e : x = y := by
      rcases List.mem_cons.1 ((h x).1 (by simp)) with e | h1
      · exact e
      · rcases List.mem_cons.1 ((h y).2 (by simp)) with e | h2
        · exact e.symm
        · exact absurd (ltS_trans (hy1 x h1) (hx1 y h2)) (ltS_irrefl _)
    subst e
    have : xs = ys := ascS_ext hx2 hy2 (fun z => by
      constructor
      · intro hz
        rcases List.mem_cons.1 ((h z).1 (by simp [hz])) with rfl | h1
        · exact absurd (hx1 z hz) (ltS_irrefl _)
        · exact h1
      · intro hz
        rcases List.mem_cons.1 ((h z).2 (by simp [hz])) with rfl | h1
        · exact absurd (hy1 z hz) (ltS_irrefl _)
        · exact h1)
    rw [this]
/-- How many stand ahead of a text. -/
def posS (l : List (List UInt8)) (t : List UInt8) : Nat := (l.takeWhile fun x => decide (x < t)).length
/-- A text more at its place, if it is not there. -/
def insS (l : List (List UInt8)) (t : List UInt8) : List (List UInt8) := if l[posS l t]? = some t then l else l.take (posS l t) ++ t :: l.drop (posS l t)
theorem posS_le (l : List (List UInt8)) (t : List UInt8) : posS l t ≤ l.length := (List.takeWhile_prefix _).length_le
theorem posS_take (l : List (List UInt8)) (t : List UInt8) : ∀ x ∈ l.take (posS l t), x < t := by
  intro x hx
  unfold posS at hx
  have h1 : l.take (l.takeWhile fun x => decide (x < t)).length = l.takeWhile fun x => decide (x < t) := by
    have h2 := List.takeWhile_append_dropWhile (p := fun x => decide (x < t)) (l := l)
    conv => lhs; rw [← h2]
    rw [List.take_left' (by rw [h2])]
  rw [h1] at hx
  have := (List.all_eq_true.1 (List.all_takeWhile (p := fun x => decide (x < t)) (l := l))) x hx
  simpa using this
theorem posS_at {l : List (List UInt8)} {t : List UInt8} {x : List UInt8} (h : l[posS l t]? = some x) : ¬ x < t := by
  induction l with
  | nil => simp at h
  | cons y l ih =>
    unfold posS at h
    rw [List.takeWhile_cons] at h
    by_cases hy : y < t
    · rw [if_pos (by simpa using hy)] at h
      simp at h
      exact ih h
    · rw [if_neg (by simpa using hy)] at h
      simp at h
      subst h; exact hy
/-- The place is what a search from the front finds. -/
theorem posS_of {l : List (List UInt8)} {t : List UInt8} {k : Nat} (h1 : ∀ x ∈ l.take k, x < t) (h2 : ∀ x, l[k]? = some x → ¬ x < t) (hk : k ≤ l.length) : k = posS l t := by
  rcases Nat.lt_trichotomy k (posS l t) with h | h | h
  · have hl := posS_le l t
    have hm : l[k]? = some l[k] := List.getElem?_eq_getElem (by omega)
    have : l[k] ∈ l.take (posS l t) := List.mem_iff_getElem?.2 ⟨k, by rw [List.getElem?_take_of_lt h, hm]⟩
    exact absurd (posS_take l t _ this) (h2 _ hm)
  · exact h
  · have hm : l[posS l t]? = some l[posS l t] := List.getElem?_eq_getElem (by omega)
    have : l[posS l t] ∈ l.take k := List.mem_iff_getElem?.2 ⟨posS l t, by rw [List.getElem?_take_of_lt h, hm]⟩
    exact absurd (h1 _ this) (posS_at hm)
theorem insS_mem {l : List (List UInt8)} (t z : List UInt8) : z ∈ insS l t ↔ z = t ∨ z ∈ l := by
  unfold insS
  split
  · rename_i h
    constructor
    · exact .inr
    · rintro (rfl | hz)
      · exact List.mem_of_getElem? h
      · exact hz
  · constructor
    · intro hz
      rw [List.mem_append, List.mem_cons] at hz
      rcases hz with hz | hz | hz
      · exact .inr (List.mem_of_mem_take hz)
      · exact .inl hz
      · exact .inr (List.mem_of_mem_drop hz)
    · rw [List.mem_append, List.mem_cons]
      rintro (hz | hz)
      · exact .inr (.inl hz)
      · rw [← List.take_append_drop (posS l t) l, List.mem_append] at hz
        rcases hz with hz | hz
        · exact .inl hz
        · exact .inr (.inr hz)
theorem insS_asc {l : List (List UInt8)} (h : ascS l) (t : List UInt8) : ascS (insS l t) := by
  unfold insS
  split
  · exact h
  · rename_i hne
    have hs := h
    rw [← List.take_append_drop (posS l t) l] at hs
    obtain ⟨h3, h4, h5⟩ := List.pairwise_append.1 hs
    have h6 : ∀ z ∈ l.drop (posS l t), t < z := by
      intro z hz
      cases hd : l.drop (posS l t) with
      | nil => rw [hd] at hz; cases hz
      | cons y r =>
        have hy : l[posS l t]? = some y := by
          have : (l.drop (posS l t))[0]? = some y := by rw [hd]; rfl
          rw [List.getElem?_drop] at this; exact this
        have h7 : ¬ y < t := posS_at hy
        have h8 : y ≠ t := fun e => hne (by rw [hy, e])
        have h9 : t < y := ltS_total h8 h7
        rw [hd] at hz h4
        rcases List.mem_cons.1 hz with rfl | hz
        · exact h9
        · exact ltS_trans h9 ((List.pairwise_cons.1 h4).1 z hz)
    refine List.pairwise_append.2 ⟨h3, List.pairwise_cons.2 ⟨h6, h4⟩, fun a ha b hb => ?_⟩
    have h1 := posS_take l t a ha
    rcases List.mem_cons.1 hb with rfl | hb
    · exact h1
    · exact ltS_trans h1 (h6 b hb)
/-- All of them, each once, in order: by insertion, and by sorting. -/
theorem insAll_spec : ∀ (l : List (List UInt8)) {g : List (List UInt8)}, ascS g → ascS (l.foldl insS g) ∧ ∀ z, z ∈ l.foldl insS g ↔ z ∈ l ∨ z ∈ g
  | [], g, h => ⟨h, by simp⟩
  | t :: l, g, h => by
    obtain ⟨h3, h4⟩ := insAll_spec l (insS_asc h t)
    refine ⟨h3, fun z => ?_⟩
    rw [List.foldl_cons, h4, insS_mem, List.mem_cons]
    constructor
    · rintro (h | h | h)
      · exact .inl (.inr h)
      · exact .inl (.inl h)
      · exact .inr h
    · rintro ((h | h) | h)
      · exact .inr (.inl h)
      · exact .inl h
      · exact .inr (.inr h)
theorem sorted_ins (l : List (List UInt8)) : Lib.compact (sortS l) = l.foldl insS [] := by
  obtain ⟨h1, h2⟩ := insAll_spec l (g := []) .nil
  refine ascS_ext (compS_asc (sortS_asc l)) h1 (fun z => ?_)
  rw [compS_mem, sortS_mem, h2]; simp
theorem insS_len (l : List (List UInt8)) (t : List UInt8) : (insS l t).length ≤ l.length + 1 := by
  unfold insS
  split
  · omega
  · have := posS_le l t; simp; omega
theorem insAll_len (l : List (List UInt8)) : ∀ (g : List (List UInt8)), (l.foldl insS g).length ≤ g.length + l.length := by
  induction l with
  | nil => intro g; simp
  | cons t l ih => intro g; rw [List.foldl_cons]; have h1 := ih (insS g t); have h2 := insS_len g t; simp; omega
end Go.Proofs.YtffnpfponnhddaaGreat
namespace Go.Proofs.YtffnpfponnhddaaGreat
open Go.RowKit Go.Sort

/-- A text as an element of a list: one cell. -/
def encS (e : List UInt8) : List Value := [.string (bs e)]
theorem encS_len {xs : List (List UInt8)} : ∀ x ∈ xs.map encS, x.length = 1 := by
  intro x hx; obtain ⟨t, _, rfl⟩ := List.mem_map.1 hx; rfl
theorem encS_one {xs : List (List UInt8)} : ∀ x ∈ xs.map encS, ∀ u ∈ x, u.oneCell' = true := by
  intro x hx u hu; obtain ⟨t, _, rfl⟩ := List.mem_map.1 hx
  simp only [encS, List.mem_cons, List.not_mem_nil, or_false] at hu
  subst hu; rfl
def RdS (w : World) (B : Nat) (A : Option Addr) (n : Nat) (xs : List (List UInt8)) : Prop := Rd w B 1 A n (xs.map encS)
theorem RdS.below {w w' : World} {B n : Nat} {A : Option Addr} {xs : List (List UInt8)} (h : RdS w B A n xs) (hb : Below B w w') : RdS w' B A n xs := Rd.below h hb
theorem RdS.more {w : World} {B B' n : Nat} {A : Option Addr} {xs : List (List UInt8)} (h : RdS w B A n xs) (hb : B ≤ B') : RdS w B' A n xs := Rd.more h hb
theorem RdS.len {w : World} {B n : Nat} {A : Option Addr} {xs : List (List UInt8)} (h : RdS w B A n xs) : xs.length = n := by simpa using h.1
theorem infoStr : (Tryz.prog.info? 9).map (fun i => (i.zero, i.size, i.bytes)) = some (some (.string ⟨#[]⟩), 1, 16) := by kernel_rfl
theorem eStr : ElemInfo Tryz.prog 102 9 1 16 := by
  obtain ⟨i, hi, h0, h1, h2⟩ := info_parts infoStr
  exact ⟨Tryz.underlying102, ⟨i, _, hi, h0, h1, h2, rfl⟩, by decide⟩
theorem encStr_bs (e : List UInt8) : encStr e = .string (bs e) := rfl
theorem putRow_str (w : World) (g : Nat) (ys : List (List UInt8)) : putRow encStr w g 0 ys.toArray = putRowK encS 1 w g 0 ys.toArray := by
  unfold putRowK putRow
  congr 1
  funext c
  unfold putCells
  apply Array.ext_getElem?
  intro k
  simp only [Array.getElem?_mapIdx]
  cases hc : c[k]? with
  | none => rfl
  | some y =>
    simp only [Option.map_some, size_flatK, Nat.mul_one]
    by_cases h : 0 ≤ k ∧ k < 0 + ys.toArray.size
    · rw [if_pos h, if_pos h]
      have hk : k - 0 < ys.toArray.size * 1 := by omega
      rw [show id (flatK encS 1 ys.toArray)[k - 0]! = (flatK encS 1 ys.toArray)[k - 0]! from rfl, get_flatK encS 1 ys.toArray _ hk]
      simp [encS, encStr_bs, Nat.mod_one]
    · rw [if_neg h, if_neg h]
theorem holdsS_of {w : World} {base g n c : Nat} {xs : List (List UInt8)} (h : Ow w base 9 1 (.slice (some ⟨g, 0, none⟩) n c) (xs.map encS)) (hn : 0 < n) : Holds encStr w g 0 xs.toArray := by
  obtain ⟨g', he, _, _, hf, hc⟩ := h.addr hn
  injection he with he
  injection he with he
  subst he
  intro j hj
  have hj' : j < xs.length := by simpa using hj
  refine ⟨?_, hf _⟩
  have := hc j (encS xs[j]) (by rw [List.getElem?_map, List.getElem?_eq_getElem hj']; rfl) 0 _ rfl
  rw [Nat.zero_add, getElem!_pos xs.toArray j hj, encStr_bs]
  simpa using this
theorem sortS_any (base : Nat) (A : Option Addr) (n c : Nat) (xs : List (List UInt8)) (w : World) (hown : Ow w base 9 1 (.slice A n c) (xs.map encS)) (hn : n ≤ 1000000) :
    Calls Tryz.prog 46 #[.slice A n c] w
      fun e w' => e = .returned (.tuple #[]) ∧ Ow w' base 9 1 (.slice A n c) ((sortS xs).map encS) ∧ w.grownBy w' (Value.slice A n c).ownBlock := by
  have hl : xs.length = n := by simpa using hown.rd.2.1
  rcases Nat.eq_zero_or_pos n with h0 | hpos
  · subst h0
    obtain rfl := List.eq_nil_of_length_eq_zero hl
    refine Calls.mono (shSortS0 A c w) ?_
    rintro e w' ⟨rfl, hw⟩
    subst hw
    exact ⟨rfl, by unfold sortS; simpa using hown, World.grownBy.refl _ _⟩
  · obtain ⟨g, rfl, hgb, hgl, _, _⟩ := hown.addr hpos
    have h := shSortS g 0 c xs w (holdsS_of hown hpos) hgl (by omega)
    rw [hl] at h
    refine Calls.mono h ?_
    rintro e w' ⟨rfl, m, os, rfl⟩
    have hso := sorted_ow (m := m) (enc := encS) (ys := sortS xs) (fun _ => rfl) (by decide) hown hpos (by rw [sortS_len, hl]) os
    have e1 : Sort.grow (putRow encStr (Sort.ahead w m) g 0 (xs.mergeSort fun x y => decide (x ≤ y)).toArray) os = sortWorldK encS 1 w g 0 m (sortS xs).toArray os := by
      unfold sortWorldK sortS; rw [putRow_str]
    rw [e1]
    exact ⟨rfl, hso.1, hso.2⟩
theorem grow_nil (w : World) : Sort.grow w #[] = w := by unfold Sort.grow; simp
theorem compactS_any (base : Nat) (A : Option Addr) (n c : Nat) (xs : List (List UInt8)) (w : World) (hown : Ow w base 9 1 (.slice A n c) (xs.map encS)) (hn : n ≤ 1000000) :
    Calls Tryz.prog 47 #[.slice A n c] w
      fun e w' => ∃ n', e = .returned (.slice A n' c) ∧ Ow w' base 9 1 (.slice A n' c) ((Lib.compact xs).map encS) ∧ w.grownBy w' (Value.slice A n c).ownBlock := by
  have hl : xs.length = n := by simpa using hown.rd.2.1
  rcases Nat.eq_zero_or_pos n with h0 | hpos
  · subst h0
    obtain rfl := List.eq_nil_of_length_eq_zero hl
    refine Calls.mono (shCompS0 A c w) ?_
    rintro e w' ⟨rfl, hw⟩
    subst hw
    exact ⟨0, rfl, by simpa [Lib.compact, Lib.compactUpTo] using hown, World.grownBy.refl _ _⟩
  · obtain ⟨g, rfl, hgb, hgl, _, _⟩ := hown.addr hpos
    have hnc := hown.rd.2.2.1
    have h := shCompS g 0 c xs w (holdsS_of hown hpos) (by omega) (by omega)
    rw [hl] at h
    refine Calls.mono h ?_
    rintro e w' ⟨rfl, m, rfl⟩
    have hle : (Lib.compact xs).length ≤ n := by rw [← hl]; exact compS_le xs
    have hso := sorted_ow (m := m) (enc := encS) (ys := Lib.compact xs ++ List.replicate (n - (Lib.compact xs).length) []) (fun _ => rfl) (by decide) hown hpos (by simp; omega) #[]
    unfold sortWorldK at hso
    rw [grow_nil, ← putRow_str] at hso
    have hf := hso.1.front (k := (Lib.compact xs).length) hle
    rw [← List.map_take, List.take_left' rfl] at hf
    exact ⟨_, rfl, hf, hso.2⟩
end Go.Proofs.YtffnpfponnhddaaGreat
namespace Go.Proofs.YtffnpfponnhddaaGreat
open Go.RowKit

def elemsO (xs : List Am) (gs : List Tm) : List (List UInt8) := if oErr xs gs ≠ 0 then [] else (xs.map Prod.snd).foldl insS []
set_option maxRecDepth 100000 in
set_option maxHeartbeats 2000000 in
theorem oelems_any (A : Option Addr) (n c : Nat) (xs : List Am) (B : Option Addr) (m d : Nat) (gs : List Tm) (w : World) (hA : RdA w w.heap.size A n xs) (hB : RdT w w.heap.size B m gs) (hn : n ≤ 100000) (hm : m ≤ 100000) (hx : ∀ a ∈ xs, a.wf) (hg : ∀ t ∈ gs, t.wf) (hl : ∀ a ∈ xs, a.2.length ≤ maxLen) :
    Calls Tryz.prog 24 #[.agg #[.slice A n c, .slice B m d]] w fun r w' => ∃ T t c', r = .returned (.slice T t c') ∧ Ow w' w.heap.size 9 1 (.slice T t c') ((elemsO xs gs).map encS) ∧ Below w.heap.size w w' := by
  have hb0 : Below w.heap.size w (w.alloc (.cells #[.slice A n c, .slice B m d] 59)) := (Below.refl _ w).alloc (Nat.le_refl _) _
  have hbx : (w.alloc (.cells #[.slice A n c, .slice B m d] 59)).heap[w.heap.size]? = some (.cells #[.slice A n c, .slice B m d] 59 (0, 0)) := heap_at _ _ rfl
  generalize hW : w.alloc (.cells #[.slice A n c, .slice B m d] 59) = W at hb0 hbx
  have hbxH := Lib.hid hbx
  have hltx := blk_lt hbx
  have s0 := blk_cell hbx 0
  have s1 := blk_cell hbx 1
  simp at s0 s1
  have hnl := Lib.hid hA.len
  have hck := Lib.hid (ocheck_any A n c xs B m d gs W ((hA.below hb0).more hb0.size) ((hB.below hb0).more hb0.size) (by first | omega | (simp [maxLen]; omega)) (by first | omega | (simp [maxLen]; omega)) hx hg hl)
  have hAr := Lib.hid (fun w' (h : Below w.heap.size w w') => hA.below h)
  generalize hr : elemsO xs gs = out
  unfold elemsO at hr
  generalize hpe : oErr xs gs = p at hck hr
  by_cases hp : p = 0
  case neg =>
    rw [if_pos hp] at hr
    subst hr
    have hpn : (p != 0) = true := by simpa using hp
    clear hpe hp hbx hA hB
    go_enter Tryz.func24, Tryz.ntmps24
    go_wp2_with fail
    refine hck.out.mono ?_
    rintro e w1 ⟨rfl, hv1⟩
    have hG := hb0.trans (hv1.mono hb0.size)
    go_wp2
    go_ret
    exact ⟨none, 0, 0, rfl, Ow.nil_ _ _ _ _, hG⟩
  subst hp
  rw [if_neg (by simp)] at hr
  have hrH := Lib.hid hr
  have hzW := hb0.size
  clear hpe hr hbx hA hB hx hg hl
  go_enter Tryz.func24, Tryz.ntmps24
  go_wp2_with fail
  refine hck.out.mono ?_
  rintro e' w1 ⟨rfl, hv1⟩
  have hs1 := blk_below hbxH.out hv1
  clear s0 s1
  have hltx := blk_lt hs1
  have s0 := blk_cell hs1 0
  have s1 := blk_cell hs1 1
  simp at s0 s1
  clear hck
  go_wp2_with fail
  clear s0 s1 hltx hs1
  go_loopg [3, 12] (n + 1) (fun g o i wr => ∃ (k : Nat) (T : Option Addr) (c' : Nat), k ≤ n ∧ g = n + 1 - k ∧ i = .int .i64 (k : Int) ∧ o = .slice T k c' ∧ Ow wr W.heap.size 9 1 (.slice T k c') (((xs.take k).map Prod.snd).map encS) ∧ Below W.heap.size W wr)
  case atStart => exact ⟨0, none, 0, Nat.zero_le _, rfl, rfl, rfl, Ow.nil_ _ _ _ _, hv1⟩
  case round =>
    clear hv1
    obtain ⟨k, T, c', hk, rfl, rfl, rfl, hown, hbr⟩ := hrel
    have hz := hbr.size
    have hGw := hb0.trans (hbr.mono hzW)
    have hsr := blk_below hbxH.out hbr
    have hltx := blk_lt hsr
    have s0 := blk_cell hsr 0
    have s1 := blk_cell hsr 1
    simp at s0 s1
    by_cases hlt : k < n
    · obtain ⟨bA, oA, u, rfl, hbA, hq, hcp⟩ := (hAr.out wr hGw).at_ hlt
      have p0 := hcp 0 _ rfl
      have p1 := hcp 1 _ rfl
      have p2 := hcp 2 _ rfl
      have p3 := hcp 3 _ rfl
      rw [Nat.add_zero] at p0
      clear hcp hsr
      have hlti : (k : Int) < (n : Int) := by omega
      have hbA2 : bA < wr.heap.size := by omega
      have hst : Hid (((xs.take (k + 1)).map Prod.snd).map encS = ((xs.take k).map Prod.snd).map encS ++ [[.string (bs u.2)]]) := Lib.hid (by rw [List.take_add_one, hq]; simp [encS])
      have hlk : Hid ((((xs.take k).map Prod.snd).map encS).length = k) := Lib.hid (by simp; have := hnl.out; omega)
      clear hq
      have hbO : Below wr.heap.size wr ((wr.alloc (.cells #[.int .i64 u.1.1.1, .int .u32 u.1.1.2, .int .i64 u.1.2, .string (bs u.2)] 123)).alloc (.cells #[.string (bs u.2)] 9)) := ((Below.refl _ wr).alloc (Nat.le_refl _) _).alloc (by simp) _
      have hlen1 : ∀ y ∈ ([[.string (bs u.2)]] : List (List Value)), y.length = 1 := by simp
      have hone1 : ∀ y ∈ ([[.string (bs u.2)]] : List (List Value)), ∀ v ∈ y, v.oneCell' = true := by simp [Value.oneCell']
      go_wp2_with (at_builtin; refine wpList_append_rd _ rfl _ _ _ rfl eStr (base := W.heap.size) (v := .slice T k c') (xs := ((xs.take k).map Prod.snd).map encS) rfl (hown.below hbO) rfl (Rd.one' [.string (bs u.2)] (by simp)) hlen1 hone1 (by rw [hlk.out]; unfold maxLen; omega) (by rw [hlk.out]; omega) (by simp; omega) ?_; intro A2 n2 c2 w4 hn2 hown4 hg4 hat4; (obtain rfl : n2 = k + 1 := (by rw [hn2, hlk.out])); clear hn2)
      have hG : Below W.heap.size W w4 := ((hbr.alloc hz _).alloc (by simp; omega) _).grown hg4 (by simp; omega) (fun g e => (hown.block g e).1)
      go_roundg (n + 1 - (k + 1))
      case measure => omega
      case rel => exact ⟨k + 1, A2, c2, by omega, rfl, by go_num, rfl, by rw [hst.out]; exact hown4, hG⟩
    · obtain rfl : k = n := by omega
      have hnli : ¬ (k : Int) < (k : Int) := by omega
      rw [List.take_of_length_le (by have := hnl.out; omega)] at hown
      have cs := Lib.hid (sortS_any W.heap.size T k c' (xs.map Prod.snd) wr hown (by omega))
      have hbk := hown.block
      clear hsr s0 s1 hltx
      go_wp2_with fail
      refine cs.out.mono ?_
      rintro e w2 ⟨rfl, ho2, hg2⟩
      have cc := Lib.hid (compactS_any W.heap.size T k c' (sortS (xs.map Prod.snd)) w2 ho2 (by omega))
      go_wp2_with fail
      refine cc.out.mono ?_
      rintro e w3 ⟨n3, rfl, ho3, hg3⟩
      have hT : Hid (Lib.compact (sortS (xs.map Prod.snd)) = out) := Lib.hid (by rw [sorted_ins]; exact hrH.out)
      rw [hT.out] at ho3
      have hG2 : Below W.heap.size W w2 := hbr.grown hg2 hz (fun g e => (hbk g e).1)
      have hG3 : Below W.heap.size W w3 := hG2.grown hg3 hG2.size (fun g e => (hbk g e).1)
      go_wp2
      go_ret
      exact ⟨T, n3, c', rfl, ho3.base hzW, hb0.trans (hG3.mono hzW)⟩
end Go.Proofs.YtffnpfponnhddaaGreat
namespace Go.Proofs.YtffnpfponnhddaaGreat
open Go.RowKit

theorem bytesLess_dec (x y : List UInt8) : Op.bytesLess (bs x).toList (bs y).toList = decide (x < y) := by rw [bs_empty, bs_empty]; exact bytesLess_eq x y
theorem Rd.front {w : World} {B sz n q : Nat} {A : Option Addr} {xs : List (List Value)} (h : Rd w B sz A n xs) (hq : q ≤ n) : Rd w B sz A q (xs.take q) :=
  ⟨by rw [List.length_take, h.1]; omega, fun h0 => by
    obtain ⟨b, o, e, hb, hc⟩ := h.2 (by omega)
    refine ⟨b, o, e, hb, fun k x hx j u hu => hc k x ?_ j u hu⟩
    have hk := (List.getElem?_eq_some_iff.1 hx).1
    rw [List.length_take] at hk
    rwa [List.getElem?_take_of_lt (by omega)] at hx⟩
theorem Rd.back {w : World} {B sz n q b o : Nat} {xs : List (List Value)} (h : Rd w B sz (some ⟨b, o, none⟩) n xs) (hq : q ≤ n) : Rd w B sz (some ⟨b, o + q * sz, none⟩) (n - q) (xs.drop q) :=
  ⟨by rw [List.length_drop, h.1], fun h0 => by
    obtain ⟨b', o', e, hb, hc⟩ := h.2 (by omega)
    injection e with e
    injection e with e1 e2
    subst e1; subst e2
    refine ⟨b, o + q * sz, rfl, hb, fun k x hx j u hu => ?_⟩
    rw [List.getElem?_drop] at hx
    have := hc (q + k) x hx j u hu
    rw [show o + q * sz + k * sz + j = o + (q + k) * sz + j by rw [Nat.add_mul]; omega]
    exact this⟩
end Go.Proofs.YtffnpfponnhddaaGreat
