/- Plain words on lists of texts: in order, without repeats (no program in sight). Lists of texts: the library's Sort and Compact in the words of rows. -/
import Derived.Lib.SlicesCompact
import Derived.Test.YtfhandglpjnonaaGreatDoorN25
import Derived.Test.YtfhandglpjnonaaGreatDoorM8
import Derived.Test.YtfhandglpjnonaaGreatDoorOct
namespace Go.Proofs.YtfhandglpjnonaaGreatDoor
open Go.Sort

theorem leS_trans {x y z : List UInt8} (h : x ≤ y) (h2 : y ≤ z) : x ≤ z := List.le_trans h h2
theorem ltS_of {x y : List UInt8} (h : x ≤ y) (hne : x ≠ y) : x < y := by
  rcases Classical.em (x < y) with h1 | h1
  · exact h1
  · exact absurd (List.le_antisymm h (List.not_lt.1 h1)) hne
theorem ltS_le {x y : List UInt8} (h : x < y) : x ≤ y := List.le_of_lt h
theorem ltS_irrefl (x : List UInt8) : ¬ x < x := List.lt_irrefl x
theorem ltS_trans {x y z : List UInt8} (h : x < y) (h2 : y < z) : x < z := List.lt_trans h h2
theorem ltS_total {x y : List UInt8} (hne : x ≠ y) (h : ¬ x < y) : y < x := ltS_of (List.not_lt.1 h) (Ne.symm hne)
/-- A list of texts, in order. -/
def sortS (xs : List (List UInt8)) : List (List UInt8) := xs.mergeSort fun x y => decide (x ≤ y)
theorem sortS_len (xs : List (List UInt8)) : (sortS xs).length = xs.length := List.length_mergeSort xs
theorem sortS_mem (xs : List (List UInt8)) (z : List UInt8) : z ∈ sortS xs ↔ z ∈ xs := List.mem_mergeSort
theorem sortS_asc (xs : List (List UInt8)) : (sortS xs).Pairwise (fun x y => x ≤ y) := by
  have := List.pairwise_mergeSort (le := fun (x y : List UInt8) => decide (x ≤ y)) (fun a b c h1 h2 => by simp at *; exact leS_trans h1 h2) (fun a b => by rcases List.le_total a b with h | h <;> simp [h]) xs
  exact this.imp (fun h => by simpa using h)
theorem compS_le (xs : List (List UInt8)) : (Lib.compact xs).length ≤ xs.length := by
  unfold Lib.compact Lib.compactUpTo
  rw [List.length_map]
  exact Nat.le_trans (List.length_filter_le _ _) (by simp)
theorem compU_mem (d : Array (List UInt8)) (z : List UInt8) : ∀ m, z ∈ Lib.compactUpTo d m ↔ ∃ j, j < m ∧ d[j]! = z
  | 0 => by simp [Lib.compactUpTo]
  | m + 1 => by
    rw [Lib.compactUpTo_succ, List.mem_append, compU_mem d z m]
    constructor
    · rintro (⟨j, hj, h⟩ | h)
      · exact ⟨j, by omega, h⟩
      · split at h
        · exact ⟨m, by omega, (List.mem_singleton.1 h).symm⟩
        · cases h
    · rintro ⟨j, hj, h⟩
      by_cases hjm : j < m
      · exact .inl ⟨j, hjm, h⟩
      · obtain rfl : j = m := by omega
        by_cases hk : Lib.keeps d j = true
        · exact .inr (by rw [if_pos hk]; simp [h])
        · have hk' : ¬ (j = 0 ∨ d[j]! ≠ d[j - 1]!) := by
            intro hh; exact hk (by unfold Lib.keeps; exact decide_eq_true hh)
          have h0 : j ≠ 0 := fun e => hk' (.inl e)
          have h1 : d[j]! = d[j - 1]! := Classical.not_not.1 (fun e => hk' (.inr e))
          exact .inl ⟨j - 1, by omega, by rw [← h1]; exact h⟩
theorem compS_mem (xs : List (List UInt8)) (z : List UInt8) : z ∈ Lib.compact xs ↔ z ∈ xs := by
  unfold Lib.compact
  rw [compU_mem]
  constructor
  · rintro ⟨j, hj, h⟩
    rw [← h, getElem!_pos _ _ (by simpa using hj)]
    simp
  · intro h
    obtain ⟨j, hj⟩ := List.mem_iff_getElem?.1 h
    obtain ⟨hl, he⟩ := List.getElem?_eq_some_iff.1 hj
    exact ⟨j, hl, by rw [getElem!_pos _ _ (by simpa using hl)]; simpa using he⟩
/-- Texts that rise strictly. -/
abbrev ascS (l : List (List UInt8)) : Prop := l.Pairwise (fun x y => x < y)
theorem compS_asc {xs : List (List UInt8)} (h : xs.Pairwise (fun x y => x ≤ y)) : ascS (Lib.compact xs) := by
  have hle : ∀ i j, i ≤ j → j < xs.length → xs.toArray[i]! ≤ xs.toArray[j]! := by
    intro i j hij hj
    rw [getElem!_pos _ i (by simp; omega), getElem!_pos _ j (by simpa using hj)]
    rcases Nat.lt_or_eq_of_le hij with h1 | h1
    · simpa using (List.pairwise_iff_getElem.1 h) i j (by omega) hj h1
    · subst h1; exact List.le_refl _
  unfold Lib.compact Lib.compactUpTo ascS
  rw [List.pairwise_map]
  have hr : (List.range xs.length).Pairwise (fun i j => i < j ∧ j < xs.length) := by
    rw [List.pairwise_iff_getElem]
    intro i j hi hj hij
    simp at hi hj ⊢
    omega
  refine (hr.sublist (List.filter_sublist (p := Lib.keeps xs.toArray))).imp_of_mem ?_
  intro i j hi hj ⟨hij, hjl⟩
  have hk := (List.mem_filter.1 hj).2
  unfold Lib.keeps at hk
  rw [decide_eq_true_eq] at hk
  have h1 : xs.toArray[j]! ≠ xs.toArray[j - 1]! := hk.resolve_left (by omega)
  have h2 := hle i (j - 1) (by omega) (by omega)
  have h3 := ltS_of (hle (j - 1) j (by omega) hjl) (Ne.symm h1)
  rcases Classical.em (xs.toArray[i]! = xs.toArray[j - 1]!) with e | e
  · rw [e]; exact h3
  · exact ltS_trans (ltS_of h2 e) h3
theorem ascS_ext : ∀ {xs ys : List (List UInt8)}, ascS xs → ascS ys → (∀ x, x ∈ xs ↔ x ∈ ys) → xs = ys
  | [], ys, _, _, h => by
    cases ys with
    | nil => rfl
    | cons y ys => have := (h y).2 (by simp); simp at this
  | x :: xs, [], _, _, h => by have := (h x).1 (by simp); simp at this
  | x :: xs, y :: ys, hx, hy, h => by
    obtain ⟨hx1, hx2⟩ := List.pairwise_cons.1 hx
    obtain ⟨hy1, hy2⟩ := List.pairwise_cons.1 hy
    have e : x = y := by
      rcases List.mem_cons.1 ((h x).1 (by simp)) with e | h1
      · exact e
      · rcases List.mem_cons.1 ((h y).2 (by simp)) with e | h2
        · exact e.symm
        · exact absurd (ltS_trans (hy1 x h1) (hx1 y h2)) (ltS_irrefl _)
    subst e
    have : xs = ys := ascS_ext hx2 hy2 (fun z => by
      constructor
      · intro hz
        rcases List.mem_cons.1 ((h z).1 (by simp [hz])) with rfl | h1
        · exact absurd (hx1 z hz) (ltS_irrefl _)
        · exact h1
      · intro hz
        rcases List.mem_cons.1 ((h z).2 (by simp [hz])) with rfl | h1
        · exact absurd (hy1 z hz) (ltS_irrefl _)
        · exact h1)
    rw [this]
/-- How many stand ahead of a text. -/
def posS (l : List (List UInt8)) (t : List UInt8) : Nat := (l.takeWhile fun x => decide (x < t)).length
/-- A text more at its place, if it is not there. -/
def insS (l : List (List UInt8)) (t : List UInt8) : List (List UInt8) := if l[posS l t]? = some t then l else l.take (posS l t) ++ t :: l.drop (posS l t)
theorem posS_le (l : List (List UInt8)) (t : List UInt8) : posS l t ≤ l.length := (List.takeWhile_prefix _).length_le
theorem posS_take (l : List (List UInt8)) (t : List UInt8) : ∀ x ∈ l.take (posS l t), x < t := by
  intro x hx
  unfold posS at hx
  have h1 : l.take (l.takeWhile fun x => decide (x < t)).length = l.takeWhile fun x => decide (x < t) := by
    have h2 := List.takeWhile_append_dropWhile (p := fun x => decide (x < t)) (l := l)
    conv => lhs; rw [← h2]
    rw [List.take_left' (by rw [h2])]
  rw [h1] at hx
  have := (List.all_eq_true.1 (List.all_takeWhile (p := fun x => decide (x < t)) (l := l))) x hx
  simpa using this
theorem posS_at {l : List (List UInt8)} {t : List UInt8} {x : List UInt8} (h : l[posS l t]? = some x) : ¬ x < t := by
  induction l with
  | nil => simp at h
  | cons y l ih =>
    unfold posS at h
    rw [List.takeWhile_cons] at h
    by_cases hy : y < t
    · rw [if_pos (by simpa using hy)] at h
      simp at h
      exact ih h
    · rw [if_neg (by simpa using hy)] at h
      simp at h
      subst h; exact hy
/-- The place is what a search from the front finds. -/
theorem posS_of {l : List (List UInt8)} {t : List UInt8} {k : Nat} (h1 : ∀ x ∈ l.take k, x < t) (h2 : ∀ x, l[k]? = some x → ¬ x < t) (hk : k ≤ l.length) : k = posS l t := by
  rcases Nat.lt_trichotomy k (posS l t) with h | h | h
  · have hl := posS_le l t
    have hm : l[k]? = some l[k] := List.getElem?_eq_getElem (by omega)
    have : l[k] ∈ l.take (posS l t) := List.mem_iff_getElem?.2 ⟨k, by rw [List.getElem?_take_of_lt h, hm]⟩
    exact absurd (posS_take l t _ this) (h2 _ hm)
  · exact h
  · have hm : l[posS l t]? = some l[posS l t] := List.getElem?_eq_getElem (by omega)
    have : l[posS l t] ∈ l.take k := List.mem_iff_getElem?.2 ⟨posS l t, by rw [List.getElem?_take_of_lt h, hm]⟩
    exact absurd (h1 _ this) (posS_at hm)
theorem insS_mem {l : List (List UInt8)} (t z : List UInt8) : z ∈ insS l t ↔ z = t ∨ z ∈ l := by
  unfold insS
  split
  · rename_i h
    constructor
    · exact .inr
    · rintro (rfl | hz)
      · exact List.mem_of_getElem? h
      · exact hz
  · constructor
    · intro hz
      rw [List.mem_append, List.mem_cons] at hz
      rcases hz with hz | hz | hz
      · exact .inr (List.mem_of_mem_take hz)
      · exact .inl hz
      · exact .inr (List.mem_of_mem_drop hz)
    · rw [List.mem_append, List.mem_cons]
      rintro (hz | hz)
      · exact .inr (.inl hz)
      · rw [← List.take_append_drop (posS l t) l, List.mem_append] at hz
        rcases hz with hz | hz
        · exact .inl hz
        · exact .inr (.inr hz)
theorem insS_asc {l : List (List UInt8)} (h : ascS l) (t : List UInt8) : ascS (insS l t) := by
  unfold insS
  split
  · exact h
  · rename_i hne
    have hs := h
    rw [← List.take_append_drop (posS l t) l] at hs
    obtain ⟨h3, h4, h5⟩ := List.pairwise_append.1 hs
    have h6 : ∀ z ∈ l.drop (posS l t), t < z := by
      intro z hz
      cases hd : l.drop (posS l t) with
      | nil => rw [hd] at hz; cases hz
      | cons y r =>
        have hy : l[posS l t]? = some y := by
          have : (l.drop (posS l t))[0]? = some y := by rw [hd]; rfl
          rw [List.getElem?_drop] at this; exact this
        have h7 : ¬ y < t := posS_at hy
        have h8 : y ≠ t := fun e => hne (by rw [hy, e])
        have h9 : t < y := ltS_total h8 h7
        rw [hd] at hz h4
        rcases List.mem_cons.1 hz with rfl | hz
        · exact h9
        · exact ltS_trans h9 ((List.pairwise_cons.1 h4).1 z hz)
    refine List.pairwise_append.2 ⟨h3, List.pairwise_cons.2 ⟨h6, h4⟩, fun a ha b hb => ?_⟩
    have h1 := posS_take l t a ha
    rcases List.mem_cons.1 hb with rfl | hb
    · exact h1
    · exact ltS_trans h1 (h6 b hb)
/-- All of them, each once, in order: by insertion, and by sorting. -/
theorem insAll_spec : ∀ (l : List (List UInt8)) {g : List (List UInt8)}, ascS g → ascS (l.foldl insS g) ∧ ∀ z, z ∈ l.foldl insS g ↔ z ∈ l ∨ z ∈ g
  | [], g, h => ⟨h, by simp⟩
  | t :: l, g, h => by
    obtain ⟨h3, h4⟩ := insAll_spec l (insS_asc h t)
    refine ⟨h3, fun z => ?_⟩
    rw [List.foldl_cons, h4, insS_mem, List.mem_cons]
    constructor
    · rintro (h | h | h)
      · exact .inl (.inr h)
      · exact .inl (.inl h)
      · exact .inr h
    · rintro ((h | h) | h)
      · exact .inr (.inl h)
      · exact .inl h
      · exact .inr (.inr h)
theorem sorted_ins (l : List (List UInt8)) : Lib.compact (sortS l) = l.foldl insS [] := by
  obtain ⟨h1, h2⟩ := insAll_spec l (g := []) .nil
  refine ascS_ext (compS_asc (sortS_asc l)) h1 (fun z => ?_)
  rw [compS_mem, sortS_mem, h2]; simp
theorem insS_len (l : List (List UInt8)) (t : List UInt8) : (insS l t).length ≤ l.length + 1 := by
  unfold insS
  split
  · omega
  · have := posS_le l t; simp; omega
theorem insAll_len (l : List (List UInt8)) : ∀ (g : List (List UInt8)), (l.foldl insS g).length ≤ g.length + l.length := by
  induction l with
  | nil => intro g; simp
  | cons t l ih => intro g; rw [List.foldl_cons]; have h1 := ih (insS g t); have h2 := insS_len g t; simp; omega
end Go.Proofs.YtfhandglpjnonaaGreatDoor
namespace Go.Proofs.YtfhandglpjnonaaGreatDoor
open Go.RowKit Go.Sort

/-- A text as an element of a list: one cell. -/
def encS (e : List UInt8) : List Value := [.string (bs e)]
theorem encS_len {xs : List (List UInt8)} : ∀ x ∈ xs.map encS, x.length = 1 := by
  intro x hx; obtain ⟨t, _, rfl⟩ := List.mem_map.1 hx; rfl
theorem encS_one {xs : List (List UInt8)} : ∀ x ∈ xs.map encS, ∀ u ∈ x, u.oneCell' = true := by
  intro x hx u hu; obtain ⟨t, _, rfl⟩ := List.mem_map.1 hx
  simp only [encS, List.mem_cons, List.not_mem_nil, or_false] at hu
  subst hu; rfl
def RdS (w : World) (B : Nat) (A : Option Addr) (n : Nat) (xs : List (List UInt8)) : Prop := Rd w B 1 A n (xs.map encS)
theorem RdS.below {w w' : World} {B n : Nat} {A : Option Addr} {xs : List (List UInt8)} (h : RdS w B A n xs) (hb : Below B w w') : RdS w' B A n xs := Rd.below h hb
theorem RdS.more {w : World} {B B' n : Nat} {A : Option Addr} {xs : List (List UInt8)} (h : RdS w B A n xs) (hb : B ≤ B') : RdS w B' A n xs := Rd.more h hb
theorem RdS.len {w : World} {B n : Nat} {A : Option Addr} {xs : List (List UInt8)} (h : RdS w B A n xs) : xs.length = n := by simpa using h.1
theorem infoStr : (Tryz.prog.info? 9).map (fun i => (i.zero, i.size, i.bytes)) = some (some (.string ⟨#[]⟩), 1, 16) := by kernel_rfl
theorem eStr : ElemInfo Tryz.prog 251 9 1 16 := by
  obtain ⟨i, hi, h0, h1, h2⟩ := info_parts infoStr
  exact ⟨Tryz.underlying251, ⟨i, _, hi, h0, h1, h2, rfl⟩, by decide⟩
theorem encStr_bs (e : List UInt8) : encStr e = .string (bs e) := rfl
theorem putRow_str (w : World) (g : Nat) (ys : List (List UInt8)) : putRow encStr w g 0 ys.toArray = putRowK encS 1 w g 0 ys.toArray := by
  unfold putRowK putRow
  congr 1
  funext c
  unfold putCells
  apply Array.ext_getElem?
  intro k
  simp only [Array.getElem?_mapIdx]
  cases hc : c[k]? with
  | none => rfl
  | some y =>
    simp only [Option.map_some, size_flatK, Nat.mul_one]
    by_cases h : 0 ≤ k ∧ k < 0 + ys.toArray.size
    · rw [if_pos h, if_pos h]
      have hk : k - 0 < ys.toArray.size * 1 := by omega
      rw [show id (flatK encS 1 ys.toArray)[k - 0]! = (flatK encS 1 ys.toArray)[k - 0]! from rfl, get_flatK encS 1 ys.toArray _ hk]
      simp [encS, encStr_bs, Nat.mod_one]
    · rw [if_neg h, if_neg h]
theorem holdsS_of {w : World} {base g n c : Nat} {xs : List (List UInt8)} (h : Ow w base 9 1 (.slice (some ⟨g, 0, none⟩) n c) (xs.map encS)) (hn : 0 < n) : Holds encStr w g 0 xs.toArray := by
  obtain ⟨g', he, _, _, hf, hc⟩ := h.addr hn
  injection he with he
  injection he with he
  subst he
  intro j hj
  have hj' : j < xs.length := by simpa using hj
  refine ⟨?_, hf _⟩
  have := hc j (encS xs[j]) (by rw [List.getElem?_map, List.getElem?_eq_getElem hj']; rfl) 0 _ rfl
  rw [Nat.zero_add, getElem!_pos xs.toArray j hj, encStr_bs]
  simpa using this
theorem grow_nil (w : World) : Sort.grow w #[] = w := by unfold Sort.grow; simp
end Go.Proofs.YtfhandglpjnonaaGreatDoor
