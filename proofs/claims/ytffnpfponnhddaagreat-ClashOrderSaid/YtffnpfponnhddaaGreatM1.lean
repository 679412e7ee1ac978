/- Plain words on operations' names (tags): the order, lists of them, what is wrong with two lists of them (no program in sight). The plain law of slices.Compact; what a sorted list without its repeats comes to. Plain words on lists of things that rise by their tags: one more at its place, some left out; two such lists with the same members are one. -/
import Derived.Test.YtffnpfponnhddaaGreatPl
namespace Go.Proofs.YtffnpfponnhddaaGreat

abbrev Tm := Im × Int
def Tm.wf (t : Tm) : Prop := t.1.wf
def chkT (t : Tm) : Bool := chk t.1 && decide (0 ≤ t.2 ∧ t.2 ≤ 15)
def cmpT (x y : Tm) : Int := if cmpI x.1 y.1 ≠ 0 then cmpI x.1 y.1 else ordI x.2 y.2
def ltT (x y : Tm) : Prop := cmpT x y < 0
instance (x y : Tm) : Decidable (ltT x y) := inferInstanceAs (Decidable (cmpT x y < 0))
theorem cmpI_zero {x y : Im} : cmpI x y = 0 ↔ x = y := by
  constructor
  · intro h; exact cmpI_eq (by omega) (by omega)
  · rintro rfl; unfold cmpI; (repeat' split) <;> omega
theorem ltT_iff (x y : Tm) : ltT x y ↔ ltI x.1 y.1 ∨ (x.1 = y.1 ∧ x.2 < y.2) := by
  unfold ltT cmpT
  by_cases h : cmpI x.1 y.1 = 0
  · rw [if_neg (by simpa using h)]
    have h1 := cmpI_zero.1 h
    have h2 : ¬ ltI x.1 y.1 := by unfold ltI; omega
    unfold ordI
    constructor
    · intro h3; refine .inr ⟨h1, ?_⟩; split at h3 <;> (try split at h3) <;> omega
    · rintro (h3 | ⟨_, h3⟩)
      · exact absurd h3 h2
      · rw [if_pos h3]; decide
  · rw [if_pos h]
    constructor
    · intro h1; exact .inl h1
    · rintro (h1 | ⟨h1, _⟩)
      · exact h1
      · exact absurd (cmpI_zero.2 h1) h
theorem cmpT_zero {x y : Tm} : cmpT x y = 0 ↔ x = y := by
  unfold cmpT
  by_cases h : cmpI x.1 y.1 = 0
  · rw [if_neg (by simpa using h)]
    have h1 := cmpI_zero.1 h
    unfold ordI
    constructor
    · intro h2
      refine Prod.ext h1 ?_
      split at h2 <;> (try split at h2) <;> omega
    · rintro rfl; (repeat' split) <;> omega
  · rw [if_pos h]
    constructor
    · intro h1; exact absurd h1 h
    · rintro rfl; exact absurd (cmpI_zero.2 rfl) h
theorem cmpI_swap (x y : Im) : cmpI y x = -cmpI x y := by unfold cmpI; (repeat' split) <;> omega
theorem cmpT_swap (x y : Tm) : cmpT y x = -cmpT x y := by
  unfold cmpT
  have h1 : ordI y.2 x.2 = -ordI x.2 y.2 := by unfold ordI; (repeat' split) <;> omega
  rw [cmpI_swap x.1 y.1, h1]
  by_cases h : cmpI x.1 y.1 = 0
  · rw [if_neg (by omega), if_neg (by omega)]
  · rw [if_pos (by omega), if_pos h]
theorem gtT_iff (x y : Tm) : 0 < cmpT x y ↔ ltT y x := by unfold ltT; rw [cmpT_swap x y]; omega
theorem ltT_irrefl (x : Tm) : ¬ ltT x x := by unfold ltT; rw [cmpT_zero.2 rfl]; omega
theorem ltT_trans {x y z : Tm} (h : ltT x y) (h2 : ltT y z) : ltT x z := by
  rw [ltT_iff] at *
  rcases h with h | ⟨h, h'⟩ <;> rcases h2 with h2 | ⟨h2, h2'⟩
  · exact .inl (ltI_trans h h2)
  · exact .inl (h2 ▸ h)
  · exact .inl (h ▸ h2)
  · exact .inr ⟨h.trans h2, by omega⟩
theorem ltT_total {x y : Tm} (h : x ≠ y) (h2 : ¬ ltT x y) : ltT y x := by
  rw [← gtT_iff]
  have h3 : cmpT x y ≠ 0 := fun e => h (cmpT_zero.1 e)
  unfold ltT at h2
  omega
theorem ltT_ne {x y : Tm} (h : ltT x y) : x ≠ y := by rintro rfl; exact ltT_irrefl _ h
abbrev ascTP (l : List Tm) : Prop := l.Pairwise ltT
def ascT : List Tm → Bool
  | [] => true
  | x :: r => (match r with | [] => true | y :: _ => decide (cmpT x y < 0)) && ascT r
theorem ascT_iff : ∀ (xs : List Tm), ascT xs = true ↔ ∀ j x y, xs[j]? = some x → xs[j + 1]? = some y → cmpT x y < 0
  | [] => by simp [ascT]
  | [x] => by simp [ascT]
  | x :: y :: r => by
    have ih := ascT_iff (y :: r)
    rw [ascT, Bool.and_eq_true, ih]
    constructor
    · rintro ⟨h1, h2⟩ j a b ha hb
      cases j with
      | zero => simp at ha hb; subst ha; subst hb; simpa using h1
      | succ j => exact h2 j a b (by simpa using ha) (by simpa using hb)
    · intro h
      exact ⟨by simpa using h 0 x y rfl rfl, fun j a b ha hb => h (j + 1) a b (by simpa using ha) (by simpa using hb)⟩
theorem ascT_asc : ∀ (l : List Tm), ascT l = true ↔ ascTP l
  | [] => by simp [ascT]
  | [x] => by simp [ascT]
  | x :: y :: r => by
    have ih := ascT_asc (y :: r)
    rw [ascT, Bool.and_eq_true, ih, ascTP, ascTP, List.pairwise_cons (a := x)]
    constructor
    · rintro ⟨h1, h2⟩
      refine ⟨fun z hz => ?_, h2⟩
      have h1 : ltT x y := by simpa [ltT] using h1
      rcases List.mem_cons.1 hz with rfl | hz
      · exact h1
      · exact ltT_trans h1 ((List.pairwise_cons.1 h2).1 z hz)
    · rintro ⟨h1, h2⟩
      exact ⟨by simpa [ltT] using h1 y (by simp), h2⟩
theorem ascT_ext : ∀ {xs ys : List Tm}, ascTP xs → ascTP ys → (∀ x, x ∈ xs ↔ x ∈ ys) → xs = ys
  | [], ys, _, _, h => by
    cases ys with
    | nil => rfl
    | cons y ys => have := (h y).2 (by simp); simp at this
  | x :: xs, [], _, _, h => by have := (h x).1 (by simp); simp at this
  | x :: xs, y :: ys, hx, hy, h => by
    obtain ⟨hx1, hx2⟩ := List.pairwise_cons.1 hx
    obtain ⟨hy1, hy2⟩ := List.pairwise_cons.1 hy
    have e : x = y := by
      rcases List.mem_cons.1 ((h x).1 (by simp)) with e | h1
      · exact e
      · rcases List.mem_cons.1 ((h y).2 (by simp)) with e | h2
        · exact e.symm
        · exact absurd (ltT_trans (hy1 x h1) (hx1 y h2)) (ltT_irrefl _)
    subst e
    have : xs = ys := ascT_ext hx2 hy2 (fun z => by
      constructor
      · intro hz
        rcases List.mem_cons.1 ((h z).1 (by simp [hz])) with rfl | h1
        · exact absurd (hx1 z hz) (ltT_irrefl _)
        · exact h1
      · intro hz
        rcases List.mem_cons.1 ((h z).2 (by simp [hz])) with rfl | h1
        · exact absurd (hy1 z hz) (ltT_irrefl _)
        · exact h1)
    rw [this]
/-- What is wrong with things that bear the names ts, and with names that are gone; bad: a thing is not as it must be. -/
def sErr (ts : List Tm) (bad : Bool) (gone : List Tm) : Int :=
  if 4096 < ts.length ∨ 4096 < gone.length then 8 else if (ts.all chkT && gone.all chkT) = false then 2 else if (ascT ts && ascT gone) = false then 3 else if bad then 3 else 0
theorem sErr_zero {ts gone : List Tm} {bad : Bool} : sErr ts bad gone = 0 ↔ ts.length ≤ 4096 ∧ gone.length ≤ 4096 ∧ (∀ t ∈ ts, chkT t = true) ∧ (∀ t ∈ gone, chkT t = true) ∧ ascTP ts ∧ ascTP gone ∧ bad = false := by
  unfold sErr
  by_cases h1 : 4096 < ts.length ∨ 4096 < gone.length
  · rw [if_pos h1]
    constructor
    · intro h; exact absurd h (by decide)
    · rintro ⟨h, h', _⟩; omega
  rw [if_neg h1]
  by_cases h2 : (ts.all chkT && gone.all chkT) = false
  · rw [if_pos h2]
    constructor
    · intro h; exact absurd h (by decide)
    · rintro ⟨_, _, h3, h4, _⟩
      rw [List.all_eq_true.2 h3, List.all_eq_true.2 h4] at h2
      exact absurd h2 (by decide)
  rw [if_neg h2]
  have h2' : (ts.all chkT && gone.all chkT) = true := by simpa using h2
  rw [Bool.and_eq_true] at h2'
  by_cases h3 : (ascT ts && ascT gone) = false
  · rw [if_pos h3]
    constructor
    · intro h; exact absurd h (by decide)
    · rintro ⟨_, _, _, _, h4, h5, _⟩
      rw [(ascT_asc ts).2 h4, (ascT_asc gone).2 h5] at h3
      exact absurd h3 (by decide)
  rw [if_neg h3]
  have h3' : (ascT ts && ascT gone) = true := by simpa using h3
  rw [Bool.and_eq_true] at h3'
  cases bad
  · simp only [Bool.false_eq_true, if_false, true_iff, and_true]
    exact ⟨by omega, by omega, List.all_eq_true.1 h2'.1, List.all_eq_true.1 h2'.2, (ascT_asc _).1 h3'.1, (ascT_asc _).1 h3'.2⟩
  · simp
/-- The first of a list for which p holds. -/
def firstG {α : Type} (p : α → Bool) (xs : List α) : Int := match xs.findIdx? p with | some i => (i : Int) | none => -1
theorem firstG_at {α : Type} {p : α → Bool} {l : List α} {k : Nat} {x : α} (h : ∀ y ∈ l.take k, p y = false) (hx : l[k]? = some x) (hp : p x = true) : firstG p l = k := by
  have hk : k < l.length := (List.getElem?_eq_some_iff.1 hx).1
  have he : l[k] = x := (List.getElem?_eq_some_iff.1 hx).2
  have : l.findIdx? p = some k := by
    rw [List.findIdx?_eq_some_iff_getElem]
    refine ⟨hk, by rw [he]; exact hp, fun j hj => ?_⟩
    have := h l[j] (List.mem_iff_getElem?.2 ⟨j, by rw [List.getElem?_take_of_lt hj]; simp⟩)
    simp [this]
  simp [firstG, this]
theorem firstG_none {α : Type} {p : α → Bool} {l : List α} (h : ∀ y ∈ l, p y = false) : firstG p l = -1 := by
  have : l.findIdx? p = none := List.findIdx?_eq_none_iff.2 h
  simp [firstG, this]
theorem firstG_any {α : Type} (p : α → Bool) (l : List α) : decide (0 ≤ firstG p l) = l.any p := by
  unfold firstG
  cases h : l.findIdx? p with
  | none =>
    rw [List.findIdx?_eq_none_iff] at h
    have h2 : l.any p = false := by rw [List.any_eq_false]; intro x hx; simp [h x hx]
    rw [h2]; rfl
  | some i =>
    have h2 : l.any p = true := by
      obtain ⟨hi, hp, _⟩ := List.findIdx?_eq_some_iff_getElem.1 h
      exact List.any_eq_true.2 ⟨_, List.getElem_mem hi, hp⟩
    rw [h2]; simp
/-- How many of a list stand ahead of a name. -/
def posT (l : List Tm) (t : Tm) : Nat := l.countP fun x => decide (ltT x t)
theorem ascT_before {l : List Tm} (h : ascTP l) {t : Tm} : ∀ {i : Nat} {x : Tm}, l[i]? = some x → (ltT x t ↔ i < posT l t) := by
  induction l with
  | nil => intro i x hx; simp at hx
  | cons y r ih =>
    obtain ⟨h1, h2⟩ := List.pairwise_cons.1 h
    intro i x hx
    unfold posT
    rw [List.countP_cons]
    cases i with
    | zero =>
      simp only [List.getElem?_cons_zero, Option.some.injEq] at hx
      subst hx
      by_cases hl : ltT y t
      · simp [hl]
      · have h0 : (r.countP fun x => decide (ltT x t)) = 0 := by
          rw [List.countP_eq_zero]
          intro z hz hzt
          exact hl (ltT_trans (h1 z hz) (by simpa using hzt))
        rw [h0]; simp [hl]
    | succ i =>
      have hx' : r[i]? = some x := by simpa using hx
      have h3 := ih h2 hx'
      unfold posT at h3
      rw [h3]
      by_cases hl : ltT y t
      · simp [hl]
      · have h0 : (r.countP fun x => decide (ltT x t)) = 0 := by
          rw [List.countP_eq_zero]
          intro z hz hzt
          exact hl (ltT_trans (h1 z hz) (by simpa using hzt))
        rw [h0]; simp [hl]
theorem posT_le (l : List Tm) (t : Tm) : posT l t ≤ l.length := List.countP_le_length
/-- A place such that all ahead of it are less, none behind it: it is the only one. -/
theorem posT_of {l : List Tm} (h : ascTP l) {t : Tm} {i : Nat} (hi : i ≤ l.length) (h1 : ∀ j x, j < i → l[j]? = some x → cmpT x t < 0) (h2 : ∀ j x, i ≤ j → l[j]? = some x → ¬ cmpT x t < 0) : i = posT l t := by
  rcases Nat.lt_trichotomy i (posT l t) with h3 | h3 | h3
  · have hl := posT_le l t
    have h4 := (ascT_before h (List.getElem?_eq_getElem (show i < l.length by omega))).2 h3
    exact absurd h4 (h2 i _ (Nat.le_refl _) (List.getElem?_eq_getElem (show i < l.length by omega)))
  · exact h3
  · have h4 := h1 (posT l t) _ h3 (List.getElem?_eq_getElem (show posT l t < l.length by omega))
    have := (ascT_before h (List.getElem?_eq_getElem (show posT l t < l.length by omega))).1 h4
    omega
/-- Is the name at that place? -/
theorem posT_has {l : List Tm} (h : ascTP l) {t : Tm} : l.contains t = (match l[posT l t]? with | some x => decide (cmpT x t = 0) | none => false) := by
  rw [Bool.eq_iff_iff, List.contains_iff_mem]
  constructor
  · intro hm
    obtain ⟨i, hi⟩ := List.mem_iff_getElem?.1 hm
    have h1 := ascT_before h (t := t) hi
    have h2 : ¬ i < posT l t := fun h3 => ltT_irrefl _ (h1.2 h3)
    have hil := (List.getElem?_eq_some_iff.1 hi).1
    have hlt : posT l t < l.length := by omega
    have h4 := ascT_before h (t := t) (List.getElem?_eq_getElem hlt)
    rw [List.getElem?_eq_getElem hlt]
    have h5 : l[posT l t] = t := by
      rcases Nat.lt_or_eq_of_le (Nat.le_of_not_lt h2) with h6 | h6
      · have := (List.pairwise_iff_getElem.1 h) (posT l t) i hlt hil h6
        rw [(List.getElem?_eq_some_iff.1 hi).2] at this
        have := h4.1 this
        omega
      · have h7 := hi
        rw [← h6] at h7
        exact (List.getElem?_eq_some_iff.1 h7).2
    simp [h5, cmpT_zero]
  · intro hm
    cases hx : l[posT l t]? with
    | none => rw [hx] at hm; cases hm
    | some x =>
      rw [hx] at hm
      have : x = t := cmpT_zero.1 (by simpa using hm)
      subst this
      exact List.mem_of_getElem? hx
end Go.Proofs.YtffnpfponnhddaaGreat
namespace Go.Proofs.YtffnpfponnhddaaGreat

theorem ascT_cons {x : Tm} {l : List Tm} : ascTP (x :: l) ↔ (∀ z ∈ l, ltT x z) ∧ ascTP l := List.pairwise_cons
/-- Each run of equal names, its first one alone. -/
def compactT : List Tm → List Tm
  | [] => []
  | [x] => [x]
  | x :: y :: r => if x = y then compactT (y :: r) else x :: compactT (y :: r)
theorem compactT_cons (a : Tm) : ∀ (m : List Tm) (b : Tm), m.head? = some b → compactT (a :: m) = if a = b then compactT m else a :: compactT m
  | [], b, h => by simp at h
  | c :: m, b, h => by simp at h; subst h; rfl
theorem compactT_snoc : ∀ (l : List Tm) (y z : Tm), compactT (l ++ [y, z]) = if y = z then compactT (l ++ [y]) else compactT (l ++ [y]) ++ [z]
  | [], y, z => by
    by_cases h : y = z
    · subst h; simp [compactT]
    · simp [compactT, h]
  | a :: l, y, z => by
    have ih := compactT_snoc l y z
    obtain ⟨b, hb⟩ : ∃ b, (l ++ [y]).head? = some b := by cases l <;> simp
    have hb2 : (l ++ [y, z]).head? = some b := by cases l <;> simpa using hb
    rw [List.cons_append, List.cons_append, compactT_cons a _ b hb, compactT_cons a _ b hb2, ih]
    by_cases h : y = z <;> by_cases h2 : a = b <;> simp [h, h2]
theorem take_twoT {l : List Tm} {k : Nat} {y z : Tm} (hy : l[k]? = some y) (hz : l[k + 1]? = some z) : l.take (k + 2) = l.take k ++ [y, z] ∧ l.take (k + 1) = l.take k ++ [y] := by
  have h1 : l.take (k + 1) = l.take k ++ [y] := by rw [List.take_add_one, hy]; rfl
  refine ⟨?_, h1⟩
  rw [show k + 2 = k + 1 + 1 from rfl, List.take_add_one, hz, h1]; simp
theorem compactT_step {l : List Tm} {k : Nat} {y z : Tm} (hy : l[k]? = some y) (hz : l[k + 1]? = some z) :
    compactT (l.take (k + 2)) = if y = z then compactT (l.take (k + 1)) else compactT (l.take (k + 1)) ++ [z] := by
  obtain ⟨h1, h2⟩ := take_twoT hy hz
  rw [h1, h2, compactT_snoc]
theorem compactT_mem : ∀ (l : List Tm) (z : Tm), z ∈ compactT l ↔ z ∈ l
  | [], z => by simp [compactT]
  | [x], z => by simp [compactT]
  | x :: y :: r, z => by
    have ih := compactT_mem (y :: r) z
    rw [compactT]
    split
    · rename_i h; subst h; rw [ih]; simp
    · rw [List.mem_cons, ih]; simp
theorem compactT_ascP : ∀ (l : List Tm), l.Pairwise (fun x y => ¬ ltT y x) → ascTP (compactT l)
  | [], _ => .nil
  | [x], _ => by simp [compactT]
  | x :: y :: r, h => by
    obtain ⟨h1, h2⟩ := List.pairwise_cons.1 h
    have ih := compactT_ascP (y :: r) h2
    rw [compactT]
    split
    · exact ih
    · rename_i hne
      refine ascT_cons.2 ⟨fun z hz => ?_, ih⟩
      rw [compactT_mem] at hz
      have hxy : ltT x y := by
        rcases Classical.em (ltT x y) with h' | h'
        · exact h'
        · exact absurd (ltT_total hne h') (h1 y (by simp))
      rcases List.mem_cons.1 hz with rfl | hz
      · exact hxy
      · have h3 := (List.pairwise_cons.1 h2).1 z hz
        have h4 := h1 z (by simp [hz])
        rcases Classical.em (x = z) with rfl | hne2
        · exact absurd hxy h3
        · rcases Classical.em (ltT x z) with h' | h'
          · exact h'
          · exact absurd (ltT_total hne2 h') h4
/-- A tag more, at its place. -/
def insT (g : List Tm) (t : Tm) : List Tm := g.take (posT g t) ++ t :: g.drop (posT g t)
theorem insT_mem (g : List Tm) (t z : Tm) : z ∈ insT g t ↔ z = t ∨ z ∈ g := by
  unfold insT
  rw [List.mem_append, List.mem_cons]
  constructor
  · rintro (h | h | h)
    · exact .inr (List.mem_of_mem_take h)
    · exact .inl h
    · exact .inr (List.mem_of_mem_drop h)
  · rintro (h | h)
    · exact .inr (.inl h)
    · rw [← List.take_append_drop (posT g t) g, List.mem_append] at h
      rcases h with h | h
      · exact .inl h
      · exact .inr (.inr h)
theorem posT_split {g : List Tm} (h : ascTP g) {t : Tm} : (∀ z ∈ g.take (posT g t), ltT z t) ∧ (t ∉ g → ∀ z ∈ g.drop (posT g t), ltT t z) := by
  constructor
  · intro z hz
    obtain ⟨i, hi⟩ := List.mem_iff_getElem?.1 hz
    have hil := (List.getElem?_eq_some_iff.1 hi).1
    rw [List.length_take] at hil
    rw [List.getElem?_take_of_lt (by omega)] at hi
    exact (ascT_before h hi).2 (by omega)
  · intro hn z hz
    obtain ⟨i, hi⟩ := List.mem_iff_getElem?.1 hz
    rw [List.getElem?_drop] at hi
    have h1 : ¬ ltT z t := fun h2 => by have := (ascT_before h hi).1 h2; omega
    exact ltT_total (fun e => hn (e ▸ List.mem_of_getElem? hi)) h1
theorem insT_asc {g : List Tm} (h : ascTP g) {t : Tm} (hn : t ∉ g) : ascTP (insT g t) := by
  obtain ⟨h1, h2⟩ := posT_split h (t := t)
  have h2 := h2 hn
  unfold insT
  have hg := h
  rw [← List.take_append_drop (posT g t) g] at hg
  obtain ⟨h3, h4, h5⟩ := List.pairwise_append.1 hg
  refine List.pairwise_append.2 ⟨h3, List.pairwise_cons.2 ⟨h2, h4⟩, fun a ha b hb => ?_⟩
  rcases List.mem_cons.1 hb with rfl | hb
  · exact h1 a ha
  · exact h5 a ha b hb
/-- A tag more, if it is not there. -/
def addT (g : List Tm) (t : Tm) : List Tm := if g.contains t then g else insT g t
theorem addT_spec {g : List Tm} (h : ascTP g) (t : Tm) : ascTP (addT g t) ∧ ∀ z, z ∈ addT g t ↔ z = t ∨ z ∈ g := by
  unfold addT
  by_cases hc : g.contains t = true
  · rw [if_pos hc]
    refine ⟨h, fun z => ⟨.inr, ?_⟩⟩
    rintro (rfl | hz)
    · exact List.contains_iff_mem.1 hc
    · exact hz
  · rw [if_neg hc]
    have hn : t ∉ g := fun h => hc (List.contains_iff_mem.2 h)
    exact ⟨insT_asc h hn, insT_mem g t⟩
def dropG (g l : List Tm) : List Tm := l.foldl addT g
theorem dropG_spec : ∀ (l : List Tm) {g : List Tm}, ascTP g → ascTP (dropG g l) ∧ ∀ z, z ∈ dropG g l ↔ z ∈ l ∨ z ∈ g
  | [], g, h => ⟨h, by simp [dropG]⟩
  | t :: l, g, h => by
    obtain ⟨h1, h2⟩ := addT_spec h t
    obtain ⟨h3, h4⟩ := dropG_spec l h1
    refine ⟨h3, fun z => ?_⟩
    have := h4 z
    unfold dropG at this ⊢
    rw [List.foldl_cons, this, h2, List.mem_cons]
    constructor
    · rintro (h | h | h)
      · exact .inl (.inr h)
      · exact .inl (.inl h)
      · exact .inr h
    · rintro ((h | h) | h)
      · exact .inr (.inl h)
      · exact .inl h
      · exact .inr (.inr h)
/-- What a sort and the loss of repeats make of two lists. -/
theorem compactT_drop {ys g l : List Tm} (hs : ys.Pairwise (fun x y => ¬ ltT y x)) (hg : ascTP g) (hm : ∀ z, z ∈ ys ↔ z ∈ g ++ l) : compactT ys = dropG g l := by
  obtain ⟨h1, h2⟩ := dropG_spec l hg
  refine ascT_ext (compactT_ascP ys hs) h1 (fun z => ?_)
  rw [compactT_mem, hm, h2, List.mem_append]
  exact Or.comm
end Go.Proofs.YtffnpfponnhddaaGreat
namespace Go.Proofs.YtffnpfponnhddaaGreat

section
variable {α : Type} {key : α → Tm}
theorem ascK_ext : ∀ {xs ys : List α}, ascTP (xs.map key) → ascTP (ys.map key) → (∀ x, x ∈ xs ↔ x ∈ ys) → xs = ys
  | [], ys, _, _, h => by
    cases ys with
    | nil => rfl
    | cons y ys => have := (h y).2 (by simp); simp at this
  | x :: xs, [], _, _, h => by have := (h x).1 (by simp); simp at this
  | x :: xs, y :: ys, hx, hy, h => by
    rw [List.map_cons] at hx hy
    obtain ⟨hx1, hx2⟩ := List.pairwise_cons.1 hx
    obtain ⟨hy1, hy2⟩ := List.pairwise_cons.1 hy
    have hx1 : ∀ z ∈ xs, ltT (key x) (key z) := fun z hz => hx1 _ (List.mem_map_of_mem hz)
    have hy1 : ∀ z ∈ ys, ltT (key y) (key z) := fun z hz => hy1 _ (List.mem_map_of_mem hz)
    have e : x = y := by
      rcases List.mem_cons.1 ((h x).1 (by simp)) with e | h1
      · exact e
      · rcases List.mem_cons.1 ((h y).2 (by simp)) with e | h2
        · exact e.symm
        · exact absurd (ltT_trans (hy1 x h1) (hx1 y h2)) (ltT_irrefl _)
    subst e
    have : xs = ys := ascK_ext hx2 hy2 (fun z => by
      constructor
      · intro hz
        rcases List.mem_cons.1 ((h z).1 (by simp [hz])) with rfl | h1
        · exact absurd (hx1 z hz) (ltT_irrefl _)
        · exact h1
      · intro hz
        rcases List.mem_cons.1 ((h z).2 (by simp [hz])) with rfl | h1
        · exact absurd (hy1 z hz) (ltT_irrefl _)
        · exact h1)
    rw [this]
/-- Two things of such a list with one tag are one. -/
theorem ascK_inj {xs : List α} (h : ascTP (xs.map key)) {a b : α} (ha : a ∈ xs) (hb : b ∈ xs) (he : key a = key b) : a = b := by
  obtain ⟨i, hi⟩ := List.mem_iff_getElem?.1 ha
  obtain ⟨j, hj⟩ := List.mem_iff_getElem?.1 hb
  have hil := (List.getElem?_eq_some_iff.1 hi).1
  have hjl := (List.getElem?_eq_some_iff.1 hj).1
  have h1 := List.pairwise_iff_getElem.1 h
  rcases Nat.lt_trichotomy i j with h2 | h2 | h2
  · have := h1 i j (by simpa using hil) (by simpa using hjl) h2
    simp only [List.getElem_map] at this
    rw [(List.getElem?_eq_some_iff.1 hi).2, (List.getElem?_eq_some_iff.1 hj).2, he] at this
    exact absurd this (ltT_irrefl _)
  · subst h2; rw [hi] at hj; exact Option.some.inj hj
  · have := h1 j i (by simpa using hjl) (by simpa using hil) h2
    simp only [List.getElem_map] at this
    rw [(List.getElem?_eq_some_iff.1 hi).2, (List.getElem?_eq_some_iff.1 hj).2, he] at this
    exact absurd this (ltT_irrefl _)
theorem ascK_filter {xs : List α} (p : α → Bool) (h : ascTP (xs.map key)) : ascTP ((xs.filter p).map key) :=
  h.sublist (List.Sublist.map key (List.filter_sublist (l := xs) (p := p)))
variable (key) in
/-- A thing more, at its place. -/
def insK (xs : List α) (a : α) : List α := xs.take (posT (xs.map key) (key a)) ++ a :: xs.drop (posT (xs.map key) (key a))
theorem insK_map (xs : List α) (a : α) : (insK key xs a).map key = insT (xs.map key) (key a) := by
  unfold insK insT; simp [List.map_take, List.map_drop]
theorem insK_mem (xs : List α) (a z : α) : z ∈ insK key xs a ↔ z = a ∨ z ∈ xs := by
  unfold insK
  generalize posT (xs.map key) (key a) = k
  rw [List.mem_append, List.mem_cons]
  constructor
  · rintro (h | h | h)
    · exact .inr (List.mem_of_mem_take h)
    · exact .inl h
    · exact .inr (List.mem_of_mem_drop h)
  · rintro (h | h)
    · exact .inr (.inl h)
    · rw [← List.take_append_drop k xs, List.mem_append] at h
      rcases h with h | h
      · exact .inl h
      · exact .inr (.inr h)
theorem insK_len (xs : List α) (a : α) : (insK key xs a).length = xs.length + 1 := by
  unfold insK
  have := posT_le (xs.map key) (key a)
  simp at this ⊢
  omega
theorem insK_asc {xs : List α} (h : ascTP (xs.map key)) {a : α} (hn : key a ∉ xs.map key) : ascTP ((insK key xs a).map key) := by
  rw [insK_map]; exact insT_asc h hn
end
end Go.Proofs.YtffnpfponnhddaaGreat
