/- A stable sort's plain laws: swaps, blocks turned about, merging by symmetric comparisons. -/
import Derived.Test.YtpolplmniaoikaaDoorGa
namespace Go.Proofs.YtpolplmniaoikaaDoor

/-- Two places of a list exchanged. -/
def swp {α : Type} (xs : List α) (i j : Nat) : List α := match xs[i]?, xs[j]? with
  | some x, some y => (xs.set i y).set j x
  | _, _ => xs
theorem swp_eq {α : Type} {xs : List α} {i j : Nat} {x y : α} (hx : xs[i]? = some x) (hy : xs[j]? = some y) : swp xs i j = (xs.set i y).set j x := by
  unfold swp; rw [hx, hy]
theorem swp_len {α : Type} (xs : List α) (i j : Nat) : (swp xs i j).length = xs.length := by
  unfold swp; split <;> simp
theorem swp_at {α : Type} (xs : List α) {i j : Nat} (hi : i < xs.length) (hj : j < xs.length) (k : Nat) : (swp xs i j)[k]? = if k = j then xs[i]? else if k = i then xs[j]? else xs[k]? := by
  have hx : xs[i]? = some xs[i] := List.getElem?_eq_getElem hi
  have hy : xs[j]? = some xs[j] := List.getElem?_eq_getElem hj
  rw [swp_eq hx hy, List.getElem?_set]
  by_cases h1 : j = k
  · subst h1; simp [hj, hx]
  · rw [if_neg h1, if_neg (Ne.symm h1), List.getElem?_set]
    by_cases h2 : i = k
    · subst h2; simp [hi, hy]
    · rw [if_neg h2, if_neg (Ne.symm h2)]
theorem swp_perm {α : Type} (xs : List α) (i j : Nat) : (swp xs i j).Perm xs := by
  unfold swp
  split
  · rename_i x y hx hy
    obtain ⟨hi, rfl⟩ := List.getElem?_eq_some_iff.1 hx
    obtain ⟨hj, rfl⟩ := List.getElem?_eq_some_iff.1 hy
    exact List.set_set_perm hi hj
  · exact List.Perm.refl _
/-- From one list to another by moving things about within a stretch. -/
structure Mv {α : Type} (a b : Nat) (xs ys : List α) : Prop where
  perm : ys.Perm xs
  out : ∀ k, (k < a ∨ b ≤ k) → ys[k]? = xs[k]?
  inn : ∀ k, a ≤ k → k < b → ∃ j, a ≤ j ∧ j < b ∧ ys[k]? = xs[j]?
namespace Mv
variable {α : Type} {a b c d : Nat} {xs ys zs : List α}
theorem refl (a b : Nat) (xs : List α) : Mv a b xs xs := ⟨List.Perm.refl _, fun _ _ => rfl, fun k h1 h2 => ⟨k, h1, h2, rfl⟩⟩
theorem trans (h1 : Mv a b xs ys) (h2 : Mv a b ys zs) : Mv a b xs zs :=
  ⟨h2.perm.trans h1.perm, fun k hk => (h2.out k hk).trans (h1.out k hk), fun k ha hb => by
    obtain ⟨j, h3, h4, h5⟩ := h2.inn k ha hb
    obtain ⟨i, h6, h7, h8⟩ := h1.inn j h3 h4
    exact ⟨i, h6, h7, h5.trans h8⟩⟩
theorem mono (h : Mv a b xs ys) (ha : c ≤ a) (hb : b ≤ d) : Mv c d xs ys :=
  ⟨h.perm, fun k hk => h.out k (by omega), fun k h1 h2 => by
    by_cases hk : a ≤ k ∧ k < b
    · obtain ⟨j, h3, h4, h5⟩ := h.inn k hk.1 hk.2
      exact ⟨j, by omega, by omega, h5⟩
    · exact ⟨k, h1, h2, h.out k (by omega)⟩⟩
theorem len (h : Mv a b xs ys) : ys.length = xs.length := h.perm.length_eq
theorem swap {i j : Nat} (hi : i < xs.length) (hj : j < xs.length) (h1 : a ≤ i) (h2 : i < b) (h3 : a ≤ j) (h4 : j < b) : Mv a b xs (swp xs i j) :=
  ⟨swp_perm _ _ _, fun k hk => by rw [swp_at _ hi hj, if_neg (by omega), if_neg (by omega)], fun k ha hb => by
    rw [swp_at _ hi hj]
    by_cases e1 : k = j
    · exact ⟨i, h1, h2, if_pos e1⟩
    · rw [if_neg e1]
      by_cases e2 : k = i
      · exact ⟨j, h3, h4, if_pos e2⟩
      · exact ⟨k, ha, hb, if_neg e2⟩⟩
end Mv
section
variable {α : Type} (κ : α → Int)
/-- In order within a stretch. -/
def So (a b : Nat) (xs : List α) : Prop := ∀ i k x y, a ≤ i → i ≤ k → k < b → xs[i]? = some x → xs[k]? = some y → κ x ≤ κ y
variable {κ}
variable {a b m c d : Nat} {xs ys zs : List α}
theorem So.one (h : b ≤ a + 1) : So κ a b xs := fun i k x y h1 h2 h3 hx hy => by
  obtain rfl : i = k := by omega
  obtain rfl : x = y := Option.some.inj (hx.symm.trans hy)
  exact Int.le_refl _
theorem So.sub (h : So κ a b xs) (ha : a ≤ c) (hb : d ≤ b) : So κ c d xs := fun i k x y h1 h2 h3 => h i k x y (by omega) h2 (by omega)
theorem So.same (h : So κ a b xs) (he : ∀ k, a ≤ k → k < b → ys[k]? = xs[k]?) : So κ a b ys := fun i k x y h1 h2 h3 hx hy =>
  h i k x y h1 h2 h3 ((he i h1 (by omega)).symm.trans hx) ((he k (by omega) h3).symm.trans hy)
theorem So.shift (h : So κ c d xs) (he : ∀ k, a ≤ k → k < b → ys[k]? = xs[c + (k - a)]?) (hl : c + (b - a) ≤ d) : So κ a b ys := fun i k x y h1 h2 h3 hx hy =>
  h (c + (i - a)) (c + (k - a)) x y (by omega) (by omega) (by omega) ((he i h1 (by omega)).symm.trans hx) ((he k (by omega) h3).symm.trans hy)
/-- All of one stretch at most all of another. -/
def Le (κ : α → Int) (a b c d : Nat) (xs : List α) : Prop := ∀ i k x y, a ≤ i → i < b → c ≤ k → k < d → xs[i]? = some x → xs[k]? = some y → κ x ≤ κ y
theorem So.join (h1 : So κ a m xs) (h2 : So κ m b xs) (h3 : Le κ a m m b xs) : So κ a b xs := fun i k x y ha hik hb hx hy => by
  by_cases e1 : k < m
  · exact h1 i k x y ha hik e1 hx hy
  · by_cases e2 : m ≤ i
    · exact h2 i k x y e2 hik hb hx hy
    · exact h3 i k x y ha (by omega) (by omega) hb hx hy
theorem Le.moved (h : Le κ a m m b xs) (h1 : Mv a m xs ys) (h2 : Mv m b ys zs) : Le κ a m m b zs := fun i k x y ha hm hm' hb hx hy => by
  obtain ⟨j, j1, j2, j3⟩ := h2.inn k hm' hb
  rw [h2.out i (by omega)] at hx
  obtain ⟨l, l1, l2, l3⟩ := h1.inn i ha hm
  rw [j3, h1.out j (by omega)] at hy
  exact h l j x y l1 l2 j1 j2 (l3.symm.trans hx) hy
end
/-- Two neighbouring stretches exchanged: from a to m and from m to b. -/
def rotF {α : Type} (f : Nat → Option α) (a m b k : Nat) : Option α :=
  if k < a ∨ b ≤ k then f k else if k < a + (b - m) then f (m + (k - a)) else f (k - (b - m))
/-- Stretches of one length exchanged. -/
def srF {α : Type} (f : Nat → Option α) (a b n k : Nat) : Option α :=
  if a ≤ k ∧ k < a + n then f (b + (k - a)) else if b ≤ k ∧ k < b + n then f (a + (k - b)) else f k
theorem srF_zero {α : Type} (f : Nat → Option α) (a b k : Nat) : srF f a b 0 k = f k := by
  unfold srF; rw [if_neg (by omega), if_neg (by omega)]
theorem srF_step {α : Type} {f : Nat → Option α} {xs : List α} {a b k m : Nat} (hab : a + m ≤ b) (hb : b + m ≤ xs.length) (hk : k < m) (h : ∀ q, xs[q]? = srF f a b k q) (q : Nat) : (swp xs (a + k) (b + k))[q]? = srF f a b (k + 1) q := by
  rw [swp_at _ (by omega) (by omega), h, h, h]
  unfold srF
  repeat' split
  all_goals first | omega | rfl | (congr 1; omega)
theorem rotF_gt {α : Type} (f g : Nat → Option α) (m i j : Nat) (hij : j < i) (him : i ≤ m) (hj : 0 < j) (hg : ∀ k, g k = srF f (m - i) m j k) (k : Nat) :
    rotF g (m - (i - j)) m (m + j) k = rotF f (m - i) m (m + j) k := by
  unfold rotF
  simp only [hg]
  unfold srF
  repeat' split
  all_goals first | omega | rfl | (congr 1; omega)
theorem rotF_lt {α : Type} (f g : Nat → Option α) (m i j : Nat) (hij : i < j) (him : i ≤ m) (hi : 0 < i) (hg : ∀ k, g k = srF f (m - i) (m + j - i) i k) (k : Nat) :
    rotF g (m - i) m (m + (j - i)) k = rotF f (m - i) m (m + j) k := by
  unfold rotF
  simp only [hg]
  unfold srF
  repeat' split
  all_goals first | omega | rfl | (congr 1; omega)
theorem rotF_eq {α : Type} (f g : Nat → Option α) (m i : Nat) (him : i ≤ m) (hg : ∀ k, g k = srF f (m - i) m i k) (k : Nat) :
    g k = rotF f (m - i) m (m + i) k := by
  unfold rotF
  simp only [hg]
  unfold srF
  repeat' split
  all_goals first | omega | rfl | (congr 1; omega)
theorem rotF_none {α : Type} (f : Nat → Option α) (a m b : Nat) (h : a = m ∨ m = b) (ham : a ≤ m) (hmb : m ≤ b) (k : Nat) : rotF f a m b k = f k := by
  unfold rotF
  repeat' split
  all_goals first | omega | rfl | (congr 1; omega)
theorem Mv.of_rot {α : Type} {xs ys : List α} {a m b : Nat} (hp : ys.Perm xs) (ham : a ≤ m) (hmb : m ≤ b) (h : ∀ k, ys[k]? = rotF (fun k => xs[k]?) a m b k) : Mv a b xs ys :=
  ⟨hp, fun k hk => by rw [h]; unfold rotF; rw [if_pos hk], fun k h1 h2 => by
    rw [h]; unfold rotF; rw [if_neg (by omega)]
    split
    · exact ⟨m + (k - a), by omega, by omega, rfl⟩
    · exact ⟨k - (b - m), by omega, by omega, rfl⟩⟩
/-- The halves of a merge: what is known of where the two stretches are cut. -/
structure Cut2 {α : Type} (κ : α → Int) (xs : List α) (a m b start : Nat) : Prop where
  lo : a ≤ start
  le : start ≤ m
  hi : m + (a + b) / 2 - start ≤ b
  ge : m ≤ m + (a + b) / 2 - start
  mid : start ≤ (a + b) / 2
  left : a = start ∨ m + (a + b) / 2 - start = b ∨ ∀ x y, xs[start - 1]? = some x → xs[m + (a + b) / 2 - start]? = some y → κ x ≤ κ y
  right : start = m ∨ m = m + (a + b) / 2 - start ∨ ∀ x y, xs[m + (a + b) / 2 - start - 1]? = some x → xs[start]? = some y → κ x ≤ κ y
theorem Cut2.halves {α : Type} {κ : α → Int} {xs zs : List α} {a m b start : Nat} (h : Cut2 κ xs a m b start) (hb : b ≤ xs.length) (h1 : So κ a m xs) (h2 : So κ m b xs)
    (hz : ∀ k, zs[k]? = rotF (fun k => xs[k]?) start m (m + (a + b) / 2 - start) k) :
    So κ a start zs ∧ So κ start ((a + b) / 2) zs ∧ So κ ((a + b) / 2) (m + (a + b) / 2 - start) zs ∧ So κ (m + (a + b) / 2 - start) b zs ∧ Le κ a ((a + b) / 2) ((a + b) / 2) b zs := by
  obtain ⟨hlo, hle, hhi, hge, hmid, hleft, hright⟩ := h
  generalize hmd : (a + b) / 2 = md at *
  have z1 : ∀ k, k < start → zs[k]? = xs[k]? := fun k hk => by rw [hz]; unfold rotF; rw [if_pos (by omega)]
  have z2 : ∀ k, start ≤ k → k < md → zs[k]? = xs[m + (k - start)]? := fun k h3 h4 => by rw [hz]; unfold rotF; rw [if_neg (by omega), if_pos (by omega)]
  have z3 : ∀ k, md ≤ k → k < m + md - start → zs[k]? = xs[start + (k - md)]? := fun k h3 h4 => by
    rw [hz]; unfold rotF; rw [if_neg (by omega), if_neg (by omega)]; show xs[_]? = xs[_]?; congr 1; omega
  have z4 : ∀ k, m + md - start ≤ k → zs[k]? = xs[k]? := fun k h3 => by rw [hz]; unfold rotF; rw [if_pos (by omega)]
  have at_ : ∀ k, k < b → ∃ x, xs[k]? = some x := fun k hk => ⟨_, List.getElem?_eq_getElem (by omega)⟩
  refine ⟨(h1.sub (Nat.le_refl _) hle).same (fun k _ h4 => z1 k h4), h2.shift (fun k h3 h4 => z2 k h3 h4) (by omega), So.shift (c := start) (d := m) (a := md) (b := m + md - start) (h1.sub hlo (Nat.le_refl _)) (fun k h3 h4 => z3 k h3 h4) (by omega), (h2.sub hge (Nat.le_refl _)).same (fun k h3 _ => z4 k h3), ?_⟩
  intro i k x y hi1 hi2 hk1 hk2 hx hy
  by_cases e1 : i < start
  · rw [z1 i e1] at hx
    by_cases e2 : k < m + md - start
    · rw [z3 k hk1 e2] at hy
      exact h1 i _ x y hi1 (by omega) (by omega) hx hy
    · rw [z4 k (by omega)] at hy
      rcases hleft with h3 | h3 | h3
      · omega
      · omega
      · obtain ⟨u, hu⟩ := at_ (start - 1) (by omega)
        obtain ⟨v, hv⟩ := at_ (m + md - start) (by omega)
        exact Int.le_trans (h1 i (start - 1) x u hi1 (by omega) (by omega) hx hu) (Int.le_trans (h3 u v hu hv) (h2 (m + md - start) k v y hge (by omega) hk2 hv hy))
  · rw [z2 i (by omega) hi2] at hx
    by_cases e2 : k < m + md - start
    · rw [z3 k hk1 e2] at hy
      rcases hright with h3 | h3 | h3
      · omega
      · omega
      · obtain ⟨u, hu⟩ := at_ (m + md - start - 1) (by omega)
        obtain ⟨v, hv⟩ := at_ start (by omega)
        exact Int.le_trans (h2 (m + (i - start)) (m + md - start - 1) x u (by omega) (by omega) (by omega) hx hu) (Int.le_trans (h3 u v hu hv) (h1 start (start + (k - md)) v y hlo (by omega) (by omega) hv hy))
    · rw [z4 k (by omega)] at hy
      exact h2 _ k x y (by omega) (by omega) hk2 hx hy
/-- One thing moved up behind others (from a to p). -/
theorem So.up {α : Type} {κ : α → Int} {xs zs : List α} {a m b p : Nat} (hm : m = a + 1) (h2 : So κ m b xs) (hmp : m ≤ p) (hpb : p ≤ b)
    (hlt : ∀ k x y, m ≤ k → k < p → xs[k]? = some x → xs[a]? = some y → κ x ≤ κ y) (hge : ∀ k x y, p ≤ k → k < b → xs[k]? = some x → xs[a]? = some y → κ y ≤ κ x)
    (z1 : ∀ k, a ≤ k → k + 1 < p → zs[k]? = xs[k + 1]?) (z2 : zs[p - 1]? = xs[a]?) (z3 : ∀ k, p ≤ k → zs[k]? = xs[k]?) : So κ a b zs := by
  subst hm
  intro i k x y ha hik hb hx hy
  by_cases e1 : i + 1 < p
  · rw [z1 i ha e1] at hx
    by_cases e2 : k + 1 < p
    · rw [z1 k (by omega) e2] at hy
      exact h2 _ _ x y (by omega) (by omega) (by omega) hx hy
    · by_cases e3 : k = p - 1
      · rw [e3, z2] at hy
        exact hlt _ x y (by omega) e1 hx hy
      · rw [z3 k (by omega)] at hy
        exact h2 _ _ x y (by omega) (by omega) (by omega) hx hy
  · by_cases e4 : i = p - 1
    · rw [e4, z2] at hx
      by_cases e3 : k = p - 1
      · rw [e3, z2] at hy
        obtain rfl : x = y := Option.some.inj (hx.symm.trans hy)
        exact Int.le_refl _
      · rw [z3 k (by omega)] at hy
        exact hge k y x (by omega) hb hy hx
    · rw [z3 i (by omega)] at hx
      rw [z3 k (by omega)] at hy
      exact h2 _ _ x y (by omega) (by omega) (by omega) hx hy
/-- One thing moved down ahead of others (from m to p). -/
theorem So.down {α : Type} {κ : α → Int} {xs zs : List α} {a m b p : Nat} (hm : b = m + 1) (h1 : So κ a m xs) (hap : a ≤ p) (hpm : p ≤ m)
    (hle : ∀ k x y, a ≤ k → k < p → xs[k]? = some x → xs[m]? = some y → κ x ≤ κ y) (hgt : ∀ k x y, p ≤ k → k < m → xs[k]? = some x → xs[m]? = some y → κ y ≤ κ x)
    (z1 : ∀ k, p < k → k ≤ m → zs[k]? = xs[k - 1]?) (z2 : zs[p]? = xs[m]?) (z3 : ∀ k, k < p → zs[k]? = xs[k]?) : So κ a b zs := by
  subst hm
  intro i k x y ha hik hb hx hy
  by_cases e1 : i < p
  · rw [z3 i e1] at hx
    by_cases e2 : k < p
    · rw [z3 k e2] at hy
      exact h1 _ _ x y ha hik (by omega) hx hy
    · by_cases e3 : k = p
      · rw [e3, z2] at hy
        exact hle _ x y ha e1 hx hy
      · rw [z1 k (by omega) (by omega)] at hy
        exact h1 _ _ x y ha (by omega) (by omega) hx hy
  · by_cases e4 : i = p
    · rw [e4, z2] at hx
      by_cases e3 : k = p
      · rw [e3, z2] at hy
        obtain rfl : x = y := Option.some.inj (hx.symm.trans hy)
        exact Int.le_refl _
      · rw [z1 k (by omega) (by omega)] at hy
        exact hgt _ y x (by omega) (by omega) hy hx
    · rw [z1 i (by omega) (by omega)] at hx
      rw [z1 k (by omega) (by omega)] at hy
      exact h1 _ _ x y (by omega) (by omega) (by omega) hx hy
/-- An insertion under way: all but the place j is in order, and what is behind it up to i is no less. -/
structure Insr {α : Type} (κ : α → Int) (a j i : Nat) (xs : List α) : Prop where
  ord : ∀ p q x y, a ≤ p → p ≤ q → q ≤ i → p ≠ j → q ≠ j → xs[p]? = some x → xs[q]? = some y → κ x ≤ κ y
  beh : ∀ q x y, j < q → q ≤ i → xs[j]? = some x → xs[q]? = some y → κ x ≤ κ y
theorem Insr.start {α : Type} {κ : α → Int} {a i : Nat} {xs : List α} (h : So κ a i xs) : Insr κ a i i xs :=
  ⟨fun p q x y h1 h2 h3 h4 h5 => h p q x y h1 h2 (by omega), fun q x y h1 h2 => by omega⟩
theorem Insr.done {α : Type} {κ : α → Int} {a j i : Nat} {xs : List α} (h : Insr κ a j i xs) (hj : a ≤ j) (he : j = a ∨ ∀ x y, xs[j - 1]? = some x → xs[j]? = some y → κ x ≤ κ y) (hl : i < xs.length) (hji : j ≤ i) : So κ a (i + 1) xs := by
  intro p q x y h1 h2 h3 hx hy
  by_cases e1 : p = j
  · subst e1
    by_cases e2 : q = p
    · subst e2
      obtain rfl : x = y := Option.some.inj (hx.symm.trans hy)
      exact Int.le_refl _
    · exact h.beh q x y (by omega) (by omega) hx hy
  · by_cases e2 : q = j
    · subst e2
      rcases he with he | he
      · omega
      · have hu : xs[q - 1]? = some xs[q - 1] := List.getElem?_eq_getElem (by omega)
        exact Int.le_trans (h.ord p (q - 1) x _ h1 (by omega) (by omega) e1 (by omega) hx hu) (he _ y hu hy)
    · exact h.ord p q x y h1 h2 (by omega) e1 e2 hx hy
theorem Insr.step {α : Type} {κ : α → Int} {a j i : Nat} {xs : List α} (h : Insr κ a j i xs) (hj : a < j) (hji : j ≤ i) (hl : i < xs.length)
    (hlt : ∀ x y, xs[j - 1]? = some x → xs[j]? = some y → κ y < κ x) : Insr κ a (j - 1) i (swp xs j (j - 1)) := by
  have hs := swp_at xs (i := j) (j := j - 1) (by omega) (by omega)
  have h0 : ∀ k, k = j - 1 → (swp xs j (j - 1))[k]? = xs[j]? := fun k hk => by rw [hs, if_pos hk]
  have h1 : ∀ k, k = j → (swp xs j (j - 1))[k]? = xs[j - 1]? := fun k hk => by rw [hs, if_neg (by omega), if_pos hk]
  have h2 : ∀ k, k ≠ j → k ≠ j - 1 → (swp xs j (j - 1))[k]? = xs[k]? := fun k hk hk' => by rw [hs, if_neg hk', if_neg hk]
  refine ⟨fun p q x y hp hpq hq e1 e2 hx hy => ?_, fun q x y hq hqi hx hy => ?_⟩
  · by_cases e3 : p = j
    · rw [h1 p e3] at hx
      by_cases e4 : q = j
      · rw [h1 q e4] at hy
        obtain rfl : x = y := Option.some.inj (hx.symm.trans hy)
        exact Int.le_refl _
      · rw [h2 q e4 e2] at hy
        exact h.ord (j - 1) q x y (by omega) (by omega) hq (by omega) e4 hx hy
    · rw [h2 p e3 e1] at hx
      by_cases e4 : q = j
      · rw [h1 q e4] at hy
        exact h.ord p (j - 1) x y hp (by omega) (by omega) e3 (by omega) hx hy
      · rw [h2 q e4 e2] at hy
        exact h.ord p q x y hp hpq hq e3 e4 hx hy
  · rw [h0 _ rfl] at hx
    by_cases e4 : q = j
    · rw [h1 q e4] at hy
      exact Int.le_of_lt (hlt y x hy hx)
    · rw [h2 q e4 (by omega)] at hy
      exact h.beh q x y (by omega) hqi hx hy
end Go.Proofs.YtpolplmniaoikaaDoor
