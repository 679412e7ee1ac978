/- Plain laws of sets and maps: what Put and Drop leave, told by members; OrsetWins' law on plain sets. In whatever order, however often: what done acts leave, told by members (plain; sets and maps). -/
import Derived.Test.YtadldndmmobpdaaM1
import Derived.Test.YtadldndmmobpdaaOsD
namespace Go.Proofs.Ytadldndmmobpdaa

theorem dropG_len' : ∀ (l g : List Tm), (dropG g l).length ≤ g.length + l.length
  | [], g => by simp [dropG]
  | t :: l, g => by
    have h := dropG_len' l (addT g t)
    have h2 : (addT g t).length ≤ g.length + 1 := by
      unfold addT insT
      split
      · omega
      · rw [List.length_append, List.length_cons, List.length_take, List.length_drop]; omega
    unfold dropG at h ⊢
    rw [List.foldl_cons, List.length_cons]
    omega
section
variable {α : Type} (key : α → Tm) (ok1 : α → Bool)
def badK (xs : List α) (gs : List Tm) : Bool := xs.any fun a => !ok1 a || gs.contains (key a)
def errK (xs : List α) (gs : List Tm) : Int := sErr (xs.map key) (badK key ok1 xs gs) gs
def putK (xs : List α) (gs : List Tm) (a : α) : (List α × List Tm) × Int :=
  if errK key ok1 xs gs ≠ 0 then (([], []), errK key ok1 xs gs) else if chkT (key a) = false then (([], []), 2) else if ok1 a = false then (([], []), 3)
  else if ((xs.map key).contains (key a) || gs.contains (key a)) = true then ((xs, gs), 0) else if xs.length = 4096 then (([], []), 4) else ((insK key xs a, gs), 0)
def dropK (xs : List α) (gs l : List Tm) : (List α × List Tm) × Int :=
  if errK key ok1 xs gs ≠ 0 then (([], []), errK key ok1 xs gs) else if 4096 < l.length then (([], []), 8) else if l.any (fun t => !chkT t) then (([], []), 2) else if 4096 < (dropG gs l).length then (([], []), 4)
  else ((xs.filter fun a => !(dropG gs l).contains (key a), dropG gs l), 0)
variable {key ok1}
theorem badK_false {xs : List α} {gs : List Tm} : badK key ok1 xs gs = false ↔ ∀ a ∈ xs, ok1 a = true ∧ key a ∉ gs := by
  unfold badK
  rw [List.any_eq_false]
  constructor
  · intro h a ha
    have := h a ha
    simp at this
    exact this
  · intro h a ha
    have := h a ha
    simp [this]
theorem errK_zero {xs : List α} {gs : List Tm} : errK key ok1 xs gs = 0 ↔ xs.length ≤ 4096 ∧ gs.length ≤ 4096 ∧ (∀ a ∈ xs, chkT (key a) = true) ∧ (∀ t ∈ gs, chkT t = true) ∧ ascTP (xs.map key) ∧ ascTP gs ∧ ∀ a ∈ xs, ok1 a = true ∧ key a ∉ gs := by
  unfold errK
  rw [sErr_zero, badK_false, List.length_map]
  constructor
  · rintro ⟨h1, h2, h3, h4, h5, h6, h7⟩
    exact ⟨h1, h2, fun a ha => h3 _ (List.mem_map_of_mem ha), h4, h5, h6, h7⟩
  · rintro ⟨h1, h2, h3, h4, h5, h6, h7⟩
    refine ⟨h1, h2, fun t ht => ?_, h4, h5, h6, h7⟩
    obtain ⟨a, ha, rfl⟩ := List.mem_map.1 ht
    exact h3 a ha
theorem errK_ext {xs ys : List α} {gs hs : List Tm} (h : errK key ok1 xs gs = 0) (h' : errK key ok1 ys hs = 0) (hx : ∀ z, z ∈ xs ↔ z ∈ ys) (hg : ∀ t, t ∈ gs ↔ t ∈ hs) : xs = ys ∧ gs = hs := by
  obtain ⟨_, _, _, _, h5, h6, _⟩ := errK_zero.1 h
  obtain ⟨_, _, _, _, k5, k6, _⟩ := errK_zero.1 h'
  exact ⟨ascK_ext h5 k5 hx, ascT_ext h6 k6 hg⟩
theorem putK_spec {xs : List α} {gs : List Tm} {a : α} (h : errK key ok1 xs gs = 0) (hc : chkT (key a) = true) (ho : ok1 a = true) (hn : xs.length < 4096) :
    (putK key ok1 xs gs a).2 = 0 ∧ (putK key ok1 xs gs a).1.2 = gs ∧ errK key ok1 (putK key ok1 xs gs a).1.1 gs = 0 ∧
      (∀ z, z ∈ (putK key ok1 xs gs a).1.1 ↔ z ∈ xs ∨ (z = a ∧ key a ∉ xs.map key ∧ key a ∉ gs)) ∧ (putK key ok1 xs gs a).1.1.length ≤ xs.length + 1 := by
  have hz := errK_zero.1 h
  obtain ⟨h1, h2, h3, h4, h5, h6, h7⟩ := hz
  unfold putK
  rw [if_neg (by rw [h]; simp), if_neg (by rw [hc]; simp), if_neg (by rw [ho]; simp)]
  by_cases hb : ((xs.map key).contains (key a) || gs.contains (key a)) = true
  · rw [if_pos hb]
    refine ⟨rfl, rfl, h, fun z => ?_, by simp⟩
    rw [Bool.or_eq_true, List.contains_iff_mem, List.contains_iff_mem] at hb
    constructor
    · exact .inl
    · rintro (h' | ⟨_, k1, k2⟩)
      · exact h'
      · exact absurd hb (by simp only [not_or]; exact ⟨k1, k2⟩)
  · rw [if_neg hb, if_neg (by omega)]
    have hb' : key a ∉ xs.map key ∧ key a ∉ gs := by
      constructor
      · intro hm; exact hb (by rw [Bool.or_eq_true]; exact .inl (List.contains_iff_mem.2 hm))
      · intro hm; exact hb (by rw [Bool.or_eq_true]; exact .inr (List.contains_iff_mem.2 hm))
    refine ⟨rfl, rfl, ?_, fun z => ?_, by rw [insK_len]; exact Nat.le_refl _⟩
    · rw [errK_zero]
      refine ⟨by rw [insK_len]; omega, h2, fun z hz => ?_, h4, insK_asc h5 hb'.1, h6, fun z hz => ?_⟩
      · rcases (insK_mem (key := key) xs a z).1 hz with rfl | hz
        · exact hc
        · exact h3 z hz
      · rcases (insK_mem (key := key) xs a z).1 hz with rfl | hz
        · exact ⟨ho, hb'.2⟩
        · exact h7 z hz
    · show z ∈ insK key xs a ↔ _
      rw [insK_mem]
      constructor
      · rintro (rfl | h')
        · exact .inr ⟨rfl, hb'⟩
        · exact .inl h'
      · rintro (h' | ⟨rfl, _⟩)
        · exact .inr h'
        · exact .inl rfl
theorem putK_err {xs : List α} {gs : List Tm} {a : α} (hc : chkT (key a) = false ∨ ok1 a = false) : (putK key ok1 xs gs a).2 ≠ 0 := by
  unfold putK
  by_cases h : errK key ok1 xs gs ≠ 0
  · rw [if_pos h]; exact h
  · rw [if_neg h]
    by_cases h1 : chkT (key a) = false
    · rw [if_pos h1]; simp
    · rw [if_neg h1]
      rcases hc with h2 | h2
      · exact absurd h2 h1
      · rw [if_pos h2]; simp
theorem dropK_spec {xs : List α} {gs l : List Tm} (h : errK key ok1 xs gs = 0) (hl : ∀ t ∈ l, chkT t = true) (hn : gs.length + l.length ≤ 4096) :
    (dropK key ok1 xs gs l).2 = 0 ∧ errK key ok1 (dropK key ok1 xs gs l).1.1 (dropK key ok1 xs gs l).1.2 = 0 ∧ (∀ z, z ∈ (dropK key ok1 xs gs l).1.1 ↔ z ∈ xs ∧ key z ∉ l) ∧
      (∀ t, t ∈ (dropK key ok1 xs gs l).1.2 ↔ t ∈ l ∨ t ∈ gs) ∧ (dropK key ok1 xs gs l).1.1.length ≤ xs.length ∧ (dropK key ok1 xs gs l).1.2.length ≤ gs.length + l.length := by
  obtain ⟨h1, h2, h3, h4, h5, h6, h7⟩ := errK_zero.1 h
  have hd := dropG_len' l gs
  obtain ⟨ha, hm⟩ := dropG_spec l h6
  have hany : l.any (fun t => !chkT t) = false := by
    rw [List.any_eq_false]; intro t ht; simp [hl t ht]
  unfold dropK
  rw [if_neg (by rw [h]; simp), if_neg (by omega), if_neg (by rw [hany]; simp), if_neg (by omega)]
  have hmem : ∀ z, z ∈ (xs.filter fun a => !(dropG gs l).contains (key a)) ↔ z ∈ xs ∧ key z ∉ l := by
    intro z
    rw [List.mem_filter]
    constructor
    · rintro ⟨hz, hk⟩
      refine ⟨hz, fun hkl => ?_⟩
      rw [Bool.not_eq_true', Bool.eq_false_iff] at hk
      exact hk (List.contains_iff_mem.2 ((hm _).2 (.inl hkl)))
    · rintro ⟨hz, hk⟩
      refine ⟨hz, ?_⟩
      rw [Bool.not_eq_true', Bool.eq_false_iff]
      intro hc
      rcases (hm _).1 (List.contains_iff_mem.1 hc) with h8 | h8
      · exact hk h8
      · exact (h7 z hz).2 h8
  refine ⟨rfl, ?_, hmem, hm, List.length_filter_le _ _, hd⟩
  rw [errK_zero]
  refine ⟨Nat.le_trans (List.length_filter_le _ _) h1, by show (dropG gs l).length ≤ 4096; omega, fun z hz => h3 z ((hmem z).1 hz).1, fun t ht => ?_, ascK_filter _ h5, ha, fun z hz => ⟨(h7 z ((hmem z).1 hz).1).1, fun hk => ?_⟩⟩
  · rcases (hm t).1 ht with h8 | h8
    · exact hl t h8
    · exact h4 t h8
  · rcases (hm _).1 hk with h8 | h8
    · exact ((hmem z).1 hz).2 h8
    · exact (h7 z ((hmem z).1 hz).1).2 h8
theorem dropG_sub : ∀ (l g : List Tm) (z : Tm), z ∈ dropG g l → z ∈ l ∨ z ∈ g
  | [], g, z, h => .inr h
  | t :: l, g, z, h => by
    have h1 := dropG_sub l (addT g t) z h
    rcases h1 with h1 | h1
    · exact .inl (List.mem_cons_of_mem _ h1)
    · unfold addT at h1
      split at h1
      · exact .inr h1
      · rcases (insT_mem g t z).1 h1 with rfl | h2
        · exact .inl (by simp)
        · exact .inr h2
theorem dropK_sub (xs : List α) (gs l : List Tm) : (∀ a ∈ (dropK key ok1 xs gs l).1.1, a ∈ xs) ∧ (∀ t ∈ (dropK key ok1 xs gs l).1.2, t ∈ l ∨ t ∈ gs) ∧ (dropK key ok1 xs gs l).1.1.length ≤ xs.length ∧ (dropK key ok1 xs gs l).1.2.length ≤ gs.length + l.length := by
  have hd := dropG_len' l gs
  unfold dropK
  by_cases h : errK key ok1 xs gs ≠ 0
  · rw [if_pos h]; simp
  rw [if_neg h]
  by_cases h1 : 4096 < l.length
  · rw [if_pos h1]; simp
  rw [if_neg h1]
  by_cases h2 : l.any (fun t => !chkT t) = true
  · rw [if_pos h2]; simp
  rw [if_neg h2]
  by_cases h3 : 4096 < (dropG gs l).length
  · rw [if_pos h3]; simp
  rw [if_neg h3]
  exact ⟨fun a ha => (List.mem_filter.1 ha).1, fun t ht => dropG_sub l gs t ht, List.length_filter_le _ _, hd⟩
theorem putK_sub (xs : List α) (gs : List Tm) (a0 : α) : (∀ a ∈ (putK key ok1 xs gs a0).1.1, a = a0 ∨ a ∈ xs) ∧ (∀ t ∈ (putK key ok1 xs gs a0).1.2, t ∈ gs) ∧ (putK key ok1 xs gs a0).1.1.length ≤ xs.length + 1 ∧ (putK key ok1 xs gs a0).1.2.length ≤ gs.length := by
  unfold putK
  by_cases h : errK key ok1 xs gs ≠ 0
  · rw [if_pos h]; simp
  rw [if_neg h]
  by_cases h1 : chkT (key a0) = false
  · rw [if_pos h1]; simp
  rw [if_neg h1]
  by_cases h2 : ok1 a0 = false
  · rw [if_pos h2]; simp
  rw [if_neg h2]
  by_cases h3 : ((xs.map key).contains (key a0) || gs.contains (key a0)) = true
  · rw [if_pos h3]; exact ⟨fun a ha => .inr ha, fun t ht => ht, Nat.le_succ _, Nat.le_refl _⟩
  rw [if_neg h3]
  by_cases h4 : xs.length = 4096
  · rw [if_pos h4]; simp
  rw [if_neg h4]
  exact ⟨fun a ha => (insK_mem (key := key) xs a0 a).1 ha, fun t ht => ht, by show (insK key xs a0).length ≤ _; rw [insK_len]; exact Nat.le_refl _, Nat.le_refl _⟩
theorem dropK_err {xs : List α} {gs l : List Tm} (hl : l.any (fun t => !chkT t) = true) : (dropK key ok1 xs gs l).2 ≠ 0 := by
  unfold dropK
  by_cases h : errK key ok1 xs gs ≠ 0
  · rw [if_pos h]; exact h
  · rw [if_neg h]
    by_cases h1 : 4096 < l.length
    · rw [if_pos h1]; simp
    · rw [if_neg h1, if_pos hl]; simp
end
end Go.Proofs.Ytadldndmmobpdaa
namespace Go.Proofs.Ytadldndmmobpdaa

inductive AK (α : Type) where
  | put (a : α)
  | drop (l : List Tm)
section
variable {α : Type} {key : α → Tm} {ok1 : α → Bool}
/-- The state that acts leave. -/
structure DescK (key : α → Tm) (ok1 : α → Bool) (D : List (AK α)) (X : List α × List Tm) : Prop where
  err : errK key ok1 X.1 X.2 = 0
  mem : ∀ z, z ∈ X.1 ↔ AK.put z ∈ D ∧ ∀ l, AK.drop l ∈ D → key z ∉ l
  gone : ∀ t, t ∈ X.2 ↔ ∃ l, AK.drop l ∈ D ∧ t ∈ l
theorem desc_nil : DescK key ok1 [] ([], []) where
  err := by
    rw [errK_zero]
    refine ⟨by simp, by simp, by simp, by simp, List.Pairwise.nil, List.Pairwise.nil, by simp⟩
  mem := by simp
  gone := by simp
theorem desc_put {D : List (AK α)} {X : List α × List Tm} {a : α} (h : DescK key ok1 D X) (hc : chkT (key a) = true) (ho : ok1 a = true) (hn : X.1.length < 4096) (hu : ∀ b, AK.put b ∈ D → key b = key a → b = a) :
    (putK key ok1 X.1 X.2 a).2 = 0 ∧ DescK key ok1 (AK.put a :: D) (putK key ok1 X.1 X.2 a).1 ∧ (putK key ok1 X.1 X.2 a).1.1.length ≤ X.1.length + 1 ∧ (putK key ok1 X.1 X.2 a).1.2 = X.2 := by
  obtain ⟨h1, h2, h3, h4, h5⟩ := putK_spec h.err hc ho hn
  refine ⟨h1, ⟨by rw [h2]; exact h3, fun z => ?_, fun t => ?_⟩, h5, h2⟩
  · rw [h4]
    constructor
    · rintro (hz | ⟨rfl, k1, k2⟩)
      · obtain ⟨m1, m2⟩ := (h.mem z).1 hz
        exact ⟨List.mem_cons_of_mem _ m1, fun l hl => m2 l (by simpa using hl)⟩
      · refine ⟨by simp, fun l hl hk => k2 ((h.gone _).2 ⟨l, by simpa using hl, hk⟩)⟩
    · rintro ⟨m1, m2⟩
      have m2' : ∀ l, AK.drop l ∈ D → key z ∉ l := fun l hl => m2 l (List.mem_cons_of_mem _ hl)
      rcases List.mem_cons.1 m1 with e | m1
      · injection e with e
        subst e
        have hg : key z ∉ X.2 := fun hk => by
          obtain ⟨l, hl, hkl⟩ := (h.gone _).1 hk
          exact m2' l hl hkl
        by_cases hx : key z ∈ X.1.map key
        · obtain ⟨b, hb, hbk⟩ := List.mem_map.1 hx
          obtain ⟨n1, _⟩ := (h.mem b).1 hb
          have := hu b n1 hbk
          subst this
          exact .inl hb
        · exact .inr ⟨rfl, hx, hg⟩
      · exact .inl ((h.mem z).2 ⟨m1, m2'⟩)
  · rw [h2, h.gone]
    constructor
    · rintro ⟨l, hl, ht⟩; exact ⟨l, List.mem_cons_of_mem _ hl, ht⟩
    · rintro ⟨l, hl, ht⟩; exact ⟨l, by simpa using hl, ht⟩
theorem desc_drop {D : List (AK α)} {X : List α × List Tm} {l : List Tm} (h : DescK key ok1 D X) (hl : ∀ t ∈ l, chkT t = true) (hn : X.2.length + l.length ≤ 4096) :
    (dropK key ok1 X.1 X.2 l).2 = 0 ∧ DescK key ok1 (AK.drop l :: D) (dropK key ok1 X.1 X.2 l).1 ∧ (dropK key ok1 X.1 X.2 l).1.1.length ≤ X.1.length ∧ (dropK key ok1 X.1 X.2 l).1.2.length ≤ X.2.length + l.length := by
  obtain ⟨h1, h2, h3, h4, h5, h6⟩ := dropK_spec (key := key) (ok1 := ok1) (l := l) h.err hl hn
  refine ⟨h1, ⟨h2, fun z => ?_, fun t => ?_⟩, h5, h6⟩
  · rw [h3, h.mem]
    constructor
    · rintro ⟨⟨m1, m2⟩, hk⟩
      refine ⟨List.mem_cons_of_mem _ m1, fun l' hl' => ?_⟩
      rcases List.mem_cons.1 hl' with e | hl'
      · injection e with e
        subst e
        exact hk
      · exact m2 l' hl'
    · rintro ⟨m1, m2⟩
      exact ⟨⟨by simpa using m1, fun l' hl' => m2 l' (List.mem_cons_of_mem _ hl')⟩, m2 l (by simp)⟩
  · rw [h4, h.gone]
    constructor
    · rintro (ht | ⟨l', hl', ht⟩)
      · exact ⟨l, by simp, ht⟩
      · exact ⟨l', List.mem_cons_of_mem _ hl', ht⟩
    · rintro ⟨l', hl', ht⟩
      rcases List.mem_cons.1 hl' with e | hl'
      · injection e with e
        subst e
        exact .inl ht
      · exact .inr ⟨l', hl', ht⟩
theorem desc_ext {D D' : List (AK α)} {X Y : List α × List Tm} (h : DescK key ok1 D X) (h' : DescK key ok1 D' Y) (hm : ∀ a, a ∈ D ↔ a ∈ D') : X = Y := by
  have := errK_ext h.err h'.err (fun z => by rw [h.mem, h'.mem, hm]; simp only [hm]) (fun t => by rw [h.gone, h'.gone]; simp only [hm])
  exact Prod.ext this.1 this.2
/-- One act: the state behind it, and whether it was one that may be. -/
def actK (key : α → Tm) (ok1 : α → Bool) (X : List α × List Tm) : AK α → (List α × List Tm) × Int
  | .put a => putK key ok1 X.1 X.2 a
  | .drop l => dropK key ok1 X.1 X.2 l
/-- An act that may be. -/
def AK.may (key : α → Tm) (ok1 : α → Bool) : AK α → Bool
  | .put a => chkT (key a) && ok1 a
  | .drop l => l.all chkT
def AK.size : AK α → Nat
  | .put _ => 1
  | .drop l => l.length
theorem act_not {X : List α × List Tm} {x : AK α} (h : x.may key ok1 = false) : (actK key ok1 X x).2 ≠ 0 := by
  cases x with
  | put a =>
    have h' : (chkT (key a) && ok1 a) = false := h
    rw [Bool.and_eq_false_iff] at h'
    exact putK_err h'
  | drop l =>
    have h' : l.all chkT = false := h
    refine dropK_err ?_
    rw [List.all_eq_false] at h'
    obtain ⟨t, ht, hc⟩ := h'
    exact List.any_eq_true.2 ⟨t, ht, by simpa using hc⟩
theorem act_desc {D : List (AK α)} {X : List α × List Tm} {x : AK α} {p q : Nat} (h : DescK key ok1 D X) (hm : x.may key ok1 = true) (hs : x.size ≤ 20) (hp : X.1.length ≤ p) (hq : X.2.length ≤ q) (hp2 : p < 4096) (hq2 : q + 20 ≤ 4096)
    (hu : ∀ a b, x = AK.put a → AK.put b ∈ D → key b = key a → b = a) :
    (actK key ok1 X x).2 = 0 ∧ DescK key ok1 (x :: D) (actK key ok1 X x).1 ∧ (actK key ok1 X x).1.1.length ≤ p + 1 ∧ (actK key ok1 X x).1.2.length ≤ q + 20 := by
  cases x with
  | put a =>
    have h' : (chkT (key a) && ok1 a) = true := hm
    rw [Bool.and_eq_true] at h'
    obtain ⟨h1, h2, h3, h4⟩ := desc_put h h'.1 h'.2 (by omega) (fun b hb hk => hu a b rfl hb hk)
    exact ⟨h1, h2, by show (putK key ok1 X.1 X.2 a).1.1.length ≤ _; omega, by show (putK key ok1 X.1 X.2 a).1.2.length ≤ _; rw [h4]; omega⟩
  | drop l =>
    have h' : l.all chkT = true := hm
    have hl : l.length ≤ 20 := hs
    obtain ⟨h1, h2, h3, h4⟩ := desc_drop h (fun t ht => List.all_eq_true.1 h' t ht) (by omega)
    exact ⟨h1, h2, by show (dropK key ok1 X.1 X.2 l).1.1.length ≤ _; omega, by show (dropK key ok1 X.1 X.2 l).1.2.length ≤ _; omega⟩
/-- The same act once more changes nothing. -/
theorem act_twice {D : List (AK α)} {X Y : List α × List Tm} {x : AK α} (h : DescK key ok1 (x :: D) X) (h' : DescK key ok1 (x :: x :: D) Y) : X = Y :=
  desc_ext h h' fun a => by simp
end
end Go.Proofs.Ytadldndmmobpdaa
