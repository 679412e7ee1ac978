/- The plain law of sets of names: the order, strictly rising lists, what the document's Make, and what a merge of two sets come to. -/
import Derived.Test.YthfjbbijcemmoaaDef
namespace Go.Proofs.Ythfjbbijcemmoaa

def ltI (x y : Im) : Prop := cmpI x y < 0
theorem ltI_iff (x y : Im) : ltI x y ↔ x.1 < y.1 ∨ (x.1 = y.1 ∧ x.2 < y.2) := by
  unfold ltI cmpI; (repeat' split) <;> omega
theorem gtI_iff (x y : Im) : 0 < cmpI x y ↔ ltI y x := by
  rw [ltI_iff]; unfold cmpI; (repeat' split) <;> omega
theorem ltI_irrefl (x : Im) : ¬ ltI x x := by rw [ltI_iff]; omega
theorem ltI_trans {x y z : Im} (h : ltI x y) (h2 : ltI y z) : ltI x z := by rw [ltI_iff] at *; omega
theorem ltI_total {x y : Im} (h : x ≠ y) (h2 : ¬ ltI x y) : ltI y x := by
  obtain ⟨a, b⟩ := x
  obtain ⟨c, d⟩ := y
  rw [ltI_iff] at *
  simp only [ne_eq, Prod.mk.injEq, not_and] at *
  by_cases e : a = c
  · have := h e; omega
  · omega
theorem ltI_ne {x y : Im} (h : ltI x y) : x ≠ y := by rintro rfl; exact ltI_irrefl _ h
abbrev asc (l : List Im) : Prop := l.Pairwise ltI
theorem ascB_asc : ∀ (l : List Im), ascB l = true ↔ asc l
  | [] => by simp [ascB]
  | [x] => by simp [ascB]
  | x :: y :: r => by
    have ih := ascB_asc (y :: r)
    rw [ascB, Bool.and_eq_true, ih, asc, asc, List.pairwise_cons (a := x)]
    constructor
    · rintro ⟨h1, h2⟩
      refine ⟨fun z hz => ?_, h2⟩
      have h1 : ltI x y := by simpa [ltI] using h1
      rcases List.mem_cons.1 hz with rfl | hz
      · exact h1
      · exact ltI_trans h1 ((List.pairwise_cons.1 h2).1 z hz)
    · rintro ⟨h1, h2⟩
      exact ⟨by simpa [ltI] using h1 y (by simp), h2⟩
theorem asc_ext : ∀ {xs ys : List Im}, asc xs → asc ys → (∀ x, x ∈ xs ↔ x ∈ ys) → xs = ys
  | [], ys, _, _, h => by
    cases ys with
    | nil => rfl
    | cons y ys => have := (h y).2 (by simp); simp at this
  | x :: xs, [], _, _, h => by have := (h x).1 (by simp); simp at this
  | x :: xs, y :: ys, hx, hy, h => by
    obtain ⟨hx1, hx2⟩ := List.pairwise_cons.1 hx
    obtain ⟨hy1, hy2⟩ := List.pairwise_cons.1 hy
    have e : x = y := by
      rcases List.mem_cons.1 ((h x).1 (by simp)) with e | h1
      · exact e
      · rcases List.mem_cons.1 ((h y).2 (by simp)) with e | h2
        · exact e.symm
        · exact absurd (ltI_trans (hy1 x h1) (hx1 y h2)) (ltI_irrefl _)
    subst e
    have : xs = ys := asc_ext hx2 hy2 (fun z => by
      constructor
      · intro hz
        rcases List.mem_cons.1 ((h z).1 (by simp [hz])) with rfl | h1
        · exact absurd (hx1 z hz) (ltI_irrefl _)
        · exact h1
      · intro hz
        rcases List.mem_cons.1 ((h z).2 (by simp [hz])) with rfl | h1
        · exact absurd (hy1 z hz) (ltI_irrefl _)
        · exact h1)
    rw [this]

theorem sinkI_spec : ∀ (k : Nat) (p : List Im) (x : Im) (s : List Im), p.length = k → asc (p ++ s) → (∀ z ∈ s, ltI x z) → x ∉ p →
    asc (sinkI k (p ++ x :: s)) ∧ ∀ z, z ∈ sinkI k (p ++ x :: s) ↔ z = x ∨ z ∈ p ++ s := by
  intro k
  induction k with
  | zero =>
    intro p x s hk ha hs _
    obtain rfl := List.eq_nil_of_length_eq_zero hk
    refine ⟨List.pairwise_cons.2 ⟨hs, ha⟩, fun z => by simp [sinkI]⟩
  | succ k ih =>
    intro p x s hk ha hs hx
    obtain ⟨p', y, rfl⟩ : ∃ p' y, p = p' ++ [y] := by
      rcases List.eq_nil_or_concat p with rfl | ⟨p', y, e⟩
      · simp at hk
      · exact ⟨p', y, by simpa using e⟩
    have hk' : p'.length = k := by simpa using hk
    have e1 : (p' ++ [y] ++ x :: s).getD k (0, 0) = y := by subst hk'; simp [List.getD]
    have e2 : (p' ++ [y] ++ x :: s).getD (k + 1) (0, 0) = x := by subst hk'; simp [List.getD]
    rw [sinkI, e1, e2]
    by_cases h : 0 < cmpI y x
    · rw [if_pos h]
      have e3 : ((p' ++ [y] ++ x :: s).set (k + 1) y).set k x = p' ++ x :: (y :: s) := by
        subst hk'; simp
      rw [e3]
      have h' : ltI x y := (gtI_iff y x).1 h
      obtain ⟨g1, g2⟩ := ih p' x (y :: s) hk' (by simpa using ha) (fun z hz => by
        rcases List.mem_cons.1 hz with rfl | hz
        · exact h'
        · exact hs z hz) (fun hm => hx (by simp [hm]))
      exact ⟨g1, fun z => by rw [g2 z]; simp⟩
    · rw [if_neg h]
      have h' : ltI y x := ltI_total (fun e => hx (by simp [e])) (fun h1 => h ((gtI_iff y x).2 h1))
      refine ⟨?_, fun z => by simp [or_left_comm]⟩
      rw [List.append_assoc] at ha
      obtain ⟨a1, a2, a3⟩ := List.pairwise_append.1 ha
      obtain ⟨a4, a5⟩ := List.pairwise_cons.1 (show asc (y :: s) from a2)
      rw [List.append_assoc]
      refine List.pairwise_append.2 ⟨a1, ?_, fun u hu v hv => ?_⟩
      · refine List.pairwise_cons.2 ⟨fun v hv => ?_, List.pairwise_cons.2 ⟨hs, a5⟩⟩
        rcases List.mem_cons.1 hv with rfl | hv
        · exact h'
        · exact a4 v hv
      · have hy : ltI u y := a3 u hu y (by simp)
        simp only [List.singleton_append, List.mem_cons] at hv
        rcases hv with rfl | rfl | hv
        · exact hy
        · exact ltI_trans hy h'
        · exact a3 u hu v (by simp [hv])
theorem putI_spec {l : List Im} (h : asc l) (x : Im) : asc (putI l x) ∧ ∀ z, z ∈ putI l x ↔ z = x ∨ z ∈ l := by
  unfold putI
  split
  · rename_i hc
    have : x ∈ l := by simpa using hc
    exact ⟨h, fun z => ⟨fun hz => .inr hz, fun hz => by rcases hz with rfl | hz <;> assumption⟩⟩
  · rename_i hc
    have := sinkI_spec l.length l x [] rfl (by simpa using h) (by simp) (by simpa using hc)
    simpa using this
theorem foldl_putI : ∀ (xs l : List Im), asc l → asc (xs.foldl putI l) ∧ ∀ z, z ∈ xs.foldl putI l ↔ z ∈ xs ∨ z ∈ l
  | [], l, h => ⟨h, fun z => by simp⟩
  | x :: xs, l, h => by
    obtain ⟨h1, h2⟩ := putI_spec h x
    obtain ⟨g1, g2⟩ := foldl_putI xs _ h1
    refine ⟨g1, fun z => ?_⟩
    rw [List.foldl_cons, g2 z, h2 z]; simp [or_assoc, or_left_comm]
theorem makeI_spec (xs : List Im) : asc (makeI xs) ∧ ∀ z, z ∈ makeI xs ↔ z ∈ xs := by
  have := foldl_putI xs [] .nil
  simpa [makeI] using this
theorem makeI_of {xs l : List Im} (h : asc l) (hm : ∀ z, z ∈ l ↔ z ∈ xs) : makeI xs = l :=
  asc_ext (makeI_spec xs).1 h fun z => ((makeI_spec xs).2 z).trans (hm z).symm

theorem lerr_zero {xs : List Im} : lerr xs = 0 ↔ xs.length ≤ 64 ∧ (∀ x ∈ xs, chk x = true) ∧ asc xs := by
  unfold lerr
  rw [← ascB_asc, ← List.all_eq_true]
  split
  · simp; omega
  · split
    · rename_i h; simp [h]
    · rename_i h
      have h' : xs.all chk = true := by simpa using h
      split
      · rename_i h2; simp [h', h2]; omega
      · rename_i h2; simp [h2]

/-- All names of two sets, in order, with where they are: 1 the one, 2 the other, 3 both. -/
def mergeI : List Im → List Im → List (Im × Int)
  | [], [] => []
  | x :: a, [] => (x, 1) :: mergeI a []
  | [], y :: b => (y, 2) :: mergeI [] b
  | x :: a, y :: b => if cmpI x y < 0 then (x, 1) :: mergeI a (y :: b) else if 0 < cmpI x y then (y, 2) :: mergeI (x :: a) b else (x, 3) :: mergeI a b
termination_by a b => a.length + b.length
decreasing_by all_goals (simp only [List.length_cons]; omega)
theorem cmpI_eq {x y : Im} (h1 : ¬ cmpI x y < 0) (h2 : ¬ 0 < cmpI x y) : x = y := by
  obtain ⟨a, b⟩ := x
  obtain ⟨c, d⟩ := y
  unfold cmpI at h1 h2
  simp only [Prod.mk.injEq]
  repeat' split at h1
  all_goals (repeat' split at h2)
  all_goals omega
theorem mergeI_mem (a b : List Im) : ∀ z, z ∈ (mergeI a b).map Prod.fst ↔ z ∈ a ∨ z ∈ b := by
  induction a, b using mergeI.induct with
  | case1 => simp [mergeI]
  | case2 x a ih => intro z; rw [mergeI, List.map_cons, List.mem_cons, ih z]; simp
  | case3 y b ih => intro z; rw [mergeI, List.map_cons, List.mem_cons, ih z]; simp
  | case4 x a y b h ih => intro z; rw [mergeI, if_pos h, List.map_cons, List.mem_cons, ih z]; simp [or_assoc, or_left_comm]
  | case5 x a y b h h2 ih => intro z; rw [mergeI, if_neg h, if_pos h2, List.map_cons, List.mem_cons, ih z]; simp [or_assoc, or_left_comm]
  | case6 x a y b h h2 ih =>
    intro z
    obtain rfl := cmpI_eq h h2
    rw [mergeI, if_neg h, if_neg h2, List.map_cons, List.mem_cons, ih z]; simp [or_assoc, or_left_comm]
theorem mergeI_len (a b : List Im) : (mergeI a b).length ≤ a.length + b.length := by
  induction a, b using mergeI.induct with
  | case1 => simp [mergeI]
  | case2 x a ih => rw [mergeI]; simp at ih ⊢; omega
  | case3 y b ih => rw [mergeI]; simp at ih ⊢; omega
  | case4 x a y b h ih => rw [mergeI, if_pos h]; simp at ih ⊢; omega
  | case5 x a y b h h2 ih => rw [mergeI, if_neg h, if_pos h2]; simp at ih ⊢; omega
  | case6 x a y b h h2 ih => rw [mergeI, if_neg h, if_neg h2]; simp at ih ⊢; omega
theorem asc_cons {x : Im} {l : List Im} : asc (x :: l) ↔ (∀ z ∈ l, ltI x z) ∧ asc l := List.pairwise_cons
theorem mergeI_asc (a b : List Im) (ha : asc a) (hb : asc b) : asc ((mergeI a b).map Prod.fst) := by
  induction a, b using mergeI.induct with
  | case1 => simp [mergeI]
  | case2 x a ih =>
    rw [mergeI, List.map_cons, asc_cons]
    exact ⟨fun z hz => by rw [mergeI_mem] at hz; simp at hz; exact (asc_cons.1 ha).1 z hz, ih (asc_cons.1 ha).2 hb⟩
  | case3 y b ih =>
    rw [mergeI, List.map_cons, asc_cons]
    exact ⟨fun z hz => by rw [mergeI_mem] at hz; simp at hz; exact (asc_cons.1 hb).1 z hz, ih ha (asc_cons.1 hb).2⟩
  | case4 x a y b h ih =>
    rw [mergeI, if_pos h, List.map_cons, asc_cons]
    refine ⟨fun z hz => ?_, ih (asc_cons.1 ha).2 hb⟩
    rw [mergeI_mem] at hz
    rcases hz with hz | hz
    · exact (asc_cons.1 ha).1 z hz
    · rcases List.mem_cons.1 hz with rfl | hz
      · exact h
      · exact ltI_trans h ((asc_cons.1 hb).1 z hz)
  | case5 x a y b h h2 ih =>
    have h3 := (gtI_iff x y).1 h2
    rw [mergeI, if_neg h, if_pos h2, List.map_cons, asc_cons]
    refine ⟨fun z hz => ?_, ih ha (asc_cons.1 hb).2⟩
    rw [mergeI_mem] at hz
    rcases hz with hz | hz
    · rcases List.mem_cons.1 hz with rfl | hz
      · exact h3
      · exact ltI_trans h3 ((asc_cons.1 ha).1 z hz)
    · exact (asc_cons.1 hb).1 z hz
  | case6 x a y b h h2 ih =>
    obtain rfl := cmpI_eq h h2
    rw [mergeI, if_neg h, if_neg h2, List.map_cons, asc_cons]
    refine ⟨fun z hz => ?_, ih (asc_cons.1 ha).2 (asc_cons.1 hb).2⟩
    rw [mergeI_mem] at hz
    rcases hz with hz | hz
    · exact (asc_cons.1 ha).1 z hz
    · exact (asc_cons.1 hb).1 z hz
theorem mergeI_left (a b : List Im) (ha : asc a) (hb : asc b) : ∀ z, (z, (1 : Int)) ∈ mergeI a b ↔ z ∈ a ∧ z ∉ b := by
  induction a, b using mergeI.induct with
  | case1 => simp [mergeI]
  | case2 x a ih => intro z; rw [mergeI, List.mem_cons, ih (asc_cons.1 ha).2 hb z]; simp
  | case3 y b ih => intro z; rw [mergeI, List.mem_cons, ih ha (asc_cons.1 hb).2 z]; simp
  | case4 x a y b h ih =>
    intro z
    rw [mergeI, if_pos h, List.mem_cons, ih (asc_cons.1 ha).2 hb z]
    have hx : x ∉ y :: b := fun hm => by
      rcases List.mem_cons.1 hm with e | hm
      · exact ltI_ne h e
      · exact ltI_irrefl _ (ltI_trans h ((asc_cons.1 hb).1 x hm))
    constructor
    · rintro (e | ⟨h1, h2⟩)
      · obtain ⟨rfl, _⟩ := Prod.mk.injEq .. ▸ e; exact ⟨by simp, hx⟩
      · exact ⟨by simp [h1], h2⟩
    · rintro ⟨h1, h2⟩
      rcases List.mem_cons.1 h1 with rfl | h1
      · exact .inl rfl
      · exact .inr ⟨h1, h2⟩
  | case5 x a y b h h2 ih =>
    have h3 := (gtI_iff x y).1 h2
    intro z
    rw [mergeI, if_neg h, if_pos h2, List.mem_cons, ih ha (asc_cons.1 hb).2 z]
    have hy : y ∉ x :: a := fun hm => by
      rcases List.mem_cons.1 hm with e | hm
      · exact ltI_ne h3 e
      · exact ltI_irrefl _ (ltI_trans h3 ((asc_cons.1 ha).1 y hm))
    constructor
    · rintro (e | ⟨h1, h2⟩)
      · simp at e
      · exact ⟨h1, fun hm => by
          rcases List.mem_cons.1 hm with rfl | hm
          · exact hy h1
          · exact h2 hm⟩
    · rintro ⟨h1, h2⟩
      exact .inr ⟨h1, fun hm => h2 (by simp [hm])⟩
  | case6 x a y b h h2 ih =>
    obtain rfl := cmpI_eq h h2
    intro z
    rw [mergeI, if_neg h, if_neg h2, List.mem_cons, ih (asc_cons.1 ha).2 (asc_cons.1 hb).2 z]
    constructor
    · rintro (e | ⟨h1, h2⟩)
      · simp at e
      · refine ⟨by simp [h1], fun hm => ?_⟩
        rcases List.mem_cons.1 hm with rfl | hm
        · exact ltI_irrefl _ ((asc_cons.1 ha).1 z h1)
        · exact h2 hm
    · rintro ⟨h1, h2⟩
      rcases List.mem_cons.1 h1 with rfl | h1
      · exact absurd (by simp) h2
      · exact .inr ⟨h1, fun hm => h2 (by simp [hm])⟩

/-- What of two sets is in certain ones of them. -/
def pickI (p : Int → Bool) (xs ys : List Im) : List Im := ((mergeI xs ys).filter fun u => p u.2).map Prod.fst
def pickErr (p : Int → Bool) (xs ys : List Im) : Int := if lerr2 xs ys ≠ 0 then lerr2 xs ys else if 64 < (pickI p xs ys).length then 8 else 0
def pickOut (p : Int → Bool) (xs ys : List Im) : List Im := if pickErr p xs ys ≠ 0 then [] else pickI p xs ys
theorem lerr2_zero {xs ys : List Im} : lerr2 xs ys = 0 ↔ lerr xs = 0 ∧ lerr ys = 0 := by
  unfold lerr2; split <;> simp_all
theorem union_plain (xs ys : List Im) : pickErr (fun _ => true) xs ys = unionErr xs ys ∧ pickOut (fun _ => true) xs ys = unionR xs ys := by
  by_cases h : lerr2 xs ys = 0
  · obtain ⟨h1, h2⟩ := lerr2_zero.1 h
    obtain ⟨a1, a2, a3⟩ := lerr_zero.1 h1
    obtain ⟨b1, b2, b3⟩ := lerr_zero.1 h2
    have hm : makeI (xs ++ ys) = pickI (fun _ => true) xs ys := by
      refine makeI_of ?_ (fun z => ?_)
      · show asc (((mergeI xs ys).filter fun u => true).map Prod.fst)
        rw [List.filter_eq_self.2 (fun _ _ => rfl)]; exact mergeI_asc xs ys a3 b3
      · rw [List.mem_append, ← mergeI_mem]
        show z ∈ ((mergeI xs ys).filter fun u => true).map Prod.fst ↔ _
        rw [List.filter_eq_self.2 (fun _ _ => rfl)]
    have hc : (xs ++ ys).all chk = true := by
      rw [List.all_eq_true]; intro x hx
      rcases List.mem_append.1 hx with hx | hx
      · exact a2 x hx
      · exact b2 x hx
    have hl : ¬ 1024 < (xs ++ ys).length := by simp; omega
    have he : makeErr (xs ++ ys) = if 64 < (pickI (fun _ => true) xs ys).length then 8 else 0 := by
      unfold makeErr; rw [if_neg hl, if_neg (by simp [hc]), hm]
    have e2 : pickErr (fun _ => true) xs ys = if 64 < (pickI (fun _ => true) xs ys).length then 8 else 0 := by
      unfold pickErr; rw [if_neg (by simp [h])]
    refine ⟨?_, ?_⟩
    · unfold unionErr; rw [if_neg (by simp [h]), he, e2]
    · unfold unionR makeOut; rw [if_neg (by simp [h]), he, hm]; unfold pickOut; rw [e2]
  · refine ⟨?_, ?_⟩
    · unfold pickErr unionErr; rw [if_pos h, if_pos h]
    · unfold pickOut pickErr unionR; rw [if_pos h, if_pos h, if_pos h]
theorem minus_plain (xs ys : List Im) : pickErr (fun u => u == 1) xs ys = lerr2 xs ys ∧ pickOut (fun u => u == 1) xs ys = minusI xs ys := by
  by_cases h : lerr2 xs ys = 0
  · obtain ⟨h1, h2⟩ := lerr2_zero.1 h
    obtain ⟨a1, a2, a3⟩ := lerr_zero.1 h1
    obtain ⟨b1, b2, b3⟩ := lerr_zero.1 h2
    have hm : pickI (fun u => u == 1) xs ys = xs.filter fun x => !ys.contains x := by
      refine asc_ext ?_ (List.Pairwise.filter _ a3) (fun z => ?_)
      · exact List.Pairwise.sublist ((List.filter_sublist).map _) (mergeI_asc xs ys a3 b3)
      · have : z ∈ pickI (fun u => u == 1) xs ys ↔ (z, (1 : Int)) ∈ mergeI xs ys := by simp [pickI]
        rw [this, mergeI_left xs ys a3 b3]; simp
    have hl : (pickI (fun u => u == 1) xs ys).length ≤ 64 := by
      rw [hm]; exact Nat.le_trans (List.length_filter_le _ _) a1
    have e2 : pickErr (fun u => u == 1) xs ys = 0 := by
      unfold pickErr; rw [if_neg (by simp [h]), if_neg (by omega)]
    refine ⟨by rw [e2, h], ?_⟩
    unfold pickOut minusI; rw [if_neg (by simp [e2]), if_neg (by simp [h]), hm]
  · refine ⟨?_, ?_⟩
    · unfold pickErr; rw [if_pos h]
    · unfold pickOut pickErr minusI; rw [if_pos h, if_pos h, if_pos h]
end Go.Proofs.Ythfjbbijcemmoaa
