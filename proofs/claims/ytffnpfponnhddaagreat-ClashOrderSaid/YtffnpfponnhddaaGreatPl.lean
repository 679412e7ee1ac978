/- The plain law of sets of names: the order, strictly rising lists, what the document's Make, and what a merge of two sets come to. The plain law of vectors: one name more, many names more. The plain laws of sets: what Make, Union and Minus give. The plain law of Fold: what it takes, what it leaves. -/
import Derived.Test.YtffnpfponnhddaaGreatDef
namespace Go.Proofs.YtffnpfponnhddaaGreat

def ltI (x y : Im) : Prop := cmpI x y < 0
theorem ltI_iff (x y : Im) : ltI x y ↔ x.1 < y.1 ∨ (x.1 = y.1 ∧ x.2 < y.2) := by
  unfold ltI cmpI; (repeat' split) <;> omega
theorem gtI_iff (x y : Im) : 0 < cmpI x y ↔ ltI y x := by
  rw [ltI_iff]; unfold cmpI; (repeat' split) <;> omega
theorem ltI_irrefl (x : Im) : ¬ ltI x x := by rw [ltI_iff]; omega
theorem ltI_trans {x y z : Im} (h : ltI x y) (h2 : ltI y z) : ltI x z := by rw [ltI_iff] at *; omega
theorem ltI_total {x y : Im} (h : x ≠ y) (h2 : ¬ ltI x y) : ltI y x := by
  obtain ⟨a, b⟩ := x
  obtain ⟨c, d⟩ := y
  rw [ltI_iff] at *
  simp only [ne_eq, Prod.mk.injEq, not_and] at *
  by_cases e : a = c
  · have := h e; omega
  · omega
theorem ltI_ne {x y : Im} (h : ltI x y) : x ≠ y := by rintro rfl; exact ltI_irrefl _ h
abbrev asc (l : List Im) : Prop := l.Pairwise ltI
theorem ascB_asc : ∀ (l : List Im), ascB l = true ↔ asc l
  | [] => by simp [ascB]
  | [x] => by simp [ascB]
  | x :: y :: r => by
    have ih := ascB_asc (y :: r)
    rw [ascB, Bool.and_eq_true, ih, asc, asc, List.pairwise_cons (a := x)]
    constructor
    · rintro ⟨h1, h2⟩
      refine ⟨fun z hz => ?_, h2⟩
      have h1 : ltI x y := by simpa [ltI] using h1
      rcases List.mem_cons.1 hz with rfl | hz
      · exact h1
      · exact ltI_trans h1 ((List.pairwise_cons.1 h2).1 z hz)
    · rintro ⟨h1, h2⟩
      exact ⟨by simpa [ltI] using h1 y (by simp), h2⟩
theorem asc_ext : ∀ {xs ys : List Im}, asc xs → asc ys → (∀ x, x ∈ xs ↔ x ∈ ys) → xs = ys
  | [], ys, _, _, h => by
    cases ys with
    | nil => rfl
    | cons y ys => have := (h y).2 (by simp); simp at this
  | x :: xs, [], _, _, h => by have := (h x).1 (by simp); simp at this
  | x :: xs, y :: ys, hx, hy, h => by
    obtain ⟨hx1, hx2⟩ := List.pairwise_cons.1 hx
    obtain ⟨hy1, hy2⟩ := List.pairwise_cons.1 hy
    have e : x = y := by
      rcases List.mem_cons.1 ((h x).1 (by simp)) with e | h1
      · exact e
      · rcases List.mem_cons.1 ((h y).2 (by simp)) with e | h2
        · exact e.symm
        · exact absurd (ltI_trans (hy1 x h1) (hx1 y h2)) (ltI_irrefl _)
    subst e
    have : xs = ys := asc_ext hx2 hy2 (fun z => by
      constructor
      · intro hz
        rcases List.mem_cons.1 ((h z).1 (by simp [hz])) with rfl | h1
        · exact absurd (hx1 z hz) (ltI_irrefl _)
        · exact h1
      · intro hz
        rcases List.mem_cons.1 ((h z).2 (by simp [hz])) with rfl | h1
        · exact absurd (hy1 z hz) (ltI_irrefl _)
        · exact h1)
    rw [this]

theorem sinkI_spec : ∀ (k : Nat) (p : List Im) (x : Im) (s : List Im), p.length = k → asc (p ++ s) → (∀ z ∈ s, ltI x z) → x ∉ p →
    asc (sinkI k (p ++ x :: s)) ∧ ∀ z, z ∈ sinkI k (p ++ x :: s) ↔ z = x ∨ z ∈ p ++ s := by
  intro k
  induction k with
  | zero =>
    intro p x s hk ha hs _
    obtain rfl := List.eq_nil_of_length_eq_zero hk
    refine ⟨List.pairwise_cons.2 ⟨hs, ha⟩, fun z => by simp [sinkI]⟩
  | succ k ih =>
    intro p x s hk ha hs hx
    obtain ⟨p', y, rfl⟩ : ∃ p' y, p = p' ++ [y] := by
      rcases List.eq_nil_or_concat p with rfl | ⟨p', y, e⟩
      · simp at hk
      · exact ⟨p', y, by simpa using e⟩
    have hk' : p'.length = k := by simpa using hk
    have e1 : (p' ++ [y] ++ x :: s).getD k (0, 0) = y := by subst hk'; simp [List.getD]
    have e2 : (p' ++ [y] ++ x :: s).getD (k + 1) (0, 0) = x := by subst hk'; simp [List.getD]
    rw [sinkI, e1, e2]
    by_cases h : 0 < cmpI y x
    · rw [if_pos h]
      have e3 : ((p' ++ [y] ++ x :: s).set (k + 1) y).set k x = p' ++ x :: (y :: s) := by
        subst hk'; simp
      rw [e3]
      have h' : ltI x y := (gtI_iff y x).1 h
      obtain ⟨g1, g2⟩ := ih p' x (y :: s) hk' (by simpa using ha) (fun z hz => by
        rcases List.mem_cons.1 hz with rfl | hz
        · exact h'
        · exact hs z hz) (fun hm => hx (by simp [hm]))
      exact ⟨g1, fun z => by rw [g2 z]; simp⟩
    · rw [if_neg h]
      have h' : ltI y x := ltI_total (fun e => hx (by simp [e])) (fun h1 => h ((gtI_iff y x).2 h1))
      refine ⟨?_, fun z => by simp [or_left_comm]⟩
      rw [List.append_assoc] at ha
      obtain ⟨a1, a2, a3⟩ := List.pairwise_append.1 ha
      obtain ⟨a4, a5⟩ := List.pairwise_cons.1 (show asc (y :: s) from a2)
      rw [List.append_assoc]
      refine List.pairwise_append.2 ⟨a1, ?_, fun u hu v hv => ?_⟩
      · refine List.pairwise_cons.2 ⟨fun v hv => ?_, List.pairwise_cons.2 ⟨hs, a5⟩⟩
        rcases List.mem_cons.1 hv with rfl | hv
        · exact h'
        · exact a4 v hv
      · have hy : ltI u y := a3 u hu y (by simp)
        simp only [List.singleton_append, List.mem_cons] at hv
        rcases hv with rfl | rfl | hv
        · exact hy
        · exact ltI_trans hy h'
        · exact a3 u hu v (by simp [hv])
theorem putI_spec {l : List Im} (h : asc l) (x : Im) : asc (putI l x) ∧ ∀ z, z ∈ putI l x ↔ z = x ∨ z ∈ l := by
  unfold putI
  split
  · rename_i hc
    have : x ∈ l := by simpa using hc
    exact ⟨h, fun z => ⟨fun hz => .inr hz, fun hz => by rcases hz with rfl | hz <;> assumption⟩⟩
  · rename_i hc
    have := sinkI_spec l.length l x [] rfl (by simpa using h) (by simp) (by simpa using hc)
    simpa using this
theorem foldl_putI : ∀ (xs l : List Im), asc l → asc (xs.foldl putI l) ∧ ∀ z, z ∈ xs.foldl putI l ↔ z ∈ xs ∨ z ∈ l
  | [], l, h => ⟨h, fun z => by simp⟩
  | x :: xs, l, h => by
    obtain ⟨h1, h2⟩ := putI_spec h x
    obtain ⟨g1, g2⟩ := foldl_putI xs _ h1
    refine ⟨g1, fun z => ?_⟩
    rw [List.foldl_cons, g2 z, h2 z]; simp [or_assoc, or_left_comm]
theorem makeI_spec (xs : List Im) : asc (makeI xs) ∧ ∀ z, z ∈ makeI xs ↔ z ∈ xs := by
  have := foldl_putI xs [] .nil
  simpa [makeI] using this
theorem makeI_of {xs l : List Im} (h : asc l) (hm : ∀ z, z ∈ l ↔ z ∈ xs) : makeI xs = l :=
  asc_ext (makeI_spec xs).1 h fun z => ((makeI_spec xs).2 z).trans (hm z).symm

theorem lerr_zero {xs : List Im} : lerr xs = 0 ↔ xs.length ≤ 64 ∧ (∀ x ∈ xs, chk x = true) ∧ asc xs := by
  unfold lerr
  rw [← ascB_asc, ← List.all_eq_true]
  split
  · simp; omega
  · split
    · rename_i h; simp [h]
    · rename_i h
      have h' : xs.all chk = true := by simpa using h
      split
      · rename_i h2; simp [h', h2]; omega
      · rename_i h2; simp [h2]

/-- All names of two sets, in order, with where they are: 1 the one, 2 the other, 3 both. -/
def mergeI : List Im → List Im → List (Im × Int)
  | [], [] => []
  | x :: a, [] => (x, 1) :: mergeI a []
  | [], y :: b => (y, 2) :: mergeI [] b
  | x :: a, y :: b => if cmpI x y < 0 then (x, 1) :: mergeI a (y :: b) else if 0 < cmpI x y then (y, 2) :: mergeI (x :: a) b else (x, 3) :: mergeI a b
termination_by a b => a.length + b.length
decreasing_by all_goals (simp only [List.length_cons]; omega)
theorem cmpI_eq {x y : Im} (h1 : ¬ cmpI x y < 0) (h2 : ¬ 0 < cmpI x y) : x = y := by
  obtain ⟨a, b⟩ := x
  obtain ⟨c, d⟩ := y
  unfold cmpI at h1 h2
  simp only [Prod.mk.injEq]
  repeat' split at h1
  all_goals (repeat' split at h2)
  all_goals omega
theorem mergeI_mem (a b : List Im) : ∀ z, z ∈ (mergeI a b).map Prod.fst ↔ z ∈ a ∨ z ∈ b := by
  induction a, b using mergeI.induct with
  | case1 => simp [mergeI]
  | case2 x a ih => intro z; rw [mergeI, List.map_cons, List.mem_cons, ih z]; simp
  | case3 y b ih => intro z; rw [mergeI, List.map_cons, List.mem_cons, ih z]; simp
  | case4 x a y b h ih => intro z; rw [mergeI, if_pos h, List.map_cons, List.mem_cons, ih z]; simp [or_assoc, or_left_comm]
  | case5 x a y b h h2 ih => intro z; rw [mergeI, if_neg h, if_pos h2, List.map_cons, List.mem_cons, ih z]; simp [or_assoc, or_left_comm]
  | case6 x a y b h h2 ih =>
    intro z
    obtain rfl := cmpI_eq h h2
    rw [mergeI, if_neg h, if_neg h2, List.map_cons, List.mem_cons, ih z]; simp [or_assoc, or_left_comm]
theorem mergeI_len (a b : List Im) : (mergeI a b).length ≤ a.length + b.length := by
  induction a, b using mergeI.induct with
  | case1 => simp [mergeI]
  | case2 x a ih => rw [mergeI]; simp at ih ⊢; omega
  | case3 y b ih => rw [mergeI]; simp at ih ⊢; omega
  | case4 x a y b h ih => rw [mergeI, if_pos h]; simp at ih ⊢; omega
  | case5 x a y b h h2 ih => rw [mergeI, if_neg h, if_pos h2]; simp at ih ⊢; omega
  | case6 x a y b h h2 ih => rw [mergeI, if_neg h, if_neg h2]; simp at ih ⊢; omega
theorem asc_cons {x : Im} {l : List Im} : asc (x :: l) ↔ (∀ z ∈ l, ltI x z) ∧ asc l := List.pairwise_cons
theorem mergeI_asc (a b : List Im) (ha : asc a) (hb : asc b) : asc ((mergeI a b).map Prod.fst) := by
  induction a, b using mergeI.induct with
  | case1 => simp [mergeI]
  | case2 x a ih =>
    rw [mergeI, List.map_cons, asc_cons]
    exact ⟨fun z hz => by rw [mergeI_mem] at hz; simp at hz; exact (asc_cons.1 ha).1 z hz, ih (asc_cons.1 ha).2 hb⟩
  | case3 y b ih =>
    rw [mergeI, List.map_cons, asc_cons]
    exact ⟨fun z hz => by rw [mergeI_mem] at hz; simp at hz; exact (asc_cons.1 hb).1 z hz, ih ha (asc_cons.1 hb).2⟩
  | case4 x a y b h ih =>
    rw [mergeI, if_pos h, List.map_cons, asc_cons]
    refine ⟨fun z hz => ?_, ih (asc_cons.1 ha).2 hb⟩
    rw [mergeI_mem] at hz
    rcases hz with hz | hz
    · exact (asc_cons.1 ha).1 z hz
    · rcases List.mem_cons.1 hz with rfl | hz
      · exact h
      · exact ltI_trans h ((asc_cons.1 hb).1 z hz)
  | case5 x a y b h h2 ih =>
    have h3 := (gtI_iff x y).1 h2
    rw [mergeI, if_neg h, if_pos h2, List.map_cons, asc_cons]
    refine ⟨fun z hz => ?_, ih ha (asc_cons.1 hb).2⟩
    rw [mergeI_mem] at hz
    rcases hz with hz | hz
    · rcases List.mem_cons.1 hz with rfl | hz
      · exact h3
      · exact ltI_trans h3 ((asc_cons.1 ha).1 z hz)
    · exact (asc_cons.1 hb).1 z hz
  | case6 x a y b h h2 ih =>
    obtain rfl := cmpI_eq h h2
    rw [mergeI, if_neg h, if_neg h2, List.map_cons, asc_cons]
    refine ⟨fun z hz => ?_, ih (asc_cons.1 ha).2 (asc_cons.1 hb).2⟩
    rw [mergeI_mem] at hz
    rcases hz with hz | hz
    · exact (asc_cons.1 ha).1 z hz
    · exact (asc_cons.1 hb).1 z hz
theorem mergeI_left (a b : List Im) (ha : asc a) (hb : asc b) : ∀ z, (z, (1 : Int)) ∈ mergeI a b ↔ z ∈ a ∧ z ∉ b := by
  induction a, b using mergeI.induct with
  | case1 => simp [mergeI]
  | case2 x a ih => intro z; rw [mergeI, List.mem_cons, ih (asc_cons.1 ha).2 hb z]; simp
  | case3 y b ih => intro z; rw [mergeI, List.mem_cons, ih ha (asc_cons.1 hb).2 z]; simp
  | case4 x a y b h ih =>
    intro z
    rw [mergeI, if_pos h, List.mem_cons, ih (asc_cons.1 ha).2 hb z]
    have hx : x ∉ y :: b := fun hm => by
      rcases List.mem_cons.1 hm with e | hm
      · exact ltI_ne h e
      · exact ltI_irrefl _ (ltI_trans h ((asc_cons.1 hb).1 x hm))
    constructor
    · rintro (e | ⟨h1, h2⟩)
      · obtain ⟨rfl, _⟩ := Prod.mk.injEq .. ▸ e; exact ⟨by simp, hx⟩
      · exact ⟨by simp [h1], h2⟩
    · rintro ⟨h1, h2⟩
      rcases List.mem_cons.1 h1 with rfl | h1
      · exact .inl rfl
      · exact .inr ⟨h1, h2⟩
  | case5 x a y b h h2 ih =>
    have h3 := (gtI_iff x y).1 h2
    intro z
    rw [mergeI, if_neg h, if_pos h2, List.mem_cons, ih ha (asc_cons.1 hb).2 z]
    have hy : y ∉ x :: a := fun hm => by
      rcases List.mem_cons.1 hm with e | hm
      · exact ltI_ne h3 e
      · exact ltI_irrefl _ (ltI_trans h3 ((asc_cons.1 ha).1 y hm))
    constructor
    · rintro (e | ⟨h1, h2⟩)
      · simp at e
      · exact ⟨h1, fun hm => by
          rcases List.mem_cons.1 hm with rfl | hm
          · exact hy h1
          · exact h2 hm⟩
    · rintro ⟨h1, h2⟩
      exact .inr ⟨h1, fun hm => h2 (by simp [hm])⟩
  | case6 x a y b h h2 ih =>
    obtain rfl := cmpI_eq h h2
    intro z
    rw [mergeI, if_neg h, if_neg h2, List.mem_cons, ih (asc_cons.1 ha).2 (asc_cons.1 hb).2 z]
    constructor
    · rintro (e | ⟨h1, h2⟩)
      · simp at e
      · refine ⟨by simp [h1], fun hm => ?_⟩
        rcases List.mem_cons.1 hm with rfl | hm
        · exact ltI_irrefl _ ((asc_cons.1 ha).1 z h1)
        · exact h2 hm
    · rintro ⟨h1, h2⟩
      rcases List.mem_cons.1 h1 with rfl | h1
      · exact absurd (by simp) h2
      · exact .inr ⟨h1, fun hm => h2 (by simp [hm])⟩

/-- What of two sets is in certain ones of them. -/
def pickI (p : Int → Bool) (xs ys : List Im) : List Im := ((mergeI xs ys).filter fun u => p u.2).map Prod.fst
def pickErr (p : Int → Bool) (xs ys : List Im) : Int := if lerr2 xs ys ≠ 0 then lerr2 xs ys else if 64 < (pickI p xs ys).length then 8 else 0
def pickOut (p : Int → Bool) (xs ys : List Im) : List Im := if pickErr p xs ys ≠ 0 then [] else pickI p xs ys
theorem lerr2_zero {xs ys : List Im} : lerr2 xs ys = 0 ↔ lerr xs = 0 ∧ lerr ys = 0 := by
  unfold lerr2; split <;> simp_all
theorem union_plain (xs ys : List Im) : pickErr (fun _ => true) xs ys = unionErr xs ys ∧ pickOut (fun _ => true) xs ys = unionR xs ys := by
  by_cases h : lerr2 xs ys = 0
  · obtain ⟨h1, h2⟩ := lerr2_zero.1 h
    obtain ⟨a1, a2, a3⟩ := lerr_zero.1 h1
    obtain ⟨b1, b2, b3⟩ := lerr_zero.1 h2
    have hm : makeI (xs ++ ys) = pickI (fun _ => true) xs ys := by
      refine makeI_of ?_ (fun z => ?_)
      · show asc (((mergeI xs ys).filter fun u => true).map Prod.fst)
        rw [List.filter_eq_self.2 (fun _ _ => rfl)]; exact mergeI_asc xs ys a3 b3
      · rw [List.mem_append, ← mergeI_mem]
        show z ∈ ((mergeI xs ys).filter fun u => true).map Prod.fst ↔ _
        rw [List.filter_eq_self.2 (fun _ _ => rfl)]
    have hc : (xs ++ ys).all chk = true := by
      rw [List.all_eq_true]; intro x hx
      rcases List.mem_append.1 hx with hx | hx
      · exact a2 x hx
      · exact b2 x hx
    have hl : ¬ 1024 < (xs ++ ys).length := by simp; omega
    have he : makeErr (xs ++ ys) = if 64 < (pickI (fun _ => true) xs ys).length then 8 else 0 := by
      unfold makeErr; rw [if_neg hl, if_neg (by simp [hc]), hm]
    have e2 : pickErr (fun _ => true) xs ys = if 64 < (pickI (fun _ => true) xs ys).length then 8 else 0 := by
      unfold pickErr; rw [if_neg (by simp [h])]
    refine ⟨?_, ?_⟩
    · unfold unionErr; rw [if_neg (by simp [h]), he, e2]
    · unfold unionR makeOut; rw [if_neg (by simp [h]), he, hm]; unfold pickOut; rw [e2]
  · refine ⟨?_, ?_⟩
    · unfold pickErr unionErr; rw [if_pos h, if_pos h]
    · unfold pickOut pickErr unionR; rw [if_pos h, if_pos h, if_pos h]
theorem minus_plain (xs ys : List Im) : pickErr (fun u => u == 1) xs ys = lerr2 xs ys ∧ pickOut (fun u => u == 1) xs ys = minusI xs ys := by
  by_cases h : lerr2 xs ys = 0
  · obtain ⟨h1, h2⟩ := lerr2_zero.1 h
    obtain ⟨a1, a2, a3⟩ := lerr_zero.1 h1
    obtain ⟨b1, b2, b3⟩ := lerr_zero.1 h2
    have hm : pickI (fun u => u == 1) xs ys = xs.filter fun x => !ys.contains x := by
      refine asc_ext ?_ (List.Pairwise.filter _ a3) (fun z => ?_)
      · exact List.Pairwise.sublist ((List.filter_sublist).map _) (mergeI_asc xs ys a3 b3)
      · have : z ∈ pickI (fun u => u == 1) xs ys ↔ (z, (1 : Int)) ∈ mergeI xs ys := by simp [pickI]
        rw [this, mergeI_left xs ys a3 b3]; simp
    have hl : (pickI (fun u => u == 1) xs ys).length ≤ 64 := by
      rw [hm]; exact Nat.le_trans (List.length_filter_le _ _) a1
    have e2 : pickErr (fun u => u == 1) xs ys = 0 := by
      unfold pickErr; rw [if_neg (by simp [h]), if_neg (by omega)]
    refine ⟨by rw [e2, h], ?_⟩
    unfold pickOut minusI; rw [if_neg (by simp [e2]), if_neg (by simp [h]), hm]
  · refine ⟨?_, ?_⟩
    · unfold pickErr; rw [if_pos h]
    · unfold pickOut pickErr minusI; rw [if_pos h, if_pos h, if_pos h]
end Go.Proofs.YtffnpfponnhddaaGreat
namespace Go.Proofs.YtffnpfponnhddaaGreat

/-- What a machine's vector can be. -/
def Vm.wf (v : Vm) : Prop := (0 ≤ v.d0 ∧ v.d0 < 4294967296) ∧ (0 ≤ v.d1 ∧ v.d1 < 4294967296) ∧ (0 ≤ v.d2 ∧ v.d2 < 4294967296) ∧ (0 ≤ v.d3 ∧ v.d3 < 4294967296) ∧ (0 ≤ v.d4 ∧ v.d4 < 4294967296) ∧ (0 ≤ v.d5 ∧ v.d5 < 4294967296) ∧ (0 ≤ v.d6 ∧ v.d6 < 4294967296) ∧ (0 ≤ v.d7 ∧ v.d7 < 4294967296)
theorem zV_wf : zV.wf := by unfold zV Vm.wf; decide
theorem Vm.set_wf {v : Vm} (h : v.wf) (o s : Int) (h0 : 0 ≤ s) (h1 : s < 4294967296) : (v.set o s).wf := by
  obtain ⟨a0, a1, a2, a3, a4, a5, a6, a7⟩ := h
  unfold Vm.wf Vm.set
  refine ⟨?_, ?_, ?_, ?_, ?_, ?_, ?_, ?_⟩ <;> (dsimp only; split <;> first | exact ⟨h0, h1⟩ | assumption)
theorem takeErr_zero {v : Vm} {x : Im} : takeErr v x = 0 ↔ vchk v = true ∧ chk x = true ∧ hasV v x = false ∧ x.2 ≤ v.get x.1 + 1 := by
  unfold takeErr
  cases vchk v <;> cases chk x <;> cases hasV v x <;> simp <;> (first | omega | skip)
theorem chk_bounds {x : Im} (h : chk x = true) : 0 ≤ x.1 ∧ x.1 < 8 ∧ 1 ≤ x.2 ∧ x.2 ≤ 1048576 := by
  simpa [chk] using h
theorem vchk_set {v : Vm} {o s : Int} (h : vchk v = true) (hs : s ≤ 1048576) : vchk (v.set o s) = true := by
  unfold vchk at *
  rw [decide_eq_true_eq] at *
  obtain ⟨a0, a1, a2, a3, a4, a5, a6, a7⟩ := h
  unfold Vm.set
  refine ⟨?_, ?_, ?_, ?_, ?_, ?_, ?_, ?_⟩ <;> (dsimp only; split <;> assumption)
theorem takeV_wf {v : Vm} {x : Im} (h : v.wf) : (takeV v x).wf := by
  unfold takeV
  split
  · rename_i h0
    obtain ⟨_, hc, _, _⟩ := takeErr_zero.1 h0
    obtain ⟨_, _, h1, h2⟩ := chk_bounds hc
    exact Vm.set_wf h _ _ (by omega) (by omega)
  · exact zV_wf
/-- One step of a fold. -/
def stepV (v : Vm) (x : Im) : Vm := if takeErr v x = 0 then takeV v x else v
theorem foldV_eq (v : Vm) (xs : List Im) : foldV v xs = xs.foldl stepV v := rfl
theorem stepV_wf {v : Vm} {x : Im} (h : v.wf) : (stepV v x).wf := by
  unfold stepV; split
  · exact takeV_wf h
  · exact h
theorem stepV_chk {v : Vm} {x : Im} (h : vchk v = true) : vchk (stepV v x) = true := by
  unfold stepV; split
  · rename_i h0
    obtain ⟨_, hc, _, _⟩ := takeErr_zero.1 h0
    unfold takeV
    rw [if_pos h0]
    exact vchk_set h (chk_bounds hc).2.2.2
  · exact h
theorem foldV_wf : ∀ (xs : List Im) {v : Vm}, v.wf → (foldV v xs).wf
  | [], _, h => h
  | x :: xs, _, h => foldV_wf xs (stepV_wf (x := x) h)
theorem foldV_chk : ∀ (xs : List Im) {v : Vm}, vchk v = true → vchk (foldV v xs) = true
  | [], _, h => h
  | x :: xs, _, h => foldV_chk xs (stepV_chk (x := x) h)
theorem foldV_take {v : Vm} {xs : List Im} {k : Nat} {x : Im} (h : xs[k]? = some x) : foldV v (xs.take (k + 1)) = stepV (foldV v (xs.take k)) x := by
  rw [List.take_add_one, h, foldV_eq, foldV_eq, List.foldl_append]; rfl
end Go.Proofs.YtffnpfponnhddaaGreat
namespace Go.Proofs.YtffnpfponnhddaaGreat

theorem chk_wf {x : Im} (h : chk x = true) : x.wf := by
  simp [chk] at h
  exact ⟨by omega, by omega⟩
theorem makeErr_zero {xs : List Im} : makeErr xs = 0 ↔ xs.length ≤ 1024 ∧ (∀ x ∈ xs, chk x = true) ∧ (makeI xs).length ≤ 64 := by
  unfold makeErr
  by_cases h1 : 1024 < xs.length
  · rw [if_pos h1]; constructor
    · intro h; exact absurd h (by decide)
    · rintro ⟨h, _⟩; omega
  · rw [if_neg h1]
    by_cases h2 : xs.all chk = false
    · rw [if_pos h2]; constructor
      · intro h; exact absurd h (by decide)
      · rintro ⟨_, h, _⟩; rw [List.all_eq_true.2 h] at h2; cases h2
    · rw [if_neg h2]
      have h2' : ∀ x ∈ xs, chk x = true := List.all_eq_true.1 (by simpa using h2)
      by_cases h3 : 64 < (makeI xs).length
      · rw [if_pos h3]; constructor
        · intro h; exact absurd h (by decide)
        · rintro ⟨_, _, h⟩; omega
      · rw [if_neg h3]
        exact ⟨fun _ => ⟨by omega, h2', by omega⟩, fun _ => rfl⟩
theorem make_ok {xs : List Im} (h : makeErr xs = 0) : makeOut xs = makeI xs ∧ lerr (makeI xs) = 0 ∧ (makeI xs).length ≤ 64 ∧ ∀ x ∈ makeI xs, x.wf := by
  obtain ⟨h1, h2, h3⟩ := makeErr_zero.1 h
  have hs := makeI_spec xs
  refine ⟨by unfold makeOut; rw [if_neg (by simp [h])], lerr_zero.2 ⟨h3, fun x hx => h2 x ((hs.2 x).1 hx), hs.1⟩, h3, fun x hx => chk_wf (h2 x ((hs.2 x).1 hx))⟩
theorem contains_iff {l : List Im} {x : Im} {b : Bool} (h : x ∈ l ↔ b = true) : l.contains x = b := by
  rw [Bool.eq_iff_iff, List.contains_iff_mem]; exact h
theorem minus_ok {p q : List Im} (hp : lerr p = 0) (hq : lerr q = 0) : lerr2 p q = 0 ∧ lerr (minusI p q) = 0 ∧ ∀ x, (minusI p q).contains x = (p.contains x && !q.contains x) := by
  have h2 : lerr2 p q = 0 := lerr2_zero.2 ⟨hp, hq⟩
  have hm : minusI p q = p.filter fun x => !q.contains x := by unfold minusI; rw [if_neg (by simp [h2])]
  obtain ⟨h3, h4, h5⟩ := lerr_zero.1 hp
  refine ⟨h2, ?_, fun x => ?_⟩
  · rw [hm]
    refine lerr_zero.2 ⟨Nat.le_trans (List.length_filter_le _ _) h3, fun x hx => h4 x (List.mem_filter.1 hx).1, List.Pairwise.filter _ h5⟩
  · apply contains_iff
    rw [hm, List.mem_filter, Bool.and_eq_true, List.contains_iff_mem]
theorem union_ok {p q : List Im} (hp : lerr p = 0) (hq : lerr q = 0) : (unionErr p q = 0 ∨ unionErr p q = 8) ∧ (unionErr p q = 0 → lerr (unionR p q) = 0 ∧ ∀ x, (unionR p q).contains x = (p.contains x || q.contains x)) := by
  have h2 : lerr2 p q = 0 := lerr2_zero.2 ⟨hp, hq⟩
  obtain ⟨h3, h4, h5⟩ := lerr_zero.1 hp
  obtain ⟨g3, g4, g5⟩ := lerr_zero.1 hq
  have he : unionErr p q = makeErr (p ++ q) := by unfold unionErr; rw [if_neg (by simp [h2])]
  have hr : unionR p q = makeOut (p ++ q) := by unfold unionR; rw [if_neg (by simp [h2])]
  have hc : ∀ x ∈ p ++ q, chk x = true := fun x hx => (List.mem_append.1 hx).elim (h4 x) (g4 x)
  constructor
  · rw [he]
    unfold makeErr
    rw [if_neg (by rw [List.length_append]; omega), if_neg (by rw [List.all_eq_true.2 hc]; simp)]
    split
    · exact .inr rfl
    · exact .inl rfl
  · intro h
    rw [he] at h
    obtain ⟨k1, k2, _, _⟩ := make_ok h
    rw [hr, k1]
    refine ⟨k2, fun x => contains_iff ?_⟩
    rw [(makeI_spec _).2 x, List.mem_append, Bool.or_eq_true, List.contains_iff_mem, List.contains_iff_mem]
end Go.Proofs.YtffnpfponnhddaaGreat
namespace Go.Proofs.YtffnpfponnhddaaGreat

def leV (a b : Vm) : Prop := a.d0 ≤ b.d0 ∧ a.d1 ≤ b.d1 ∧ a.d2 ≤ b.d2 ∧ a.d3 ≤ b.d3 ∧ a.d4 ≤ b.d4 ∧ a.d5 ≤ b.d5 ∧ a.d6 ≤ b.d6 ∧ a.d7 ≤ b.d7
theorem leV_refl (a : Vm) : leV a a := by unfold leV; omega
theorem leV_trans {a b c : Vm} (h : leV a b) (h2 : leV b c) : leV a c := by unfold leV at *; omega
theorem leV_get {a b : Vm} (h : leV a b) (o : Int) : a.get o ≤ b.get o := by
  unfold leV at h
  unfold Vm.get
  (repeat' split) <;> omega
theorem get_set {v : Vm} {o s o' : Int} (h0 : 0 ≤ o) (h1 : o < 8) (h2 : 0 ≤ o') (h3 : o' < 8) : (v.set o s).get o' = if o = o' then s else v.get o' := by
  obtain rfl | rfl | rfl | rfl | rfl | rfl | rfl | rfl : o = 0 ∨ o = 1 ∨ o = 2 ∨ o = 3 ∨ o = 4 ∨ o = 5 ∨ o = 6 ∨ o = 7 := by omega
  all_goals
    obtain rfl | rfl | rfl | rfl | rfl | rfl | rfl | rfl : o' = 0 ∨ o' = 1 ∨ o' = 2 ∨ o' = 3 ∨ o' = 4 ∨ o' = 5 ∨ o' = 6 ∨ o' = 7 := by omega
    all_goals simp [Vm.set, Vm.get]
theorem leV_set {v : Vm} {o s : Int} (h0 : 0 ≤ o) (h1 : o < 8) (h : v.get o ≤ s) : leV v (v.set o s) := by
  obtain rfl | rfl | rfl | rfl | rfl | rfl | rfl | rfl : o = 0 ∨ o = 1 ∨ o = 2 ∨ o = 3 ∨ o = 4 ∨ o = 5 ∨ o = 6 ∨ o = 7 := by omega
  all_goals
    simp [Vm.get] at h
    simp [leV, Vm.set]
    omega
theorem hasV_iff {v : Vm} {x : Im} : hasV v x = true ↔ chk x = true ∧ x.2 ≤ v.get x.1 := by
  unfold hasV; rw [Bool.and_eq_true, decide_eq_true_eq]
theorem hasV_mono {a b : Vm} (h : leV a b) {x : Im} (hx : hasV a x = true) : hasV b x = true := by
  rw [hasV_iff] at *
  exact ⟨hx.1, Int.le_trans hx.2 (leV_get h _)⟩
/-- One step of Fold: the vector stays, or has just the name more. -/
theorem stepV_cases {v : Vm} (x : Im) : (stepV v x = v ∧ takeErr v x ≠ 0) ∨ (takeErr v x = 0 ∧ stepV v x = v.set x.1 x.2 ∧ chk x = true ∧ x.2 = v.get x.1 + 1) := by
  unfold stepV
  by_cases h : takeErr v x = 0
  · rw [if_pos h]
    obtain ⟨h1, h2, h3, h4⟩ := takeErr_zero.1 h
    refine .inr ⟨h, by unfold takeV; rw [if_pos h], h2, ?_⟩
    have : ¬ x.2 ≤ v.get x.1 := fun h5 => by rw [hasV_iff.2 ⟨h2, h5⟩] at h3; cases h3
    omega
  · rw [if_neg h]; exact .inl ⟨rfl, h⟩
theorem stepV_le (v : Vm) (x : Im) : leV v (stepV v x) := by
  rcases stepV_cases (v := v) x with ⟨h, _⟩ | ⟨_, h, hc, he⟩
  · rw [h]; exact leV_refl v
  · rw [h]
    obtain ⟨h0, h1, _, _⟩ := chk_bounds hc
    exact leV_set h0 h1 (by omega)
theorem foldV_le : ∀ (xs : List Im) (v : Vm), leV v (foldV v xs)
  | [], v => leV_refl v
  | x :: xs, v => leV_trans (stepV_le v x) (foldV_le xs (stepV v x))
theorem stepV_has {v : Vm} {x y : Im} (h : hasV (stepV v x) y = true) : hasV v y = true ∨ y = x := by
  rcases stepV_cases (v := v) x with ⟨h1, _⟩ | ⟨_, h1, hc, he⟩
  · rw [h1] at h; exact .inl h
  · rw [h1] at h
    obtain ⟨hy, hle⟩ := hasV_iff.1 h
    obtain ⟨h0, h8, _, _⟩ := chk_bounds hc
    obtain ⟨g0, g8, _, _⟩ := chk_bounds hy
    rw [get_set h0 h8 g0 g8] at hle
    by_cases ho : x.1 = y.1
    · rw [if_pos ho] at hle
      by_cases hs : y.2 ≤ v.get y.1
      · exact .inl (hasV_iff.2 ⟨hy, hs⟩)
      · rw [ho] at he
        exact .inr (Prod.ext ho.symm (by omega))
    · rw [if_neg ho] at hle
      exact .inl (hasV_iff.2 ⟨hy, hle⟩)
theorem foldV_has : ∀ (xs : List Im) {v : Vm} {y : Im}, hasV (foldV v xs) y = true → hasV v y = true ∨ y ∈ xs
  | [], _, _, h => .inl h
  | x :: xs, v, y, h => by
    rcases foldV_has xs (v := stepV v x) h with h1 | h1
    · rcases stepV_has h1 with h2 | h2
      · exact .inl h2
      · exact .inr (by simp [h2])
    · exact .inr (by simp [h1])
/-- What comes behind a name with a gap leaves its origin's count. -/
theorem foldV_gap : ∀ (xs : List Im) {v : Vm} {x : Im}, chk x = true → v.get x.1 + 1 < x.2 → (∀ y ∈ xs, ltI x y) → (foldV v xs).get x.1 = v.get x.1
  | [], _, _, _, _, _ => rfl
  | y :: ys, v, x, hc, hg, hl => by
    have h1 : (stepV v y).get x.1 = v.get x.1 := by
      rcases stepV_cases (v := v) y with ⟨h1, _⟩ | ⟨_, h1, hcy, he⟩
      · rw [h1]
      · rw [h1]
        obtain ⟨h0, h8, _, _⟩ := chk_bounds hcy
        obtain ⟨g0, g8, _, _⟩ := chk_bounds hc
        rw [get_set h0 h8 g0 g8]
        split
        · rename_i ho
          have h2 := (ltI_iff x y).1 (hl y (by simp))
          rw [ho] at he
          omega
        · rfl
    have h2 := foldV_gap ys (v := stepV v y) hc (by rw [h1]; exact hg) (fun z hz => hl z (by simp [hz]))
    show (foldV (stepV v y) ys).get x.1 = _
    rw [h2, h1]
/-- What is left has a gap ahead. -/
theorem foldV_left : ∀ (xs : List Im) {v : Vm}, vchk v = true → asc xs → (∀ x ∈ xs, chk x = true) → ∀ x ∈ xs, hasV (foldV v xs) x = false → (foldV v xs).get x.1 + 1 < x.2
  | [], _, _, _, _, x, hx, _ => by cases hx
  | y :: ys, v, hv, ha, hc, x, hx, hn => by
    obtain ⟨ha1, ha2⟩ := asc_cons.1 ha
    rcases List.mem_cons.1 hx with rfl | hx
    · rcases stepV_cases (v := v) x with ⟨h1, h2⟩ | ⟨_, h1, hcx, he⟩
      · have hf : foldV v (x :: ys) = foldV v ys := by show foldV (stepV v x) ys = _; rw [h1]
        rw [hf] at hn ⊢
        have hnv : hasV v x = false := by
          rw [Bool.eq_false_iff]; intro h
          rw [hasV_mono (foldV_le ys v) h] at hn; cases hn
        have hg : v.get x.1 + 1 < x.2 := by
          rcases Int.lt_or_le (v.get x.1 + 1) x.2 with h | h
          · exact h
          · exact absurd (takeErr_zero.2 ⟨hv, hc x (by simp), hnv, h⟩) h2
        rw [foldV_gap ys (hc x (by simp)) hg ha1]
        exact hg
      · exfalso
        have h3 : hasV (stepV v x) x = true := by
          rw [h1]
          obtain ⟨g0, g8, _, _⟩ := chk_bounds hcx
          exact hasV_iff.2 ⟨hcx, by rw [get_set g0 g8 g0 g8, if_pos rfl]; exact Int.le_refl _⟩
        have h4 := hasV_mono (foldV_le ys (stepV v x)) h3
        have h5 : hasV (foldV v (x :: ys)) x = true := h4
        rw [h5] at hn; cases hn
    · exact foldV_left ys (v := stepV v y) (stepV_chk hv) ha2 (fun z hz => hc z (by simp [hz])) x hx hn
theorem foldV_same : ∀ (xs : List Im) {v : Vm}, (∀ x ∈ xs, v.get x.1 + 1 < x.2) → foldV v xs = v
  | [], _, _ => rfl
  | x :: xs, v, h => by
    have h1 : stepV v x = v := by
      rcases stepV_cases (v := v) x with ⟨h1, _⟩ | ⟨_, _, _, he⟩
      · exact h1
      · have := h x (by simp); omega
    show foldV (stepV v x) xs = v
    rw [h1]
    exact foldV_same xs (fun z hz => h z (by simp [hz]))
/-- The whole law. -/
theorem fold_law {v : Vm} {m : List Im} (hv : vchk v = true) (hm : lerr m = 0) :
    foldErr v m = 0 ∧ foldOut v m = foldV v m ∧ foldRest v m = m.filter (fun x => !hasV (foldV v m) x) ∧ leV v (foldV v m) ∧ vchk (foldV v m) = true ∧ lerr (foldRest v m) = 0 ∧
      (∀ x, (hasV v x || m.contains x) = (hasV (foldV v m) x || (foldRest v m).contains x)) ∧ (∀ x, (hasV (foldV v m) x && (foldRest v m).contains x) = false) ∧
      (∀ x ∈ foldRest v m, takeErr (foldV v m) x = 17) ∧ foldErr (foldV v m) (foldRest v m) = 0 ∧ foldOut (foldV v m) (foldRest v m) = foldV v m ∧ foldRest (foldV v m) (foldRest v m) = foldRest v m := by
  obtain ⟨h1, h2, h3⟩ := lerr_zero.1 hm
  have hE : foldErr v m = 0 := by unfold foldErr; rw [if_neg (by simp [hv]), hm]
  have hO : foldOut v m = foldV v m := by unfold foldOut; rw [if_neg (by simp [hE])]
  have hR : foldRest v m = m.filter (fun x => !hasV (foldV v m) x) := by
    unfold foldRest; rw [if_neg (by simp [hE])]; unfold beyondI; rw [if_neg (by simp [hm])]
  have hw := foldV_chk m hv
  have hmem : ∀ x, x ∈ foldRest v m ↔ x ∈ m ∧ hasV (foldV v m) x = false := by
    intro x; rw [hR, List.mem_filter]; simp
  have hLe := foldV_le m v
  have hrl : lerr (foldRest v m) = 0 := by
    rw [hR]
    exact lerr_zero.2 ⟨Nat.le_trans (List.length_filter_le _ _) h1, fun x hx => h2 x (List.mem_filter.1 hx).1, List.Pairwise.filter _ h3⟩
  have hgap : ∀ x ∈ foldRest v m, (foldV v m).get x.1 + 1 < x.2 := fun x hx => foldV_left m hv h3 h2 x ((hmem x).1 hx).1 ((hmem x).1 hx).2
  have hE2 : foldErr (foldV v m) (foldRest v m) = 0 := by unfold foldErr; rw [if_neg (by simp [hw]), hrl]
  have hO2 : foldOut (foldV v m) (foldRest v m) = foldV v m := by unfold foldOut; rw [if_neg (by simp [hE2]), foldV_same _ hgap]
  have hR2 : foldRest (foldV v m) (foldRest v m) = foldRest v m := by
    have hg : ∀ r, foldErr (foldV v m) r = 0 → foldRest (foldV v m) r = beyondI r (foldV (foldV v m) r) := fun r h => by unfold foldRest; rw [if_neg (by simp [h])]
    rw [hg _ hE2, foldV_same _ hgap]
    unfold beyondI
    rw [if_neg (by simp [hrl]), List.filter_eq_self]
    intro x hx
    rw [((hmem x).1 hx).2]; rfl
  refine ⟨hE, hO, hR, hLe, hw, hrl, fun x => ?_, fun x => ?_, fun x hx => ?_, hE2, hO2, hR2⟩
  · rw [Bool.eq_iff_iff, Bool.or_eq_true, Bool.or_eq_true, List.contains_iff_mem, List.contains_iff_mem, hmem]
    constructor
    · rintro (h | h)
      · exact .inl (hasV_mono hLe h)
      · cases hh : hasV (foldV v m) x
        · exact .inr ⟨h, rfl⟩
        · exact .inl rfl
    · rintro (h | h)
      · exact foldV_has m h
      · exact .inr h.1
  · rw [Bool.eq_false_iff]
    intro h
    rw [Bool.and_eq_true, List.contains_iff_mem, hmem] at h
    rw [h.1] at h
    exact absurd h.2.2 (by simp)
  · have hm2 := (hmem x).1 hx
    unfold takeErr
    rw [if_neg (by simp [hw]), if_neg (by simp [h2 x hm2.1]), if_neg (by simp [hm2.2]), if_pos (hgap x hx)]
end Go.Proofs.YtffnpfponnhddaaGreat
