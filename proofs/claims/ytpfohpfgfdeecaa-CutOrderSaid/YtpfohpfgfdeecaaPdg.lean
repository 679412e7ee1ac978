/- Cuts, plain words: what a cut knows, and the laws of Make, Add, Join, LE, Same. -/
import Derived.Test.YtpfohpfgfdeecaaCx
import Derived.Test.YtpfohpfgfdeecaaVjA
import Derived.Test.YtpfohpfgfdeecaaPl
namespace Go.Proofs.Ytpfohpfgfdeecaa

/-- Is a name known by a cut? -/
def hasC (v : Vm) (xs : List Im) (x : Im) : Bool := hasV v x || xs.contains x
def addErr (v : Vm) (xs : List Im) (x : Im) : Int := if cutErr v xs ≠ 0 then cutErr v xs else if chk x = false then 2 else if hasC v xs x then 11 else rcErr v (xs ++ [x])
def addV (v : Vm) (xs : List Im) (x : Im) : Vm := if addErr v xs x ≠ 0 then zV else rcV v (xs ++ [x])
def addD (v : Vm) (xs : List Im) (x : Im) : List Im := if addErr v xs x ≠ 0 then [] else rcD v (xs ++ [x])
def cut2 (v : Vm) (xs : List Im) (u : Vm) (ys : List Im) : Int := if cutErr v xs ≠ 0 then cutErr v xs else cutErr u ys
def joinCE (v : Vm) (xs : List Im) (u : Vm) (ys : List Im) : Int := if cut2 v xs u ys ≠ 0 then cut2 v xs u ys else rcErr (joinV v u) (xs ++ ys)
def joinCV (v : Vm) (xs : List Im) (u : Vm) (ys : List Im) : Vm := if cut2 v xs u ys ≠ 0 then zV else rcV (joinV v u) (xs ++ ys)
def joinCD (v : Vm) (xs : List Im) (u : Vm) (ys : List Im) : List Im := if cut2 v xs u ys ≠ 0 then [] else rcD (joinV v u) (xs ++ ys)

theorem vec_ext {a b : Vm} (h : ∀ o : Int, 0 ≤ o → o < 8 → a.get o = b.get o) : a = b := by
  obtain ⟨a0, a1, a2, a3, a4, a5, a6, a7⟩ := a
  obtain ⟨b0, b1, b2, b3, b4, b5, b6, b7⟩ := b
  have h0 := h 0 (by decide) (by decide)
  have h1 := h 1 (by decide) (by decide)
  have h2 := h 2 (by decide) (by decide)
  have h3 := h 3 (by decide) (by decide)
  have h4 := h 4 (by decide) (by decide)
  have h5 := h 5 (by decide) (by decide)
  have h6 := h 6 (by decide) (by decide)
  have h7 := h 7 (by decide) (by decide)
  simp [Vm.get] at h0 h1 h2 h3 h4 h5 h6 h7
  simp [h0, h1, h2, h3, h4, h5, h6, h7]
theorem get_join (a b : Vm) {o : Int} (h0 : 0 ≤ o) (h8 : o < 8) : (joinV a b).get o = max (a.get o) (b.get o) := by
  obtain ⟨a0, a1, a2, a3, a4, a5, a6, a7⟩ := a
  obtain ⟨b0, b1, b2, b3, b4, b5, b6, b7⟩ := b
  obtain rfl | rfl | rfl | rfl | rfl | rfl | rfl | rfl : o = 0 ∨ o = 1 ∨ o = 2 ∨ o = 3 ∨ o = 4 ∨ o = 5 ∨ o = 6 ∨ o = 7 := by omega
  all_goals simp [joinV, joinK, Vm.set, Vm.get]
theorem vchk_le {v : Vm} (h : vchk v = true) (o : Int) : v.get o ≤ 1048576 := vchk_get h o
theorem vchk_join {a b : Vm} (ha : vchk a = true) (hb : vchk b = true) : vchk (joinV a b) = true := by
  obtain ⟨a0, a1, a2, a3, a4, a5, a6, a7⟩ := a
  obtain ⟨b0, b1, b2, b3, b4, b5, b6, b7⟩ := b
  simp [vchk] at ha hb
  simp [vchk, joinV, joinK, Vm.set, Vm.get]
  omega
theorem join_wf {a b : Vm} (ha : a.wf) (hb : b.wf) : (joinV a b).wf := by
  obtain ⟨a0, a1, a2, a3, a4, a5, a6, a7⟩ := a
  obtain ⟨b0, b1, b2, b3, b4, b5, b6, b7⟩ := b
  simp [Vm.wf] at ha hb
  simp [Vm.wf, joinV, joinK, Vm.set, Vm.get]
  omega
theorem hasV_join (a b : Vm) (x : Im) : hasV (joinV a b) x = (hasV a x || hasV b x) := by
  rw [Bool.eq_iff_iff, Bool.or_eq_true, hasV_iff, hasV_iff, hasV_iff]
  constructor
  · rintro ⟨h1, h2⟩
    obtain ⟨g0, g8, _, _⟩ := chk_bounds h1
    rw [get_join a b g0 g8] at h2
    rcases Int.le_total (a.get x.1) (b.get x.1) with h | h
    · exact .inr ⟨h1, by omega⟩
    · exact .inl ⟨h1, by omega⟩
  · rintro (⟨h1, h2⟩ | ⟨h1, h2⟩) <;> refine ⟨h1, ?_⟩ <;> obtain ⟨g0, g8, _, _⟩ := chk_bounds h1 <;> rw [get_join a b g0 g8] <;> omega

/-- Nothing is wrong with a cut: its vector is one, its list is one, and nothing of the list is next to the vector. -/
theorem cut_ok {v : Vm} {xs : List Im} : cutErr v xs = 0 ↔ vchk v = true ∧ lerr xs = 0 ∧ ∀ x ∈ xs, v.get x.1 + 1 < x.2 := by
  constructor
  · intro h
    obtain ⟨hv, hl⟩ := cutErr_ok h
    refine ⟨hv, hl, ?_⟩
    obtain ⟨f1, f2, f3, f4, f5, f6, f7, f8, f9, _⟩ := fold_law hv hl
    obtain ⟨l1, l2, l3⟩ := lerr_zero.1 hl
    unfold cutErr at h
    rw [f1, if_neg (by decide)] at h
    by_cases hc : (eqV (foldV v xs) v && (foldRest v xs).length == xs.length) = true
    · rw [Bool.and_eq_true, beq_iff_eq, eqV_iff, f3, List.length_filter_eq_length_iff] at hc
      obtain ⟨c1, c2⟩ := hc
      intro x hx
      have hn := c2 x hx
      have hn : hasV (foldV v xs) x = false := by simpa using hn
      have := foldV_left xs hv l3 l2 x hx hn
      rw [c1] at this
      exact this
    · rw [if_neg hc] at h
      exact absurd h (by decide)
  · rintro ⟨hv, hl, hx⟩
    obtain ⟨f1, f2, f3, _⟩ := fold_law hv hl
    have hs := foldV_same xs hx
    unfold cutErr
    rw [f1, if_neg (by decide), if_pos]
    rw [Bool.and_eq_true, beq_iff_eq, eqV_iff, f3, List.length_filter_eq_length_iff]
    refine ⟨hs, fun x hxm => ?_⟩
    have h1 := hx x hxm
    have : hasV (foldV v xs) x = false := by
      rw [hs, Bool.eq_false_iff]
      intro h
      have := (hasV_iff.1 h).2
      omega
    simp [this]
theorem rcErr_zero {v : Vm} {xs : List Im} : rcErr v xs = 0 ↔ vchk v = true ∧ makeErr xs = 0 := by
  unfold rcErr
  cases vchk v <;> simp
/-- The cut of any vector and any list: right, and it knows what was within the vector or in the list. -/
theorem make_law {v : Vm} {xs : List Im} (h : rcErr v xs = 0) : cutErr (rcV v xs) (rcD v xs) = 0 ∧ ∀ x, hasC (rcV v xs) (rcD v xs) x = hasC v xs x := by
  obtain ⟨hv, hm⟩ := rcErr_zero.1 h
  obtain ⟨_, m2, _, _⟩ := make_ok hm
  obtain ⟨f1, f2, f3, f4, f5, f6, f7, f8, f9, _⟩ := fold_law hv m2
  have e1 : rcV v xs = foldV v (makeI xs) := by unfold rcV; rw [if_neg (by simp [h])]
  have e2 : rcD v xs = foldRest v (makeI xs) := by unfold rcD; rw [if_neg (by simp [h])]
  rw [e1, e2]
  obtain ⟨l1, l2, l3⟩ := lerr_zero.1 m2
  constructor
  · refine cut_ok.2 ⟨f5, f6, fun x hx => ?_⟩
    rw [f3, List.mem_filter] at hx
    exact foldV_left _ hv l3 l2 x hx.1 (by simpa using hx.2)
  · intro x
    have h1 := f7 x
    have h2 : (makeI xs).contains x = xs.contains x := by
      rw [Bool.eq_iff_iff, List.contains_iff_mem, List.contains_iff_mem]
      exact (makeI_spec xs).2 x
    rw [h2] at h1
    exact h1.symm
theorem hasC_chk {v : Vm} {xs : List Im} (h : cutErr v xs = 0) {x : Im} (hx : hasC v xs x = true) : chk x = true := by
  obtain ⟨_, hl, _⟩ := cut_ok.1 h
  obtain ⟨_, l2, _⟩ := lerr_zero.1 hl
  unfold hasC at hx
  rw [Bool.or_eq_true] at hx
  rcases hx with hx | hx
  · exact (hasV_iff.1 hx).1
  · exact l2 x (List.contains_iff_mem.1 hx)
theorem add_law {v : Vm} {xs : List Im} {x : Im} (h : addErr v xs x = 0) :
    cutErr v xs = 0 ∧ hasC v xs x = false ∧ chk x = true ∧ cutErr (addV v xs x) (addD v xs x) = 0 ∧ ∀ y, hasC (addV v xs x) (addD v xs x) y = (hasC v xs y || y == x) := by
  have hh := h
  unfold addErr at h
  by_cases h1 : cutErr v xs = 0
  · rw [if_neg (by simp [h1])] at h
    by_cases h2 : chk x = false
    · rw [if_pos h2] at h; exact absurd h (by decide)
    · rw [if_neg h2] at h
      by_cases h3 : hasC v xs x = true
      · rw [if_pos h3] at h; exact absurd h (by decide)
      · rw [if_neg h3] at h
        obtain ⟨k1, k2⟩ := make_law h
        have e1 : addV v xs x = rcV v (xs ++ [x]) := by unfold addV; rw [if_neg (by simp [hh])]
        have e2 : addD v xs x = rcD v (xs ++ [x]) := by unfold addD; rw [if_neg (by simp [hh])]
        rw [e1, e2]
        refine ⟨h1, by simpa using h3, by simpa using h2, k1, fun y => ?_⟩
        rw [k2]
        unfold hasC
        rw [Bool.eq_iff_iff]
        simp only [Bool.or_eq_true, List.contains_iff_mem, List.mem_append, List.mem_singleton, beq_iff_eq, or_assoc]
  · rw [if_pos h1] at h; exact absurd h h1
theorem cut2_zero {v u : Vm} {xs ys : List Im} : cut2 v xs u ys = 0 ↔ cutErr v xs = 0 ∧ cutErr u ys = 0 := by
  unfold cut2
  by_cases h : cutErr v xs = 0 <;> simp [h]
theorem join_law {v u : Vm} {xs ys : List Im} (h : joinCE v xs u ys = 0) :
    cutErr v xs = 0 ∧ cutErr u ys = 0 ∧ cutErr (joinCV v xs u ys) (joinCD v xs u ys) = 0 ∧ ∀ y, hasC (joinCV v xs u ys) (joinCD v xs u ys) y = (hasC v xs y || hasC u ys y) := by
  unfold joinCE at h
  by_cases h1 : cut2 v xs u ys = 0
  · rw [if_neg (by simp [h1])] at h
    obtain ⟨k1, k2⟩ := make_law h
    have e1 : joinCV v xs u ys = rcV (joinV v u) (xs ++ ys) := by unfold joinCV; rw [if_neg (by simp [h1])]
    have e2 : joinCD v xs u ys = rcD (joinV v u) (xs ++ ys) := by unfold joinCD; rw [if_neg (by simp [h1])]
    rw [e1, e2]
    refine ⟨(cut2_zero.1 h1).1, (cut2_zero.1 h1).2, k1, fun y => ?_⟩
    rw [k2]
    unfold hasC
    rw [hasV_join, Bool.eq_iff_iff]
    simp only [Bool.or_eq_true, List.contains_iff_mem, List.mem_append]
    constructor
    · rintro ((h | h) | (h | h)) <;> simp [h]
    · rintro ((h | h) | (h | h)) <;> simp [h]
  · rw [if_pos h1] at h; exact absurd h h1

/-- All that is known by one cut is known by another. -/
def leC (v : Vm) (xs : List Im) (u : Vm) (ys : List Im) : Prop := cutErr v xs = 0 ∧ cutErr u ys = 0 ∧ ∀ x, hasC v xs x = true → hasC u ys x = true
theorem leC_refl {v : Vm} {xs : List Im} (h : cutErr v xs = 0) : leC v xs v xs := ⟨h, h, fun _ h => h⟩
theorem leC_trans {v u t : Vm} {xs ys zs : List Im} (h : leC v xs u ys) (h2 : leC u ys t zs) : leC v xs t zs := ⟨h.1, h2.2.1, fun x hx => h2.2.2 x (h.2.2 x hx)⟩
theorem get_le_of {v u : Vm} {xs ys : List Im} (h1 : cutErr v xs = 0) (h2 : cutErr u ys = 0) (h0 : ∀ o : Int, 0 ≤ o → o < 8 → 0 ≤ u.get o) (h : ∀ x, hasC v xs x = true → hasC u ys x = true) {o : Int} (g0 : 0 ≤ o) (g8 : o < 8) : v.get o ≤ u.get o := by
  rcases Int.lt_or_le (u.get o) (v.get o) with hlt | hle
  · exfalso
    obtain ⟨hv, _, _⟩ := cut_ok.1 h1
    obtain ⟨_, _, hn⟩ := cut_ok.1 h2
    have hb := vchk_get hv o
    have hz := h0 o g0 g8
    have hc : chk (o, u.get o + 1) = true := by
      unfold chk
      rw [decide_eq_true_eq]
      refine ⟨g0, g8, ?_, ?_⟩ <;> dsimp only <;> omega
    have hk : hasC v xs (o, u.get o + 1) = true := by
      unfold hasC
      rw [Bool.or_eq_true]
      exact .inl (hasV_iff.2 ⟨hc, by dsimp only; omega⟩)
    have hk2 := h _ hk
    unfold hasC at hk2
    rw [Bool.or_eq_true] at hk2
    rcases hk2 with h3 | h3
    · have := (hasV_iff.1 h3).2
      dsimp only at this
      omega
    · have := hn _ (List.contains_iff_mem.1 h3)
      dsimp only at this
      omega
  · exact hle
theorem get_nn {v : Vm} (h : v.wf) (o : Int) : 0 ≤ v.get o := by
  unfold Vm.wf at h
  unfold Vm.get
  (repeat' split) <;> omega
/-- Two cuts that know the same are the same. -/
theorem same_law {v u : Vm} {xs ys : List Im} (hv : v.wf) (hu : u.wf) (h1 : leC v xs u ys) (h2 : leC u ys v xs) : v = u ∧ xs = ys := by
  have he : v = u := vec_ext fun o g0 g8 => Int.le_antisymm (get_le_of h1.1 h1.2.1 (fun o _ _ => get_nn hu o) h1.2.2 g0 g8) (get_le_of h2.1 h2.2.1 (fun o _ _ => get_nn hv o) h2.2.2 g0 g8)
  subst he
  obtain ⟨_, a2, a3⟩ := cut_ok.1 h1.1
  obtain ⟨_, b2, b3⟩ := cut_ok.1 h1.2.1
  refine ⟨rfl, asc_ext (lerr_zero.1 a2).2.2 (lerr_zero.1 b2).2.2 fun x => ⟨fun hx => ?_, fun hx => ?_⟩⟩
  · have := h1.2.2 x (by unfold hasC; rw [List.contains_iff_mem.2 hx]; simp)
    unfold hasC at this
    rw [Bool.or_eq_true] at this
    rcases this with h | h
    · have := (hasV_iff.1 h).2
      have := a3 x hx
      omega
    · exact List.contains_iff_mem.1 h
  · have := h2.2.2 x (by unfold hasC; rw [List.contains_iff_mem.2 hx]; simp)
    unfold hasC at this
    rw [Bool.or_eq_true] at this
    rcases this with h | h
    · have := (hasV_iff.1 h).2
      have := b3 x hx
      omega
    · exact List.contains_iff_mem.1 h

/-- LE, origin by origin. -/
theorem leC_iff {v u : Vm} {xs ys : List Im} (hv : cutErr v xs = 0) (hu : cutErr u ys = 0) (hw : u.wf) :
    leC v xs u ys ↔ (∀ o t : Int, 0 ≤ o → o < 8 → u.get o < t → t ≤ v.get o → hasC u ys (o, t) = true) ∧ ∀ x ∈ xs, hasC u ys x = true := by
  obtain ⟨v1, v2, v3⟩ := cut_ok.1 hv
  constructor
  · rintro ⟨_, _, h⟩
    refine ⟨fun o t g0 g8 h1 h2 => h _ ?_, fun x hx => h x (by unfold hasC; rw [List.contains_iff_mem.2 hx]; simp)⟩
    unfold hasC
    rw [Bool.or_eq_true]
    refine .inl (hasV_iff.2 ⟨?_, h2⟩)
    have hb := vchk_get v1 o
    have hz := get_nn hw o
    unfold chk
    rw [decide_eq_true_eq]
    refine ⟨g0, g8, ?_, ?_⟩ <;> dsimp only <;> omega
  · rintro ⟨h1, h2⟩
    refine ⟨hv, hu, fun x hx => ?_⟩
    unfold hasC at hx
    rw [Bool.or_eq_true] at hx
    rcases hx with hx | hx
    · obtain ⟨hc, hl⟩ := hasV_iff.1 hx
      obtain ⟨g0, g8, _, _⟩ := chk_bounds hc
      rcases Int.lt_or_le (u.get x.1) x.2 with h | h
      · exact h1 x.1 x.2 g0 g8 h hl
      · unfold hasC
        rw [Bool.or_eq_true]
        exact .inl (hasV_iff.2 ⟨hc, h⟩)
    · exact h2 x (List.contains_iff_mem.1 hx)

/-- How many names of an origin are at most a number. -/
def cntI (ys : List Im) (o s : Int) : Nat := ys.countP fun y => y.1 == o && decide (y.2 ≤ s)
theorem cnt_step (ys : List Im) (o s : Int) : cntI ys o (s + 1) = cntI ys o s + ys.count (o, s + 1) := by
  unfold cntI
  induction ys with
  | nil => rfl
  | cons y ys ih =>
    obtain ⟨a, b⟩ := y
    rw [List.countP_cons, List.countP_cons, List.count_cons, ih]
    have : ((a, b) == ((o, s + 1) : Im)) = (a == o && b == s + 1) := rfl
    rw [this]
    by_cases h1 : a = o
    · subst h1
      rcases Int.lt_trichotomy b (s + 1) with h | h | h
      · rw [if_pos (by simp; omega), if_pos (by simp; omega), if_neg (by simp; omega)]; omega
      · subst h
        rw [if_pos (by simp), if_neg (by simp; omega), if_pos (by simp)]; omega
      · rw [if_neg (by simp; omega), if_neg (by simp; omega), if_neg (by simp; omega)]; omega
    · simp [h1]
theorem cnt_zero {ys : List Im} {o s : Int} (h : ∀ y ∈ ys, y.1 = o → s < y.2) : cntI ys o s = 0 := by
  unfold cntI
  rw [List.countP_eq_zero]
  rintro ⟨a, b⟩ hy
  have := h _ hy
  simp
  intro e
  exact this e
theorem count_one {ys : List Im} (h : asc ys) (y : Im) : ys.count y ≤ 1 := by
  have hn : ys.Nodup := h.imp fun h => ltI_ne h
  exact List.nodup_iff_count.1 hn y
theorem cnt_le {ys : List Im} (h : asc ys) {o s : Int} (h0 : cntI ys o s = 0) : ∀ n : Nat, cntI ys o (s + n) ≤ n ∧ (cntI ys o (s + n) = n ↔ ∀ t : Int, s < t → t ≤ s + n → (o, t) ∈ ys)
  | 0 => ⟨by simp [h0], by simp [h0]; intro t h1 h2; omega⟩
  | n + 1 => by
    obtain ⟨i1, i2⟩ := cnt_le h h0 n
    have hs : cntI ys o (s + ((n + 1 : Nat) : Int)) = cntI ys o (s + n) + ys.count (o, s + ((n + 1 : Nat) : Int)) := by
      have := cnt_step ys o (s + n)
      rw [show s + ((n + 1 : Nat) : Int) = s + n + 1 by omega]
      exact this
    have h1 := count_one h (o, s + ((n + 1 : Nat) : Int))
    rw [hs]
    refine ⟨by omega, ?_, ?_⟩
    · intro he
      have e1 : cntI ys o (s + n) = n := by omega
      have e2 : 0 < ys.count (o, s + ((n + 1 : Nat) : Int)) := by omega
      intro t h2 h3
      rcases Int.lt_or_le (s + n) t with h4 | h4
      · obtain rfl : t = s + ((n + 1 : Nat) : Int) := by omega
        exact List.count_pos_iff.1 e2
      · exact i2.1 e1 t h2 h4
    · intro ha
      have e1 := i2.2 (fun t h2 h3 => ha t h2 (by omega))
      have e2 : 0 < ys.count (o, s + ((n + 1 : Nat) : Int)) := List.count_pos_iff.2 (ha _ (by omega) (Int.le_refl _))
      omega
/-- Does a cut know an origin's names up to a number? -/
def covB (u : Vm) (ys : List Im) (o s : Int) : Bool := decide (s ≤ u.get o + (cntI ys o s : Int))
theorem cov_law {u : Vm} {ys : List Im} (h : cutErr u ys = 0) {o s : Int} : covB u ys o s = true ↔ ∀ t : Int, u.get o < t → t ≤ s → (o, t) ∈ ys := by
  obtain ⟨_, h2, h3⟩ := cut_ok.1 h
  obtain ⟨_, _, ha⟩ := lerr_zero.1 h2
  have h0 : cntI ys o (u.get o) = 0 := cnt_zero fun y hy e => by have := h3 y hy; rw [e] at this; omega
  unfold covB
  rw [decide_eq_true_eq]
  rcases Int.lt_or_le (u.get o) s with hlt | hle
  · obtain ⟨n, hn⟩ : ∃ n : Nat, s = u.get o + n := ⟨(s - u.get o).toNat, by omega⟩
    obtain ⟨c1, c2⟩ := cnt_le ha h0 n
    subst hn
    rw [← c2]
    omega
  · constructor
    · intro _ t h4 h5; omega
    · intro _; omega
theorem hasC_beyond {u : Vm} {ys : List Im} {o t : Int} (h : u.get o < t) : hasC u ys (o, t) = ys.contains (o, t) := by
  unfold hasC
  have : hasV u (o, t) = false := by
    rw [Bool.eq_false_iff]
    intro hh
    have := (hasV_iff.1 hh).2
    dsimp only at this
    omega
  rw [this, Bool.false_or]
/-- LE as the program has it. -/
theorem leC_cov {v u : Vm} {xs ys : List Im} (hv : cutErr v xs = 0) (hu : cutErr u ys = 0) (hw : u.wf) :
    leC v xs u ys ↔ (∀ k : Nat, k < 8 → covB u ys k (v.get k) = true) ∧ ∀ x ∈ xs, hasC u ys x = true := by
  rw [leC_iff hv hu hw]
  constructor
  · rintro ⟨h1, h2⟩
    refine ⟨fun k hk => (cov_law hu).2 fun t h3 h4 => ?_, h2⟩
    have := h1 k t (by omega) (by omega) h3 h4
    rw [hasC_beyond h3] at this
    exact List.contains_iff_mem.1 this
  · rintro ⟨h1, h2⟩
    refine ⟨fun o t g0 g8 h3 h4 => ?_, h2⟩
    obtain ⟨k, rfl⟩ : ∃ k : Nat, o = k := ⟨o.toNat, by omega⟩
    rw [hasC_beyond h3]
    exact List.contains_iff_mem.2 ((cov_law hu).1 (h1 k (by omega)) t h3 h4)
end Go.Proofs.Ytpfohpfgfdeecaa
