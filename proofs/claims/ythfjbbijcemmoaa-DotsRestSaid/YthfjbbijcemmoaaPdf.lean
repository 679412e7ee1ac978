/- The plain law of Fold: what it takes, what it leaves. -/
import Derived.Test.YthfjbbijcemmoaaPdc
import Derived.Test.YthfjbbijcemmoaaPdd
namespace Go.Proofs.Ythfjbbijcemmoaa

def leV (a b : Vm) : Prop := a.d0 ≤ b.d0 ∧ a.d1 ≤ b.d1 ∧ a.d2 ≤ b.d2 ∧ a.d3 ≤ b.d3 ∧ a.d4 ≤ b.d4 ∧ a.d5 ≤ b.d5 ∧ a.d6 ≤ b.d6 ∧ a.d7 ≤ b.d7
theorem leV_refl (a : Vm) : leV a a := by unfold leV; omega
theorem leV_trans {a b c : Vm} (h : leV a b) (h2 : leV b c) : leV a c := by unfold leV at *; omega
theorem leV_get {a b : Vm} (h : leV a b) (o : Int) : a.get o ≤ b.get o := by
  unfold leV at h
  unfold Vm.get
  (repeat' split) <;> omega
theorem get_set {v : Vm} {o s o' : Int} (h0 : 0 ≤ o) (h1 : o < 8) (h2 : 0 ≤ o') (h3 : o' < 8) : (v.set o s).get o' = if o = o' then s else v.get o' := by
  obtain rfl | rfl | rfl | rfl | rfl | rfl | rfl | rfl : o = 0 ∨ o = 1 ∨ o = 2 ∨ o = 3 ∨ o = 4 ∨ o = 5 ∨ o = 6 ∨ o = 7 := by omega
  all_goals
    obtain rfl | rfl | rfl | rfl | rfl | rfl | rfl | rfl : o' = 0 ∨ o' = 1 ∨ o' = 2 ∨ o' = 3 ∨ o' = 4 ∨ o' = 5 ∨ o' = 6 ∨ o' = 7 := by omega
    all_goals simp [Vm.set, Vm.get]
theorem leV_set {v : Vm} {o s : Int} (h0 : 0 ≤ o) (h1 : o < 8) (h : v.get o ≤ s) : leV v (v.set o s) := by
  obtain rfl | rfl | rfl | rfl | rfl | rfl | rfl | rfl : o = 0 ∨ o = 1 ∨ o = 2 ∨ o = 3 ∨ o = 4 ∨ o = 5 ∨ o = 6 ∨ o = 7 := by omega
  all_goals
    simp [Vm.get] at h
    simp [leV, Vm.set]
    omega
theorem hasV_iff {v : Vm} {x : Im} : hasV v x = true ↔ chk x = true ∧ x.2 ≤ v.get x.1 := by
  unfold hasV; rw [Bool.and_eq_true, decide_eq_true_eq]
theorem hasV_mono {a b : Vm} (h : leV a b) {x : Im} (hx : hasV a x = true) : hasV b x = true := by
  rw [hasV_iff] at *
  exact ⟨hx.1, Int.le_trans hx.2 (leV_get h _)⟩
/-- One step of Fold: the vector stays, or has just the name more. -/
theorem stepV_cases {v : Vm} (x : Im) : (stepV v x = v ∧ takeErr v x ≠ 0) ∨ (takeErr v x = 0 ∧ stepV v x = v.set x.1 x.2 ∧ chk x = true ∧ x.2 = v.get x.1 + 1) := by
  unfold stepV
  by_cases h : takeErr v x = 0
  · rw [if_pos h]
    obtain ⟨h1, h2, h3, h4⟩ := takeErr_zero.1 h
    refine .inr ⟨h, by unfold takeV; rw [if_pos h], h2, ?_⟩
    have : ¬ x.2 ≤ v.get x.1 := fun h5 => by rw [hasV_iff.2 ⟨h2, h5⟩] at h3; cases h3
    omega
  · rw [if_neg h]; exact .inl ⟨rfl, h⟩
theorem stepV_le (v : Vm) (x : Im) : leV v (stepV v x) := by
  rcases stepV_cases (v := v) x with ⟨h, _⟩ | ⟨_, h, hc, he⟩
  · rw [h]; exact leV_refl v
  · rw [h]
    obtain ⟨h0, h1, _, _⟩ := chk_bounds hc
    exact leV_set h0 h1 (by omega)
theorem foldV_le : ∀ (xs : List Im) (v : Vm), leV v (foldV v xs)
  | [], v => leV_refl v
  | x :: xs, v => leV_trans (stepV_le v x) (foldV_le xs (stepV v x))
theorem stepV_has {v : Vm} {x y : Im} (h : hasV (stepV v x) y = true) : hasV v y = true ∨ y = x := by
  rcases stepV_cases (v := v) x with ⟨h1, _⟩ | ⟨_, h1, hc, he⟩
  · rw [h1] at h; exact .inl h
  · rw [h1] at h
    obtain ⟨hy, hle⟩ := hasV_iff.1 h
    obtain ⟨h0, h8, _, _⟩ := chk_bounds hc
    obtain ⟨g0, g8, _, _⟩ := chk_bounds hy
    rw [get_set h0 h8 g0 g8] at hle
    by_cases ho : x.1 = y.1
    · rw [if_pos ho] at hle
      by_cases hs : y.2 ≤ v.get y.1
      · exact .inl (hasV_iff.2 ⟨hy, hs⟩)
      · rw [ho] at he
        exact .inr (Prod.ext ho.symm (by omega))
    · rw [if_neg ho] at hle
      exact .inl (hasV_iff.2 ⟨hy, hle⟩)
theorem foldV_has : ∀ (xs : List Im) {v : Vm} {y : Im}, hasV (foldV v xs) y = true → hasV v y = true ∨ y ∈ xs
  | [], _, _, h => .inl h
  | x :: xs, v, y, h => by
    rcases foldV_has xs (v := stepV v x) h with h1 | h1
    · rcases stepV_has h1 with h2 | h2
      · exact .inl h2
      · exact .inr (by simp [h2])
    · exact .inr (by simp [h1])
/-- What comes behind a name with a gap leaves its origin's count. -/
theorem foldV_gap : ∀ (xs : List Im) {v : Vm} {x : Im}, chk x = true → v.get x.1 + 1 < x.2 → (∀ y ∈ xs, ltI x y) → (foldV v xs).get x.1 = v.get x.1
  | [], _, _, _, _, _ => rfl
  | y :: ys, v, x, hc, hg, hl => by
    have h1 : (stepV v y).get x.1 = v.get x.1 := by
      rcases stepV_cases (v := v) y with ⟨h1, _⟩ | ⟨_, h1, hcy, he⟩
      · rw [h1]
      · rw [h1]
        obtain ⟨h0, h8, _, _⟩ := chk_bounds hcy
        obtain ⟨g0, g8, _, _⟩ := chk_bounds hc
        rw [get_set h0 h8 g0 g8]
        split
        · rename_i ho
          have h2 := (ltI_iff x y).1 (hl y (by simp))
          rw [ho] at he
          omega
        · rfl
    have h2 := foldV_gap ys (v := stepV v y) hc (by rw [h1]; exact hg) (fun z hz => hl z (by simp [hz]))
    show (foldV (stepV v y) ys).get x.1 = _
    rw [h2, h1]
/-- What is left has a gap ahead. -/
theorem foldV_left : ∀ (xs : List Im) {v : Vm}, vchk v = true → asc xs → (∀ x ∈ xs, chk x = true) → ∀ x ∈ xs, hasV (foldV v xs) x = false → (foldV v xs).get x.1 + 1 < x.2
  | [], _, _, _, _, x, hx, _ => by cases hx
  | y :: ys, v, hv, ha, hc, x, hx, hn => by
    obtain ⟨ha1, ha2⟩ := asc_cons.1 ha
    rcases List.mem_cons.1 hx with rfl | hx
    · rcases stepV_cases (v := v) x with ⟨h1, h2⟩ | ⟨_, h1, hcx, he⟩
      · have hf : foldV v (x :: ys) = foldV v ys := by show foldV (stepV v x) ys = _; rw [h1]
        rw [hf] at hn ⊢
        have hnv : hasV v x = false := by
          rw [Bool.eq_false_iff]; intro h
          rw [hasV_mono (foldV_le ys v) h] at hn; cases hn
        have hg : v.get x.1 + 1 < x.2 := by
          rcases Int.lt_or_le (v.get x.1 + 1) x.2 with h | h
          · exact h
          · exact absurd (takeErr_zero.2 ⟨hv, hc x (by simp), hnv, h⟩) h2
        rw [foldV_gap ys (hc x (by simp)) hg ha1]
        exact hg
      · exfalso
        have h3 : hasV (stepV v x) x = true := by
          rw [h1]
          obtain ⟨g0, g8, _, _⟩ := chk_bounds hcx
          exact hasV_iff.2 ⟨hcx, by rw [get_set g0 g8 g0 g8, if_pos rfl]; exact Int.le_refl _⟩
        have h4 := hasV_mono (foldV_le ys (stepV v x)) h3
        have h5 : hasV (foldV v (x :: ys)) x = true := h4
        rw [h5] at hn; cases hn
    · exact foldV_left ys (v := stepV v y) (stepV_chk hv) ha2 (fun z hz => hc z (by simp [hz])) x hx hn
theorem foldV_same : ∀ (xs : List Im) {v : Vm}, (∀ x ∈ xs, v.get x.1 + 1 < x.2) → foldV v xs = v
  | [], _, _ => rfl
  | x :: xs, v, h => by
    have h1 : stepV v x = v := by
      rcases stepV_cases (v := v) x with ⟨h1, _⟩ | ⟨_, _, _, he⟩
      · exact h1
      · have := h x (by simp); omega
    show foldV (stepV v x) xs = v
    rw [h1]
    exact foldV_same xs (fun z hz => h z (by simp [hz]))
/-- The whole law. -/
theorem fold_law {v : Vm} {m : List Im} (hv : vchk v = true) (hm : lerr m = 0) :
    foldErr v m = 0 ∧ foldOut v m = foldV v m ∧ foldRest v m = m.filter (fun x => !hasV (foldV v m) x) ∧ leV v (foldV v m) ∧ vchk (foldV v m) = true ∧ lerr (foldRest v m) = 0 ∧
      (∀ x, (hasV v x || m.contains x) = (hasV (foldV v m) x || (foldRest v m).contains x)) ∧ (∀ x, (hasV (foldV v m) x && (foldRest v m).contains x) = false) ∧
      (∀ x ∈ foldRest v m, takeErr (foldV v m) x = 17) ∧ foldErr (foldV v m) (foldRest v m) = 0 ∧ foldOut (foldV v m) (foldRest v m) = foldV v m ∧ foldRest (foldV v m) (foldRest v m) = foldRest v m := by
  obtain ⟨h1, h2, h3⟩ := lerr_zero.1 hm
  have hE : foldErr v m = 0 := by unfold foldErr; rw [if_neg (by simp [hv]), hm]
  have hO : foldOut v m = foldV v m := by unfold foldOut; rw [if_neg (by simp [hE])]
  have hR : foldRest v m = m.filter (fun x => !hasV (foldV v m) x) := by
    unfold foldRest; rw [if_neg (by simp [hE])]; unfold beyondI; rw [if_neg (by simp [hm])]
  have hw := foldV_chk m hv
  have hmem : ∀ x, x ∈ foldRest v m ↔ x ∈ m ∧ hasV (foldV v m) x = false := by
    intro x; rw [hR, List.mem_filter]; simp
  have hLe := foldV_le m v
  have hrl : lerr (foldRest v m) = 0 := by
    rw [hR]
    exact lerr_zero.2 ⟨Nat.le_trans (List.length_filter_le _ _) h1, fun x hx => h2 x (List.mem_filter.1 hx).1, List.Pairwise.filter _ h3⟩
  have hgap : ∀ x ∈ foldRest v m, (foldV v m).get x.1 + 1 < x.2 := fun x hx => foldV_left m hv h3 h2 x ((hmem x).1 hx).1 ((hmem x).1 hx).2
  have hE2 : foldErr (foldV v m) (foldRest v m) = 0 := by unfold foldErr; rw [if_neg (by simp [hw]), hrl]
  have hO2 : foldOut (foldV v m) (foldRest v m) = foldV v m := by unfold foldOut; rw [if_neg (by simp [hE2]), foldV_same _ hgap]
  have hR2 : foldRest (foldV v m) (foldRest v m) = foldRest v m := by
    have hg : ∀ r, foldErr (foldV v m) r = 0 → foldRest (foldV v m) r = beyondI r (foldV (foldV v m) r) := fun r h => by unfold foldRest; rw [if_neg (by simp [h])]
    rw [hg _ hE2, foldV_same _ hgap]
    unfold beyondI
    rw [if_neg (by simp [hrl]), List.filter_eq_self]
    intro x hx
    rw [((hmem x).1 hx).2]; rfl
  refine ⟨hE, hO, hR, hLe, hw, hrl, fun x => ?_, fun x => ?_, fun x hx => ?_, hE2, hO2, hR2⟩
  · rw [Bool.eq_iff_iff, Bool.or_eq_true, Bool.or_eq_true, List.contains_iff_mem, List.contains_iff_mem, hmem]
    constructor
    · rintro (h | h)
      · exact .inl (hasV_mono hLe h)
      · cases hh : hasV (foldV v m) x
        · exact .inr ⟨h, rfl⟩
        · exact .inl rfl
    · rintro (h | h)
      · exact foldV_has m h
      · exact .inr h.1
  · rw [Bool.eq_false_iff]
    intro h
    rw [Bool.and_eq_true, List.contains_iff_mem, hmem] at h
    rw [h.1] at h
    exact absurd h.2.2 (by simp)
  · have hm2 := (hmem x).1 hx
    unfold takeErr
    rw [if_neg (by simp [hw]), if_neg (by simp [h2 x hm2.1]), if_neg (by simp [hm2.2]), if_pos (hgap x hx)]
end Go.Proofs.Ythfjbbijcemmoaa
