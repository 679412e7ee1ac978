/- The plain laws of sets: what Make, Union and Minus give. -/
import Derived.Test.YthfjbbijcemmoaaPda
namespace Go.Proofs.Ythfjbbijcemmoaa

theorem chk_wf {x : Im} (h : chk x = true) : x.wf := by
  simp [chk] at h
  exact ⟨by omega, by omega⟩
theorem makeErr_zero {xs : List Im} : makeErr xs = 0 ↔ xs.length ≤ 1024 ∧ (∀ x ∈ xs, chk x = true) ∧ (makeI xs).length ≤ 64 := by
  unfold makeErr
  by_cases h1 : 1024 < xs.length
  · rw [if_pos h1]; constructor
    · intro h; exact absurd h (by decide)
    · rintro ⟨h, _⟩; omega
  · rw [if_neg h1]
    by_cases h2 : xs.all chk = false
    · rw [if_pos h2]; constructor
      · intro h; exact absurd h (by decide)
      · rintro ⟨_, h, _⟩; rw [List.all_eq_true.2 h] at h2; cases h2
    · rw [if_neg h2]
      have h2' : ∀ x ∈ xs, chk x = true := List.all_eq_true.1 (by simpa using h2)
      by_cases h3 : 64 < (makeI xs).length
      · rw [if_pos h3]; constructor
        · intro h; exact absurd h (by decide)
        · rintro ⟨_, _, h⟩; omega
      · rw [if_neg h3]
        exact ⟨fun _ => ⟨by omega, h2', by omega⟩, fun _ => rfl⟩
theorem make_ok {xs : List Im} (h : makeErr xs = 0) : makeOut xs = makeI xs ∧ lerr (makeI xs) = 0 ∧ (makeI xs).length ≤ 64 ∧ ∀ x ∈ makeI xs, x.wf := by
  obtain ⟨h1, h2, h3⟩ := makeErr_zero.1 h
  have hs := makeI_spec xs
  refine ⟨by unfold makeOut; rw [if_neg (by simp [h])], lerr_zero.2 ⟨h3, fun x hx => h2 x ((hs.2 x).1 hx), hs.1⟩, h3, fun x hx => chk_wf (h2 x ((hs.2 x).1 hx))⟩
theorem contains_iff {l : List Im} {x : Im} {b : Bool} (h : x ∈ l ↔ b = true) : l.contains x = b := by
  rw [Bool.eq_iff_iff, List.contains_iff_mem]; exact h
theorem minus_ok {p q : List Im} (hp : lerr p = 0) (hq : lerr q = 0) : lerr2 p q = 0 ∧ lerr (minusI p q) = 0 ∧ ∀ x, (minusI p q).contains x = (p.contains x && !q.contains x) := by
  have h2 : lerr2 p q = 0 := lerr2_zero.2 ⟨hp, hq⟩
  have hm : minusI p q = p.filter fun x => !q.contains x := by unfold minusI; rw [if_neg (by simp [h2])]
  obtain ⟨h3, h4, h5⟩ := lerr_zero.1 hp
  refine ⟨h2, ?_, fun x => ?_⟩
  · rw [hm]
    refine lerr_zero.2 ⟨Nat.le_trans (List.length_filter_le _ _) h3, fun x hx => h4 x (List.mem_filter.1 hx).1, List.Pairwise.filter _ h5⟩
  · apply contains_iff
    rw [hm, List.mem_filter, Bool.and_eq_true, List.contains_iff_mem]
theorem union_ok {p q : List Im} (hp : lerr p = 0) (hq : lerr q = 0) : (unionErr p q = 0 ∨ unionErr p q = 8) ∧ (unionErr p q = 0 → lerr (unionR p q) = 0 ∧ ∀ x, (unionR p q).contains x = (p.contains x || q.contains x)) := by
  have h2 : lerr2 p q = 0 := lerr2_zero.2 ⟨hp, hq⟩
  obtain ⟨h3, h4, h5⟩ := lerr_zero.1 hp
  obtain ⟨g3, g4, g5⟩ := lerr_zero.1 hq
  have he : unionErr p q = makeErr (p ++ q) := by unfold unionErr; rw [if_neg (by simp [h2])]
  have hr : unionR p q = makeOut (p ++ q) := by unfold unionR; rw [if_neg (by simp [h2])]
  have hc : ∀ x ∈ p ++ q, chk x = true := fun x hx => (List.mem_append.1 hx).elim (h4 x) (g4 x)
  constructor
  · rw [he]
    unfold makeErr
    rw [if_neg (by rw [List.length_append]; omega), if_neg (by rw [List.all_eq_true.2 hc]; simp)]
    split
    · exact .inr rfl
    · exact .inl rfl
  · intro h
    rw [he] at h
    obtain ⟨k1, k2, _, _⟩ := make_ok h
    rw [hr, k1]
    refine ⟨k2, fun x => contains_iff ?_⟩
    rw [(makeI_spec _).2 x, List.mem_append, Bool.or_eq_true, List.contains_iff_mem, List.contains_iff_mem]
end Go.Proofs.Ythfjbbijcemmoaa
