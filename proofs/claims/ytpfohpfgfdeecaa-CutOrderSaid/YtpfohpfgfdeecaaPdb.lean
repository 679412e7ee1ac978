/- The plain law of slices.Compact; what a sorted list without its repeats comes to. -/
import Derived.Test.YtpfohpfgfdeecaaPl
namespace Go.Proofs.Ytpfohpfgfdeecaa

/-- Each run of equal names, its first one alone. -/
def compactI : List Im → List Im
  | [] => []
  | [x] => [x]
  | x :: y :: r => if x = y then compactI (y :: r) else x :: compactI (y :: r)
theorem compactI_cons (a : Im) : ∀ (m : List Im) (b : Im), m.head? = some b → compactI (a :: m) = if a = b then compactI m else a :: compactI m
  | [], b, h => by simp at h
  | c :: m, b, h => by simp at h; subst h; rfl
theorem compactI_snoc : ∀ (l : List Im) (y z : Im), compactI (l ++ [y, z]) = if y = z then compactI (l ++ [y]) else compactI (l ++ [y]) ++ [z]
  | [], y, z => by
    by_cases h : y = z
    · subst h; simp [compactI]
    · simp [compactI, h]
  | a :: l, y, z => by
    have ih := compactI_snoc l y z
    obtain ⟨b, hb⟩ : ∃ b, (l ++ [y]).head? = some b := by cases l <;> simp
    have hb2 : (l ++ [y, z]).head? = some b := by cases l <;> simpa using hb
    rw [List.cons_append, List.cons_append, compactI_cons a _ b hb, compactI_cons a _ b hb2, ih]
    by_cases h : y = z <;> by_cases h2 : a = b <;> simp [h, h2]
theorem take_two {l : List Im} {k : Nat} {y z : Im} (hy : l[k]? = some y) (hz : l[k + 1]? = some z) : l.take (k + 2) = l.take k ++ [y, z] ∧ l.take (k + 1) = l.take k ++ [y] := by
  have h1 : l.take (k + 1) = l.take k ++ [y] := by rw [List.take_add_one, hy]; rfl
  refine ⟨?_, h1⟩
  rw [show k + 2 = k + 1 + 1 from rfl, List.take_add_one, hz, h1]; simp
theorem compactI_step {l : List Im} {k : Nat} {y z : Im} (hy : l[k]? = some y) (hz : l[k + 1]? = some z) :
    compactI (l.take (k + 2)) = if y = z then compactI (l.take (k + 1)) else compactI (l.take (k + 1)) ++ [z] := by
  obtain ⟨h1, h2⟩ := take_two hy hz
  rw [h1, h2, compactI_snoc]
theorem compactI_mem : ∀ (l : List Im) (z : Im), z ∈ compactI l ↔ z ∈ l
  | [], z => by simp [compactI]
  | [x], z => by simp [compactI]
  | x :: y :: r, z => by
    have ih := compactI_mem (y :: r) z
    rw [compactI]
    split
    · rename_i h; subst h; rw [ih]; simp
    · rw [List.mem_cons, ih]; simp
theorem compactI_asc : ∀ (l : List Im), l.Pairwise (fun x y => ¬ ltI y x) → asc (compactI l)
  | [], _ => .nil
  | [x], _ => by simp [compactI]
  | x :: y :: r, h => by
    obtain ⟨h1, h2⟩ := List.pairwise_cons.1 h
    have ih := compactI_asc (y :: r) h2
    rw [compactI]
    split
    · exact ih
    · rename_i hne
      refine asc_cons.2 ⟨fun z hz => ?_, ih⟩
      rw [compactI_mem] at hz
      have hxy : ltI x y := by
        rcases Classical.em (ltI x y) with h' | h'
        · exact h'
        · exact absurd (ltI_total hne h') (h1 y (by simp))
      rcases List.mem_cons.1 hz with rfl | hz
      · exact hxy
      · have h3 := (List.pairwise_cons.1 h2).1 z hz
        have h4 := h1 z (by simp [hz])
        rcases Classical.em (x = z) with rfl | hne2
        · exact absurd hxy h3
        · rcases Classical.em (ltI x z) with h' | h'
          · exact h'
          · exact absurd (ltI_total hne2 h') h4
/-- A sorted list without its repeats is the document's set. -/
theorem compactI_make {xs l : List Im} (hs : l.Pairwise (fun x y => ¬ ltI y x)) (hm : ∀ z, z ∈ l ↔ z ∈ xs) : compactI l = makeI xs :=
  (makeI_of (compactI_asc l hs) (fun z => (compactI_mem l z).trans (hm z))).symm
end Go.Proofs.Ytpfohpfgfdeecaa
