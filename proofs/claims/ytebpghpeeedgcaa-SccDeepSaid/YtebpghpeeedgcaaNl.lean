/- The statements' own check of a few lists (works): plain part, and the walk. -/
import Derived.Test.YtebpghpeeedgcaaTwSp
namespace Go.Proofs.Ytebpghpeeedgcaa
open Go.RowKit

def gW : Gr := [[1], [0, 2], []]
theorem gW_ok : gOf [[1], [0, 2], []] = gW := by decide
theorem edW {i j : Nat} : Ed gW i j ↔ (i = 0 ∧ j = 1) ∨ (i = 1 ∧ (j = 0 ∨ j = 2)) := by
  unfold Ed sucs gW
  match i with
  | 0 => simp
  | 1 => simp
  | 2 => simp
  | n + 3 => simp
theorem rcW2 {j : Nat} (h : Rc gW 2 j) : j = 2 := by
  cases h with
  | refl => rfl
  | step e _ => rcases edW.1 e with ⟨h, _⟩ | ⟨h, _⟩ <;> cases h
theorem rpW2 {j : Nat} : ¬ Rp gW 2 j := by
  rintro ⟨k, h, _⟩
  rcases edW.1 h with ⟨h, _⟩ | ⟨h, _⟩ <;> cases h
theorem rpW01 : Rp gW 0 1 := ⟨1, edW.2 (.inl ⟨rfl, rfl⟩), .refl _⟩
theorem rpW10 : Rp gW 1 0 := ⟨0, edW.2 (.inr ⟨rfl, .inl rfl⟩), .refl _⟩
theorem rpW12 : Rp gW 1 2 := ⟨2, edW.2 (.inr ⟨rfl, .inr rfl⟩), .refl _⟩
theorem rpW02 : Rp gW 0 2 := rpW01.trans rpW12.rc
theorem fullW : Full gW [[2], [0, 1]] := by
  have h0 : Pre gW [] := pre_nil _
  have h1 : Pre gW ([] ++ [[2]]) := by
    refine pre_snoc h0 (i := 2) ⟨⟨by decide, tof_nil _, fun j _ h => absurd h rpW2⟩, fun k hk => ?_⟩ ⟨by simp, fun j => ?_⟩
    · have hk3 : k < 3 := hk.1
      match k, hk3 with
      | 0, _ =>
        rcases hk.2.2 2 (by decide) rpW02 with h | h | h
        · exact absurd h (tof_nil _)
        · cases h
        · exact absurd h rpW2
      | 1, _ =>
        rcases hk.2.2 2 (by decide) rpW12 with h | h | h
        · exact absurd h (tof_nil _)
        · cases h
        · exact absurd h rpW2
      | 2, _ => exact Nat.le_refl _
    · constructor
      · intro h
        rw [List.mem_singleton.1 h]
        exact ⟨by decide, .inl rfl⟩
      · rintro ⟨_, rfl | ⟨h, _⟩⟩
        · simp
        · exact absurd h rpW2
  have h2 : Pre gW (([] ++ [[2]]) ++ [[0, 1]]) := by
    refine pre_snoc h1 (i := 0) ⟨⟨by decide, fun h => ?_, fun j hj h => ?_⟩, fun k _ => Nat.zero_le _⟩ ⟨by simp, fun j => ?_⟩
    · rcases tof_snoc.1 h with h | h
      · exact tof_nil _ h
      · simp at h
    · have hj3 : j < 3 := hj
      match j, hj3 with
      | 0, _ => exact .inr (.inl rfl)
      | 1, _ => exact .inr (.inr rpW10)
      | 2, _ => exact .inl (tof_snoc.2 (.inr (by simp)))
    · constructor
      · intro h
        simp only [List.mem_cons, List.not_mem_nil, or_false] at h
        rcases h with rfl | rfl
        · exact ⟨by decide, .inl rfl⟩
        · exact ⟨by decide, .inr ⟨rpW01, rpW10⟩⟩
      · rintro ⟨hj, h⟩
        have hj3 : j < 3 := hj
        match j, hj3 with
        | 0, _ => simp
        | 1, _ => simp
        | 2, _ =>
          rcases h with h | ⟨_, h⟩
          · cases h
          · exact absurd h rpW2
  refine ⟨h2, fun i hi => hi.2.1 ?_⟩
  have hi3 : i < 3 := hi.1
  match i, hi3 with
  | 0, _ => exact ⟨[0, 1], by simp, by simp⟩
  | 1, _ => exact ⟨[0, 1], by simp, by simp⟩
  | 2, _ => exact ⟨[2], by simp, by simp⟩
def xV : List (List Int) := [[1], [2], []]
theorem edV {i j : Nat} : Ed (gOf xV) i j ↔ (i = 0 ∧ j = 1) ∨ (i = 1 ∧ j = 2) := by
  rw [show gOf xV = [[1], [2], []] by decide]
  unfold Ed sucs
  match i with
  | 0 => simp
  | 1 => simp
  | 2 => simp
  | n + 3 => simp
theorem whlV : Whl xV [true, true, false] [false, false, false] := by
  refine ⟨rfl, fun i hi => ?_⟩
  have hi3 : i < 3 := hi
  have hb : badW xV [true, true, false] 2 := .inl rfl
  have h12 : Rc (gOf xV) 1 2 := .step (edV.2 (.inr ⟨rfl, rfl⟩)) (.refl _)
  have h02 : Rc (gOf xV) 0 2 := .step (edV.2 (.inl ⟨rfl, rfl⟩)) h12
  match i, hi3 with
  | 0, _ => exact ⟨fun h => (by cases h), fun h => absurd hb (h 2 (by decide) h02)⟩
  | 1, _ => exact ⟨fun h => (by cases h), fun h => absurd hb (h 2 (by decide) h12)⟩
  | 2, _ => exact ⟨fun h => (by cases h), fun h => absurd hb (h 2 (by decide) (.refl _))⟩
/-- Small rows of numbers, made at once. -/
theorem ok_made {w : World} {b n : Nat} {xs : List Int} (h : w.heap[b]? = some (.cells ((xs.map (Value.int .i64)).toArray) 3 (0, 0))) (hn : xs.length = n) {B : Nat} (hb : b < B) : Rw.Ok w B ⟨some ⟨b, 0, none⟩, n, n, xs⟩ := by
  refine ⟨by simpa using hn, fun _ => ⟨b, 0, rfl, hb, fun k x hk j u hu => ?_⟩⟩
  rw [List.getElem?_map] at hk
  obtain ⟨y, hy, rfl⟩ := Option.map_eq_some_iff.1 hk
  have hj : j = 0 := by
    have := (List.getElem?_eq_some_iff.1 hu).1
    simp [eI] at this
    exact this
  subst hj
  have hu2 : u = .int .i64 y := by simpa [eI] using hu.symm
  rw [blk_cell h, hu2]
  dsimp only at hy
  simp [hy]
theorem ok_nil {w : World} {B : Nat} : Rw.Ok w B ⟨none, 0, 0, []⟩ := Rd.nil_
theorem grid_made {w : World} {b n : Nat} {rs : List Rw} (h : w.heap[b]? = some (.cells ((rs.map fun r => Value.slice r.A r.l r.c).toArray) 31 (0, 0))) (hn : rs.length = n) {B : Nat} (hb : b < B) (ho : ∀ r ∈ rs, r.Ok w B) : RdG w B (some ⟨b, 0, none⟩) n rs := by
  refine ⟨⟨by simpa using hn, fun _ => ⟨b, 0, rfl, hb, fun k x hk j u hu => ?_⟩⟩, ho⟩
  rw [List.getElem?_map] at hk
  obtain ⟨y, hy, rfl⟩ := Option.map_eq_some_iff.1 hk
  have hj : j = 0 := by
    have := (List.getElem?_eq_some_iff.1 hu).1
    simp [Rw.enc] at this
    exact this
  subst hj
  have hu2 : u = .slice y.A y.l y.c := by simpa [Rw.enc] using hu.symm
  rw [blk_cell h, hu2]
  simp [hy]
end Go.Proofs.Ytebpghpeeedgcaa
