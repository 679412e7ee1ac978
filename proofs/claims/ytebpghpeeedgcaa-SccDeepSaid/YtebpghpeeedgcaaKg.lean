/- The library's Sort and Clone at rows of numbers. -/
import Derived.Test.YtebpghpeeedgcaaKf
import Derived.Test.YtebpghpeeedgcaaShI
import Derived.Sort.OwnSortedInts
import Derived.Lib.SliceRun
namespace Go.Proofs.Ytebpghpeeedgcaa
open Go.RowKit

theorem flat_eI (xs : List Int) : (xs.map eI).flatten = xs.map (Value.int .i64) := by
  induction xs with
  | nil => rfl
  | cons x xs ih => rw [List.map_cons, List.flatten_cons, ih]; rfl
theorem map_eN (xs : List Nat) : xs.map eN = (xs.map Int.ofNat).map eI := by rw [List.map_map]; rfl
theorem sortI_any (base : Nat) (A : Option Addr) (n c : Nat) (xs : List Int) (w : World) (hown : Ow w base 3 1 (.slice A n c) (xs.map eI)) (hn : n ≤ 1000000) :
    Calls Try.prog 33 #[.slice A n c] w
      fun e w' => e = .returned (.tuple #[]) ∧ Ow w' base 3 1 (.slice A n c) ((xs.mergeSort fun x y => decide (x ≤ y)).map eI) ∧ w.grownBy w' (Value.slice A n c).ownBlock := by
  have hl : xs.length = n := by simpa using hown.rd.2.1
  rcases Nat.eq_zero_or_pos n with h0 | hpos
  · subst h0
    obtain rfl := List.eq_nil_of_length_eq_zero hl
    refine Calls.mono (shSortI0 A c w) ?_
    rintro e w' ⟨rfl, hw⟩
    subst hw
    exact ⟨rfl, by simpa using hown, World.grownBy.refl _ _⟩
  · obtain ⟨h1, h2, h3⟩ := hown
    rcases h3 with ⟨_, h4⟩ | ⟨g, cap, cur, hv, hbase, hg, hnc, hcm, hsz, htk⟩
    · rw [List.length_map] at h4; omega
    injection hv with hA hn' hc
    subst hA
    subst hc
    rw [flat_eI] at htk
    rw [List.length_map, Nat.mul_one] at htk
    have hlt := blk_lt hg
    have h := shSortI g 0 c xs w (holds_of_blockI hg htk) hlt (by omega)
    rw [hl] at h
    refine Calls.mono h ?_
    rintro e w' ⟨rfl, m, os, rfl⟩
    have hsl : (xs.mergeSort fun x y => decide (x ≤ y)).length = xs.length := List.length_mergeSort xs
    have ho := ownsRow_sortedI (n := m) (os := os) (ss := xs) hsl hbase hg (by omega) hcm (by omega)
    refine ⟨rfl, ⟨eI_len, ?_⟩, grownBy_sortedI _⟩
    rw [flat_eI, List.length_map, hsl, ← hl]
    exact ho
theorem sort_nat (l : List Nat) : (l.map Int.ofNat).mergeSort (fun x y => decide (x ≤ y)) = (sortN l).map Int.ofNat := by
  unfold sortN
  rw [List.map_mergeSort (s := fun x y : Int => decide (x ≤ y))]
  intro a _ b _
  rw [Bool.eq_iff_iff, decide_eq_true_iff, decide_eq_true_iff]
  show _ ↔ (a : Int) ≤ (b : Int)
  omega
set_option maxRecDepth 100000 in
theorem cloneI_any (A : Option Addr) (n c : Nat) (xs : List Int) (w : World) (hA : Rd w w.heap.size 1 A n (xs.map eI)) (hn : n ≤ 100000) :
    Calls Try.prog 32 #[.slice A n c] w fun e w' => ∃ A' c', e = .returned (.slice A' n c') ∧ Ow w' w.heap.size 3 1 (.slice A' n c') (xs.map eI) ∧ Below w.heap.size w w' := by
  have hl : xs.length = n := by simpa using hA.1
  cases A with
  | none =>
    obtain rfl : n = 0 := by
      rcases Nat.eq_zero_or_pos n with h | h
      · exact h
      · obtain ⟨b, o, h2, _⟩ := hA.2 h; cases h2
    obtain rfl : xs = [] := List.eq_nil_of_length_eq_zero hl
    have hnil : ∀ w, (binOp .eql 31 (.slice none 0 c) (.slice none 0 0)).run Try.prog w = .ok (.bool true) w := fun w => by rw [Lib.run_eql_slice_nil w _ _ none 0 c 0 0 Try.underlying31]; rfl
    go_enter Try.func32, Try.ntmps32
    go_wp2
    go_ret
    exact ⟨none, 0, rfl, Ow.nil_ _ _ _ _, Below.refl _ _⟩
  | some a =>
    have hnil : ∀ w, (binOp .eql 31 (.slice (some a) n c) (.slice none 0 0)).run Try.prog w = .ok (.bool false) w := fun w => by rw [Lib.run_eql_slice_nil w _ _ (some a) n c 0 0 Try.underlying31]; rfl
    go_enter Try.func32, Try.ntmps32
    go_wp2_with (at_builtin; refine wpList_append_rd _ rfl _ _ _ rfl eInt (base := w.heap.size) (v := .slice (some ⟨w.heap.size, 0, none⟩) 0 0) (xs := []) rfl (Ow.made0 _ _ _ (Nat.le_refl _)) rfl (Rd.below hA ((Below.refl _ w).alloc (Nat.le_refl _) _)) eI_len eI_one (by simp [maxLen]; omega) (by simp; omega) (by simp) ?_; intro A2 n2 c2 w4 hn2 hown2 hg4 hat2; (obtain rfl : n2 = n := (by rw [hn2]; simp)); clear hn2)
    go_ret
    exact ⟨A2, c2, rfl, by simpa using hown2, ((Below.refl _ w).alloc (Nat.le_refl _) _).grown hg4 (by simp) (fun g e => by simp [Value.ownBlock] at e; omega)⟩
theorem Rd.from_ {w : World} {B b o n k : Nat} {xs : List (List Value)} (h : Rd w B 1 (some ⟨b, o, none⟩) n xs) (hk : k ≤ n) : Rd w B 1 (some ⟨b, o + k, none⟩) (n - k) (xs.drop k) := by
  refine ⟨by rw [List.length_drop, h.1], fun h0 => ?_⟩
  obtain ⟨b', o', e, hb, hc⟩ := h.2 (by omega)
  injection e with e
  injection e with e1 e2
  subst e1
  subst e2
  refine ⟨b, o + k, rfl, hb, fun j x hx i u hu => ?_⟩
  rw [List.getElem?_drop] at hx
  have := hc (k + j) x hx i u hu
  rw [show o + k + j * 1 + i = o + (k + j) * 1 + i by omega]
  exact this
end Go.Proofs.Ytebpghpeeedgcaa
