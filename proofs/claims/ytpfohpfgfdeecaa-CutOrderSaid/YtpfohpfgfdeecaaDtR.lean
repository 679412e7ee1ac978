/- slices.Clone at names. -/
import Derived.Test.YtpfohpfgfdeecaaDg
import Derived.Lib.SliceRun
import Derived.Test.YtpfohpfgfdeecaaRng
namespace Go.Proofs.Ytpfohpfgfdeecaa
open Go.RowKit

theorem RdI.kp {N B n0 n : Nat} {w w' : World} {A : Option Addr} {xs : List Im} (h : RdI w n0 A n xs) (hk : KpB N B w w') (h1 : n0 ≤ N) (h2 : n0 ≤ B) : RdI w' n0 A n xs :=
  Rd.keep h fun b o hb => World.cell?_of_block (a := ⟨b, o, none⟩) (hk.block b (by omega) (by omega))
set_option maxRecDepth 100000 in
theorem clone_any (A : Option Addr) (n c : Nat) (xs : List Im) (w : World) (hA : RdI w w.heap.size A n xs) (hn : n ≤ 1100) :
    Calls Try.prog 46 #[.slice A n c] w fun e w' => ∃ A' c', e = .returned (.slice A' n c') ∧ Ow w' w.heap.size 37 2 (.slice A' n c') (xs.map Im.enc) ∧ Below w.heap.size w w' := by
  have hl := hA.len
  cases A with
  | none =>
    obtain rfl : n = 0 := by
      rcases Nat.eq_zero_or_pos n with h | h
      · exact h
      · obtain ⟨b, o, h2, _⟩ := hA.2 h; cases h2
    obtain rfl : xs = [] := List.eq_nil_of_length_eq_zero hl
    have hnil : ∀ w, (binOp .eql 25 (.slice none 0 c) (.slice none 0 0)).run Try.prog w = .ok (.bool true) w := fun w => by rw [Lib.run_eql_slice_nil w _ _ none 0 c 0 0 Try.underlying25]; rfl
    go_enter Try.func46, Try.ntmps46
    go_wp2
    go_ret
    exact ⟨none, 0, rfl, Ow.nil_ _ _ _ _, Below.refl _ _⟩
  | some a =>
    have hnil : ∀ w, (binOp .eql 25 (.slice (some a) n c) (.slice none 0 0)).run Try.prog w = .ok (.bool false) w := fun w => by rw [Lib.run_eql_slice_nil w _ _ (some a) n c 0 0 Try.underlying25]; rfl
    go_enter Try.func46, Try.ntmps46
    go_wp2_with (at_builtin; refine wpList_append_rd _ rfl _ _ _ rfl eId (base := w.heap.size) (v := .slice (some ⟨w.heap.size, 0, none⟩) 0 0) (xs := []) rfl (Ow.made0 _ _ _ (Nat.le_refl _)) rfl (Rd.below hA ((Below.refl _ w).alloc (Nat.le_refl _) _)) Im.len Im.one (by simp [maxLen]; omega) (by simp; omega) (by simp) ?_; intro A2 n2 c2 w4 hn2 hown2 hg4 hat2; (obtain rfl : n2 = n := (by rw [hn2]; simp)); clear hn2)
    go_ret
    exact ⟨A2, c2, rfl, by simpa using hown2, ((Below.refl _ w).alloc (Nat.le_refl _) _).grown hg4 (by simp) (fun g e => by simp [Value.ownBlock] at e; omega)⟩
end Go.Proofs.Ytpfohpfgfdeecaa
