/- The document's Union: the set of all names of two sets. -/
import Derived.Test.YthfjbbijcemmoaaDtK
namespace Go.Proofs.Ythfjbbijcemmoaa
open Go.RowKit


set_option maxRecDepth 100000 in
set_option maxHeartbeats 1000000 in
theorem runion_any (A B : Option Addr) (n m c d : Nat) (xs ys : List Im) (w : World) (hA : RdI w w.heap.size A n xs) (hB : RdI w w.heap.size B m ys) (hn : n ≤ 1100) (hm : m ≤ 1100) (hx : ∀ x ∈ xs, x.wf) (hy : ∀ x ∈ ys, x.wf) :
    Calls Try.prog 16 #[.slice A n c, .slice B m d] w fun e w' => ∃ A' n' c', e = .returned (.tuple #[.slice A' n' c', .int .i64 (unionErr xs ys)]) ∧ GotI w' A' n' (unionR xs ys) ∧ Below w.heap.size w w' := by
  have h1 := rboth_any A B n m c d xs ys w hA hB (by simp [maxLen]; omega) (by simp [maxLen]; omega) hx hy
  have hl := hA.len
  have hl2 := hB.len
  generalize hro : unionR xs ys = out
  generalize hre : unionErr xs ys = er
  unfold unionR at hro
  unfold unionErr at hre
  generalize lerr2 xs ys = p at h1 hro hre
  by_cases hp : p = 0
  · subst hp
    rw [if_neg (by simp)] at hro hre
    have hmk := fun (A' : Option Addr) (n' c' : Nat) (w' : World) (hr : RdI w' w'.heap.size A' n' (xs ++ ys)) (hn : n' ≤ maxLen) => rmake_any A' n' c' (xs ++ ys) w' hr hn (by
      intro x h
      rcases List.mem_append.1 h with h | h
      · exact hx x h
      · exact hy x h)
    rw [hro, hre] at hmk
    have hmk := Lib.hid hmk
    clear hro hre
    go_enter Try.func16, Try.ntmps16
    go_wp2_with fail
    refine h1.mono ?_
    rintro e w1 ⟨rfl, hb1⟩
    have hz1 := hb1.size
    have hb2 : Below w.heap.size w (w1.alloc (.cells #[] 35)) := hb1.alloc hz1 _
    go_wp2_with (first
      | (at_builtin; refine wpList_append_rd _ rfl _ _ _ rfl eId (base := w1.heap.size) (v := .slice (some ⟨w1.heap.size, 0, none⟩) 0 0) (xs := []) rfl (Ow.made0 _ _ _ (Nat.le_refl _)) rfl (hA.below hb2) Im.len Im.one (by simp [maxLen]; omega) (by simp; omega) (by simp) ?_; intro A2 n2 c2 w4 hn2 hown2 hg4 hat2; (obtain rfl : n2 = n := (by rw [hn2]; simp)); clear hn2; (have hb4 : Below w.heap.size w w4 := hb2.grown hg4 (by simp; omega) (fun g e => by simp [Value.ownBlock] at e; omega)); (have hz4 := hg4.size))
      | (at_builtin; refine wpList_append_rd _ rfl _ _ _ rfl eId (base := w1.heap.size) (v := .slice A2 n2 c2) (xs := [] ++ xs.map Im.enc) rfl hown2 rfl (hB.below hb4) Im.len Im.one (by simp [maxLen]; omega) (by simp; omega) (by simp at hz4; omega) ?_; intro A5 n5 c5 w5 hn5 hown5 hg5 hat5; (obtain rfl : n5 = n2 + m := (by rw [hn5]; simp [hl])); clear hn5))
    have hg : GotI w5 A5 _ (xs ++ ys) := gotI_own (by rw [List.map_append]; simpa using hown5)
    have hb5 : Below w.heap.size w w5 := hb4.grown hg5 (by simp at hz4; omega) (fun g e => by have := (hown2.block g e).1; omega)
    refine (hmk.out _ _ c5 w5 hg.1 hg.2).mono ?_
    rintro e w6 ⟨A6, n6, c6, rfl, hgot, hb6⟩
    have hG : Below w.heap.size w w6 := hb5.trans (hb6.mono hb5.size)
    go_wp2
    refine bodyPost_ret (v := .tuple #[.slice A6 n6 c6, .int .i64 er]) (by simp [results, Try.results16, go_sem]) rfl ⟨A6, n6, c6, rfl, hgot, hG⟩
  · rw [if_pos hp] at hro hre
    subst hro
    subst hre
    go_enter Try.func16, Try.ntmps16
    go_wp2_with fail
    refine h1.mono ?_
    rintro e w1 ⟨rfl, hb1⟩
    go_wp2
    refine bodyPost_ret (v := .tuple #[.slice none 0 0, .int .i64 p]) (by simp [results, Try.results16, go_sem]) rfl ⟨none, 0, 0, rfl, gotI_nil _, hb1⟩
end Go.Proofs.Ythfjbbijcemmoaa
