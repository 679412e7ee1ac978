/- selkielaw24.works. -/
import Derived.Test.YtgjiaipheohmoaaClF
namespace Go.Proofs.Ytgjiaipheohmoaa
open Go.RowKit

theorem ops_val (a v b u : Int) (s t : ByteArray) (w : World) (r : Bool) (h : opsB a b (s.data.toList == t.data.toList) = r) :
    Calls Try.prog 9 #[.agg #[.int .i64 a, .string s, .int .i64 v], .agg #[.int .i64 b, .string t, .int .i64 u]] w
      fun e w' => e = .returned (.bool r) ∧ Below w.heap.size w w' := by
  have := ops_any a v b u s t w
  rw [ByteArray.toList_eq, ByteArray.toList_eq, h] at this
  exact this

set_option maxRecDepth 100000 in
set_option maxHeartbeats 1000000 in
theorem works_any (w : World) : Calls Try.prog 14 #[] w fun e w' => e = .returned (.bool true) ∧ Below w.heap.size w w' := by
  go_enter Try.func14, Try.ntmps14
  go_wp2_with fail
  refine (ops_val _ _ _ _ _ _ _ true (by decide)).mono ?_
  rintro e w1 ⟨rfl, hb1⟩
  obtain ⟨hc1, _⟩ := bcell hb1
  have hz1 := hb1.size
  simp only [World.size_alloc] at hz1
  have hy10 : w.heap.size < w1.heap.size := by omega
  have hy11 : w.heap.size + 1 < w1.heap.size := by omega
  have hy12 : w.heap.size + 1 + 1 < w1.heap.size := by omega
  go_wp2_with fail
  refine (ops_val _ _ _ _ _ _ _ true (by decide)).mono ?_
  rintro e w2 ⟨rfl, hb2⟩
  obtain ⟨hc2, _⟩ := bcell hb2
  have hz2 := hb2.size
  have hy20 : w.heap.size < w2.heap.size := by omega
  have hy21 : w.heap.size + 1 < w2.heap.size := by omega
  have hy22 : w.heap.size + 1 + 1 < w2.heap.size := by omega
  go_wp2_with fail
  refine (ops_val _ _ _ _ _ _ _ false (by decide)).mono ?_
  rintro e w3 ⟨rfl, hb3⟩
  obtain ⟨hc3, _⟩ := bcell hb3
  have hz3 := hb3.size
  have hy30 : w.heap.size < w3.heap.size := by omega
  have hy31 : w.heap.size + 1 < w3.heap.size := by omega
  have hy32 : w.heap.size + 1 + 1 < w3.heap.size := by omega
  go_wp2_with fail
  refine (ops_val _ _ _ _ _ _ _ false (by decide)).mono ?_
  rintro e w4 ⟨rfl, hb4⟩
  obtain ⟨hc4, _⟩ := bcell hb4
  have hz4 := hb4.size
  have hy40 : w.heap.size < w4.heap.size := by omega
  have hy41 : w.heap.size + 1 < w4.heap.size := by omega
  have hy42 : w.heap.size + 1 + 1 < w4.heap.size := by omega
  go_wp2_with fail
  refine (ops_val _ _ _ _ _ _ _ true (by decide)).mono ?_
  rintro e w5 ⟨rfl, hb5⟩
  obtain ⟨hc5, _⟩ := bcell hb5
  have hz5 := hb5.size
  have hy50 : w.heap.size < w5.heap.size := by omega
  have hy51 : w.heap.size + 1 < w5.heap.size := by omega
  have hy52 : w.heap.size + 1 + 1 < w5.heap.size := by omega
  go_wp2_with fail
  refine (ops_val _ _ _ _ _ _ _ false (by decide)).mono ?_
  rintro e w6 ⟨rfl, hb6⟩
  have hz6 := hb6.size
  go_wp2_with fail
  refine (first_any ⟨⟨0, 0, 0, 0, 0, 0, 0, 0, 0, 0, false⟩, none, 0, 0, []⟩ none 0 0 [] w6 ⟨Rd.nil_, by simp⟩ ⟨Rd.nil_, by simp⟩ (by decide) (by decide)).mono ?_
  rintro e w7 ⟨rfl, hb7⟩
  have hT : Hid ((idxB (fun u => txsB [] u.ps) ([] : List Txm)) = -1) := by show idxB _ _ = _; rfl
  go_wp2
  go_ret
  refine ⟨?_, ?_⟩
  · rw [hT.out]; rfl
  · exact ((((Below.refl _ w).alloc (Nat.le_refl _) _).alloc (by first | (simp; done) | (simp; omega) | omega) _).alloc (by first | (simp; done) | (simp; omega) | omega) _).trans ((hb1.mono (by first | (simp; done) | (simp; omega) | omega)).trans ((hb2.mono (by first | (simp; done) | (simp; omega) | omega)).trans ((hb3.mono (by first | (simp; done) | (simp; omega) | omega)).trans ((hb4.mono (by first | (simp; done) | (simp; omega) | omega)).trans ((hb5.mono (by first | (simp; done) | (simp; omega) | omega)).trans ((hb6.mono (by first | (simp; done) | (simp; omega) | omega)).trans (hb7.mono (by first | (simp; done) | (simp; omega) | omega))))))))
end Go.Proofs.Ytgjiaipheohmoaa
