/- Package dots' Make: the set of any names. -/
import Derived.Test.YtpfohpfgfdeecaaSrB
import Derived.Test.YtpfohpfgfdeecaaDmB
import Derived.Test.YtpfohpfgfdeecaaDtJ
namespace Go.Proofs.Ytpfohpfgfdeecaa
open Go.RowKit

set_option maxRecDepth 100000 in
set_option maxHeartbeats 1000000 in
theorem make_any (A : Option Addr) (n c : Nat) (xs : List Im) (w : World) (hA : RdI w w.heap.size A n xs) (hn : n ≤ 1100) (hx : ∀ x ∈ xs, x.wf) :
    Calls Try.prog 13 #[.slice A n c] w fun e w' => ∃ A' n' c', e = .returned (.tuple #[.slice A' n' c', .int .i64 (makeErr xs)]) ∧ GotI w' A' n' (makeOut xs) ∧ Below w.heap.size w w' := by
  have h1 := names_any A n c xs w hA (by simp [maxLen]; omega) hx
  have hl := hA.len
  generalize hro : makeOut xs = out
  generalize hre : makeErr xs = er
  unfold makeOut at hro
  rw [hre] at hro
  unfold makeErr at hre
  rw [hl] at hre
  by_cases h1024 : (1024 : Int) < (n : Int)
  · rw [if_pos (by omega)] at hre
    subst hre
    rw [if_pos (by decide)] at hro
    subst hro
    go_enter Try.func13, Try.ntmps13
    go_wp2
    refine bodyPost_ret (v := .tuple #[.slice none 0 0, .int .i64 8]) (by simp [results, Try.results13, go_sem]) rfl ⟨none, 0, 0, rfl, gotI_nil _, Below.refl _ _⟩
  rw [if_neg (by omega)] at hre
  generalize hc : xs.all chk = b at h1 hre
  clear hc
  cases b
  · rw [if_pos rfl] at hre
    subst hre
    rw [if_pos (by decide)] at hro
    subst hro
    rw [show errI false = 2 from rfl] at h1
    go_enter Try.func13, Try.ntmps13
    go_wp2_with fail
    refine h1.mono ?_
    rintro e w1 ⟨rfl, hb1⟩
    go_wp2
    refine bodyPost_ret (v := .tuple #[.slice none 0 0, .int .i64 2]) (by simp [results, Try.results13, go_sem]) rfl ⟨none, 0, 0, rfl, gotI_nil _, hb1⟩
  rw [if_neg (by simp)] at hre
  rw [show errI true = 0 from rfl] at h1
  have hroH := Lib.hid hro
  have hreH := Lib.hid hre
  clear hro hre
  go_enter Try.func13, Try.ntmps13
  go_wp2_with fail
  refine h1.mono ?_
  rintro e w1 ⟨rfl, hb1⟩
  go_wp2_with fail
  refine (values_any A n c w1).mono ?_
  rintro e w2 ⟨rfl, hw2⟩
  have hb2 : Below w1.heap.size w1 w2 := by rw [hw2]; exact (Below.refl _ _).alloc (Nat.le_refl _) _
  have hbx : w2.heap[w1.heap.size]? = some (.cells #[.slice A n c] 25 (0, 0)) := by rw [hw2]; exact heap_at _ _ rfl
  clear hw2
  have hbw2 : Below w.heap.size w w2 := hb1.trans (hb2.mono hb1.size)
  have hs := sortedf_any w1.heap.size A n c xs w2 hbx ((hA.below hbw2).more hbw2.size) hn
  clear hbx
  go_wp2_with fail
  refine hs.mono ?_
  rintro e w3 ⟨A3, c3, ys, rfl, hp, hm, hown, hb3⟩
  have hcm : Hid (compactI ys = makeI xs) := Lib.hid (compactI_make hp hm)
  clear hp hm hs
  have hco := compact_any w2.heap.size A3 n c3 ys w3 hown hn hb3.size
  rw [hcm.out] at hco
  go_wp2_with fail
  refine hco.mono ?_
  rintro e w4 ⟨n4, rfl, hown4, hg4⟩
  have hb4 : Below w.heap.size w w4 := (hbw2.trans (hb3.mono hbw2.size)).grown hg4 (by have := hb3.size; have := hbw2.size; omega) (fun k e => by have := (hown.block k e).1; have := hbw2.size; omega)
  have hl4 : (makeI xs).length = n4 := by simpa using hown4.rd.2.1
  have hgot := gotI_own hown4
  have hbd := bounded_any A3 n4 c3 w4
  have hro := hroH.out
  have hre := hreH.out
  clear hroH hreH hco
  rw [hl4] at hre
  by_cases h64 : 64 < n4
  · rw [if_pos h64] at hre hbd
    subst hre
    rw [if_pos (by decide)] at hro
    subst hro
    clear hgot hl4
    go_wp2_with fail
    refine hbd.mono ?_
    rintro e w' ⟨rfl, hw'⟩
    obtain rfl := hw'.symm
    go_wp2
    refine bodyPost_ret (v := .tuple #[.slice none 0 0, .int .i64 8]) (by simp [results, Try.results13, go_sem]) rfl ⟨none, 0, 0, rfl, gotI_nil _, hb4⟩
  · rw [if_neg h64] at hre hbd
    subst hre
    rw [if_neg (by simp)] at hro
    rw [hro] at hgot
    clear hro hl4
    go_wp2_with fail
    refine hbd.mono ?_
    rintro e w' ⟨rfl, hw'⟩
    obtain rfl := hw'.symm
    go_wp2
    refine bodyPost_ret (v := .tuple #[.slice A3 n4 c3, .int .i64 0]) (by simp [results, Try.results13, go_sem]) rfl ⟨A3, n4, c3, rfl, hgot, hb4⟩
end Go.Proofs.Ytpfohpfgfdeecaa
