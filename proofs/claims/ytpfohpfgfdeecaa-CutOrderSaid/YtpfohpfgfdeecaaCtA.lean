/- cut.Check: what is wrong with a cut. -/
import Derived.Test.YtpfohpfgfdeecaaVcD
import Derived.Test.YtpfohpfgfdeecaaEqV
namespace Go.Proofs.Ytpfohpfgfdeecaa
open Go.RowKit

/-- What is wrong with a cut. -/
def cutErr (v : Vm) (xs : List Im) : Int := if foldErr v xs ≠ 0 then foldErr v xs else if eqV (foldV v xs) v && (foldRest v xs).length == xs.length then 0 else 3

set_option maxRecDepth 100000 in
set_option maxHeartbeats 1000000 in
theorem ccheck_any (v : Vm) (A : Option Addr) (n c : Nat) (xs : List Im) (w : World) (hA : RdI w w.heap.size A n xs) (hn : n ≤ 1100) (hv : v.wf) (hx : ∀ x ∈ xs, x.wf) :
    Calls Try.prog 15 #[.agg #[.int .u32 v.d0, .int .u32 v.d1, .int .u32 v.d2, .int .u32 v.d3, .int .u32 v.d4, .int .u32 v.d5, .int .u32 v.d6, .int .u32 v.d7, .slice A n c]] w fun e w' => e = .returned (.int .i64 (cutErr v xs)) ∧ Below w.heap.size w w' := by
  have c1 := vcheck_any v
  have hl := hA.len
  have hb0 : Below w.heap.size w (w.alloc (.cells #[.int .u32 v.d0, .int .u32 v.d1, .int .u32 v.d2, .int .u32 v.d3, .int .u32 v.d4, .int .u32 v.d5, .int .u32 v.d6, .int .u32 v.d7, .slice A n c] 30)) := (Below.refl _ w).alloc (Nat.le_refl _) _
  have hbB : (w.alloc (.cells #[.int .u32 v.d0, .int .u32 v.d1, .int .u32 v.d2, .int .u32 v.d3, .int .u32 v.d4, .int .u32 v.d5, .int .u32 v.d6, .int .u32 v.d7, .slice A n c] 30)).heap[w.heap.size]? = some (.cells #[.int .u32 v.d0, .int .u32 v.d1, .int .u32 v.d2, .int .u32 v.d3, .int .u32 v.d4, .int .u32 v.d5, .int .u32 v.d6, .int .u32 v.d7, .slice A n c] 30 (0, 0)) := heap_at _ _ rfl
  generalize hW : w.alloc (.cells #[.int .u32 v.d0, .int .u32 v.d1, .int .u32 v.d2, .int .u32 v.d3, .int .u32 v.d4, .int .u32 v.d5, .int .u32 v.d6, .int .u32 v.d7, .slice A n c] 30) = W at hb0 hbB
  have hlt := blk_lt hbB
  generalize hr : cutErr v xs = r
  unfold cutErr at hr
  have hfe : foldErr v xs = if vchk v = false then 2 else lerr xs := rfl
  cases h1 : vchk v with
  | false =>
    rw [h1, if_pos rfl] at hfe
    rw [hfe, if_pos (by decide)] at hr
    subst hr
    rw [h1, show errI false = 2 from rfl] at c1
    have c1 := Lib.hid c1
    have q0 := blk_cell hbB 0
    have q1 := blk_cell hbB 1
    have q2 := blk_cell hbB 2
    have q3 := blk_cell hbB 3
    have q4 := blk_cell hbB 4
    have q5 := blk_cell hbB 5
    have q6 := blk_cell hbB 6
    have q7 := blk_cell hbB 7
    have q8 := blk_cell hbB 8
    simp at q0 q1 q2 q3 q4 q5 q6 q7 q8
    go_enter Try.func15, Try.ntmps15
    go_wp2_with fail
    refine (c1.out _).mono ?_
    rintro e w1 ⟨rfl, hb⟩
    have hG := hb0.trans (hb.mono hb0.size)
    go_wp2
    go_ret
    exact ⟨rfl, hG⟩
  | true =>
    rw [h1, if_neg (by simp)] at hfe
    rw [hfe] at hr
    rw [h1, show errI true = 0 from rfl] at c1
    have c1 := Lib.hid c1
    have c2 := fun w1 (hb : Below w.heap.size w w1) => check_any A n c xs w1 ((hA.below hb).more hb.size) (by simp [maxLen]; omega) hx
    have c3 := fun w1 (hb : Below w.heap.size w w1) => fold_any v A n c xs w1 ((hA.below hb).more hb.size) hn hv hx
    have hle := hfe
    clear hfe
    have hfo : lerr xs = 0 → foldOut v xs = foldV v xs := fun h => by unfold foldOut; rw [if_neg (by rw [hle, h]; decide)]
    rw [hle] at c3
    generalize lerr xs = p at hr c2 c3 hfo
    have c2 := Lib.hid c2
    have c3 := Lib.hid c3
    have hWk := Lib.hid hbB
    by_cases hp : p = 0
    · subst hp
      rw [if_neg (by simp)] at hr
      rw [hfo rfl] at c3
      have hnq := neqV2 (foldV v xs) v
      have hrH := Lib.hid hr
      have hlH := Lib.hid hl
      clear hfo hle hr h1
      have q0 := blk_cell hbB 0
      have q1 := blk_cell hbB 1
      have q2 := blk_cell hbB 2
      have q3 := blk_cell hbB 3
      have q4 := blk_cell hbB 4
      have q5 := blk_cell hbB 5
      have q6 := blk_cell hbB 6
      have q7 := blk_cell hbB 7
      have q8 := blk_cell hbB 8
      simp at q0 q1 q2 q3 q4 q5 q6 q7 q8
      go_enter Try.func15, Try.ntmps15
      go_wp2_with fail
      refine (c1.out _).mono ?_
      rintro e w1 ⟨rfl, hb⟩
      clear q0 q1 q2 q3 q4 q5 q6 q7 q8
      have hG1 := hb0.trans (hb.mono hb0.size)
      have hbB1 := blk_below hWk.out hb
      have hlt1 := blk_lt hbB1
      have q0 := blk_cell hbB1 0
      have q1 := blk_cell hbB1 1
      have q2 := blk_cell hbB1 2
      have q3 := blk_cell hbB1 3
      have q4 := blk_cell hbB1 4
      have q5 := blk_cell hbB1 5
      have q6 := blk_cell hbB1 6
      have q7 := blk_cell hbB1 7
      have q8 := blk_cell hbB1 8
      simp at q0 q1 q2 q3 q4 q5 q6 q7 q8
      go_wp2_with fail
      refine (c2.out _ hG1).mono ?_
      rintro e w2 ⟨rfl, hb2⟩
      clear q0 q1 q2 q3 q4 q5 q6 q7 q8
      have hG2 := hG1.trans (hb2.mono hG1.size)
      have hbB2 := blk_below hbB1 hb2
      have hlt2 := blk_lt hbB2
      have q0 := blk_cell hbB2 0
      have q1 := blk_cell hbB2 1
      have q2 := blk_cell hbB2 2
      have q3 := blk_cell hbB2 3
      have q4 := blk_cell hbB2 4
      have q5 := blk_cell hbB2 5
      have q6 := blk_cell hbB2 6
      have q7 := blk_cell hbB2 7
      have q8 := blk_cell hbB2 8
      simp at q0 q1 q2 q3 q4 q5 q6 q7 q8
      go_wp2_with fail
      refine (c3.out _ hG2).mono ?_
      rintro e w3 ⟨A3, n3, c3', rfl, o3, hb3⟩
      clear q0 q1 q2 q3 q4 q5 q6 q7 q8
      have hG3 := hG2.trans (hb3.mono hG2.size)
      have hbB3 := blk_below hbB2 hb3
      have hlt3 := blk_lt hbB3
      have q0 := blk_cell hbB3 0
      have q1 := blk_cell hbB3 1
      have q2 := blk_cell hbB3 2
      have q3 := blk_cell hbB3 3
      have q4 := blk_cell hbB3 4
      have q5 := blk_cell hbB3 5
      have q6 := blk_cell hbB3 6
      have q7 := blk_cell hbB3 7
      have q8 := blk_cell hbB3 8
      simp at q0 q1 q2 q3 q4 q5 q6 q7 q8
      have hn3 : (foldRest v xs).length = n3 := by simpa using o3.rd.2.1
      have hGf : Below w.heap.size w (w3.alloc (.cells #[.int .u32 (foldV v xs).d0, .int .u32 (foldV v xs).d1, .int .u32 (foldV v xs).d2, .int .u32 (foldV v xs).d3, .int .u32 (foldV v xs).d4, .int .u32 (foldV v xs).d5, .int .u32 (foldV v xs).d6, .int .u32 (foldV v xs).d7] 24)) := hG3.alloc hG3.size _
      have hn3H := Lib.hid hn3
      clear hn3 o3
      have hrr := hrH.out
      cases he : eqV (foldV v xs) v with
      | false =>
        rw [he] at hnq hrr
        have hT : Hid (3 = r) := Lib.hid (by simpa using hrr)
        clear hrr he
        go_wp2
        go_ret
        exact ⟨ret_int hT.out, hGf⟩
      | true =>
        rw [he, hn3H.out, hlH.out] at hrr
        rw [he] at hnq
        by_cases hnn : n3 = n
        · have hT : Hid (0 = r) := Lib.hid (by simpa [hnn] using hrr)
          have hd : ((n3 : Int) != (n : Int)) = false := by simp [hnn]
          clear hrr he hnn
          go_wp2
          go_ret
          exact ⟨ret_int hT.out, hGf⟩
        · have hT : Hid (3 = r) := Lib.hid (by simpa [hnn] using hrr)
          have hd : ((n3 : Int) != (n : Int)) = true := by rw [bne_iff_ne]; omega
          clear hrr he hnn
          go_wp2
          go_ret
          exact ⟨ret_int hT.out, hGf⟩
    · rw [if_pos hp] at hr
      subst hr
      have hpn : (p != 0) = true := by simpa using hp
      clear hfo c3 hle
      have q0 := blk_cell hbB 0
      have q1 := blk_cell hbB 1
      have q2 := blk_cell hbB 2
      have q3 := blk_cell hbB 3
      have q4 := blk_cell hbB 4
      have q5 := blk_cell hbB 5
      have q6 := blk_cell hbB 6
      have q7 := blk_cell hbB 7
      have q8 := blk_cell hbB 8
      simp at q0 q1 q2 q3 q4 q5 q6 q7 q8
      go_enter Try.func15, Try.ntmps15
      go_wp2_with fail
      refine (c1.out _).mono ?_
      rintro e w1 ⟨rfl, hb⟩
      clear q0 q1 q2 q3 q4 q5 q6 q7 q8
      have hG1 := hb0.trans (hb.mono hb0.size)
      have hbB1 := blk_below hWk.out hb
      have hlt1 := blk_lt hbB1
      have q0 := blk_cell hbB1 0
      have q1 := blk_cell hbB1 1
      have q2 := blk_cell hbB1 2
      have q3 := blk_cell hbB1 3
      have q4 := blk_cell hbB1 4
      have q5 := blk_cell hbB1 5
      have q6 := blk_cell hbB1 6
      have q7 := blk_cell hbB1 7
      have q8 := blk_cell hbB1 8
      simp at q0 q1 q2 q3 q4 q5 q6 q7 q8
      go_wp2_with fail
      refine (c2.out _ hG1).mono ?_
      rintro e w2 ⟨rfl, hb2⟩
      have hG2 := hG1.trans (hb2.mono hG1.size)
      go_wp2
      go_ret
      exact ⟨rfl, hG2⟩
end Go.Proofs.Ytpfohpfgfdeecaa
