/- cut.Write and the document's. -/
import Derived.Test.YthfjbbijcemmoaaDoorCx
import Derived.Test.YthfjbbijcemmoaaDoorIw
import Derived.Test.YthfjbbijcemmoaaDoorVwA
namespace Go.Proofs.YthfjbbijcemmoaaDoor
open Go.RowKit

/-- A cut's bytes: none, where something is wrong with it. -/
def writeC (v : Vm) (xs : List Im) : List UInt8 := if cutErr v xs ≠ 0 then [] else writeV v ++ writeD xs
theorem writeD_len (xs : List Im) : (writeD xs).length ≤ 9 + 18 * 64 := by
  unfold writeD
  by_cases h : lerr xs = 0
  · rw [if_neg (by simpa using h)]
    have h1 := lerr_len h
    have h2 := flatW_len xs
    have h3 := numB_len xs.length (by omega)
    rw [List.length_append]
    omega
  · rw [if_pos h]; simp

set_option maxRecDepth 100000 in
set_option maxHeartbeats 1000000 in
theorem cwrite_any (v : Vm) (A : Option Addr) (n c : Nat) (xs : List Im) (w : World) (hA : RdI w w.heap.size A n xs) (hn : n ≤ 1100) (hv : v.wf) (hx : ∀ x ∈ xs, x.wf) :
    Calls Tryd.prog 18 #[.agg #[.int .u32 v.d0, .int .u32 v.d1, .int .u32 v.d2, .int .u32 v.d3, .int .u32 v.d4, .int .u32 v.d5, .int .u32 v.d6, .int .u32 v.d7, .slice A n c]] w fun e w' => e = .returned (.tuple #[.string (bs (writeC v xs)), .int .i64 (cutErr v xs)]) ∧ Below w.heap.size w w' := by
  have hb0 : Below w.heap.size w (w.alloc (.cells #[.int .u32 v.d0, .int .u32 v.d1, .int .u32 v.d2, .int .u32 v.d3, .int .u32 v.d4, .int .u32 v.d5, .int .u32 v.d6, .int .u32 v.d7, .slice A n c] 52)) := (Below.refl _ w).alloc (Nat.le_refl _) _
  have hbB : (w.alloc (.cells #[.int .u32 v.d0, .int .u32 v.d1, .int .u32 v.d2, .int .u32 v.d3, .int .u32 v.d4, .int .u32 v.d5, .int .u32 v.d6, .int .u32 v.d7, .slice A n c] 52)).heap[w.heap.size]? = some (.cells #[.int .u32 v.d0, .int .u32 v.d1, .int .u32 v.d2, .int .u32 v.d3, .int .u32 v.d4, .int .u32 v.d5, .int .u32 v.d6, .int .u32 v.d7, .slice A n c] 52 (0, 0)) := heap_at _ _ rfl
  generalize hW : w.alloc (.cells #[.int .u32 v.d0, .int .u32 v.d1, .int .u32 v.d2, .int .u32 v.d3, .int .u32 v.d4, .int .u32 v.d5, .int .u32 v.d6, .int .u32 v.d7, .slice A n c] 52) = W at hb0 hbB
  have hlt := blk_lt hbB
  have hWk := Lib.hid hbB
  have c1 := ccheck_any v A n c xs W ((hA.below hb0).more hb0.size) hn hv hx
  generalize hr : writeC v xs = out
  unfold writeC at hr
  by_cases hp : cutErr v xs = 0
  · obtain ⟨h1, h2⟩ := cutErr_ok hp
    rw [hp] at c1 ⊢
    rw [if_neg (by simpa using hp)] at hr
    subst hr
    have c2 := fun w1 (hb : Below w.heap.size w w1) => dtw_any A n c xs w1 ((hA.below hb).more hb.size) hn hx
    rw [h2] at c2
    have c2 := Lib.hid c2
    have c3 := Lib.hid (vwrite_any v hv)
    have hV := partV_len hv (longV v)
    rw [show partV v (longV v) = writeV v from rfl] at hV
    have hV8 := longV_le v
    have hD := writeD_len xs
    have hsz : ¬ 9223372036854775807 < (bs (writeV v)).size + (bs (writeD xs)).size := by rw [bs_size, bs_size]; omega
    have hcat := bs_append (writeV v) (writeD xs)
    generalize writeV v = a at c3 hsz hcat
    generalize writeD xs = b at c2 hsz hcat
    have hcH := Lib.hid hcat
    have c1 := Lib.hid c1
    clear hV hV8 hD h1 h2 hp hcat
    have q0 := blk_cell hbB 0
    have q1 := blk_cell hbB 1
    have q2 := blk_cell hbB 2
    have q3 := blk_cell hbB 3
    have q4 := blk_cell hbB 4
    have q5 := blk_cell hbB 5
    have q6 := blk_cell hbB 6
    have q7 := blk_cell hbB 7
    have q8 := blk_cell hbB 8
    simp at q0 q1 q2 q3 q4 q5 q6 q7 q8
    go_enter Tryd.func18, Tryd.ntmps18
    go_wp2_with fail
    refine c1.out.mono ?_
    rintro e w1 ⟨rfl, hb⟩
    clear q0 q1 q2 q3 q4 q5 q6 q7 q8
    have hG1 := hb0.trans (hb.mono hb0.size)
    have hbB1 := blk_below hWk.out hb
    have hlt1 := blk_lt hbB1
    have q0 := blk_cell hbB1 0
    have q1 := blk_cell hbB1 1
    have q2 := blk_cell hbB1 2
    have q3 := blk_cell hbB1 3
    have q4 := blk_cell hbB1 4
    have q5 := blk_cell hbB1 5
    have q6 := blk_cell hbB1 6
    have q7 := blk_cell hbB1 7
    have q8 := blk_cell hbB1 8
    simp at q0 q1 q2 q3 q4 q5 q6 q7 q8
    go_wp2_with fail
    refine (c2.out _ hG1).mono ?_
    rintro e w2 ⟨rfl, hb2⟩
    clear q0 q1 q2 q3 q4 q5 q6 q7 q8
    have hG2 := hG1.trans (hb2.mono hG1.size)
    have hbB2 := blk_below hbB1 hb2
    have hlt2 := blk_lt hbB2
    have q0 := blk_cell hbB2 0
    have q1 := blk_cell hbB2 1
    have q2 := blk_cell hbB2 2
    have q3 := blk_cell hbB2 3
    have q4 := blk_cell hbB2 4
    have q5 := blk_cell hbB2 5
    have q6 := blk_cell hbB2 6
    have q7 := blk_cell hbB2 7
    have q8 := blk_cell hbB2 8
    simp at q0 q1 q2 q3 q4 q5 q6 q7 q8
    go_wp2_with fail
    refine (c3.out _).mono ?_
    rintro e w3 ⟨rfl, hb3⟩
    have hG3 := hG2.trans (hb3.mono hG2.size)
    go_wp2
    have hT := hcH.out
    refine bodyPost_ret (v := .tuple #[.string (bs (a ++ b)), .int .i64 0]) (by simp [results, Tryd.results18, go_sem, hT]) rfl ⟨rfl, hG3⟩
  · rw [if_pos hp] at hr
    subst hr
    generalize cutErr v xs = p at c1 hp
    have hpn : (p != 0) = true := by simpa using hp
    have c1 := Lib.hid c1
    have q0 := blk_cell hbB 0
    have q1 := blk_cell hbB 1
    have q2 := blk_cell hbB 2
    have q3 := blk_cell hbB 3
    have q4 := blk_cell hbB 4
    have q5 := blk_cell hbB 5
    have q6 := blk_cell hbB 6
    have q7 := blk_cell hbB 7
    have q8 := blk_cell hbB 8
    simp at q0 q1 q2 q3 q4 q5 q6 q7 q8
    go_enter Tryd.func18, Tryd.ntmps18
    go_wp2_with fail
    refine c1.out.mono ?_
    rintro e w1 ⟨rfl, hb⟩
    have hG1 := hb0.trans (hb.mono hb0.size)
    go_wp2
    refine bodyPost_ret (v := .tuple #[.string (bs []), .int .i64 p]) (by simp [results, Tryd.results18, go_sem, bs_nil]) rfl ⟨rfl, hG1⟩
set_option maxRecDepth 100000 in
set_option maxHeartbeats 1000000 in
theorem rcwrite_any (v : Vm) (A : Option Addr) (n c : Nat) (xs : List Im) (w : World) (hA : RdI w w.heap.size A n xs) (hn : n ≤ 1100) (hv : v.wf) (hx : ∀ x ∈ xs, x.wf) :
    Calls Tryd.prog 20 #[.agg #[.int .u32 v.d0, .int .u32 v.d1, .int .u32 v.d2, .int .u32 v.d3, .int .u32 v.d4, .int .u32 v.d5, .int .u32 v.d6, .int .u32 v.d7, .slice A n c]] w fun e w' => e = .returned (.tuple #[.string (bs (writeC v xs)), .int .i64 (cutErr v xs)]) ∧ Below w.heap.size w w' := by
  have hb0 : Below w.heap.size w (w.alloc (.cells #[.int .u32 v.d0, .int .u32 v.d1, .int .u32 v.d2, .int .u32 v.d3, .int .u32 v.d4, .int .u32 v.d5, .int .u32 v.d6, .int .u32 v.d7, .slice A n c] 50)) := (Below.refl _ w).alloc (Nat.le_refl _) _
  have hbB : (w.alloc (.cells #[.int .u32 v.d0, .int .u32 v.d1, .int .u32 v.d2, .int .u32 v.d3, .int .u32 v.d4, .int .u32 v.d5, .int .u32 v.d6, .int .u32 v.d7, .slice A n c] 50)).heap[w.heap.size]? = some (.cells #[.int .u32 v.d0, .int .u32 v.d1, .int .u32 v.d2, .int .u32 v.d3, .int .u32 v.d4, .int .u32 v.d5, .int .u32 v.d6, .int .u32 v.d7, .slice A n c] 50 (0, 0)) := heap_at _ _ rfl
  generalize hW : w.alloc (.cells #[.int .u32 v.d0, .int .u32 v.d1, .int .u32 v.d2, .int .u32 v.d3, .int .u32 v.d4, .int .u32 v.d5, .int .u32 v.d6, .int .u32 v.d7, .slice A n c] 50) = W at hb0 hbB
  have hlt := blk_lt hbB
  have hWk := Lib.hid hbB
  have c1 := rccheck_any v A n c xs W ((hA.below hb0).more hb0.size) hn hv hx
  generalize hr : writeC v xs = out
  unfold writeC at hr
  by_cases hp : cutErr v xs = 0
  · obtain ⟨h1, h2⟩ := cutErr_ok hp
    rw [hp] at c1 ⊢
    rw [if_neg (by simpa using hp)] at hr
    subst hr
    have c2 := fun w1 (hb : Below w.heap.size w w1) => rdtw_any A n c xs w1 ((hA.below hb).more hb.size) hn hx
    rw [h2] at c2
    have c2 := Lib.hid c2
    have c3 := Lib.hid (rvwrite_any v hv)
    have hV := partV_len hv (longV v)
    rw [show partV v (longV v) = writeV v from rfl] at hV
    have hV8 := longV_le v
    have hD := writeD_len xs
    have hsz : ¬ 9223372036854775807 < (bs (writeV v)).size + (bs (writeD xs)).size := by rw [bs_size, bs_size]; omega
    have hcat := bs_append (writeV v) (writeD xs)
    generalize writeV v = a at c3 hsz hcat
    generalize writeD xs = b at c2 hsz hcat
    have hcH := Lib.hid hcat
    have c1 := Lib.hid c1
    clear hV hV8 hD h1 h2 hp hcat
    have q0 := blk_cell hbB 0
    have q1 := blk_cell hbB 1
    have q2 := blk_cell hbB 2
    have q3 := blk_cell hbB 3
    have q4 := blk_cell hbB 4
    have q5 := blk_cell hbB 5
    have q6 := blk_cell hbB 6
    have q7 := blk_cell hbB 7
    have q8 := blk_cell hbB 8
    simp at q0 q1 q2 q3 q4 q5 q6 q7 q8
    go_enter Tryd.func20, Tryd.ntmps20
    go_wp2_with fail
    refine c1.out.mono ?_
    rintro e w1 ⟨rfl, hb⟩
    clear q0 q1 q2 q3 q4 q5 q6 q7 q8
    have hG1 := hb0.trans (hb.mono hb0.size)
    have hbB1 := blk_below hWk.out hb
    have hlt1 := blk_lt hbB1
    have q0 := blk_cell hbB1 0
    have q1 := blk_cell hbB1 1
    have q2 := blk_cell hbB1 2
    have q3 := blk_cell hbB1 3
    have q4 := blk_cell hbB1 4
    have q5 := blk_cell hbB1 5
    have q6 := blk_cell hbB1 6
    have q7 := blk_cell hbB1 7
    have q8 := blk_cell hbB1 8
    simp at q0 q1 q2 q3 q4 q5 q6 q7 q8
    go_wp2_with fail
    refine (c2.out _ hG1).mono ?_
    rintro e w2 ⟨rfl, hb2⟩
    clear q0 q1 q2 q3 q4 q5 q6 q7 q8
    have hG2 := hG1.trans (hb2.mono hG1.size)
    have hbB2 := blk_below hbB1 hb2
    have hlt2 := blk_lt hbB2
    have q0 := blk_cell hbB2 0
    have q1 := blk_cell hbB2 1
    have q2 := blk_cell hbB2 2
    have q3 := blk_cell hbB2 3
    have q4 := blk_cell hbB2 4
    have q5 := blk_cell hbB2 5
    have q6 := blk_cell hbB2 6
    have q7 := blk_cell hbB2 7
    have q8 := blk_cell hbB2 8
    simp at q0 q1 q2 q3 q4 q5 q6 q7 q8
    go_wp2_with fail
    refine (c3.out _).mono ?_
    rintro e w3 ⟨rfl, hb3⟩
    have hG3 := hG2.trans (hb3.mono hG2.size)
    go_wp2
    have hT := hcH.out
    refine bodyPost_ret (v := .tuple #[.string (bs (a ++ b)), .int .i64 0]) (by simp [results, Tryd.results20, go_sem, hT]) rfl ⟨rfl, hG3⟩
  · rw [if_pos hp] at hr
    subst hr
    generalize cutErr v xs = p at c1 hp
    have hpn : (p != 0) = true := by simpa using hp
    have c1 := Lib.hid c1
    have q0 := blk_cell hbB 0
    have q1 := blk_cell hbB 1
    have q2 := blk_cell hbB 2
    have q3 := blk_cell hbB 3
    have q4 := blk_cell hbB 4
    have q5 := blk_cell hbB 5
    have q6 := blk_cell hbB 6
    have q7 := blk_cell hbB 7
    have q8 := blk_cell hbB 8
    simp at q0 q1 q2 q3 q4 q5 q6 q7 q8
    go_enter Tryd.func20, Tryd.ntmps20
    go_wp2_with fail
    refine c1.out.mono ?_
    rintro e w1 ⟨rfl, hb⟩
    have hG1 := hb0.trans (hb.mono hb0.size)
    go_wp2
    refine bodyPost_ret (v := .tuple #[.string (bs []), .int .i64 p]) (by simp [results, Tryd.results20, go_sem, bs_nil]) rfl ⟨rfl, hG1⟩
end Go.Proofs.YthfjbbijcemmoaaDoor
