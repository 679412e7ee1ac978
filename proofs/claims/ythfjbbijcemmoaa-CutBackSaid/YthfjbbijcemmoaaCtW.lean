/- vec.Write and the document's: a vector's bytes. cut.Write and the document's. -/
import Derived.Test.YthfjbbijcemmoaaVcB
import Derived.Test.YthfjbbijcemmoaaOct
import Derived.Test.YthfjbbijcemmoaaCx
import Derived.Test.YthfjbbijcemmoaaIw
namespace Go.Proofs.Ythfjbbijcemmoaa
open Go.RowKit

/-- How many members are left without the noughts at the end. -/
def longV (v : Vm) : Nat := if v.d7 ≠ 0 then 8 else if v.d6 ≠ 0 then 7 else if v.d5 ≠ 0 then 6 else if v.d4 ≠ 0 then 5 else if v.d3 ≠ 0 then 4 else if v.d2 ≠ 0 then 3 else if v.d1 ≠ 0 then 2 else if v.d0 ≠ 0 then 1 else 0
theorem longV_le (v : Vm) : longV v ≤ 8 := by unfold longV; (repeat' split) <;> omega
theorem longV_of {v : Vm} {k : Nat} (hk : k ≤ 8) (h : ∀ i : Nat, k ≤ i → i < 8 → v.get i = 0) (h2 : k = 0 ∨ v.get ((k : Int) - 1) ≠ 0) : longV v = k := by
  have g : ∀ i : Nat, i < 8 → k ≤ i → v.get i = 0 := fun i h3 h4 => h i h4 h3
  have g0 := g 0 (by omega)
  have g1 := g 1 (by omega)
  have g2 := g 2 (by omega)
  have g3 := g 3 (by omega)
  have g4 := g 4 (by omega)
  have g5 := g 5 (by omega)
  have g6 := g 6 (by omega)
  have g7 := g 7 (by omega)
  clear g h
  obtain rfl | rfl | rfl | rfl | rfl | rfl | rfl | rfl | rfl : k = 0 ∨ k = 1 ∨ k = 2 ∨ k = 3 ∨ k = 4 ∨ k = 5 ∨ k = 6 ∨ k = 7 ∨ k = 8 := by omega
  all_goals
    simp [Vm.get] at g0 g1 g2 g3 g4 g5 g6 g7 h2
    simp [longV, *]
theorem get_u32 {v : Vm} (h : v.wf) (o : Int) : 0 ≤ v.get o ∧ v.get o < 4294967296 := by
  obtain ⟨a0, a1, a2, a3, a4, a5, a6, a7⟩ := h
  unfold Vm.get
  (repeat' split) <;> assumption
/-- The first k members' part of a vector's bytes. -/
def partV (v : Vm) (k : Nat) : List UInt8 := numB (longV v) ++ ((List.range k).map fun (i : Nat) => numB (v.get (i : Int)).toNat).flatten
/-- A vector's bytes. -/
def writeV (v : Vm) : List UInt8 := partV v (longV v)
theorem partV_succ (v : Vm) (k : Nat) : partV v k ++ numB (v.get (k : Int)).toNat = partV v (k + 1) := by
  unfold partV
  rw [List.range_succ]
  simp
theorem val_str' {a b : ByteArray} (h : a = b) : Value.string a = .string b := by rw [h]
theorem ret_slice {a b : Nat} {A : Option Addr} {c : Nat} (h : a = b) : Ending.returned (.slice A a c) = .returned (.slice A b c) := by rw [h]
theorem partV_len {v : Vm} (h : v.wf) : ∀ k, (partV v k).length ≤ 9 + 9 * k
  | 0 => by
    have := numB_len (longV v) (by have := longV_le v; omega)
    simp [partV]; omega
  | k + 1 => by
    rw [← partV_succ, List.length_append]
    have h1 := partV_len h k
    have h2 := numB_len (v.get (k : Int)).toNat (by have := get_u32 h (k : Int); omega)
    omega

set_option maxRecDepth 100000 in
set_option maxHeartbeats 1000000 in
theorem vlong_any (B : Nat) (v : Vm) (w : World) (hb : w.heap[B]? = some (.cells #[.int .u32 v.d0, .int .u32 v.d1, .int .u32 v.d2, .int .u32 v.d3, .int .u32 v.d4, .int .u32 v.d5, .int .u32 v.d6, .int .u32 v.d7] 25 (0, 0))) :
    Calls Try.prog 112 #[.pointer (some ⟨B, 0, none⟩)] w fun e w' => e = .returned (.slice (some ⟨B, 0, none⟩) (longV v) 8) ∧ w = w' := by
  have hlt := blk_lt hb
  go_enter Try.func112, Try.ntmps112
  go_wp2_with fail
  go_loopg [3] 9 (fun g l wr => ∃ k : Nat, k ≤ 8 ∧ g = k + 1 ∧ l = .slice (some ⟨B, 0, none⟩) k 8 ∧ (∀ i : Nat, k ≤ i → i < 8 → v.get i = 0) ∧ wr = w)
  case atStart => exact ⟨8, by omega, rfl, rfl, fun i h1 h2 => by omega, rfl⟩
  case round =>
    obtain ⟨k, hk, rfl, rfl, hz, rfl⟩ := hrel
    have hzH := Lib.hid hz
    clear hz
    cases k with
    | zero =>
      have hT : Hid (longV v = 0) := Lib.hid (longV_of hk hzH.out (.inl rfl))
      go_wp2
      go_ret
      exact ⟨ret_slice hT.out.symm, rfl⟩
    | succ j =>
      have hcv : wr.cell? ⟨B, j, none⟩ = some (.int .u32 (v.get j)) := by rw [blk_cell hb]; exact get_cells v j (by omega)
      have hj : j ≤ 7 := by omega
      by_cases h0 : v.get (j : Int) = 0
      · have hT : Hid (∀ i : Nat, j ≤ i → i < 8 → v.get i = 0) := Lib.hid (fun i h1 h2 => by
          rcases Nat.lt_or_eq_of_le h1 with h3 | h3
          · exact hzH.out i h3 h2
          · rw [← h3]; exact h0)
        rw [h0] at hcv
        clear h0
        go_wp2
        go_roundg (j + 1)
        case measure => omega
        case rel => exact ⟨j, by omega, rfl, rfl, hT.out, rfl⟩
      · have hT : Hid (longV v = j + 1) := Lib.hid (longV_of hk hzH.out (.inr (by rw [show ((j + 1 : Nat) : Int) - 1 = j from by omega]; exact h0)))
        have hne : (v.get (j : Int) == 0) = false := by simpa using h0
        clear h0
        go_wp2
        go_ret
        exact ⟨ret_slice hT.out.symm, rfl⟩

set_option maxRecDepth 100000 in
set_option maxHeartbeats 1000000 in
theorem vwrite_any (v : Vm) (hv : v.wf) (w : World) :
    Calls Try.prog 95 #[.agg #[.int .u32 v.d0, .int .u32 v.d1, .int .u32 v.d2, .int .u32 v.d3, .int .u32 v.d4, .int .u32 v.d5, .int .u32 v.d6, .int .u32 v.d7]] w fun e w' => e = .returned (.string (bs (writeV v))) ∧ Below w.heap.size w w' := by
  have hb : (w.alloc (.cells #[.int .u32 v.d0, .int .u32 v.d1, .int .u32 v.d2, .int .u32 v.d3, .int .u32 v.d4, .int .u32 v.d5, .int .u32 v.d6, .int .u32 v.d7] 25)).heap[w.heap.size]? = some (.cells #[.int .u32 v.d0, .int .u32 v.d1, .int .u32 v.d2, .int .u32 v.d3, .int .u32 v.d4, .int .u32 v.d5, .int .u32 v.d6, .int .u32 v.d7] 25 (0, 0)) := heap_at _ _ rfl
  have hbB : Below w.heap.size w (w.alloc (.cells #[.int .u32 v.d0, .int .u32 v.d1, .int .u32 v.d2, .int .u32 v.d3, .int .u32 v.d4, .int .u32 v.d5, .int .u32 v.d6, .int .u32 v.d7] 25)) := (Below.refl _ w).alloc (Nat.le_refl _) _
  have hl8 := longV_le v
  have cN := Lib.hid (fun w => num_any (longV v) (by omega) w)
  generalize hW : (w.alloc (.cells #[.int .u32 v.d0, .int .u32 v.d1, .int .u32 v.d2, .int .u32 v.d3, .int .u32 v.d4, .int .u32 v.d5, .int .u32 v.d6, .int .u32 v.d7] 25)) = W at hb hbB
  have hlt := blk_lt hb
  have hn0 : (0 : Int) ≤ (longV v : Int) := by omega
  skip
  go_enter Try.func95, Try.ntmps95
  go_wp2_with fail
  try rw [hW]
  clear hW
  refine (vlong_any _ v _ hb).mono ?_
  rintro e w0 ⟨rfl, rfl⟩
  go_wp2_with fail
  refine (cN.out _).mono ?_
  rintro e w1 ⟨rfl, hb1⟩
  replace hb := blk_below hb hb1
  replace hbB := hbB.trans (hb1.mono hbB.size)
  go_wp2_with fail
  go_loopg [4, 14] 9 (fun g s i wr => ∃ k : Nat, k ≤ longV v ∧ g = 9 - k ∧ i = .int .i64 (k : Int) ∧ s = .string (bs (partV v k)) ∧ wr.heap[w.heap.size]? = some (.cells #[.int .u32 v.d0, .int .u32 v.d1, .int .u32 v.d2, .int .u32 v.d3, .int .u32 v.d4, .int .u32 v.d5, .int .u32 v.d6, .int .u32 v.d7] 25 (0, 0)) ∧ Below w.heap.size w wr)
  case atStart => exact ⟨0, Nat.zero_le _, rfl, rfl, by simp [partV], hb, hbB⟩
  case round =>
    clear hb hbB hlt
    obtain ⟨k, hk, rfl, rfl, rfl, hb, hbB⟩ := hrel
    have hlt := blk_lt hb
    by_cases hlk : k < longV v
    · obtain ⟨z, hz⟩ : ∃ z : Nat, v.get (k : Int) = (z : Int) := ⟨(v.get (k : Int)).toNat, by have := get_u32 hv (k : Int); omega⟩
      have hz32 : z < 4294967296 := by have := get_u32 hv (k : Int); omega
      have hcv : wr.cell? ⟨w.heap.size, k, none⟩ = some (.int .u32 (z : Int)) := by rw [blk_cell hb, get_cells v k (by omega), hz]
      have hk8 : k < 8 := by omega
      have hk8i : (k : Int) < 8 := by omega
      have hT : Hid (bs (partV v k) ++ bs (numB z) = bs (partV v (k + 1))) := Lib.hid (by rw [bs_append, ← partV_succ, hz]; rfl)
      have hsz : ¬ 9223372036854775807 < (bs (partV v k)).size + (bs (numB z)).size := by
        have h1 := partV_len hv k
        have h2 := numB_len z (by omega)
        rw [bs_size, bs_size]; omega
      have cZ := Lib.hid (fun w => num_any z (by omega) w)
      have hbH := Lib.hid hb
      have hz0 : (0 : Int) ≤ (z : Int) := by omega
      clear hz hb
      go_wp2_with fail
      refine (cZ.out _).mono ?_
      rintro e w2 ⟨rfl, hb2⟩
      have hb3 := blk_below hbH.out hb2
      have hbB3 := hbB.trans (hb2.mono hbB.size)
      go_wp2
      go_roundg (9 - (k + 1))
      case measure => omega
      case rel => exact ⟨k + 1, by omega, rfl, by go_num, val_str' hT.out, hb3, hbB3⟩
    · obtain rfl : k = longV v := by omega
      go_wp2
      go_ret
      exact ⟨rfl, hbB⟩
end Go.Proofs.Ythfjbbijcemmoaa
namespace Go.Proofs.Ythfjbbijcemmoaa
open Go.RowKit

/-- A cut's bytes: none, where something is wrong with it. -/
def writeC (v : Vm) (xs : List Im) : List UInt8 := if cutErr v xs ≠ 0 then [] else writeV v ++ writeD xs
theorem writeD_len (xs : List Im) : (writeD xs).length ≤ 9 + 18 * 64 := by
  unfold writeD
  by_cases h : lerr xs = 0
  · rw [if_neg (by simpa using h)]
    have h1 := lerr_len h
    have h2 := flatW_len xs
    have h3 := numB_len xs.length (by omega)
    rw [List.length_append]
    omega
  · rw [if_pos h]; simp

set_option maxRecDepth 100000 in
set_option maxHeartbeats 1000000 in
theorem cwrite_any (v : Vm) (A : Option Addr) (n c : Nat) (xs : List Im) (w : World) (hA : RdI w w.heap.size A n xs) (hn : n ≤ 1100) (hv : v.wf) (hx : ∀ x ∈ xs, x.wf) :
    Calls Try.prog 57 #[.agg #[.int .u32 v.d0, .int .u32 v.d1, .int .u32 v.d2, .int .u32 v.d3, .int .u32 v.d4, .int .u32 v.d5, .int .u32 v.d6, .int .u32 v.d7, .slice A n c]] w fun e w' => e = .returned (.tuple #[.string (bs (writeC v xs)), .int .i64 (cutErr v xs)]) ∧ Below w.heap.size w w' := by
  have hb0 : Below w.heap.size w (w.alloc (.cells #[.int .u32 v.d0, .int .u32 v.d1, .int .u32 v.d2, .int .u32 v.d3, .int .u32 v.d4, .int .u32 v.d5, .int .u32 v.d6, .int .u32 v.d7, .slice A n c] 50)) := (Below.refl _ w).alloc (Nat.le_refl _) _
  have hbB : (w.alloc (.cells #[.int .u32 v.d0, .int .u32 v.d1, .int .u32 v.d2, .int .u32 v.d3, .int .u32 v.d4, .int .u32 v.d5, .int .u32 v.d6, .int .u32 v.d7, .slice A n c] 50)).heap[w.heap.size]? = some (.cells #[.int .u32 v.d0, .int .u32 v.d1, .int .u32 v.d2, .int .u32 v.d3, .int .u32 v.d4, .int .u32 v.d5, .int .u32 v.d6, .int .u32 v.d7, .slice A n c] 50 (0, 0)) := heap_at _ _ rfl
  generalize hW : w.alloc (.cells #[.int .u32 v.d0, .int .u32 v.d1, .int .u32 v.d2, .int .u32 v.d3, .int .u32 v.d4, .int .u32 v.d5, .int .u32 v.d6, .int .u32 v.d7, .slice A n c] 50) = W at hb0 hbB
  have hlt := blk_lt hbB
  have hWk := Lib.hid hbB
  have c1 := ccheck_any v A n c xs W ((hA.below hb0).more hb0.size) hn hv hx
  generalize hr : writeC v xs = out
  unfold writeC at hr
  by_cases hp : cutErr v xs = 0
  · obtain ⟨h1, h2⟩ := cutErr_ok hp
    rw [hp] at c1 ⊢
    rw [if_neg (by simpa using hp)] at hr
    subst hr
    have c2 := fun w1 (hb : Below w.heap.size w w1) => dtw_any A n c xs w1 ((hA.below hb).more hb.size) hn hx
    rw [h2] at c2
    have c2 := Lib.hid c2
    have c3 := Lib.hid (vwrite_any v hv)
    have hV := partV_len hv (longV v)
    rw [show partV v (longV v) = writeV v from rfl] at hV
    have hV8 := longV_le v
    have hD := writeD_len xs
    have hsz : ¬ 9223372036854775807 < (bs (writeV v)).size + (bs (writeD xs)).size := by rw [bs_size, bs_size]; omega
    have hcat := bs_append (writeV v) (writeD xs)
    generalize writeV v = a at c3 hsz hcat
    generalize writeD xs = b at c2 hsz hcat
    have hcH := Lib.hid hcat
    have c1 := Lib.hid c1
    clear hV hV8 hD h1 h2 hp hcat
    have q0 := blk_cell hbB 0
    have q1 := blk_cell hbB 1
    have q2 := blk_cell hbB 2
    have q3 := blk_cell hbB 3
    have q4 := blk_cell hbB 4
    have q5 := blk_cell hbB 5
    have q6 := blk_cell hbB 6
    have q7 := blk_cell hbB 7
    have q8 := blk_cell hbB 8
    simp at q0 q1 q2 q3 q4 q5 q6 q7 q8
    go_enter Try.func57, Try.ntmps57
    go_wp2_with fail
    refine c1.out.mono ?_
    rintro e w1 ⟨rfl, hb⟩
    clear q0 q1 q2 q3 q4 q5 q6 q7 q8
    have hG1 := hb0.trans (hb.mono hb0.size)
    have hbB1 := blk_below hWk.out hb
    have hlt1 := blk_lt hbB1
    have q0 := blk_cell hbB1 0
    have q1 := blk_cell hbB1 1
    have q2 := blk_cell hbB1 2
    have q3 := blk_cell hbB1 3
    have q4 := blk_cell hbB1 4
    have q5 := blk_cell hbB1 5
    have q6 := blk_cell hbB1 6
    have q7 := blk_cell hbB1 7
    have q8 := blk_cell hbB1 8
    simp at q0 q1 q2 q3 q4 q5 q6 q7 q8
    go_wp2_with fail
    refine (c2.out _ hG1).mono ?_
    rintro e w2 ⟨rfl, hb2⟩
    clear q0 q1 q2 q3 q4 q5 q6 q7 q8
    have hG2 := hG1.trans (hb2.mono hG1.size)
    have hbB2 := blk_below hbB1 hb2
    have hlt2 := blk_lt hbB2
    have q0 := blk_cell hbB2 0
    have q1 := blk_cell hbB2 1
    have q2 := blk_cell hbB2 2
    have q3 := blk_cell hbB2 3
    have q4 := blk_cell hbB2 4
    have q5 := blk_cell hbB2 5
    have q6 := blk_cell hbB2 6
    have q7 := blk_cell hbB2 7
    have q8 := blk_cell hbB2 8
    simp at q0 q1 q2 q3 q4 q5 q6 q7 q8
    go_wp2_with fail
    refine (c3.out _).mono ?_
    rintro e w3 ⟨rfl, hb3⟩
    have hG3 := hG2.trans (hb3.mono hG2.size)
    go_wp2
    have hT := hcH.out
    refine bodyPost_ret (v := .tuple #[.string (bs (a ++ b)), .int .i64 0]) (by simp [results, Try.results57, go_sem, hT]) rfl ⟨rfl, hG3⟩
  · rw [if_pos hp] at hr
    subst hr
    generalize cutErr v xs = p at c1 hp
    have hpn : (p != 0) = true := by simpa using hp
    have c1 := Lib.hid c1
    have q0 := blk_cell hbB 0
    have q1 := blk_cell hbB 1
    have q2 := blk_cell hbB 2
    have q3 := blk_cell hbB 3
    have q4 := blk_cell hbB 4
    have q5 := blk_cell hbB 5
    have q6 := blk_cell hbB 6
    have q7 := blk_cell hbB 7
    have q8 := blk_cell hbB 8
    simp at q0 q1 q2 q3 q4 q5 q6 q7 q8
    go_enter Try.func57, Try.ntmps57
    go_wp2_with fail
    refine c1.out.mono ?_
    rintro e w1 ⟨rfl, hb⟩
    have hG1 := hb0.trans (hb.mono hb0.size)
    go_wp2
    refine bodyPost_ret (v := .tuple #[.string (bs []), .int .i64 p]) (by simp [results, Try.results57, go_sem, bs_nil]) rfl ⟨rfl, hG1⟩
end Go.Proofs.Ythfjbbijcemmoaa
