/- octet.Num, the document's Num: a number's bytes. -/
import Derived.Test.YthfjbbijcemmoaaRows
import Derived.Test.YthfjbbijcemmoaaOcD
import Derived.Deep.DeepCutAuto
import Derived.Deep.RegionHeld3
import Derived.Test.YthfjbbijcemmoaaKr
import Derived.Test.YthfjbbijcemmoaaSet
import Derived.Laws.IdiomStrings
import Derived.Deep.LoopGhost
import Derived.IntWalk
namespace Go.Proofs.Ythfjbbijcemmoaa
open Go.RowKit

theorem ret_str {a b : ByteArray} (h : a = b) : Ending.returned (.string a) = .returned (.string b) := by rw [h]
/-- Bytes as cells. -/
abbrev byC (l : List UInt8) : List Value := l.map fun c => Value.int .u8 (c.toNat : Int)
def numC (m : Nat) (t : List UInt8) : Array Value := (List.replicate (m + 1) (Value.int .u8 0) ++ byC t).toArray
theorem numC_set {m : Nat} {t : List UInt8} (c : UInt8) : (numC (m + 1) t).setIfInBounds (m + 1) (.int .u8 (c.toNat : Int)) = numC m (c :: t) := by
  unfold numC
  rw [List.replicate_succ']
  simp
theorem numC_last {m : Nat} {t : List UInt8} (c : UInt8) : (numC m t).setIfInBounds m (.int .u8 (c.toNat : Int)) = (List.replicate m (Value.int .u8 0) ++ byC (c :: t)).toArray := by
  unfold numC
  rw [List.replicate_succ']
  simp
theorem numC_at {m : Nat} {t : List UInt8} : (numC m t)[m]? = some (.int .u8 0) := by
  unfold numC
  simp only [List.getElem?_toArray]
  rw [List.getElem?_append_left (by simp)]
  simp

theorem slice9 (W : World) (g m : Nat) (hm : m < 9) :
    (Instr.sliceAt 122 (.pointer (some ⟨g, 0, none⟩)) (some (.int .i64 (m : Int))) none none).run Try.prog W = .ok (.slice (some ⟨g, m, none⟩) (9 - m) (9 - m)) W := by
  have h1 : Try.prog.arrayLen 122 = 9 := by kernel_rfl
  have h2 : Try.prog.elem 122 = 5 := by kernel_rfl
  have h3 : (sizeOf 5).run Try.prog W = .ok 1 W := by kernel_rfl
  rw [run_sliceAt_array_l W _ _ (by kernel_rfl) .i64 m (by omega) (by rw [h1]; omega), h1, h2, h3]
  simp [Result.andThen, slicedAt]
  rw [if_neg (by omega)]
  simp [Addr.add]
  intro h; exact h.symm
theorem conv_num {W : World} {g m : Nat} {t : List UInt8} (ht : t.length + m = 8) (cap : Nat) (h : W.heap[g]? = some (.cells (numC m t) 122 (0, 0))) :
    (convert 124 9 (.slice (some ⟨g, m, none⟩) (9 - m) cap)).run Try.prog (W.setCell ⟨g, m, none⟩ (.int .u8 (9 - (m + 1 : Int)))) = .ok (.string (bs (UInt8.ofNat t.length :: t))) (W.setCell ⟨g, m, none⟩ (.int .u8 (9 - (m + 1 : Int)))) := by
  have e0 : (9 - (m + 1 : Int)) = ((UInt8.ofNat t.length).toNat : Int) := by simp; omega
  rw [e0]
  have hb := blk_set h m (.int .u8 ((UInt8.ofNat t.length).toNat : Int))
  rw [numC_last] at hb
  have h9 : 9 - m = (UInt8.ofNat t.length :: t).length := by simp; omega
  rw [h9]
  refine run_convert_bytes_back _ _ _ 5 ⟨g, m, none⟩ cap _ Try.underlying124 Try.underlying5 Try.underlying9 ?_
  intro j hj
  rw [show (⟨g, m, none⟩ : Addr).add j = ⟨g, m + j, none⟩ from by simp [Addr.add], blk_cell hb]
  simp only [List.getElem?_toArray]
  rw [List.getElem?_append_right (by simp)]
  simp only [List.length_replicate, Nat.add_sub_cancel_left, List.getElem?_map, List.getElem?_eq_getElem hj, Option.map_some]

set_option maxRecDepth 100000 in
set_option maxHeartbeats 1000000 in
theorem num_any (v : Nat) (hv : v < 18446744073709551616) (w : World) :
    Calls Try.prog 83 #[.int .u64 (v : Int)] w fun e w' => e = .returned (.string (bs (numB v))) ∧ Below w.heap.size w w' := by
  have hlen : (beD v).length ≤ 8 := beD_len 8 v (by simpa using hv)
  have hvH := Lib.hid hv
  clear hv
  go_enter Try.func83, Try.ntmps83
  go_wp2_with fail
  go_loopg [0, 4] 9 (fun g x i wr => ∃ (m y : Nat) (t : List UInt8), g = m + 1 ∧ t.length + m = 8 ∧ x = .int .u64 (y : Int) ∧ i = .int .i64 (m + 1 : Int) ∧ beD v = beD y ++ t ∧ wr.heap[w.heap.size]? = some (.cells (numC m t) 122 (0, 0)) ∧ Below w.heap.size w wr)
  case atStart => exact ⟨8, v, [], rfl, rfl, rfl, rfl, by simp, heap_at _ _ rfl, (Below.refl _ _).alloc (Nat.le_refl _) _⟩
  case round =>
    obtain ⟨m, y, t, rfl, ht, rfl, rfl, hbe, hbl, hb⟩ := hrel
    have hlt := blk_lt hbl
    have hfr := blk_frozen hbl
    by_cases hy : y = 0
    · subst hy
      rw [beD_zero, List.nil_append] at hbe
      have hcm : wr.cell? ⟨w.heap.size, m, none⟩ = some (.int .u8 0) := by rw [blk_cell hbl]; exact numC_at
      have hm8 : m ≤ 8 := by omega
      have hbeH := Lib.hid hbe
      have htH := Lib.hid ht
      clear hbe ht
      have hsl := fun W => slice9 W w.heap.size m (by omega)
      have hcv := conv_num (cap := 9 - m) htH.out hbl
      have hT : Hid (bs (UInt8.ofNat t.length :: t) = bs (numB v)) := Lib.hid (by unfold numB; rw [hbeH.out])
      have hB : Below w.heap.size w (wr.setCell ⟨w.heap.size, m, none⟩ (.int .u8 (9 - (m + 1 : Int)))) := hb.setCell (Nat.le_refl _) _
      go_wp2
      go_ret
      exact ⟨ret_str hT.out, hB⟩
    · have hpos : (0 : Int) < (y : Int) := by omega
      have hbp := beD_pos hy
      have hm : ∃ m', m = m' + 1 := by
        rw [hbe, List.length_append, hbp, List.length_append] at hlen
        simp at hlen
        exact ⟨m - 1, by omega⟩
      obtain ⟨m', rfl⟩ := hm
      have hcm : wr.cell? ⟨w.heap.size, m' + 1, none⟩ = some (.int .u8 0) := by rw [blk_cell hbl]; exact numC_at
      have hm8 : m' ≤ 7 := by omega
      rw [hbp, List.append_assoc, List.singleton_append] at hbe
      have hbeH := Lib.hid hbe
      have htH := Lib.hid ht
      have hlenH := Lib.hid hlen
      have e1 : Hid ((y : Int) % 256 = ((UInt8.ofNat (y % 256)).toNat : Int)) := Lib.hid (by simp)
      have e2 : Hid ((y : Int) / 256 = ((y / 256 : Nat) : Int)) := Lib.hid (by omega)
      clear hbe ht hbp hlen hy
      go_wp2
      go_roundg (m' + 1)
      case measure => omega
      case rel =>
        refine ⟨m', y / 256, UInt8.ofNat (y % 256) :: t, rfl, by have := htH.out; simp; omega, by rw [e2.out], by go_num, hbeH.out, ?_, ?_⟩
        · rw [e1.out, blk_set hbl, numC_set]
        · exact hb.setCell (Nat.le_refl _) _
end Go.Proofs.Ythfjbbijcemmoaa
