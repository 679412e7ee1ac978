/- tree.Only and the document's: a transaction with the parts alone that lie within interests. -/
import Derived.Test.YtelipindcacphaaDoorFh
import Derived.Test.YtelipindcacphaaDoorFc
import Derived.Test.YtelipindcacphaaDoorHe
namespace Go.Proofs.YtelipindcacphaaDoor
open Go.RowKit

theorem tonly1_any (b : Nat) (A : Option Addr) (n c : Nat) (xs : List (List UInt8)) (key : List UInt8) (w : World) (hA : RdS w w.heap.size A n xs) (hn : n ≤ maxLen) (hx : ∀ x ∈ xs, x.length ≤ 1099511627776) (hp : key.length ≤ maxLen) (hb : w.heap[b]? = some (.cells #[.slice A n c] 22 (0, 0))) :
    Calls Tryd.prog 34 #[.string (bs key), .pointer (some ⟨b, 0, none⟩)] w fun e w' => e = .returned (.bool (hasW xs key)) ∧ Below w.heap.size w w' := by
  have c0 := blk_cell hb 0
  simp at c0
  have h := thas_any A n c xs key w hA hn hx hp
  generalize hasW xs key = r at h
  clear hb
  go_enter Tryd.func34, Tryd.ntmps34
  go_wp2_with fail
  refine h.mono ?_
  rintro e w' ⟨rfl, hv⟩
  go_wp2
  go_ret
  exact ⟨rfl, hv⟩
/-- What Only leaves of parts; whether it is thin then. -/
def onlyPs (ps : List Pv) (xs : List (List UInt8)) : List Pv := ps.filter fun p => hasW xs p.1
def onlyT (t : Bool) (ps : List Pv) (xs : List (List UInt8)) : Bool := t || ps.any fun p => !hasW xs p.1
set_option maxRecDepth 100000 in
set_option maxHeartbeats 1000000 in
theorem tonly_any (x : Im) (v : Vm) (t : Bool) (A : Option Addr) (n c : Nat) (ps : List Pe) (B : Option Addr) (m d : Nat) (xs : List (List UInt8)) (w : World) (hA : RdE w w.heap.size A n ps) (hn : n ≤ 1000) (hl : ∀ p ∈ ps, p.l ≤ 4096) (hk : ∀ p ∈ ps, p.key.length ≤ maxLen) (hB : RdS w w.heap.size B m xs) (hm : m ≤ maxLen) (hx : ∀ x ∈ xs, x.length ≤ 1099511627776) :
    Calls Tryd.prog 14 #[.agg #[.int .i64 x.1, .int .u32 x.2, .int .u32 v.d0, .int .u32 v.d1, .int .u32 v.d2, .int .u32 v.d3, .int .u32 v.d4, .int .u32 v.d5, .int .u32 v.d6, .int .u32 v.d7, .bool t, .slice A n c], .slice B m d] w
      fun e w' => ∃ A' n' c' qs, e = .returned (.agg #[.int .i64 x.1, .int .u32 x.2, .int .u32 v.d0, .int .u32 v.d1, .int .u32 v.d2, .int .u32 v.d3, .int .u32 v.d4, .int .u32 v.d5, .int .u32 v.d6, .int .u32 v.d7, .bool (onlyT t (ps.map Pe.core) xs), .slice A' n' c']) ∧ OwE 82 w' w.heap.size A' n' c' qs ∧ qs.map Pe.core = onlyPs (ps.map Pe.core) xs ∧ Below w.heap.size w w' := by
  have hb0 : Below w.heap.size w (((w.alloc (.cells #[.int .i64 x.1, .int .u32 x.2, .int .u32 v.d0, .int .u32 v.d1, .int .u32 v.d2, .int .u32 v.d3, .int .u32 v.d4, .int .u32 v.d5, .int .u32 v.d6, .int .u32 v.d7, .bool t, .slice A n c] 43)).alloc (.cells #[.slice B m d] 22)).alloc (.cells #[.int .i64 0, .int .u32 0, .int .u32 0, .int .u32 0, .int .u32 0, .int .u32 0, .int .u32 0, .int .u32 0, .int .u32 0, .int .u32 0, .bool false, .slice none 0 0] 43)) := (((Below.refl _ w).alloc (Nat.le_refl _) _).alloc (by simp) _).alloc (by simp; omega) _
  have hbx : (((w.alloc (.cells #[.int .i64 x.1, .int .u32 x.2, .int .u32 v.d0, .int .u32 v.d1, .int .u32 v.d2, .int .u32 v.d3, .int .u32 v.d4, .int .u32 v.d5, .int .u32 v.d6, .int .u32 v.d7, .bool t, .slice A n c] 43)).alloc (.cells #[.slice B m d] 22)).alloc (.cells #[.int .i64 0, .int .u32 0, .int .u32 0, .int .u32 0, .int .u32 0, .int .u32 0, .int .u32 0, .int .u32 0, .int .u32 0, .int .u32 0, .bool false, .slice none 0 0] 43)).heap[w.heap.size + 1]? = some (.cells #[.slice B m d] 22 (0, 0)) := heap_old _ (by simp) (heap_at _ _ (by simp))
  have hbr : (((w.alloc (.cells #[.int .i64 x.1, .int .u32 x.2, .int .u32 v.d0, .int .u32 v.d1, .int .u32 v.d2, .int .u32 v.d3, .int .u32 v.d4, .int .u32 v.d5, .int .u32 v.d6, .int .u32 v.d7, .bool t, .slice A n c] 43)).alloc (.cells #[.slice B m d] 22)).alloc (.cells #[.int .i64 0, .int .u32 0, .int .u32 0, .int .u32 0, .int .u32 0, .int .u32 0, .int .u32 0, .int .u32 0, .int .u32 0, .int .u32 0, .bool false, .slice none 0 0] 43)).heap[w.heap.size + 1 + 1]? = some (.cells #[.int .i64 0, .int .u32 0, .int .u32 0, .int .u32 0, .int .u32 0, .int .u32 0, .int .u32 0, .int .u32 0, .int .u32 0, .int .u32 0, .bool false, .slice none 0 0] 43) := heap_at _ _ (by simp)
  have hbt : (((w.alloc (.cells #[.int .i64 x.1, .int .u32 x.2, .int .u32 v.d0, .int .u32 v.d1, .int .u32 v.d2, .int .u32 v.d3, .int .u32 v.d4, .int .u32 v.d5, .int .u32 v.d6, .int .u32 v.d7, .bool t, .slice A n c] 43)).alloc (.cells #[.slice B m d] 22)).alloc (.cells #[.int .i64 0, .int .u32 0, .int .u32 0, .int .u32 0, .int .u32 0, .int .u32 0, .int .u32 0, .int .u32 0, .int .u32 0, .int .u32 0, .bool false, .slice none 0 0] 43)).heap[w.heap.size]? = some (.cells #[.int .i64 x.1, .int .u32 x.2, .int .u32 v.d0, .int .u32 v.d1, .int .u32 v.d2, .int .u32 v.d3, .int .u32 v.d4, .int .u32 v.d5, .int .u32 v.d6, .int .u32 v.d7, .bool t, .slice A n c] 43 (0, 0)) := heap_old _ (by simp; omega) (heap_old _ (by simp) (heap_at _ _ rfl))
  generalize hW : (((w.alloc (.cells #[.int .i64 x.1, .int .u32 x.2, .int .u32 v.d0, .int .u32 v.d1, .int .u32 v.d2, .int .u32 v.d3, .int .u32 v.d4, .int .u32 v.d5, .int .u32 v.d6, .int .u32 v.d7, .bool t, .slice A n c] 43)).alloc (.cells #[.slice B m d] 22)).alloc (.cells #[.int .i64 0, .int .u32 0, .int .u32 0, .int .u32 0, .int .u32 0, .int .u32 0, .int .u32 0, .int .u32 0, .int .u32 0, .int .u32 0, .bool false, .slice none 0 0] 43)) = W at hb0 hbx hbr hbt
  have hz := hb0.size
  have hWs : W.heap.size = w.heap.size + 3 := by rw [← hW]; simp
  have hO := txonly_any 34 #[.pointer (some ⟨w.heap.size + 1, 0, none⟩)] (fun k => hasW xs k) (enters_of Tryd.func34 (by kernel_rfl) rfl) W.heap.size x v t A n c ps W ((hA.below hb0).more hz) hn hl
    (fun p hp w' hb => tonly1_any (w.heap.size + 1) B m d xs p.key w' ((hB.below (hb0.trans (hb.mono hz))).more (hb0.trans (hb.mono hz)).size) hm hx (hk p hp) ((hb.block _ (blk_lt hbx)).trans hbx)) (Nat.le_refl _)
  have hf1 : (ps.any fun p => !hasW xs p.key) = (ps.map Pe.core).any fun p => !hasW xs p.1 := by rw [List.any_map]; rfl
  rw [hf1] at hO
  generalize htt : onlyT t (ps.map Pe.core) xs = tt
  rw [show (t || (ps.map Pe.core).any fun p => !hasW xs p.1) = tt from htt] at hO
  have hOH := Lib.hid hO
  have hbrH := Lib.hid hbr
  have hWsH := Lib.hid hWs
  have q0 := blk_cell hbt 0
  have q1 := blk_cell hbt 1
  have q2 := blk_cell hbt 2
  have q3 := blk_cell hbt 3
  have q4 := blk_cell hbt 4
  have q5 := blk_cell hbt 5
  have q6 := blk_cell hbt 6
  have q7 := blk_cell hbt 7
  have q8 := blk_cell hbt 8
  have q9 := blk_cell hbt 9
  have q10 := blk_cell hbt 10
  have q11 := blk_cell hbt 11
  simp at q0 q1 q2 q3 q4 q5 q6 q7 q8 q9 q10 q11
  have hlt := blk_lt hbt
  clear hO hbx hbr hA hB hf1 hbt hWs htt
  go_enter Tryd.func14, Tryd.ntmps14
  go_wp2_with fail
  refine hOH.out.mono ?_
  rintro e w1 ⟨A', n', c', qs, rfl, ho, hq, hb1⟩
  have hr1 := blk_below hbrH.out hb1
  have hltr := blk_lt hr1
  have hfr := blk_frozen hr1
  have r0 := blk_cell hr1 0
  have r1 := blk_cell hr1 1
  have r2 := blk_cell hr1 2
  have r3 := blk_cell hr1 3
  have r4 := blk_cell hr1 4
  have r5 := blk_cell hr1 5
  have r6 := blk_cell hr1 6
  have r7 := blk_cell hr1 7
  have r8 := blk_cell hr1 8
  have r9 := blk_cell hr1 9
  have r10 := blk_cell hr1 10
  have r11 := blk_cell hr1 11
  simp at r0 r1 r2 r3 r4 r5 r6 r7 r8 r9 r10 r11
  have hG := hb0.trans (hb1.mono hz)
  go_wp2
  refine bodyPost_ret (v := .agg #[.int .i64 x.1, .int .u32 x.2, .int .u32 v.d0, .int .u32 v.d1, .int .u32 v.d2, .int .u32 v.d3, .int .u32 v.d4, .int .u32 v.d5, .int .u32 v.d6, .int .u32 v.d7, .bool tt, .slice A' n' c']) (by simp [results, Tryd.results14, go_sem, r0, r1, r2, r3, r4, r5, r6, r7, r8, r9, r10, r11]) rfl ?_
  refine ⟨A', n', c', ?_⟩
  refine ⟨qs, rfl, ⟨?_, fun q hq => ?_⟩, ?_, ?_⟩
  · refine Ow.base (base := W.heap.size) ?_ hz
    (repeat (with_reducible refine Ow.setCell ?_ (by have := hWsH.out; simp; omega) _))
    exact ho.1
  · refine Ow.base (base := W.heap.size) ?_ hz
    (repeat (with_reducible refine Ow.setCell ?_ (by have := hWsH.out; simp; omega) _))
    exact ho.2 q hq
  · rw [hq]; rfl
  · repeat (with_reducible refine Below.setCell ?_ (by simp; omega) _)
    exact hG
end Go.Proofs.YtelipindcacphaaDoor
