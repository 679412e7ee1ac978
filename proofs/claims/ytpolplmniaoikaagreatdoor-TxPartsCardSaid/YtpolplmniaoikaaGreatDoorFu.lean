/- Time and Sees of transactions, both; the statements' own wanted and only. -/
import Derived.Test.YtpolplmniaoikaaGreatDoorM41
import Derived.Test.YtpolplmniaoikaaGreatDoorDtF
import Derived.Test.YtpolplmniaoikaaGreatDoorM29
namespace Go.Proofs.YtpolplmniaoikaaGreatDoor
open Go.RowKit

/-- The last time of parts' stamps. -/
def timeT (ps : List Pv) : Int := ps.foldl (fun m p => if m < p.2.st.1 then p.2.st.1 else m) 0
def seesT (x : Im) (v : Vm) (y : Im) : Bool := (decide (y.1 = x.1) && decide (y.2 = x.2)) || hasV v y
def wantK (ks : List (List UInt8)) (k : List UInt8) : Bool := ks.any fun x => decide (x = k)
/-- What is left of parts by keys; whether it is thin then. -/
def leavePs (ps : List Pv) (ks : List (List UInt8)) (b : Bool) : List Pv := ps.filter fun p => wantK ks p.1 == b
def leaveT (t : Bool) (ps : List Pv) (ks : List (List UInt8)) (b : Bool) : Bool := t || ps.any fun p => !(wantK ks p.1 == b)
theorem timeT_step (ps : List Pe) {k : Nat} {p : Pe} (h : ps[k]? = some p) : timeT ((ps.take (k + 1)).map Pe.core) = if timeT ((ps.take k).map Pe.core) < p.e.st.1 then p.e.st.1 else timeT ((ps.take k).map Pe.core) := by
  unfold timeT
  rw [List.take_add_one, h, List.map_append, List.foldl_append]
  rfl
set_option maxRecDepth 100000 in
set_option maxHeartbeats 1000000 in
theorem txtime_any (x : Im) (v : Vm) (t : Bool) (A : Option Addr) (n c : Nat) (ps : List Pe) (w : World) (hA : RdE w w.heap.size A n ps) (hn : n ≤ maxLen) :
    Calls Tryz.prog 24 #[.agg #[.int .i64 x.1, .int .u32 x.2, .int .u32 v.d0, .int .u32 v.d1, .int .u32 v.d2, .int .u32 v.d3, .int .u32 v.d4, .int .u32 v.d5, .int .u32 v.d6, .int .u32 v.d7, .bool t, .slice A n c]] w fun e w' => e = .returned (.int .u32 (timeT (ps.map Pe.core))) ∧ Below w.heap.size w w' := by
  unfold maxLen at hn
  have hb0 : Below w.heap.size w (w.alloc (.cells #[.int .i64 x.1, .int .u32 x.2, .int .u32 v.d0, .int .u32 v.d1, .int .u32 v.d2, .int .u32 v.d3, .int .u32 v.d4, .int .u32 v.d5, .int .u32 v.d6, .int .u32 v.d7, .bool t, .slice A n c] 36)) := (Below.refl _ w).alloc (Nat.le_refl _) _
  have hbt : (w.alloc (.cells #[.int .i64 x.1, .int .u32 x.2, .int .u32 v.d0, .int .u32 v.d1, .int .u32 v.d2, .int .u32 v.d3, .int .u32 v.d4, .int .u32 v.d5, .int .u32 v.d6, .int .u32 v.d7, .bool t, .slice A n c] 36)).heap[w.heap.size]? = some (.cells #[.int .i64 x.1, .int .u32 x.2, .int .u32 v.d0, .int .u32 v.d1, .int .u32 v.d2, .int .u32 v.d3, .int .u32 v.d4, .int .u32 v.d5, .int .u32 v.d6, .int .u32 v.d7, .bool t, .slice A n c] 36 (0, 0)) := heap_at _ _ rfl
  generalize hWe : (w.alloc (.cells #[.int .i64 x.1, .int .u32 x.2, .int .u32 v.d0, .int .u32 v.d1, .int .u32 v.d2, .int .u32 v.d3, .int .u32 v.d4, .int .u32 v.d5, .int .u32 v.d6, .int .u32 v.d7, .bool t, .slice A n c] 36)) = W at hb0 hbt
  have hz0 := hb0.size
  have hbtH := Lib.hid hbt
  have hlen := Lib.hid hA.len
  have hAr := Lib.hid (fun w' (h : Below w.heap.size w w') => hA.below h)
  generalize hr : timeT (ps.map Pe.core) = r
  have hrH := Lib.hid hr
  have q11 := blk_cell hbt 11
  simp at q11
  have hltq := blk_lt hbt
  clear hA hbt hr
  go_enter Tryz.func24, Tryz.ntmps24
  go_wp2_with fail
  go_loopg [3, 9] (n + 1) (fun g l0 i wr => ∃ (m : Nat) (z : Int), m ≤ n ∧ g = n + 1 - m ∧ l0 = .int .u32 z ∧ i = .int .i64 (m : Int) ∧ z = timeT ((ps.take m).map Pe.core) ∧ Below W.heap.size W wr)
  case atStart => exact ⟨0, 0, Nat.zero_le _, rfl, rfl, rfl, rfl, Below.refl _ _⟩
  case round =>
    obtain ⟨m, z, hm, rfl, rfl, rfl, hz, hbr⟩ := hrel
    have hGr := hb0.trans (hbr.mono hz0)
    have hbtr := blk_below hbtH.out hbr
    clear q11 hltq
    have hltq := blk_lt hbtr
    have q11 := blk_cell hbtr 11
    simp at q11
    clear hbtr
    have hzH := Lib.hid hz
    clear hz
    by_cases hlt : m < n
    · obtain ⟨bA, oA, p, rfl, hbA, hp, hcp⟩ := (hAr.out wr hGr).1.at_ hlt
      have p0 := hcp 0 _ rfl
      have p1 := hcp 1 _ rfl
      have p2 := hcp 2 _ rfl
      have p3 := hcp 3 _ rfl
      have p4 := hcp 4 _ rfl
      have p5 := hcp 5 _ rfl
      have p6 := hcp 6 _ rfl
      have p7 := hcp 7 _ rfl
      have p8 := hcp 8 _ rfl
      have p9 := hcp 9 _ rfl
      rw [Nat.add_zero] at p0
      clear hcp
      have hbA2 : bA < wr.heap.size := by have := hGr.size; omega
      have hlti : (m : Int) < (n : Int) := by omega
      have hst := timeT_step ps hp
      rw [← hzH.out] at hst
      have hstH := Lib.hid hst
      clear hp hst
      by_cases hmx : z < p.e.st.1
      · have hT : Hid (p.e.st.1 = timeT ((ps.take (m + 1)).map Pe.core)) := Lib.hid (by rw [hstH.out, if_pos hmx])
        have hmb : decide (z < p.e.st.1) = true := decide_eq_true hmx
        have hmb2 : decide (p.e.st.1 < z) = false := decide_eq_false (by omega)
        have hmx2 : max z p.e.st.1 = p.e.st.1 := by omega
        have hmx3 : ¬ p.e.st.1 < z := by omega
        go_wp2
        go_roundg (n + 1 - (m + 1))
        case measure => omega
        case rel => exact ⟨m + 1, p.e.st.1, by omega, rfl, by first | rfl | (congr 1; omega), by go_num, hT.out, by first | exact hbr | exact hbr.alloc hbr.size _⟩
      · have hT : Hid (z = timeT ((ps.take (m + 1)).map Pe.core)) := Lib.hid (by rw [hstH.out, if_neg hmx])
        have hmb : decide (z < p.e.st.1) = false := decide_eq_false hmx
        have hmx2 : max z p.e.st.1 = z := by omega
        go_wp2
        go_roundg (n + 1 - (m + 1))
        case measure => omega
        case rel => exact ⟨m + 1, z, by omega, rfl, by first | rfl | (congr 1; omega), by go_num, hT.out, by first | exact hbr | exact hbr.alloc hbr.size _⟩
    · obtain rfl : m = n := by omega
      have hnli : ¬ (m : Int) < (m : Int) := by omega
      have hT : Hid (z = r) := Lib.hid (by rw [hzH.out, List.take_of_length_le (by have := hlen.out; omega)]; exact hrH.out)
      go_wp2
      go_ret
      exact ⟨ret_int hT.out, hGr⟩
set_option maxRecDepth 100000 in
set_option maxHeartbeats 1000000 in
theorem rtxtime_any (x : Im) (v : Vm) (t : Bool) (A : Option Addr) (n c : Nat) (ps : List Pe) (w : World) (hA : RdE w w.heap.size A n ps) (hn : n ≤ maxLen) :
    Calls Tryz.prog 25 #[.agg #[.int .i64 x.1, .int .u32 x.2, .int .u32 v.d0, .int .u32 v.d1, .int .u32 v.d2, .int .u32 v.d3, .int .u32 v.d4, .int .u32 v.d5, .int .u32 v.d6, .int .u32 v.d7, .bool t, .slice A n c]] w fun e w' => e = .returned (.int .u32 (timeT (ps.map Pe.core))) ∧ Below w.heap.size w w' := by
  unfold maxLen at hn
  have hb0 : Below w.heap.size w (w.alloc (.cells #[.int .i64 x.1, .int .u32 x.2, .int .u32 v.d0, .int .u32 v.d1, .int .u32 v.d2, .int .u32 v.d3, .int .u32 v.d4, .int .u32 v.d5, .int .u32 v.d6, .int .u32 v.d7, .bool t, .slice A n c] 29)) := (Below.refl _ w).alloc (Nat.le_refl _) _
  have hbt : (w.alloc (.cells #[.int .i64 x.1, .int .u32 x.2, .int .u32 v.d0, .int .u32 v.d1, .int .u32 v.d2, .int .u32 v.d3, .int .u32 v.d4, .int .u32 v.d5, .int .u32 v.d6, .int .u32 v.d7, .bool t, .slice A n c] 29)).heap[w.heap.size]? = some (.cells #[.int .i64 x.1, .int .u32 x.2, .int .u32 v.d0, .int .u32 v.d1, .int .u32 v.d2, .int .u32 v.d3, .int .u32 v.d4, .int .u32 v.d5, .int .u32 v.d6, .int .u32 v.d7, .bool t, .slice A n c] 29 (0, 0)) := heap_at _ _ rfl
  generalize hWe : (w.alloc (.cells #[.int .i64 x.1, .int .u32 x.2, .int .u32 v.d0, .int .u32 v.d1, .int .u32 v.d2, .int .u32 v.d3, .int .u32 v.d4, .int .u32 v.d5, .int .u32 v.d6, .int .u32 v.d7, .bool t, .slice A n c] 29)) = W at hb0 hbt
  have hz0 := hb0.size
  have hbtH := Lib.hid hbt
  have hlen := Lib.hid hA.len
  have hAr := Lib.hid (fun w' (h : Below w.heap.size w w') => hA.below h)
  generalize hr : timeT (ps.map Pe.core) = r
  have hrH := Lib.hid hr
  have q11 := blk_cell hbt 11
  simp at q11
  have hltq := blk_lt hbt
  clear hA hbt hr
  go_enter Tryz.func25, Tryz.ntmps25
  go_wp2_with fail
  go_loopg [3, 4] (n + 1) (fun g l0 i wr => ∃ (m : Nat) (z : Int), m ≤ n ∧ g = n + 1 - m ∧ l0 = .int .u32 z ∧ i = .int .i64 (m : Int) ∧ z = timeT ((ps.take m).map Pe.core) ∧ Below W.heap.size W wr)
  case atStart => exact ⟨0, 0, Nat.zero_le _, rfl, rfl, rfl, rfl, Below.refl _ _⟩
  case round =>
    obtain ⟨m, z, hm, rfl, rfl, rfl, hz, hbr⟩ := hrel
    have hGr := hb0.trans (hbr.mono hz0)
    have hbtr := blk_below hbtH.out hbr
    clear q11 hltq
    have hltq := blk_lt hbtr
    have q11 := blk_cell hbtr 11
    simp at q11
    clear hbtr
    have hzH := Lib.hid hz
    clear hz
    by_cases hlt : m < n
    · obtain ⟨bA, oA, p, rfl, hbA, hp, hcp⟩ := (hAr.out wr hGr).1.at_ hlt
      have p0 := hcp 0 _ rfl
      have p1 := hcp 1 _ rfl
      have p2 := hcp 2 _ rfl
      have p3 := hcp 3 _ rfl
      have p4 := hcp 4 _ rfl
      have p5 := hcp 5 _ rfl
      have p6 := hcp 6 _ rfl
      have p7 := hcp 7 _ rfl
      have p8 := hcp 8 _ rfl
      have p9 := hcp 9 _ rfl
      rw [Nat.add_zero] at p0
      clear hcp
      have hbA2 : bA < wr.heap.size := by have := hGr.size; omega
      have hlti : (m : Int) < (n : Int) := by omega
      have hst := timeT_step ps hp
      rw [← hzH.out] at hst
      have hstH := Lib.hid hst
      clear hp hst
      by_cases hmx : z < p.e.st.1
      · have hT : Hid (p.e.st.1 = timeT ((ps.take (m + 1)).map Pe.core)) := Lib.hid (by rw [hstH.out, if_pos hmx])
        have hmb : decide (z < p.e.st.1) = true := decide_eq_true hmx
        have hmb2 : decide (p.e.st.1 < z) = false := decide_eq_false (by omega)
        have hmx2 : max z p.e.st.1 = p.e.st.1 := by omega
        have hmx3 : ¬ p.e.st.1 < z := by omega
        go_wp2
        go_roundg (n + 1 - (m + 1))
        case measure => omega
        case rel => exact ⟨m + 1, p.e.st.1, by omega, rfl, by first | rfl | (congr 1; omega), by go_num, hT.out, by first | exact hbr | exact hbr.alloc hbr.size _⟩
      · have hT : Hid (z = timeT ((ps.take (m + 1)).map Pe.core)) := Lib.hid (by rw [hstH.out, if_neg hmx])
        have hmb : decide (z < p.e.st.1) = false := decide_eq_false hmx
        have hmx2 : max z p.e.st.1 = z := by omega
        go_wp2
        go_roundg (n + 1 - (m + 1))
        case measure => omega
        case rel => exact ⟨m + 1, z, by omega, rfl, by first | rfl | (congr 1; omega), by go_num, hT.out, by first | exact hbr | exact hbr.alloc hbr.size _⟩
    · obtain rfl : m = n := by omega
      have hnli : ¬ (m : Int) < (m : Int) := by omega
      have hT : Hid (z = r) := Lib.hid (by rw [hzH.out, List.take_of_length_le (by have := hlen.out; omega)]; exact hrH.out)
      go_wp2
      go_ret
      exact ⟨ret_int hT.out, hGr⟩
set_option maxRecDepth 100000 in
set_option maxHeartbeats 1000000 in
theorem txsees_any (x : Im) (v : Vm) (t : Bool) (A : Option Addr) (n c : Nat) (y : Im) (w : World) (hy : y.wf) :
    Calls Tryz.prog 26 #[.agg #[.int .i64 x.1, .int .u32 x.2, .int .u32 v.d0, .int .u32 v.d1, .int .u32 v.d2, .int .u32 v.d3, .int .u32 v.d4, .int .u32 v.d5, .int .u32 v.d6, .int .u32 v.d7, .bool t, .slice A n c], .agg #[.int .i64 y.1, .int .u32 y.2]] w fun e w' => e = .returned (.bool (seesT x v y)) ∧ Below w.heap.size w w' := by
  have cH := Lib.hid (vhas_any v y hy)
  obtain ⟨x1, x2⟩ := x
  obtain ⟨y1, y2⟩ := y
  have hb0 : Below w.heap.size w ((w.alloc (.cells #[.int .i64 x1, .int .u32 x2, .int .u32 v.d0, .int .u32 v.d1, .int .u32 v.d2, .int .u32 v.d3, .int .u32 v.d4, .int .u32 v.d5, .int .u32 v.d6, .int .u32 v.d7, .bool t, .slice A n c] 36)).alloc (.cells #[.int .i64 y1, .int .u32 y2] 24)) := ((Below.refl _ w).alloc (Nat.le_refl _) _).alloc (by simp) _
  generalize hr : seesT (x1, x2) v (y1, y2) = r
  unfold seesT at hr
  dsimp only at hr cH ⊢
  generalize hasV v (y1, y2) = hv at cH hr
  have hrH := Lib.hid hr
  clear hr hy
  by_cases h1 : y1 = x1
  · subst h1
    by_cases h2 : y2 = x2
    · subst h2
      have hT : Hid (true = r) := Lib.hid (by have := hrH.out; simpa using this)
      go_enter Tryz.func26, Tryz.ntmps26
      go_wp2
      go_ret
      exact ⟨ret_bool hT.out, hb0⟩
    · have hT : Hid (hv = r) := Lib.hid (by have := hrH.out; rw [decide_eq_false h2] at this; simpa using this)
      go_enter Tryz.func26, Tryz.ntmps26
      go_wp2_with fail
      refine (cH.out _).mono ?_
      rintro e w1 ⟨rfl, hb1⟩
      have hG := hb0.trans (hb1.mono hb0.size)
      go_wp2
      go_ret
      exact ⟨ret_bool hT.out, hG⟩
  · have hT : Hid (hv = r) := Lib.hid (by have := hrH.out; rw [decide_eq_false h1] at this; simpa using this)
    go_enter Tryz.func26, Tryz.ntmps26
    go_wp2_with fail
    refine (cH.out _).mono ?_
    rintro e w1 ⟨rfl, hb1⟩
    have hG := hb0.trans (hb1.mono hb0.size)
    go_wp2
    go_ret
    exact ⟨ret_bool hT.out, hG⟩
set_option maxRecDepth 100000 in
set_option maxHeartbeats 1000000 in
theorem rtxsees_any (x : Im) (v : Vm) (t : Bool) (A : Option Addr) (n c : Nat) (y : Im) (w : World) (hy : y.wf) :
    Calls Tryz.prog 27 #[.agg #[.int .i64 x.1, .int .u32 x.2, .int .u32 v.d0, .int .u32 v.d1, .int .u32 v.d2, .int .u32 v.d3, .int .u32 v.d4, .int .u32 v.d5, .int .u32 v.d6, .int .u32 v.d7, .bool t, .slice A n c], .agg #[.int .i64 y.1, .int .u32 y.2]] w fun e w' => e = .returned (.bool (seesT x v y)) ∧ Below w.heap.size w w' := by
  have cH := Lib.hid (rvhas_any v y hy)
  obtain ⟨x1, x2⟩ := x
  obtain ⟨y1, y2⟩ := y
  have hb0 : Below w.heap.size w ((w.alloc (.cells #[.int .i64 x1, .int .u32 x2, .int .u32 v.d0, .int .u32 v.d1, .int .u32 v.d2, .int .u32 v.d3, .int .u32 v.d4, .int .u32 v.d5, .int .u32 v.d6, .int .u32 v.d7, .bool t, .slice A n c] 29)).alloc (.cells #[.int .i64 y1, .int .u32 y2] 24)) := ((Below.refl _ w).alloc (Nat.le_refl _) _).alloc (by simp) _
  generalize hr : seesT (x1, x2) v (y1, y2) = r
  unfold seesT at hr
  dsimp only at hr cH ⊢
  generalize hasV v (y1, y2) = hv at cH hr
  have hrH := Lib.hid hr
  clear hr hy
  by_cases h1 : y1 = x1
  · subst h1
    by_cases h2 : y2 = x2
    · subst h2
      have hT : Hid (true = r) := Lib.hid (by have := hrH.out; simpa using this)
      go_enter Tryz.func27, Tryz.ntmps27
      go_wp2
      go_ret
      exact ⟨ret_bool hT.out, hb0⟩
    · have hT : Hid (hv = r) := Lib.hid (by have := hrH.out; rw [decide_eq_false h2] at this; simpa using this)
      go_enter Tryz.func27, Tryz.ntmps27
      go_wp2_with fail
      refine (cH.out _).mono ?_
      rintro e w1 ⟨rfl, hb1⟩
      have hG := hb0.trans (hb1.mono hb0.size)
      go_wp2
      go_ret
      exact ⟨ret_bool hT.out, hG⟩
  · have hT : Hid (hv = r) := Lib.hid (by have := hrH.out; rw [decide_eq_false h1] at this; simpa using this)
    go_enter Tryz.func27, Tryz.ntmps27
    go_wp2_with fail
    refine (cH.out _).mono ?_
    rintro e w1 ⟨rfl, hb1⟩
    have hG := hb0.trans (hb1.mono hb0.size)
    go_wp2
    go_ret
    exact ⟨ret_bool hT.out, hG⟩
set_option maxRecDepth 100000 in
theorem wantk_any (A : Option Addr) (n c : Nat) (xs : List (List UInt8)) (key : List UInt8) (w : World) (hA : RdS w w.heap.size A n xs) (hn : n ≤ maxLen) :
    Calls Tryz.prog 75 #[.slice A n c, .string (bs key)] w fun e w' => e = .returned (.bool (wantK xs key)) ∧ Below w.heap.size w w' := by
  unfold maxLen at hn
  generalize hr : wantK xs key = r
  have hrH := Lib.hid hr
  clear hr
  have hl := hA.len
  go_enter Tryz.func75, Tryz.ntmps75
  go_wp2
  go_loopg [5] (n + 1) (fun g i wr => ∃ k : Nat, k ≤ n ∧ g = n + 1 - k ∧ i = .int .i64 (k : Int) ∧ (∀ u ∈ xs.take k, (fun u : List UInt8 => decide (u = key)) u = false) ∧ Below w.heap.size w wr)
  case atStart => exact ⟨0, Nat.zero_le _, rfl, rfl, by simp, Below.refl _ _⟩
  case round =>
    obtain ⟨k, hk, rfl, rfl, hno, hbr⟩ := hrel
    have hz := hbr.size
    by_cases hlt : k < n
    · obtain ⟨bA, oA, u, rfl, hbA, hp, hcp⟩ := (hA.below hbr).at_ hlt
      have p0 := hcp 0 _ rfl
      rw [Nat.add_zero, Nat.mul_one] at p0
      clear hcp
      have hum := List.mem_of_getElem? hp
      have hnoH := Lib.hid hno
      have hpH := Lib.hid hp
      have hlti : (k : Int) < (n : Int) := by omega
      clear hno hp
      by_cases hc : u = key
      · have hT : Hid (true = r) := Lib.hid (by rw [← hrH.out]; symm; exact List.any_eq_true.2 ⟨u, hum, decide_eq_true hc⟩)
        have hqb : ((bs u).toList == (bs key).toList) = true := by rw [bs_toL, bs_toL, hc]; simp
        clear hc
        go_wp2
        go_ret
        exact ⟨ret_bool hT.out, hbr⟩
      · have hT : Hid ((fun u : List UInt8 => decide (u = key)) u = false) := Lib.hid (decide_eq_false hc)
        have hqb : ((bs u).toList == (bs key).toList) = false := by rw [bs_toL, bs_toL, beq_eq_false_iff_ne]; exact hc
        have hG := hbr
        clear hc
        go_wp2
        go_roundg (n + 1 - (k + 1))
        case measure => omega
        case rel => exact ⟨k + 1, by omega, rfl, by go_num, all_take_succ hnoH.out hpH.out hT.out, hG⟩
    · skip
      obtain rfl : k = n := by omega
      have hnli : ¬ (k : Int) < (k : Int) := by omega
      have hall := all_take_all hno hl
      have hT : Hid (false = r) := Lib.hid (by rw [← hrH.out]; symm; exact List.any_eq_false.2 (fun x hx => by have := hall x hx; simpa using this))
      clear hall hno
      go_wp2
      go_ret
      exact ⟨ret_bool hT.out, hbr⟩
set_option maxRecDepth 100000 in
theorem wonly1_any (b1 b2 : Nat) (A : Option Addr) (n c : Nat) (xs : List (List UInt8)) (q : Bool) (key : List UInt8) (w : World) (hA : RdS w w.heap.size A n xs) (hn : n ≤ maxLen) (h1 : w.heap[b1]? = some (.cells #[.slice A n c] 56 (0, 0))) (h2 : w.heap[b2]? = some (.cells #[.bool q] 4 (0, 0))) :
    Calls Tryz.prog 74 #[.string (bs key), .pointer (some ⟨b1, 0, none⟩), .pointer (some ⟨b2, 0, none⟩)] w fun e w' => e = .returned (.bool (wantK xs key == q)) ∧ Below w.heap.size w w' := by
  have c0 := blk_cell h1 0
  have d0 := blk_cell h2 0
  simp at c0 d0
  have hlt1 := blk_lt h1
  have hlt2 := blk_lt h2
  have h := Lib.hid (fun w' (hb : KQ w.heap.size w w') => wantk_any A n c xs key w' ((hA.below hb.1).more hb.1.size) hn)
  generalize wantK xs key = r at h
  have hq0 : KQ w.heap.size w w := kq (Below.refl _ _)
  clear h1 h2 hA
  go_enter Tryz.func74, Tryz.ntmps74
  go_wp2_with fail
  go_region_held3 (fun w' => KQ w.heap.size w w') (first
      | with_reducible exact kq_call (by assumption) (by simp) (by assumption)
      | with_reducible exact kq_grown (by assumption) (by simp) (by assumption) (by simp [Value.ownBlock])
      | ((with_reducible refine kq ?_); (repeat (first | (with_reducible exact Below.refl _ _) | (with_reducible refine Below.drew ?_) | (with_reducible refine Below.alloc ?_ (by simp) _) | (with_reducible refine Below.setCell ?_ (by simp) _) | (with_reducible exact (by assumption : KQ _ _ _).1))); done))
    (first
      | (go_at_call 75; ((with_reducible refine (h.out _ (by first | with_reducible assumption | exact kq_drew (Below.refl _ _))).mono ?_); rintro e w1 ⟨rfl, hb1⟩)))
  have hF : KQ w.heap.size w w1 := by with_reducible assumption
  go_wp2
  go_ret
  exact ⟨rfl, hF.1⟩
set_option maxRecDepth 100000 in
set_option maxHeartbeats 1000000 in
theorem wonly_any (x : Im) (v : Vm) (t : Bool) (A : Option Addr) (n c : Nat) (ps : List Pe) (B : Option Addr) (m d : Nat) (xs : List (List UInt8)) (q : Bool) (w : World) (hA : RdE w w.heap.size A n ps) (hn : n ≤ 1000) (hl : ∀ p ∈ ps, p.l ≤ 4096) (hB : RdS w w.heap.size B m xs) (hm : m ≤ maxLen) :
    Calls Tryz.prog 28 #[.agg #[.int .i64 x.1, .int .u32 x.2, .int .u32 v.d0, .int .u32 v.d1, .int .u32 v.d2, .int .u32 v.d3, .int .u32 v.d4, .int .u32 v.d5, .int .u32 v.d6, .int .u32 v.d7, .bool t, .slice A n c], .slice B m d, .bool q] w
      fun e w' => ∃ A' n' c' qs, e = .returned (.agg #[.int .i64 x.1, .int .u32 x.2, .int .u32 v.d0, .int .u32 v.d1, .int .u32 v.d2, .int .u32 v.d3, .int .u32 v.d4, .int .u32 v.d5, .int .u32 v.d6, .int .u32 v.d7, .bool (leaveT t (ps.map Pe.core) xs q), .slice A' n' c']) ∧ OwE 101 w' w.heap.size A' n' c' qs ∧ qs.map Pe.core = leavePs (ps.map Pe.core) xs q ∧ Below w.heap.size w w' := by
  have hb0 : Below w.heap.size w ((((w.alloc (.cells #[.int .i64 x.1, .int .u32 x.2, .int .u32 v.d0, .int .u32 v.d1, .int .u32 v.d2, .int .u32 v.d3, .int .u32 v.d4, .int .u32 v.d5, .int .u32 v.d6, .int .u32 v.d7, .bool t, .slice A n c] 36)).alloc (.cells #[.slice B m d] 56)).alloc (.cells #[.bool q] 4)).alloc (.cells #[.int .i64 0, .int .u32 0, .int .u32 0, .int .u32 0, .int .u32 0, .int .u32 0, .int .u32 0, .int .u32 0, .int .u32 0, .int .u32 0, .bool false, .slice none 0 0] 36)) := ((((Below.refl _ w).alloc (Nat.le_refl _) _).alloc (by first | (simp; done) | (simp; omega)) _).alloc (by first | (simp; done) | (simp; omega)) _).alloc (by first | (simp; done) | (simp; omega)) _
  have hbx : ((((w.alloc (.cells #[.int .i64 x.1, .int .u32 x.2, .int .u32 v.d0, .int .u32 v.d1, .int .u32 v.d2, .int .u32 v.d3, .int .u32 v.d4, .int .u32 v.d5, .int .u32 v.d6, .int .u32 v.d7, .bool t, .slice A n c] 36)).alloc (.cells #[.slice B m d] 56)).alloc (.cells #[.bool q] 4)).alloc (.cells #[.int .i64 0, .int .u32 0, .int .u32 0, .int .u32 0, .int .u32 0, .int .u32 0, .int .u32 0, .int .u32 0, .int .u32 0, .int .u32 0, .bool false, .slice none 0 0] 36)).heap[w.heap.size + 1]? = some (.cells #[.slice B m d] 56 (0, 0)) := heap_old _ (by first | (simp; done) | (simp; omega)) (heap_old _ (by first | (simp; done) | (simp; omega)) (heap_at _ _ (by first | (simp; done) | (simp; omega))))
  have hby : ((((w.alloc (.cells #[.int .i64 x.1, .int .u32 x.2, .int .u32 v.d0, .int .u32 v.d1, .int .u32 v.d2, .int .u32 v.d3, .int .u32 v.d4, .int .u32 v.d5, .int .u32 v.d6, .int .u32 v.d7, .bool t, .slice A n c] 36)).alloc (.cells #[.slice B m d] 56)).alloc (.cells #[.bool q] 4)).alloc (.cells #[.int .i64 0, .int .u32 0, .int .u32 0, .int .u32 0, .int .u32 0, .int .u32 0, .int .u32 0, .int .u32 0, .int .u32 0, .int .u32 0, .bool false, .slice none 0 0] 36)).heap[w.heap.size + 1 + 1]? = some (.cells #[.bool q] 4 (0, 0)) := heap_old _ (by first | (simp; done) | (simp; omega)) (heap_at _ _ (by first | (simp; done) | (simp; omega)))
  have hbr : ((((w.alloc (.cells #[.int .i64 x.1, .int .u32 x.2, .int .u32 v.d0, .int .u32 v.d1, .int .u32 v.d2, .int .u32 v.d3, .int .u32 v.d4, .int .u32 v.d5, .int .u32 v.d6, .int .u32 v.d7, .bool t, .slice A n c] 36)).alloc (.cells #[.slice B m d] 56)).alloc (.cells #[.bool q] 4)).alloc (.cells #[.int .i64 0, .int .u32 0, .int .u32 0, .int .u32 0, .int .u32 0, .int .u32 0, .int .u32 0, .int .u32 0, .int .u32 0, .int .u32 0, .bool false, .slice none 0 0] 36)).heap[w.heap.size + 1 + 1 + 1]? = some (.cells #[.int .i64 0, .int .u32 0, .int .u32 0, .int .u32 0, .int .u32 0, .int .u32 0, .int .u32 0, .int .u32 0, .int .u32 0, .int .u32 0, .bool false, .slice none 0 0] 36) := heap_at _ _ (by first | (simp; done) | (simp; omega))
  have hbt : ((((w.alloc (.cells #[.int .i64 x.1, .int .u32 x.2, .int .u32 v.d0, .int .u32 v.d1, .int .u32 v.d2, .int .u32 v.d3, .int .u32 v.d4, .int .u32 v.d5, .int .u32 v.d6, .int .u32 v.d7, .bool t, .slice A n c] 36)).alloc (.cells #[.slice B m d] 56)).alloc (.cells #[.bool q] 4)).alloc (.cells #[.int .i64 0, .int .u32 0, .int .u32 0, .int .u32 0, .int .u32 0, .int .u32 0, .int .u32 0, .int .u32 0, .int .u32 0, .int .u32 0, .bool false, .slice none 0 0] 36)).heap[w.heap.size]? = some (.cells #[.int .i64 x.1, .int .u32 x.2, .int .u32 v.d0, .int .u32 v.d1, .int .u32 v.d2, .int .u32 v.d3, .int .u32 v.d4, .int .u32 v.d5, .int .u32 v.d6, .int .u32 v.d7, .bool t, .slice A n c] 36 (0, 0)) := heap_old _ (by first | (simp; done) | (simp; omega)) (heap_old _ (by first | (simp; done) | (simp; omega)) (heap_old _ (by first | (simp; done) | (simp; omega)) (heap_at _ _ rfl)))
  generalize hW : ((((w.alloc (.cells #[.int .i64 x.1, .int .u32 x.2, .int .u32 v.d0, .int .u32 v.d1, .int .u32 v.d2, .int .u32 v.d3, .int .u32 v.d4, .int .u32 v.d5, .int .u32 v.d6, .int .u32 v.d7, .bool t, .slice A n c] 36)).alloc (.cells #[.slice B m d] 56)).alloc (.cells #[.bool q] 4)).alloc (.cells #[.int .i64 0, .int .u32 0, .int .u32 0, .int .u32 0, .int .u32 0, .int .u32 0, .int .u32 0, .int .u32 0, .int .u32 0, .int .u32 0, .bool false, .slice none 0 0] 36)) = W at hb0 hbx hby hbr hbt
  have hz := hb0.size
  have hWs : W.heap.size = w.heap.size + 4 := by rw [← hW]; simp
  have hO := txonly_any 74 #[.pointer (some ⟨w.heap.size + 1, 0, none⟩), .pointer (some ⟨w.heap.size + 1 + 1, 0, none⟩)] (fun k => wantK xs k == q) (enters_of Tryz.func74 (by kernel_rfl) rfl) W.heap.size x v t A n c ps W ((hA.below hb0).more hz) hn hl
    (fun p hp w' hb => wonly1_any (w.heap.size + 1) (w.heap.size + 1 + 1) B m d xs q p.key w' ((hB.below (hb0.trans (hb.mono hz))).more (hb0.trans (hb.mono hz)).size) hm ((hb.block _ (blk_lt hbx)).trans hbx) ((hb.block _ (blk_lt hby)).trans hby)) (Nat.le_refl _)
  have hf1 : (ps.any fun p => !(wantK xs p.key == q)) = (ps.map Pe.core).any fun p => !(wantK xs p.1 == q) := by rw [List.any_map]; rfl
  rw [hf1] at hO
  generalize htt : leaveT t (ps.map Pe.core) xs q = tt
  rw [show (t || (ps.map Pe.core).any fun p => !(wantK xs p.1 == q)) = tt from htt] at hO
  have hOH := Lib.hid hO
  have hbrH := Lib.hid hbr
  have hWsH := Lib.hid hWs
  have q0 := blk_cell hbt 0
  have q1 := blk_cell hbt 1
  have q2 := blk_cell hbt 2
  have q3 := blk_cell hbt 3
  have q4 := blk_cell hbt 4
  have q5 := blk_cell hbt 5
  have q6 := blk_cell hbt 6
  have q7 := blk_cell hbt 7
  have q8 := blk_cell hbt 8
  have q9 := blk_cell hbt 9
  have q10 := blk_cell hbt 10
  have q11 := blk_cell hbt 11
  simp at q0 q1 q2 q3 q4 q5 q6 q7 q8 q9 q10 q11
  have hlt := blk_lt hbt
  clear hO hbx hby hbr hA hB hf1 hbt hWs htt
  go_enter Tryz.func28, Tryz.ntmps28
  go_wp2_with fail
  refine hOH.out.mono ?_
  rintro e w1 ⟨A', n', c', qs, rfl, ho, hq, hb1⟩
  have hr1 := blk_below hbrH.out hb1
  have hltr := blk_lt hr1
  have hfr := blk_frozen hr1
  have r0 := blk_cell hr1 0
  have r1 := blk_cell hr1 1
  have r2 := blk_cell hr1 2
  have r3 := blk_cell hr1 3
  have r4 := blk_cell hr1 4
  have r5 := blk_cell hr1 5
  have r6 := blk_cell hr1 6
  have r7 := blk_cell hr1 7
  have r8 := blk_cell hr1 8
  have r9 := blk_cell hr1 9
  have r10 := blk_cell hr1 10
  have r11 := blk_cell hr1 11
  simp at r0 r1 r2 r3 r4 r5 r6 r7 r8 r9 r10 r11
  have hG := hb0.trans (hb1.mono hz)
  go_wp2
  refine bodyPost_ret (v := .agg #[.int .i64 x.1, .int .u32 x.2, .int .u32 v.d0, .int .u32 v.d1, .int .u32 v.d2, .int .u32 v.d3, .int .u32 v.d4, .int .u32 v.d5, .int .u32 v.d6, .int .u32 v.d7, .bool tt, .slice A' n' c']) (by simp [results, Tryz.results28, go_sem, r0, r1, r2, r3, r4, r5, r6, r7, r8, r9, r10, r11]) rfl ?_
  refine ⟨A', n', c', ?_⟩
  refine ⟨qs, rfl, ⟨?_, fun q hq => ?_⟩, ?_, ?_⟩
  · refine Ow.base (base := W.heap.size) ?_ hz
    (repeat (with_reducible refine Ow.setCell ?_ (by have := hWsH.out; simp; omega) _))
    exact ho.1
  · refine Ow.base (base := W.heap.size) ?_ hz
    (repeat (with_reducible refine Ow.setCell ?_ (by have := hWsH.out; simp; omega) _))
    exact ho.2 q hq
  · rw [hq]; rfl
  · repeat (with_reducible refine Below.setCell ?_ (by simp; omega) _)
    exact hG
end Go.Proofs.YtpolplmniaoikaaGreatDoor
