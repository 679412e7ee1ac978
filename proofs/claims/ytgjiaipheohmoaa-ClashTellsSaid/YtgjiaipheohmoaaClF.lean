/- clash.First and the reference's. -/
import Derived.Test.YtgjiaipheohmoaaTo
import Derived.Test.YtgjiaipheohmoaaClD
import Derived.Deep.QuietTactic
import Derived.BigQuiet
namespace Go.Proofs.Ytgjiaipheohmoaa
open Go.RowKit

/-- A transaction in memory: its first cells, and its parts. -/
structure Txm where
  h : Hd
  A : Option Addr
  n : Nat
  c : Nat
  ps : List Pt
instance : Inhabited Txm := ⟨⟨⟨0, 0, 0, 0, 0, 0, 0, 0, 0, 0, false⟩, none, 0, 0, []⟩⟩
def Txm.enc (t : Txm) : List Value := [.int .i64 t.h.o, .int .u32 t.h.s, .int .u32 t.h.d0, .int .u32 t.h.d1, .int .u32 t.h.d2, .int .u32 t.h.d3, .int .u32 t.h.d4, .int .u32 t.h.d5, .int .u32 t.h.d6, .int .u32 t.h.d7, .bool t.h.thin, .slice t.A t.n t.c]
theorem Txm.len {ts : List Txm} : ∀ x ∈ ts.map Txm.enc, x.length = 12 := by
  intro x hx; obtain ⟨t, _, rfl⟩ := List.mem_map.1 hx; rfl
theorem Txm.one {ts : List Txm} : ∀ x ∈ ts.map Txm.enc, ∀ u ∈ x, u.oneCell' = true := by
  intro x hx u hu; obtain ⟨t, _, rfl⟩ := List.mem_map.1 hx
  simp only [Txm.enc, List.mem_cons, List.not_mem_nil, or_false] at hu
  rcases hu with rfl | rfl | rfl | rfl | rfl | rfl | rfl | rfl | rfl | rfl | rfl | rfl <;> rfl
/-- Transactions, read whole. -/
def RdT (w : World) (B : Nat) (A : Option Addr) (n : Nat) (ts : List Txm) : Prop := Rd w B 12 A n (ts.map Txm.enc) ∧ ∀ t ∈ ts, RdP w B t.A t.n t.ps ∧ t.n ≤ maxLen
theorem RdT.below {w w' : World} {B n : Nat} {A : Option Addr} {ts : List Txm} (h : RdT w B A n ts) (hb : Below B w w') : RdT w' B A n ts := ⟨h.1.below hb, fun p hp => ⟨(h.2 p hp).1.below hb, (h.2 p hp).2⟩⟩
theorem RdT.more {w : World} {B B' n : Nat} {A : Option Addr} {ts : List Txm} (h : RdT w B A n ts) (hb : B ≤ B') : RdT w B' A n ts := ⟨h.1.more hb, fun p hp => ⟨(h.2 p hp).1.more hb, (h.2 p hp).2⟩⟩

set_option maxRecDepth 100000 in
set_option maxHeartbeats 400000 in
theorem firstc_any (t u : Txm) (bx : Nat) (w : World) (hbx : ∀ j v, t.enc[j]? = some v → w.cell? ⟨bx, j, none⟩ = some v) (ht : RdP w w.heap.size t.A t.n t.ps) (hu : RdP w w.heap.size u.A u.n u.ps)
    (htn : t.n ≤ maxLen) (hun : u.n ≤ maxLen) (hbl : bx < w.heap.size) :
    Calls Try.prog 20 #[.agg #[.int .i64 u.h.o, .int .u32 u.h.s, .int .u32 u.h.d0, .int .u32 u.h.d1, .int .u32 u.h.d2, .int .u32 u.h.d3, .int .u32 u.h.d4, .int .u32 u.h.d5, .int .u32 u.h.d6, .int .u32 u.h.d7, .bool u.h.thin, .slice u.A u.n u.c], .pointer (some ⟨bx, 0, none⟩)] w fun e w' => e = .returned (.bool (txsB t.ps u.ps)) ∧ Below w.heap.size w w' := by
  have p0 := hbx 0 _ rfl
  have p1 := hbx 1 _ rfl
  have p2 := hbx 2 _ rfl
  have p3 := hbx 3 _ rfl
  have p4 := hbx 4 _ rfl
  have p5 := hbx 5 _ rfl
  have p6 := hbx 6 _ rfl
  have p7 := hbx 7 _ rfl
  have p8 := hbx 8 _ rfl
  have p9 := hbx 9 _ rfl
  have p10 := hbx 10 _ rfl
  have p11 := hbx 11 _ rfl
  clear hbx
  go_enter Try.func20, Try.ntmps20
  go_wp2_with fail
  have hb := (Below.refl w.heap.size w).alloc (Nat.le_refl _) (.cells #[.int .i64 u.h.o, .int .u32 u.h.s, .int .u32 u.h.d0, .int .u32 u.h.d1, .int .u32 u.h.d2, .int .u32 u.h.d3, .int .u32 u.h.d4, .int .u32 u.h.d5, .int .u32 u.h.d6, .int .u32 u.h.d7, .bool u.h.thin, .slice u.A u.n u.c] 37)
  refine (txs_any _ _ _ _ _ _ _ _ _ _ _ _ _ _ _ _ _ _ _ _ _ _ _ _ _ _ _ _ _ _ _ ((ht.1.below hb).more hb.size) ((hu.1.below hb).more hb.size) htn hun).mono ?_
  rintro e w1 ⟨rfl, hb1⟩
  go_wp2
  go_ret
  exact ⟨rfl, hb.trans (hb1.mono hb.size)⟩

def idxB {α : Type} (p : α → Bool) (l : List α) : Int := match l.findIdx? p with | some i => (i : Int) | none => -1
theorem idxB_at {α : Type} {p : α → Bool} {l : List α} {k : Nat} {x : α} (h : ∀ y ∈ l.take k, p y = false) (hx : l[k]? = some x) (hp : p x = true) : idxB p l = k := by
  have hk : k < l.length := (List.getElem?_eq_some_iff.1 hx).1
  have he : l[k] = x := (List.getElem?_eq_some_iff.1 hx).2
  have : l.findIdx? p = some k := by
    rw [List.findIdx?_eq_some_iff_getElem]
    refine ⟨hk, by rw [he]; exact hp, fun j hj => ?_⟩
    have := h l[j] (List.mem_iff_getElem?.2 ⟨j, by rw [List.getElem?_take_of_lt hj]; simp⟩)
    simp [this]
  simp [idxB, this]
theorem idxB_none {α : Type} {p : α → Bool} {l : List α} (h : ∀ y ∈ l, p y = false) : idxB p l = -1 := by
  have : l.findIdx? p = none := List.findIdx?_eq_none_iff.2 h
  simp [idxB, this]
theorem ret_int {k : IntKind} {a b : Int} (h : a = b) : Ending.returned (.int k a) = .returned (.int k b) := by rw [h]

set_option maxRecDepth 100000 in
set_option maxHeartbeats 1000000 in
theorem index_any (t : Txm) (bx : Nat) (A : Option Addr) (n c : Nat) (us : List Txm) (w : World) (hbx : ∀ j v, t.enc[j]? = some v → w.cell? ⟨bx, j, none⟩ = some v) (ht : RdP w w.heap.size t.A t.n t.ps)
    (hu : RdT w w.heap.size A n us) (htn : t.n ≤ maxLen) (hbl : bx < w.heap.size) (hn : n ≤ maxLen) :
    Calls Try.prog 19 #[.slice A n c, .func (.func 20) #[] #[.pointer (some ⟨bx, 0, none⟩)]] w
      fun e w' => e = .returned (.int .i64 (idxB (fun u => txsB t.ps u.ps) us)) ∧ Below w.heap.size w w' := by
  unfold maxLen at hn
  go_enter Try.func19, Try.ntmps19
  go_wp2
  go_loopg [8] (n + 1) (fun g i wr => ∃ k : Nat, k ≤ n ∧ g = n + 1 - k ∧ i = .int .i64 k ∧ (∀ u ∈ us.take k, txsB t.ps u.ps = false) ∧ Below w.heap.size w wr)
  case atStart => exact ⟨0, Nat.zero_le _, rfl, rfl, by simp, Below.refl _ _⟩
  case round =>
    obtain ⟨k, hk, rfl, rfl, hno, hbr⟩ := hrel
    have hz := hbr.size
    by_cases hlt : k < n
    · obtain ⟨bA, oA, u, rfl, hbA, hp, hcp⟩ := (hu.1.below hbr).at_ hlt
      have p0 := hcp 0 _ rfl
      have p1 := hcp 1 _ rfl
      have p2 := hcp 2 _ rfl
      have p3 := hcp 3 _ rfl
      have p4 := hcp 4 _ rfl
      have p5 := hcp 5 _ rfl
      have p6 := hcp 6 _ rfl
      have p7 := hcp 7 _ rfl
      have p8 := hcp 8 _ rfl
      have p9 := hcp 9 _ rfl
      have p10 := hcp 10 _ rfl
      have p11 := hcp 11 _ rfl
      rw [Nat.add_zero] at p0
      clear hcp
      have hum := hu.2 u (List.mem_of_getElem? hp)
      go_wp2_with fail
      refine (firstc_any t u bx wr (fun j v hv => (hbr.cell (p := ⟨bx, j, none⟩) hbl).trans (hbx j v hv)) ((ht.below hbr).more hz) ((hum.1.below hbr).more hz) htn hum.2 (by omega)).mono ?_
      rintro e w1 ⟨rfl, hb1⟩
      have hb2 := hbr.trans (hb1.mono hz)
      generalize hx : txsB t.ps u.ps = r
      cases r
      case true =>
        have hT := Lib.hid (idxB_at hno hp hx)
        clear hx
        go_wp2
        go_ret
        exact ⟨ret_int hT.out.symm, hb2⟩
      case false =>
        have hT := Lib.hid hx
        clear hx
        go_wp2
        go_roundg (n + 1 - (k + 1))
        case measure => omega
        case rel => exact ⟨k + 1, by omega, rfl, by go_num, all_take_succ hno hp hT.out, hb2⟩
    · have hT := Lib.hid (idxB_none (all_take_all (by rw [show k = n from by omega] at hno; exact hno) hu.1.len))
      go_wp2
      go_ret
      exact ⟨ret_int hT.out.symm, hbr⟩

set_option maxRecDepth 100000 in
set_option maxHeartbeats 1000000 in
theorem first_any (t : Txm) (A : Option Addr) (n c : Nat) (us : List Txm) (w : World) (ht : RdP w w.heap.size t.A t.n t.ps)
    (hu : RdT w w.heap.size A n us) (htn : t.n ≤ maxLen) (hn : n ≤ maxLen) :
    Calls Try.prog 12 #[.agg #[.int .i64 t.h.o, .int .u32 t.h.s, .int .u32 t.h.d0, .int .u32 t.h.d1, .int .u32 t.h.d2, .int .u32 t.h.d3, .int .u32 t.h.d4, .int .u32 t.h.d5, .int .u32 t.h.d6, .int .u32 t.h.d7, .bool t.h.thin, .slice t.A t.n t.c], .slice A n c] w
      fun e w' => e = .returned (.int .i64 (idxB (fun u => txsB t.ps u.ps) us)) ∧ Below w.heap.size w w' := by
  have hb := (Below.refl w.heap.size w).alloc (Nat.le_refl _) (.cells #[.int .i64 t.h.o, .int .u32 t.h.s, .int .u32 t.h.d0, .int .u32 t.h.d1, .int .u32 t.h.d2, .int .u32 t.h.d3, .int .u32 t.h.d4, .int .u32 t.h.d5, .int .u32 t.h.d6, .int .u32 t.h.d7, .bool t.h.thin, .slice t.A t.n t.c] 37)
  go_enter Try.func12, Try.ntmps12
  go_wp2_with fail
  refine (index_any t w.heap.size A n c us _ (fun j v hv => ?_) ((ht.below hb).more hb.size) ((hu.below hb).more hb.size) htn (by simp) hn).mono ?_
  · rw [blk_cell (cs := #[.int .i64 t.h.o, .int .u32 t.h.s, .int .u32 t.h.d0, .int .u32 t.h.d1, .int .u32 t.h.d2, .int .u32 t.h.d3, .int .u32 t.h.d4, .int .u32 t.h.d5, .int .u32 t.h.d6, .int .u32 t.h.d7, .bool t.h.thin, .slice t.A t.n t.c]) (t := 37) (heap_at _ _ rfl)]
    simpa [Txm.enc] using hv
  · rintro e w1 ⟨rfl, hb1⟩
    go_wp2
    go_ret
    exact ⟨rfl, hb.trans (hb1.mono hb.size)⟩

set_option maxRecDepth 100000 in
set_option maxHeartbeats 1000000 in
theorem rfirst_any (t : Txm) (A : Option Addr) (n c : Nat) (us : List Txm) (w : World) (ht : RdP w w.heap.size t.A t.n t.ps)
    (hu : RdT w w.heap.size A n us) (htn : t.n ≤ maxLen) (hn : n ≤ maxLen) :
    Calls Try.prog 13 #[.agg #[.int .i64 t.h.o, .int .u32 t.h.s, .int .u32 t.h.d0, .int .u32 t.h.d1, .int .u32 t.h.d2, .int .u32 t.h.d3, .int .u32 t.h.d4, .int .u32 t.h.d5, .int .u32 t.h.d6, .int .u32 t.h.d7, .bool t.h.thin, .slice t.A t.n t.c], .slice A n c] w
      fun e w' => e = .returned (.int .i64 (idxB (fun u => txsB t.ps u.ps) us)) ∧ Below w.heap.size w w' := by
  unfold maxLen at hn
  go_enter Try.func13, Try.ntmps13
  go_wp2
  go_loopg [5] (n + 1) (fun g i wr => ∃ k : Nat, k ≤ n ∧ g = n + 1 - k ∧ i = .int .i64 k ∧ (∀ u ∈ us.take k, txsB t.ps u.ps = false) ∧
    Below (w.heap.size + 1) (w.alloc (.cells #[.int .i64 t.h.o, .int .u32 t.h.s, .int .u32 t.h.d0, .int .u32 t.h.d1, .int .u32 t.h.d2, .int .u32 t.h.d3, .int .u32 t.h.d4, .int .u32 t.h.d5, .int .u32 t.h.d6, .int .u32 t.h.d7, .bool t.h.thin, .slice t.A t.n t.c] 31)) wr)
  case atStart => exact ⟨0, Nat.zero_le _, rfl, rfl, by simp, Below.refl _ _⟩
  case round =>
    obtain ⟨k, hk, rfl, rfl, hno, hbr⟩ := hrel
    obtain ⟨hc, hf⟩ := bcell hbr
    have hb : Below w.heap.size w wr := ((Below.refl _ w).alloc (Nat.le_refl _) _).trans (hbr.mono (Nat.le_succ _))
    have hz := hb.size
    have hz1 := hbr.size
    simp only [World.size_alloc] at hz1
    have hz2 : w.heap.size < wr.heap.size := by omega
    by_cases hlt : k < n
    · obtain ⟨bA, oA, u, rfl, hbA, hp, hcp⟩ := hu.1.at_ hlt
      have p0 := hcp 0 _ rfl
      have p1 := hcp 1 _ rfl
      have p2 := hcp 2 _ rfl
      have p3 := hcp 3 _ rfl
      have p4 := hcp 4 _ rfl
      have p5 := hcp 5 _ rfl
      have p6 := hcp 6 _ rfl
      have p7 := hcp 7 _ rfl
      have p8 := hcp 8 _ rfl
      have p9 := hcp 9 _ rfl
      have p10 := hcp 10 _ rfl
      have p11 := hcp 11 _ rfl
      rw [Nat.add_zero] at p0
      clear hcp
      have hy1 : bA < w.heap.size + 1 := by omega
      have hum := hu.2 u (List.mem_of_getElem? hp)
      have hcall := rtxs_any (.int .i64 t.h.o) (.int .u32 t.h.s) (.int .u32 t.h.d0) (.int .u32 t.h.d1) (.int .u32 t.h.d2) (.int .u32 t.h.d3) (.int .u32 t.h.d4) (.int .u32 t.h.d5) (.int .u32 t.h.d6) (.int .u32 t.h.d7) (.bool t.h.thin)
        (.int .i64 u.h.o) (.int .u32 u.h.s) (.int .u32 u.h.d0) (.int .u32 u.h.d1) (.int .u32 u.h.d2) (.int .u32 u.h.d3) (.int .u32 u.h.d4) (.int .u32 u.h.d5) (.int .u32 u.h.d6) (.int .u32 u.h.d7) (.bool u.h.thin) t.A u.A t.n u.n t.c u.c t.ps u.ps wr.drew
        ((ht.below hb.drew).more hz).1 ((hum.1.below hb.drew).more hz).1 htn hum.2
      have hcall := Lib.hid hcall
      have hq0 : KQ (w.heap.size + 1) (w.alloc (.cells #[.int .i64 t.h.o, .int .u32 t.h.s, .int .u32 t.h.d0, .int .u32 t.h.d1, .int .u32 t.h.d2, .int .u32 t.h.d3, .int .u32 t.h.d4, .int .u32 t.h.d5, .int .u32 t.h.d6, .int .u32 t.h.d7, .bool t.h.thin, .slice t.A t.n t.c] 31)) wr := kq hbr
      go_wp2
      go_region_held3 (fun w' => KQ (w.heap.size + 1) (w.alloc (.cells #[.int .i64 t.h.o, .int .u32 t.h.s, .int .u32 t.h.d0, .int .u32 t.h.d1, .int .u32 t.h.d2, .int .u32 t.h.d3, .int .u32 t.h.d4, .int .u32 t.h.d5, .int .u32 t.h.d6, .int .u32 t.h.d7, .bool t.h.thin, .slice t.A t.n t.c] 31)) w') (first
      | with_reducible exact kq_call (by assumption) (by simp) (by assumption)
      | with_reducible exact kq_grown (by assumption) (by simp) (by assumption) (by simp [Value.ownBlock])
      | ((with_reducible refine kq ?_); (repeat (first | (with_reducible exact Below.refl _ _) | (with_reducible refine Below.drew ?_) | (with_reducible refine Below.alloc ?_ (by simp) _) | (with_reducible refine Below.setCell ?_ (by simp) _) | (with_reducible exact (by assumption : KQ _ _ _).1))); done))
        (first | (go_at_call 8; refine hcall.out.mono ?_; rintro e w1 ⟨rfl, hb1⟩))
      have hb2 : Below (w.heap.size + 1) (w.alloc (.cells #[.int .i64 t.h.o, .int .u32 t.h.s, .int .u32 t.h.d0, .int .u32 t.h.d1, .int .u32 t.h.d2, .int .u32 t.h.d3, .int .u32 t.h.d4, .int .u32 t.h.d5, .int .u32 t.h.d6, .int .u32 t.h.d7, .bool t.h.thin, .slice t.A t.n t.c] 31)) w1 := hbr.drew.trans (hb1.mono hz1)
      generalize hx : txsB t.ps u.ps = r
      cases r
      case true =>
        have hT := Lib.hid (idxB_at hno hp hx)
        clear hx
        go_wp2
        go_ret
        exact ⟨ret_int hT.out.symm, ((Below.refl _ w).alloc (Nat.le_refl _) _).trans (hb2.mono (Nat.le_succ _))⟩
      case false =>
        have hT := Lib.hid hx
        clear hx
        go_wp2
        go_roundg (n + 1 - (k + 1))
        case measure => omega
        case rel => exact ⟨k + 1, by omega, rfl, by go_num, all_take_succ hno hp hT.out, hb2⟩
    · have hT := Lib.hid (idxB_none (all_take_all (by rw [show k = n from by omega] at hno; exact hno) hu.1.len))
      go_wp2
      go_ret
      exact ⟨ret_int hT.out.symm, hb⟩
end Go.Proofs.Ytgjiaipheohmoaa
