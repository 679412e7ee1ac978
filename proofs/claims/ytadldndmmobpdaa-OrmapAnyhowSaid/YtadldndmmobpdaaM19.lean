/- The order in which puts of a field count; the greatest of puts; what was put for a field, its value (the program's). What was put for a field: of, Tags (both), Get (both). -/
import Derived.Test.YtadldndmmobpdaaOnC
import Derived.Test.YtadldndmmobpdaaOmR
namespace Go.Proofs.Ytadldndmmobpdaa
open Go.RowKit

set_option maxRecDepth 100000 in
theorem plcmp_any (x y : Sm) (w : World) :
    Calls Try.prog 118 #[.agg #[.int .u32 x.1, .int .i64 x.2], .agg #[.int .u32 y.1, .int .i64 y.2]] w fun e w' => e = .returned (.int .i64 (cmpS x y)) ∧ Below w.heap.size w w' := by
  generalize hr : cmpS x y = r
  unfold cmpS at hr
  have hc1 := ccmpu_any x.1 y.1
  have hc2 := ccmp_any x.2 y.2
  have ho := or_any
  generalize ordI x.1 y.1 = p at *
  generalize ordI x.2 y.2 = q at *
  have hc1 := Lib.hid hc1
  have hc2 := Lib.hid hc2
  have ho := Lib.hid (fun g w h0 h1 h2 => hr ▸ ho g p q w h0 h1 h2)
  clear hr
  go_enter Try.func118, Try.ntmps118
  go_wp2
  go_region_held3 (fun w' => KQ (w.heap.size + 2) ((w.alloc (.cells #[.int .u32 x.1, .int .i64 x.2] 92)).alloc (.cells #[.int .u32 y.1, .int .i64 y.2] 92)) w') (first
      | with_reducible exact kq_call (by assumption) (by simp) (by assumption)
      | with_reducible exact kq_grown (by assumption) (by simp) (by assumption) (by simp [Value.ownBlock])
      | ((with_reducible refine kq ?_); (repeat (first | (with_reducible exact Below.refl _ _) | (with_reducible refine Below.drew ?_) | (with_reducible refine Below.alloc ?_ (by simp) _) | (with_reducible refine Below.setCell ?_ (by simp) _) | (with_reducible exact (by assumption : KQ _ _ _).1))); done))
    (first
      | (go_at_call 129; refine (hc2.out _).mono ?_; rintro e w1 ⟨rfl, rfl⟩)
      | (go_at_call 147; refine (hc1.out _).mono ?_; rintro e w1 ⟨rfl, rfl⟩)
      | (go_at_call 117; refine (ho.out _ _ (by simp) (blk_cell (heap_drew (heap_at _ _ (by simp))) 0) (blk_cell (heap_drew (heap_at _ _ (by simp))) 1)).mono ?_; rintro e w1 ⟨rfl, rfl⟩))
  go_wp2
  go_ret
  exact ⟨rfl, ((((Below.refl _ w).alloc (Nat.le_refl _) _).alloc (by simp) _).alloc (by simp; omega) _).drew⟩
set_option maxRecDepth 100000 in
theorem rlcmp_any (x y : Sm) (w : World) :
    Calls Try.prog 70 #[.agg #[.int .u32 x.1, .int .i64 x.2], .agg #[.int .u32 y.1, .int .i64 y.2]] w fun e w' => e = .returned (.int .i64 (cmpS x y)) ∧ Below w.heap.size w w' := by
  generalize hr : cmpS x y = r
  obtain ⟨a, s⟩ := x
  obtain ⟨b, t⟩ := y
  unfold cmpS ordI at hr
  dsimp only at hr ⊢
  have hrH := Lib.hid hr
  clear hr
  have hB : Below w.heap.size w ((w.alloc (.cells #[.int .u32 a, .int .i64 s] 92)).alloc (.cells #[.int .u32 b, .int .i64 t] 92)) := ((Below.refl _ _).alloc (Nat.le_refl _) _).alloc (by simp) _
  rcases Int.lt_trichotomy a b with h | h | h
  · have hT : Hid (-1 = r) := Lib.hid (by rw [← hrH.out]; (repeat' split) <;> omega)
    go_enter Try.func70, Try.ntmps70
    go_wp2
    go_ret
    exact ⟨ret_int hT.out, hB⟩
  · subst h
    have hn : ¬ a < a := by omega
    rcases Int.lt_trichotomy s t with h | h | h
    · have hT : Hid (-1 = r) := Lib.hid (by rw [← hrH.out]; (repeat' split) <;> omega)
      go_enter Try.func70, Try.ntmps70
      go_wp2
      go_ret
      exact ⟨ret_int hT.out, hB⟩
    · subst h
      have hn2 : ¬ s < s := by omega
      have hT : Hid (0 = r) := Lib.hid (by rw [← hrH.out]; (repeat' split) <;> omega)
      go_enter Try.func70, Try.ntmps70
      go_wp2
      go_ret
      exact ⟨ret_int hT.out, hB⟩
    · have hT : Hid (1 = r) := Lib.hid (by rw [← hrH.out]; (repeat' split) <;> omega)
      have hd : decide (s < t) = false := decide_eq_false (by omega)
      have hn3 : ¬ s < t := by omega
      have he : (s == t) = false := by rw [beq_eq_false_iff_ne]; omega
      have hne : ¬ s = t := by omega
      go_enter Try.func70, Try.ntmps70
      go_wp2
      go_ret
      exact ⟨ret_int hT.out, hB⟩
  · have hT : Hid (1 = r) := Lib.hid (by rw [← hrH.out]; (repeat' split) <;> omega)
    have hd : decide (a < b) = false := decide_eq_false (by omega)
    have hn3 : ¬ a < b := by omega
    have he : (a == b) = false := by rw [beq_eq_false_iff_ne]; omega
    have hne : ¬ a = b := by omega
    go_enter Try.func70, Try.ntmps70
    go_wp2
    go_ret
    exact ⟨ret_int hT.out, hB⟩
/-- The order in which puts of a field count. -/
def cmpL (x y : Pm) : Int := if cmpS x.2.2.2 y.2.2.2 ≠ 0 then cmpS x.2.2.2 y.2.2.2 else cmpT x.1 y.1
set_option maxRecDepth 100000 in
set_option maxHeartbeats 1000000 in
theorem later_any (x y : Pm) (w : World) :
    Calls Try.prog 69 #[.agg #[.int .i64 x.1.1.1, .int .u32 x.1.1.2, .int .i64 x.1.2, .string (bs x.2.1), .int .i64 x.2.2.1, .int .u32 x.2.2.2.1, .int .i64 x.2.2.2.2], .agg #[.int .i64 y.1.1.1, .int .u32 y.1.1.2, .int .i64 y.1.2, .string (bs y.2.1), .int .i64 y.2.2.1, .int .u32 y.2.2.2.1, .int .i64 y.2.2.2.2]] w fun e w' => e = .returned (.int .i64 (cmpL x y)) ∧ Below w.heap.size w w' := by
  generalize hr : cmpL x y = r
  unfold cmpL at hr
  have hc1 := plcmp_any x.2.2.2 y.2.2.2
  have hc2 := pcmpt_any x.1 y.1
  have ho := or_any
  generalize cmpS x.2.2.2 y.2.2.2 = p at *
  generalize cmpT x.1 y.1 = q at *
  have hc1 := Lib.hid hc1
  have hc2 := Lib.hid hc2
  have ho := Lib.hid (fun g w h0 h1 h2 => hr ▸ ho g p q w h0 h1 h2)
  clear hr
  have hB0 : Below w.heap.size w ((w.alloc (.cells #[.int .i64 x.1.1.1, .int .u32 x.1.1.2, .int .i64 x.1.2, .string (bs x.2.1), .int .i64 x.2.2.1, .int .u32 x.2.2.2.1, .int .i64 x.2.2.2.2] 96)).alloc (.cells #[.int .i64 y.1.1.1, .int .u32 y.1.1.2, .int .i64 y.1.2, .string (bs y.2.1), .int .i64 y.2.2.1, .int .u32 y.2.2.2.1, .int .i64 y.2.2.2.2] 96)) := ((Below.refl _ w).alloc (Nat.le_refl _) _).alloc (by simp) _
  have hbx : ((w.alloc (.cells #[.int .i64 x.1.1.1, .int .u32 x.1.1.2, .int .i64 x.1.2, .string (bs x.2.1), .int .i64 x.2.2.1, .int .u32 x.2.2.2.1, .int .i64 x.2.2.2.2] 96)).alloc (.cells #[.int .i64 y.1.1.1, .int .u32 y.1.1.2, .int .i64 y.1.2, .string (bs y.2.1), .int .i64 y.2.2.1, .int .u32 y.2.2.2.1, .int .i64 y.2.2.2.2] 96)).heap[w.heap.size]? = some (.cells #[.int .i64 x.1.1.1, .int .u32 x.1.1.2, .int .i64 x.1.2, .string (bs x.2.1), .int .i64 x.2.2.1, .int .u32 x.2.2.2.1, .int .i64 x.2.2.2.2] 96 (0, 0)) := heap_old _ (by simp) (heap_at _ _ rfl)
  have hby : ((w.alloc (.cells #[.int .i64 x.1.1.1, .int .u32 x.1.1.2, .int .i64 x.1.2, .string (bs x.2.1), .int .i64 x.2.2.1, .int .u32 x.2.2.2.1, .int .i64 x.2.2.2.2] 96)).alloc (.cells #[.int .i64 y.1.1.1, .int .u32 y.1.1.2, .int .i64 y.1.2, .string (bs y.2.1), .int .i64 y.2.2.1, .int .u32 y.2.2.2.1, .int .i64 y.2.2.2.2] 96)).heap[w.heap.size + 1]? = some (.cells #[.int .i64 y.1.1.1, .int .u32 y.1.1.2, .int .i64 y.1.2, .string (bs y.2.1), .int .i64 y.2.2.1, .int .u32 y.2.2.2.1, .int .i64 y.2.2.2.2] 96 (0, 0)) := heap_at _ _ (by simp)
  generalize hW : ((w.alloc (.cells #[.int .i64 x.1.1.1, .int .u32 x.1.1.2, .int .i64 x.1.2, .string (bs x.2.1), .int .i64 x.2.2.1, .int .u32 x.2.2.2.1, .int .i64 x.2.2.2.2] 96)).alloc (.cells #[.int .i64 y.1.1.1, .int .u32 y.1.1.2, .int .i64 y.1.2, .string (bs y.2.1), .int .i64 y.2.2.1, .int .u32 y.2.2.2.1, .int .i64 y.2.2.2.2] 96)) = W at hB0 hbx hby
  have hltx := blk_lt hbx
  have hlty := blk_lt hby
  have p0 := blk_cell hbx 0
  have p1 := blk_cell hbx 1
  have p2 := blk_cell hbx 2
  have p3 := blk_cell hbx 3
  have p4 := blk_cell hbx 4
  have p5 := blk_cell hbx 5
  have p6 := blk_cell hbx 6
  have q0 := blk_cell hby 0
  have q1 := blk_cell hby 1
  have q2 := blk_cell hby 2
  have q3 := blk_cell hby 3
  have q4 := blk_cell hby 4
  have q5 := blk_cell hby 5
  have q6 := blk_cell hby 6
  simp at p0 p1 p2 p3 p4 p5 p6 q0 q1 q2 q3 q4 q5 q6
  clear hbx hby
  go_enter Try.func69, Try.ntmps69
  go_wp2
  have hq0 : KQ W.heap.size W W := kq (Below.refl _ _)
  go_region_held3 (fun w' => KQ W.heap.size W w') (first
      | with_reducible exact kq_call (by assumption) (by simp) (by assumption)
      | with_reducible exact kq_alloc (by with_reducible assumption) (Nat.le_refl _) _
      | with_reducible exact kq_alloc (kq_drew (by assumption)) (Nat.le_refl _) _
      | ((with_reducible refine kq ?_); (repeat (first | (with_reducible exact Below.refl _ _) | (with_reducible refine Below.drew ?_) | (with_reducible refine Below.alloc ?_ (by simp) _) | (with_reducible refine Below.setCell ?_ (by simp) _) | (with_reducible exact (by assumption : KQ _ _ _).1))); done))
    (first
      | (go_at_call 118; refine (hc1.out _).mono ?_; rintro e w1 ⟨rfl, hb1⟩)
      | (go_at_call 87; refine (hc2.out _).mono ?_; rintro e w2 ⟨rfl, hb2⟩)
      | (go_at_call 117; refine (ho.out _ _ (by simp) (blk_cell (heap_at _ _ (by simp)) 0) (blk_cell (heap_at _ _ (by simp)) 1)).mono ?_; rintro e w3 ⟨rfl, rfl⟩))
  go_wp2
  go_ret
  exact ⟨rfl, hB0.trans ((by with_reducible assumption : KQ W.heap.size W _).1.mono hB0.size)⟩
/-- The greatest of puts, one after the other. -/
def stepL (o : Option Pm) (x : Pm) : Option Pm := match o with | none => some x | some m => some (if 0 < cmpL x m then x else m)
def maxL (xs : List Pm) : Option Pm := xs.foldl stepL none
def PostMax (w : World) (xs : List Pm) (e : Ending) (w' : World) : Prop := ∃ m : Pm, maxL xs = some m ∧ e = .returned (.agg #[.int .i64 m.1.1.1, .int .u32 m.1.1.2, .int .i64 m.1.2, .string (bs m.2.1), .int .i64 m.2.2.1, .int .u32 m.2.2.2.1, .int .i64 m.2.2.2.2]) ∧ Below w.heap.size w w'
theorem maxL_succ {xs : List Pm} {k : Nat} {u : Pm} (h : xs[k]? = some u) : maxL (xs.take (k + 1)) = stepL (maxL (xs.take k)) u := by
  unfold maxL
  rw [List.take_add_one, h, List.foldl_append]; rfl
set_option maxRecDepth 100000 in
set_option maxHeartbeats 2000000 in
theorem maxP_any (A : Option Addr) (n c : Nat) (xs : List Pm) (w : World) (hA : RdP w w.heap.size A n xs) (hn0 : 0 < n) (hn : n ≤ 100000) :
    Calls Try.prog 68 #[.slice A n c, .func (.func 69) #[] #[]] w (PostMax w xs) := by
  have hl := hA.len
  have hb0 : Below w.heap.size w (w.alloc (.cells #[.int .i64 0, .int .u32 0, .int .i64 0, .string ⟨#[]⟩, .int .i64 0, .int .u32 0, .int .i64 0] 96)) := (Below.refl _ w).alloc (Nat.le_refl _) _
  have hbr : (w.alloc (.cells #[.int .i64 0, .int .u32 0, .int .i64 0, .string ⟨#[]⟩, .int .i64 0, .int .u32 0, .int .i64 0] 96)).heap[w.heap.size]? = some (.cells #[.int .i64 0, .int .u32 0, .int .i64 0, .string ⟨#[]⟩, .int .i64 0, .int .u32 0, .int .i64 0] 96 (0, 0)) := heap_at _ _ rfl
  obtain ⟨bA, oA, u0, rfl, hbA, hq0, hcp⟩ := (hA.below hb0).at_ hn0
  generalize hW : (w.alloc (.cells #[.int .i64 0, .int .u32 0, .int .i64 0, .string ⟨#[]⟩, .int .i64 0, .int .u32 0, .int .i64 0] 96)) = W at hb0 hbr hcp
  have p0 := hcp 0 _ rfl
  have p1 := hcp 1 _ rfl
  have p2 := hcp 2 _ rfl
  have p3 := hcp 3 _ rfl
  have p4 := hcp 4 _ rfl
  have p5 := hcp 5 _ rfl
  have p6 := hcp 6 _ rfl
  simp only [Nat.zero_mul, Nat.add_zero] at p0 p1 p2 p3 p4 p5 p6
  have hbrH := Lib.hid hbr
  have hltr := blk_lt hbr
  have hzW := hb0.size
  have hbA2 : bA < W.heap.size := by omega
  have hnd : decide ((n : Int) < 1) = false := decide_eq_false (by omega)
  have hnd2 : ¬ (n : Int) < 1 := by omega
  have hm0 : Hid (maxL (xs.take 1) = some u0) := Lib.hid (by
    cases xs with
    | nil => simp at hq0
    | cons x t => simp at hq0; subst hq0; rfl)
  have hArH := Lib.hid (fun w' (h : Below w.heap.size w w') => (hA.below h).more h.size)
  have hlH := Lib.hid hl
  clear hbr hA hcp hq0 hl
  go_enter Try.func68, Try.ntmps68
  go_upto_region 4 with (fail)
  try rw [hW]
  clear hW
  obtain ⟨w1, hwn⟩ : ∃ w9, W.alloc (.cells #[.int .i64 u0.1.1.1, .int .u32 u0.1.1.2, .int .i64 u0.1.2, .string (bs u0.2.1), .int .i64 u0.2.2.1, .int .u32 u0.2.2.2.1, .int .i64 u0.2.2.2.2] 96) = w9 := ⟨_, rfl⟩
  have hbm : w1.heap[W.heap.size]? = some (.cells #[.int .i64 u0.1.1.1, .int .u32 u0.1.1.2, .int .i64 u0.1.2, .string (bs u0.2.1), .int .i64 u0.2.2.1, .int .u32 u0.2.2.2.1, .int .i64 u0.2.2.2.2] 96 (0, 0)) := by rw [← hwn]; exact heap_at _ _ rfl
  have hb1 : Below W.heap.size W w1 := by rw [← hwn]; exact (Below.refl _ W).alloc (Nat.le_refl _) _
  rw [hwn]
  clear hwn
  have hz1 := hb1.size
  have hbmH := Lib.hid hbm
  have hG1 := hb0.trans (hb1.mono hzW)
  clear p0 p1 p2 p3 p4 p5 p6 hbm
  go_wp2_with fail
  go_loopg [6] n (fun g i wr => ∃ (k : Nat) (m : Pm), 1 ≤ k ∧ k ≤ n ∧ g = n + 1 - k ∧ i = .int .i64 (k : Int) ∧ maxL (xs.take k) = some m ∧ wr.heap[W.heap.size]? = some (.cells #[.int .i64 m.1.1.1, .int .u32 m.1.1.2, .int .i64 m.1.2, .string (bs m.2.1), .int .i64 m.2.2.1, .int .u32 m.2.2.2.1, .int .i64 m.2.2.2.2] 96 (0, 0)) ∧ Below W.heap.size W wr)
  case atStart => exact ⟨1, u0, by omega, by omega, by omega, rfl, hm0.out, hbmH.out, hb1⟩
  case round =>
    obtain ⟨k, m, hk1, hk, rfl, rfl, hmk, hm, hbr⟩ := hrel
    have hz := hbr.size
    have hGr := hb0.trans (hbr.mono hzW)
    have hlm := blk_lt hm
    have m0 := blk_cell hm 0
    have m1 := blk_cell hm 1
    have m2 := blk_cell hm 2
    have m3 := blk_cell hm 3
    have m4 := blk_cell hm 4
    have m5 := blk_cell hm 5
    have m6 := blk_cell hm 6
    simp at m0 m1 m2 m3 m4 m5 m6
    have hmH := Lib.hid hm
    have hmkH := Lib.hid hmk
    clear hm hmk
    by_cases hlt : k < n
    · obtain ⟨bB, oB, u, hAe, hbB, hqu, hcp⟩ := (hArH.out wr hGr).at_ hlt
      injection hAe with hAe
      injection hAe with h1 h2 h3
      subst h1; subst h2
      have p0 := hcp 0 _ rfl
      have p1 := hcp 1 _ rfl
      have p2 := hcp 2 _ rfl
      have p3 := hcp 3 _ rfl
      have p4 := hcp 4 _ rfl
      have p5 := hcp 5 _ rfl
      have p6 := hcp 6 _ rfl
      rw [Nat.add_zero] at p0
      have hlti : (k : Int) < (n : Int) := by omega
      have hbA3 : bA < wr.heap.size := by omega
      have hst := Lib.hid (maxL_succ hqu)
      have cl := Lib.hid (later_any u m)
      clear hcp hqu h3 hbB
      have hstep : Hid (maxL (xs.take (k + 1)) = some (if 0 < cmpL u m then u else m)) := Lib.hid (by rw [hst.out, hmkH.out]; rfl)
      generalize cmpL u m = z at cl hstep
      have hqq : KQ wr.heap.size wr wr := kq (Below.refl _ _)
      go_upto_region 7 with (fail)
      go_region_held3 (fun w' => KQ wr.heap.size wr w') (first
      | with_reducible exact kq_call (by assumption) (by simp) (by assumption)
      | with_reducible exact kq_alloc (by with_reducible assumption) (Nat.le_refl _) _
      | with_reducible exact kq_alloc (kq_drew (by assumption)) (Nat.le_refl _) _
      | ((with_reducible refine kq ?_); (repeat (first | (with_reducible exact Below.refl _ _) | (with_reducible refine Below.drew ?_) | (with_reducible refine Below.alloc ?_ (by simp) _) | (with_reducible refine Below.setCell ?_ (by simp) _) | (with_reducible exact (by assumption : KQ _ _ _).1))); done))
        (first | ((with_reducible refine (cl.out _).mono ?_); rintro e v1 ⟨rfl, hv1⟩))
      have hF : KQ wr.heap.size wr v1 := by with_reducible assumption
      have hv := hF.1
      have hmv := blk_below hmH.out hv
      have hbv := hbr.trans (hv.mono hz)
      have c0 := (hv.cell (p := ⟨bA, _, none⟩) hbA3).trans p0
      have c1 := (hv.cell (p := ⟨bA, _, none⟩) hbA3).trans p1
      have c2 := (hv.cell (p := ⟨bA, _, none⟩) hbA3).trans p2
      have c3 := (hv.cell (p := ⟨bA, _, none⟩) hbA3).trans p3
      have c4 := (hv.cell (p := ⟨bA, _, none⟩) hbA3).trans p4
      have c5 := (hv.cell (p := ⟨bA, _, none⟩) hbA3).trans p5
      have c6 := (hv.cell (p := ⟨bA, _, none⟩) hbA3).trans p6
      have hzv := hv.size
      have hbA4 : bA < v1.heap.size := by omega
      have hlv := blk_lt hmv
      have hfv := blk_frozen hmv
      clear hF cl hqq
      by_cases hz0 : 0 < z
      · have hzd : decide (0 < z) = true := decide_eq_true hz0
        have hfin := hstep.out
        rw [if_pos hz0] at hfin
        have hfinH := Lib.hid hfin
        have hmvH := Lib.hid hmv
        have hbvH := Lib.hid hbv
        clear hfin hmv hbv
        go_wp2
        go_roundg (n + 1 - (k + 1))
        case measure => omega
        case rel => exact ⟨k + 1, u, by omega, by omega, rfl, by go_num, hfinH.out, (by (rw [blk_set (blk_set (blk_set (blk_set (blk_set (blk_set (blk_set hmvH.out 0 _) 1 _) 2 _) 3 _) 4 _) 5 _) 6 _]; rfl)), ((((((((hbvH.out).setCell (by dsimp only; omega) _).setCell (by dsimp only; omega) _).setCell (by dsimp only; omega) _).setCell (by dsimp only; omega) _).setCell (by dsimp only; omega) _).setCell (by dsimp only; omega) _).setCell (by dsimp only; omega) _)⟩
      · have hzd : decide (0 < z) = false := decide_eq_false hz0
        have hfin := hstep.out
        rw [if_neg hz0] at hfin
        have hfinH := Lib.hid hfin
        have hmvH := Lib.hid hmv
        clear hfin hmv
        go_wp2
        go_roundg (n + 1 - (k + 1))
        case measure => omega
        case rel => exact ⟨k + 1, m, by omega, by omega, rfl, by go_num, hfinH.out, hmvH.out, hbv⟩
    · obtain rfl : k = n := by omega
      have hnli : ¬ (k : Int) < (k : Int) := by omega
      have hfin : Hid (maxL xs = some m) := Lib.hid (by rw [← hmkH.out, List.take_of_length_le (by rw [hlH.out]; exact Nat.le_refl _)])
      have hrr := blk_below hbrH.out hbr
      have hlr := blk_lt hrr
      have hfr := blk_frozen hrr
      have r0 := blk_cell hrr 0
      have r1 := blk_cell hrr 1
      have r2 := blk_cell hrr 2
      have r3 := blk_cell hrr 3
      have r4 := blk_cell hrr 4
      have r5 := blk_cell hrr 5
      have r6 := blk_cell hrr 6
      simp at r0 r1 r2 r3 r4 r5 r6
      have hGs := hGr
      have hrrH := Lib.hid hrr
      clear hrr
      go_wp2
      exact bodyPost_ret (v := .agg #[.int .i64 m.1.1.1, .int .u32 m.1.1.2, .int .i64 m.1.2, .string (bs m.2.1), .int .i64 m.2.2.1, .int .u32 m.2.2.2.1, .int .i64 m.2.2.2.2]) (by simp [results, Try.results68, go_sem, r0, r1, r2, r3, r4, r5, r6]) rfl ⟨m, hfin.out, rfl, ((((((((hGs).setCell (by dsimp only; omega) _).setCell (by dsimp only; omega) _).setCell (by dsimp only; omega) _).setCell (by dsimp only; omega) _).setCell (by dsimp only; omega) _).setCell (by dsimp only; omega) _).setCell (by dsimp only; omega) _)⟩
end Go.Proofs.Ytadldndmmobpdaa
namespace Go.Proofs.Ytadldndmmobpdaa
open Go.RowKit

/-- What was put for a field and holds. -/
def ofM (xs : List Pm) (gs : List Tm) (f : List UInt8) : List Pm := if mErr xs gs ≠ 0 then [] else xs.filter fun p => decide (p.2.1 = f)
def tagsM (xs : List Pm) (gs : List Tm) (f : List UInt8) : List Tm := if mErr xs gs ≠ 0 then [] else (xs.filter fun p => decide (p.2.1 = f)).map Prod.fst
theorem tagsM_of (xs : List Pm) (gs : List Tm) (f : List UInt8) : (ofM xs gs f).map Prod.fst = tagsM xs gs f := by
  unfold ofM tagsM; split <;> rfl
set_option maxRecDepth 100000 in
set_option maxHeartbeats 2000000 in
theorem rmtags_any (A : Option Addr) (n c : Nat) (xs : List Pm) (B : Option Addr) (m d : Nat) (gs : List Tm) (e : List UInt8) (w : World) (hA : RdP w w.heap.size A n xs) (hB : RdT w w.heap.size B m gs) (hn : n ≤ 100000) (hm : m ≤ 100000) (hx : ∀ a ∈ xs, a.wf) (hg : ∀ t ∈ gs, t.wf) (hl : ∀ a ∈ xs, a.2.1.length ≤ maxLen) :
    Calls Try.prog 33 #[.agg #[.slice A n c, .slice B m d], .string (bs e)] w fun r w' => ∃ T t c', r = .returned (.slice T t c') ∧ Ow w' w.heap.size 79 3 (.slice T t c') ((tagsM xs gs e).map Tm.enc) ∧ Below w.heap.size w w' := by
  have hb0 : Below w.heap.size w (w.alloc (.cells #[.slice A n c, .slice B m d] 52)) := (Below.refl _ w).alloc (Nat.le_refl _) _
  have hbx : (w.alloc (.cells #[.slice A n c, .slice B m d] 52)).heap[w.heap.size]? = some (.cells #[.slice A n c, .slice B m d] 52 (0, 0)) := heap_at _ _ rfl
  generalize hW : w.alloc (.cells #[.slice A n c, .slice B m d] 52) = W at hb0 hbx
  have hbxH := Lib.hid hbx
  have hltx := blk_lt hbx
  have s0 := blk_cell hbx 0
  have s1 := blk_cell hbx 1
  simp at s0 s1
  have hnl := Lib.hid hA.len
  have hck := Lib.hid (rmcheck_any A n c xs B m d gs W ((hA.below hb0).more hb0.size) ((hB.below hb0).more hb0.size) (by first | omega | (simp [maxLen]; omega)) (by first | omega | (simp [maxLen]; omega)) hx hg hl)
  have hAr := Lib.hid (fun w' (h : Below w.heap.size w w') => hA.below h)
  generalize hr : tagsM xs gs e = out
  unfold tagsM at hr
  generalize hpe : mErr xs gs = p at hck hr
  by_cases hp : p = 0
  case neg =>
    rw [if_pos hp] at hr
    subst hr
    have hpn : (p != 0) = true := by simpa using hp
    clear hpe hp hbx hA hB
    go_enter Try.func33, Try.ntmps33
    go_wp2_with fail
    refine hck.out.mono ?_
    rintro e w1 ⟨rfl, hv1⟩
    have hG := hb0.trans (hv1.mono hb0.size)
    go_wp2
    go_ret
    exact ⟨none, 0, 0, rfl, Ow.nil_ _ _ _ _, hG⟩
  subst hp
  rw [if_neg (by simp)] at hr
  have hrH := Lib.hid hr
  have hzW := hb0.size
  clear hpe hr hbx hA hB hx hg hl
  go_enter Try.func33, Try.ntmps33
  go_wp2_with fail
  refine hck.out.mono ?_
  rintro e' w1 ⟨rfl, hv1⟩
  have hs1 := blk_below hbxH.out hv1
  clear s0 s1
  have hltx := blk_lt hs1
  have s0 := blk_cell hs1 0
  have s1 := blk_cell hs1 1
  simp at s0 s1
  clear hck
  go_wp2_with fail
  clear s0 s1 hltx hs1
  go_loopg [5, 6] (n + 1) (fun g o i wr => ∃ (k t : Nat) (T : Option Addr) (c' : Nat), k ≤ n ∧ g = n + 1 - k ∧ i = .int .i64 (k : Int) ∧ o = .slice T t c' ∧ Ow wr W.heap.size 79 3 (.slice T t c') ((((xs.take k).filter fun a => decide (a.2.1 = e)).map Prod.fst).map Tm.enc) ∧ Below W.heap.size W wr)
  case atStart => exact ⟨0, 0, none, 0, Nat.zero_le _, rfl, rfl, rfl, Ow.nil_ _ _ _ _, hv1⟩
  case round =>
    clear hv1
    obtain ⟨k, t, T, c', hk, rfl, rfl, rfl, hown, hbr⟩ := hrel
    have hz := hbr.size
    have hGw := hb0.trans (hbr.mono hzW)
    have hsr := blk_below hbxH.out hbr
    have hltx := blk_lt hsr
    have s0 := blk_cell hsr 0
    have s1 := blk_cell hsr 1
    simp at s0 s1
    by_cases hlt : k < n
    · obtain ⟨bA, oA, u, rfl, hbA, hq, hcp⟩ := (hAr.out wr hGw).at_ hlt
      have p0 := hcp 0 _ rfl
      have p1 := hcp 1 _ rfl
      have p2 := hcp 2 _ rfl
      have p3 := hcp 3 _ rfl
      have p4 := hcp 4 _ rfl
      have p5 := hcp 5 _ rfl
      have p6 := hcp 6 _ rfl
      rw [Nat.add_zero] at p0
      clear hcp hsr
      have hlti : (k : Int) < (n : Int) := by omega
      have hbA2 : bA < wr.heap.size := by omega
      have htk : Hid (t ≤ k) := Lib.hid (by
        have h1 := hown.rd.2.1
        rw [List.length_map, List.length_map] at h1
        have h2 := List.length_filter_le (fun a : Pm => decide (a.2.1 = e)) (xs.take k)
        rw [List.length_take] at h2
        omega)
      have hst := Lib.hid (filter_takeG (p := fun a : Pm => decide (a.2.1 = e)) hq)
      have hlt2 : Hid (((((xs.take k).filter fun a => decide (a.2.1 = e)).map Prod.fst).map Tm.enc).length = t) := Lib.hid hown.rd.2.1
      clear hq
      by_cases heq : u.2.1 = e
      · have hqb : ((bs u.2.1).toList == (bs e).toList) = true := by rw [bs_empty, bs_empty, heq]; simp
        have hT : Hid (((((xs.take (k + 1)).filter fun a => decide (a.2.1 = e)).map Prod.fst).map Tm.enc) = ((((xs.take k).filter fun a => decide (a.2.1 = e)).map Prod.fst).map Tm.enc) ++ [[.int .i64 u.1.1.1, .int .u32 u.1.1.2, .int .i64 u.1.2]]) := Lib.hid (by rw [hst.out, decide_eq_true heq, if_pos rfl]; simp [Tm.enc])
        have hbO : Below wr.heap.size wr (wr.alloc (.cells #[.int .i64 u.1.1.1, .int .u32 u.1.1.2, .int .i64 u.1.2] 79)) := (Below.refl _ wr).alloc (Nat.le_refl _) _
        have hlen1 : ∀ y ∈ ([[.int .i64 u.1.1.1, .int .u32 u.1.1.2, .int .i64 u.1.2]] : List (List Value)), y.length = 3 := by simp
        have hone1 : ∀ y ∈ ([[.int .i64 u.1.1.1, .int .u32 u.1.1.2, .int .i64 u.1.2]] : List (List Value)), ∀ v ∈ y, v.oneCell' = true := by simp [Value.oneCell']
        have hkn : k ≤ 100000 := by omega
        clear heq
        go_wp2_with (at_builtin; refine wpList_append_rd _ rfl _ _ _ rfl eTag (base := W.heap.size) (v := .slice T t c') (xs := (((xs.take k).filter fun a => decide (a.2.1 = e)).map Prod.fst).map Tm.enc) rfl (hown.below hbO) rfl (Rd.one' [.int .i64 u.1.1.1, .int .u32 u.1.1.2, .int .i64 u.1.2] (by first | rfl | simp)) hlen1 hone1 (by rw [hlt2.out]; have := htk.out; unfold maxLen; omega) (by rw [hlt2.out]; have := htk.out; omega) (by simp; omega) ?_; intro A2 n2 c2 w4 hn2 hown4 hg4 hat4; (obtain rfl : n2 = t + 1 := (by rw [hn2, hlt2.out])); clear hn2)
        have hG : Below W.heap.size W w4 := (hbr.alloc hz _).grown hg4 (by simp; omega) (fun g e => (hown.block g e).1)
        go_roundg (n + 1 - (k + 1))
        case measure => omega
        case rel => exact ⟨k + 1, t + 1, A2, c2, by omega, rfl, by go_num, rfl, by rw [hT.out]; exact hown4, hG⟩
      · have hqb : ((bs u.2.1).toList == (bs e).toList) = false := by rw [bs_empty, bs_empty, beq_eq_false_iff_ne]; exact heq
        have hT : Hid (((((xs.take (k + 1)).filter fun a => decide (a.2.1 = e)).map Prod.fst).map Tm.enc) = ((((xs.take k).filter fun a => decide (a.2.1 = e)).map Prod.fst).map Tm.enc)) := Lib.hid (by rw [hst.out, decide_eq_false heq]; simp)
        have hG : Below W.heap.size W wr := hbr
        have hbO : Below wr.heap.size wr wr := Below.refl _ wr
        clear heq
        go_wp2
        go_roundg (n + 1 - (k + 1))
        case measure => omega
        case rel => exact ⟨k + 1, t, T, c', by omega, rfl, by go_num, rfl, by rw [hT.out]; exact hown.below hbO, hG⟩
    · obtain rfl : k = n := by omega
      have hnli : ¬ (k : Int) < (k : Int) := by omega
      have hT : Hid ((((xs.take k).filter fun a => decide (a.2.1 = e)).map Prod.fst) = out) := Lib.hid (by rw [List.take_of_length_le (by have := hnl.out; omega)]; exact hrH.out)
      rw [hT.out] at hown
      clear hsr
      go_wp2
      go_ret
      exact ⟨T, t, c', rfl, hown.base hzW, hGw⟩
set_option maxRecDepth 100000 in
theorem mof1_any (fb : Nat) (f : List UInt8) (a : Pm) (w : World) (hs : w.heap[fb]? = some (.cells #[.string (bs f)] 9 (0, 0))) :
    Calls Try.prog 116 #[.agg #[.int .i64 a.1.1.1, .int .u32 a.1.1.2, .int .i64 a.1.2, .string (bs a.2.1), .int .i64 a.2.2.1, .int .u32 a.2.2.2.1, .int .i64 a.2.2.2.2], .pointer (some ⟨fb, 0, none⟩)] w fun e w' => e = .returned (.bool (!decide (a.2.1 = f))) ∧ Below w.heap.size w w' := by
  have hb0 : Below w.heap.size w (w.alloc (.cells #[.int .i64 a.1.1.1, .int .u32 a.1.1.2, .int .i64 a.1.2, .string (bs a.2.1), .int .i64 a.2.2.1, .int .u32 a.2.2.2.1, .int .i64 a.2.2.2.2] 96)) := (Below.refl _ w).alloc (Nat.le_refl _) _
  have hbx : (w.alloc (.cells #[.int .i64 a.1.1.1, .int .u32 a.1.1.2, .int .i64 a.1.2, .string (bs a.2.1), .int .i64 a.2.2.1, .int .u32 a.2.2.2.1, .int .i64 a.2.2.2.2] 96)).heap[w.heap.size]? = some (.cells #[.int .i64 a.1.1.1, .int .u32 a.1.1.2, .int .i64 a.1.2, .string (bs a.2.1), .int .i64 a.2.2.1, .int .u32 a.2.2.2.1, .int .i64 a.2.2.2.2] 96 (0, 0)) := heap_at _ _ rfl
  have hs0 := blk_below hs hb0
  generalize hW : w.alloc (.cells #[.int .i64 a.1.1.1, .int .u32 a.1.1.2, .int .i64 a.1.2, .string (bs a.2.1), .int .i64 a.2.2.1, .int .u32 a.2.2.2.1, .int .i64 a.2.2.2.2] 96) = W at hb0 hbx hs0
  have hltx := blk_lt hbx
  have hlts := blk_lt hs0
  have p0 := blk_cell hbx 0
  have p1 := blk_cell hbx 1
  have p2 := blk_cell hbx 2
  have p3 := blk_cell hbx 3
  have p4 := blk_cell hbx 4
  have p5 := blk_cell hbx 5
  have p6 := blk_cell hbx 6
  have s0 := blk_cell hs0 0
  simp at p0 p1 p2 p3 p4 p5 p6 s0
  clear hbx hs0
  by_cases heq : a.2.1 = f
  · have hqb : ((bs a.2.1).toList == (bs f).toList) = true := by rw [bs_empty, bs_empty, heq]; simp
    have hT : Hid (false = !decide (a.2.1 = f)) := Lib.hid (by rw [decide_eq_true heq]; rfl)
    clear heq
    go_enter Try.func116, Try.ntmps116
    go_wp2
    go_ret
    exact ⟨ret_bool hT.out, hb0⟩
  · have hqb : ((bs a.2.1).toList == (bs f).toList) = false := by rw [bs_empty, bs_empty, beq_eq_false_iff_ne]; exact heq
    have hT : Hid (true = !decide (a.2.1 = f)) := Lib.hid (by rw [decide_eq_false heq]; rfl)
    clear heq
    go_enter Try.func116, Try.ntmps116
    go_wp2
    go_ret
    exact ⟨ret_bool hT.out, hb0⟩
set_option maxRecDepth 100000 in
set_option maxHeartbeats 1000000 in
theorem mof_any (A : Option Addr) (n c : Nat) (xs : List Pm) (B : Option Addr) (m d : Nat) (gs : List Tm) (f : List UInt8) (w : World) (hA : RdP w w.heap.size A n xs) (hB : RdT w w.heap.size B m gs) (hn : n ≤ 100000) (hm : m ≤ 100000) (hx : ∀ a ∈ xs, a.wf) (hg : ∀ t ∈ gs, t.wf) (hl : ∀ a ∈ xs, a.2.1.length ≤ maxLen) :
    Calls Try.prog 67 #[.agg #[.slice A n c, .slice B m d], .string (bs f)] w fun e w' => ∃ A' n' c', e = .returned (.slice A' n' c') ∧ n' ≤ 100000 ∧ Ow w' w.heap.size 96 7 (.slice A' n' c') ((ofM xs gs f).map Pm.enc) ∧ Below w.heap.size w w' := by
  have hb0 : Below w.heap.size w ((w.alloc (.cells #[.slice A n c, .slice B m d] 56)).alloc (.cells #[.string (bs f)] 9)) := ((Below.refl _ w).alloc (Nat.le_refl _) _).alloc (by simp) _
  have hbx : ((w.alloc (.cells #[.slice A n c, .slice B m d] 56)).alloc (.cells #[.string (bs f)] 9)).heap[w.heap.size]? = some (.cells #[.slice A n c, .slice B m d] 56 (0, 0)) := heap_old _ (by simp) (heap_at _ _ rfl)
  have hbf : ((w.alloc (.cells #[.slice A n c, .slice B m d] 56)).alloc (.cells #[.string (bs f)] 9)).heap[w.heap.size + 1]? = some (.cells #[.string (bs f)] 9 (0, 0)) := heap_at _ _ (by simp)
  generalize hW : ((w.alloc (.cells #[.slice A n c, .slice B m d] 56)).alloc (.cells #[.string (bs f)] 9)) = W at hb0 hbx hbf
  have hbxH := Lib.hid hbx
  have hbfH := Lib.hid hbf
  have hltx := blk_lt hbx
  have s0 := blk_cell hbx 0
  have s1 := blk_cell hbx 1
  simp at s0 s1
  have hltf := blk_lt hbf
  have hck := Lib.hid (mcheck_any A n c xs B m d gs W ((hA.below hb0).more hb0.size) ((hB.below hb0).more hb0.size) (by simp [maxLen]; omega) (by simp [maxLen]; omega) hx hg hl)
  generalize hr : ofM xs gs f = out
  unfold ofM at hr
  generalize hpe : mErr xs gs = p at hck hr
  have hzW := hb0.size
  by_cases hp : p = 0
  case neg =>
    rw [if_pos hp] at hr
    subst hr
    have hpn : (p != 0) = true := by simpa using hp
    clear hpe hp hbx hbf hA hB
    go_enter Try.func67, Try.ntmps67
    go_wp2_with fail
    refine hck.out.mono ?_
    rintro e w1 ⟨rfl, hv1⟩
    have hG := hb0.trans (hv1.mono hb0.size)
    go_wp2
    go_ret
    exact ⟨none, 0, 0, rfl, by omega, Ow.nil_ _ _ _ _, hG⟩
  subst hp
  rw [if_neg (by simp)] at hr
  subst hr
  have hAr := Lib.hid (fun w' (h : Below w.heap.size w w') => hA.below h)
  clear hpe hbx hbf hA hB hx hg hl
  go_enter Try.func67, Try.ntmps67
  go_wp2_with fail
  refine hck.out.mono ?_
  rintro e' w1 ⟨rfl, hv1⟩
  have hG1 := hb0.trans (hv1.mono hzW)
  have hs1 := blk_below hbxH.out hv1
  have hf1 := blk_below hbfH.out hv1
  clear s0 s1 hltx hck
  have hltx := blk_lt hs1
  have s0 := blk_cell hs1 0
  have s1 := blk_cell hs1 1
  simp at s0 s1
  have hf1H := Lib.hid hf1
  have hltf1 := blk_lt hf1
  clear hs1 hf1
  go_wp2_with fail
  refine (cloneP_any A n c xs w1 ((hAr.out _ hG1).more hG1.size) hn).mono ?_
  rintro e w2 ⟨A2, c2, rfl, o2, hv2⟩
  have hf2 := blk_below hf1H.out hv2
  have hf2H := Lib.hid hf2
  clear hf2 s0 s1 hltx
  go_wp2_with fail
  refine (delfP_gen 116 #[.pointer (some ⟨w.heap.size + 1, 0, none⟩)] (fun p => !decide (p.2.1 = f)) (enters_of Try.func116 (by kernel_rfl) rfl) w1.heap.size A2 n c2 xs w2 o2 hn (fun a ha w' hbw => mof1_any (w.heap.size + 1) f a w' ((hbw.block _ (by omega)).trans hf2H.out)) hv2.size).mono ?_
  rintro e w3 ⟨m3, rfl, o3, hg3⟩
  have hG3 : Below w.heap.size w w3 := hG1.trans ((hv2.grown hg3 hv2.size (fun q hq => (o2.block q hq).1)).mono hG1.size)
  have hT : (xs.filter fun x => !(!decide (x.2.1 = f))) = xs.filter fun p => decide (p.2.1 = f) := by simp
  rw [hT] at o3
  have hm3 : m3 ≤ 100000 := by
    have h1 := o3.rd.2.1
    rw [List.length_map] at h1
    have h2 := List.length_filter_le (fun p : Pm => decide (p.2.1 = f)) xs
    have h3 := (hAr.out w (Below.refl _ _)).len
    omega
  have o3H := Lib.hid (o3.base (base' := w.heap.size) hG1.size)
  clear hg3 o3 o2 hf2H
  go_wp2
  go_ret
  exact ⟨A2, m3, c2, rfl, hm3, o3H.out, hG3⟩
set_option maxRecDepth 100000 in
set_option maxHeartbeats 1000000 in
theorem mtagsf_any (A : Option Addr) (n c : Nat) (xs : List Pm) (B : Option Addr) (m d : Nat) (gs : List Tm) (f : List UInt8) (w : World) (hA : RdP w w.heap.size A n xs) (hB : RdT w w.heap.size B m gs) (hn : n ≤ 100000) (hm : m ≤ 100000) (hx : ∀ a ∈ xs, a.wf) (hg : ∀ t ∈ gs, t.wf) (hl : ∀ a ∈ xs, a.2.1.length ≤ maxLen) :
    Calls Try.prog 32 #[.agg #[.slice A n c, .slice B m d], .string (bs f)] w fun e w' => ∃ T t c', e = .returned (.slice T t c') ∧ Ow w' w.heap.size 79 3 (.slice T t c') ((tagsM xs gs f).map Tm.enc) ∧ Below w.heap.size w w' := by
  have hb0 : Below w.heap.size w (w.alloc (.cells #[.slice A n c, .slice B m d] 56)) := (Below.refl _ w).alloc (Nat.le_refl _) _
  have hbx : (w.alloc (.cells #[.slice A n c, .slice B m d] 56)).heap[w.heap.size]? = some (.cells #[.slice A n c, .slice B m d] 56 (0, 0)) := heap_at _ _ rfl
  generalize hW : w.alloc (.cells #[.slice A n c, .slice B m d] 56) = W at hb0 hbx
  have hltx := blk_lt hbx
  have s0 := blk_cell hbx 0
  have s1 := blk_cell hbx 1
  simp at s0 s1
  have cO := Lib.hid (mof_any A n c xs B m d gs f W ((hA.below hb0).more hb0.size) ((hB.below hb0).more hb0.size) hn hm hx hg hl)
  have hT := Lib.hid (tagsM_of xs gs f)
  clear hA hB hx hg hl hbx
  generalize ofM xs gs f = L at cO hT
  go_enter Try.func32, Try.ntmps32
  go_wp2_with fail
  refine cO.out.mono ?_
  rintro e w1 ⟨A1, n1, c1, rfl, hn1, o1, hv1⟩
  have hG1 := hb0.trans (hv1.mono hb0.size)
  go_wp2_with fail
  refine (mtags_any A1 n1 c1 L w1 o1.rd.1 hn1).mono ?_
  rintro e w2 ⟨T, c2, rfl, o2, hv2⟩
  have hG2 := hG1.trans (hv2.mono hG1.size)
  rw [hT.out] at o2
  have o2H := Lib.hid (o2.base (base' := w.heap.size) hG1.size)
  clear o1 o2
  go_wp2
  go_ret
  exact ⟨T, n1, c2, rfl, o2H.out, hG2⟩
/-- The document's way to a field's value: of two puts the later one in the list, unless its stamp is less. -/
def stepD (o : Option Pm) (x : Pm) : Option Pm := match o with | none => some x | some m => some (if 0 ≤ cmpS x.2.2.2 m.2.2.2 then x else m)
def getM (xs : List Pm) (gs : List Tm) (f : List UInt8) : Int × Bool := (((maxL (ofM xs gs f)).map fun m => m.2.2.1).getD 0, (maxL (ofM xs gs f)).isSome)
theorem step_same {x m : Pm} (h : ltT m.1 x.1) : stepL (some m) x = stepD (some m) x := by
  have hc := (gtT_iff x.1 m.1).2 h
  show some (if 0 < cmpL x m then x else m) = some (if 0 ≤ cmpS x.2.2.2 m.2.2.2 then x else m)
  unfold cmpL
  congr 1
  by_cases h0 : cmpS x.2.2.2 m.2.2.2 = 0
  · rw [h0]; simp [hc]
  · rw [if_pos h0]
    by_cases h1 : 0 < cmpS x.2.2.2 m.2.2.2
    · rw [if_pos h1, if_pos (by omega)]
    · rw [if_neg h1, if_neg (by omega)]
theorem fold_same : ∀ (xs : List Pm) (o : Option Pm), ascTP (xs.map Prod.fst) → (∀ m, o = some m → ∀ x ∈ xs, ltT m.1 x.1) → xs.foldl stepL o = xs.foldl stepD o
  | [], _, _, _ => rfl
  | x :: xs, o, ha, ho => by
    rw [List.map_cons] at ha
    obtain ⟨h1, h2⟩ := List.pairwise_cons.1 ha
    have hx : ∀ y ∈ xs, ltT x.1 y.1 := fun y hy => h1 _ (List.mem_map_of_mem hy)
    have hs : stepL o x = stepD o x := by
      cases o with
      | none => rfl
      | some m => exact step_same (ho m rfl x (by simp))
    rw [List.foldl_cons, List.foldl_cons, hs]
    refine fold_same xs _ h2 (fun m hm y hy => ?_)
    cases o with
    | none => simp only [stepD, Option.some.injEq] at hm; subst hm; exact hx y hy
    | some m0 =>
      simp only [stepD, Option.some.injEq] at hm
      split at hm
      · subst hm; exact hx y hy
      · subst hm; exact ho m0 rfl y (by simp [hy])
theorem maxL_D {xs : List Pm} (h : ascTP (xs.map Prod.fst)) : maxL xs = xs.foldl stepD none := fold_same xs none h (fun _ h => by cases h)
set_option maxRecDepth 100000 in
set_option maxHeartbeats 1000000 in
theorem mget_any (A : Option Addr) (n c : Nat) (xs : List Pm) (B : Option Addr) (m d : Nat) (gs : List Tm) (f : List UInt8) (w : World) (hA : RdP w w.heap.size A n xs) (hB : RdT w w.heap.size B m gs) (hn : n ≤ 100000) (hm : m ≤ 100000) (hx : ∀ a ∈ xs, a.wf) (hg : ∀ t ∈ gs, t.wf) (hl : ∀ a ∈ xs, a.2.1.length ≤ maxLen) :
    Calls Try.prog 28 #[.agg #[.slice A n c, .slice B m d], .string (bs f)] w fun e w' => e = .returned (.tuple #[.int .i64 (getM xs gs f).1, .bool (getM xs gs f).2]) ∧ Below w.heap.size w w' := by
  have hb0 : Below w.heap.size w (w.alloc (.cells #[.slice A n c, .slice B m d] 56)) := (Below.refl _ w).alloc (Nat.le_refl _) _
  have hbx : (w.alloc (.cells #[.slice A n c, .slice B m d] 56)).heap[w.heap.size]? = some (.cells #[.slice A n c, .slice B m d] 56 (0, 0)) := heap_at _ _ rfl
  generalize hW : w.alloc (.cells #[.slice A n c, .slice B m d] 56) = W at hb0 hbx
  have hltx := blk_lt hbx
  have s0 := blk_cell hbx 0
  have s1 := blk_cell hbx 1
  simp at s0 s1
  have cO := Lib.hid (mof_any A n c xs B m d gs f W ((hA.below hb0).more hb0.size) ((hB.below hb0).more hb0.size) hn hm hx hg hl)
  generalize hr : getM xs gs f = out
  unfold getM at hr
  clear hA hB hx hg hl hbx
  generalize ofM xs gs f = L at cO hr
  cases hL : L with
  | nil =>
    subst hL
    obtain rfl : out = (0, false) := by rw [← hr]; rfl
    clear hr
    go_enter Try.func28, Try.ntmps28
    go_wp2_with fail
    refine cO.out.mono ?_
    rintro e w1 ⟨A1, n1, c1, rfl, hn1, o1, hv1⟩
    have hG1 := hb0.trans (hv1.mono hb0.size)
    obtain rfl : n1 = 0 := by simpa using o1.rd.2.1.symm
    clear o1
    go_wp2
    exact bodyPost_ret (v := .tuple #[.int .i64 0, .bool false]) (by simp [results, Try.results28, go_sem]) rfl ⟨rfl, hG1⟩
  | cons y t =>
    have hlen : 0 < L.length := by rw [hL]; simp
    have hlenH := Lib.hid hlen
    have hrH := Lib.hid hr
    clear hL hlen hr
    go_enter Try.func28, Try.ntmps28
    go_wp2_with fail
    refine cO.out.mono ?_
    rintro e w1 ⟨A1, n1, c1, rfl, hn1, o1, hv1⟩
    have hG1 := hb0.trans (hv1.mono hb0.size)
    have hn1' : L.length = n1 := by simpa using o1.rd.2.1
    have hpos : 0 < n1 := by have := hlenH.out; omega
    have hnd : ((n1 : Int) == 0) = false := by rw [beq_eq_false_iff_ne]; omega
    have hnd2 : ¬ (n1 : Int) = 0 := by omega
    clear hn1'
    go_wp2_with fail
    refine (maxP_any A1 n1 c1 L w1 o1.rd.1 hpos hn1).mono ?_
    rintro e w2 ⟨M, hM, rfl, hv2⟩
    have hG2 := hG1.trans (hv2.mono hG1.size)
    obtain rfl : out = (M.2.2.1, true) := by rw [← hrH.out, hM]; rfl
    clear o1 hM hrH
    have hfl : ∀ w, (Instr.field 96 (.agg #[.int .i64 M.1.1.1, .int .u32 M.1.1.2, .int .i64 M.1.2, .string (bs M.2.1), .int .i64 M.2.2.1, .int .u32 M.2.2.2.1, .int .i64 M.2.2.2.2]) 2).run Try.prog w = .ok (.int .i64 M.2.2.1) w := fun w => by first | rfl | kernel_rfl
    go_wp2
    exact bodyPost_ret (v := .tuple #[.int .i64 M.2.2.1, .bool true]) (by simp [results, Try.results28, go_sem]) rfl ⟨rfl, hG2⟩
end Go.Proofs.Ytadldndmmobpdaa
