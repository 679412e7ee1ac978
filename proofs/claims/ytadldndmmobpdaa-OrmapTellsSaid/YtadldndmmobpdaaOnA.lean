/- The order in which puts of a field count; the greatest of puts; what was put for a field, its value (the program's). -/
import Derived.Test.YtadldndmmobpdaaOnC
namespace Go.Proofs.Ytadldndmmobpdaa
open Go.RowKit

set_option maxRecDepth 100000 in
theorem plcmp_any (x y : Sm) (w : World) :
    Calls Try.prog 118 #[.agg #[.int .u32 x.1, .int .i64 x.2], .agg #[.int .u32 y.1, .int .i64 y.2]] w fun e w' => e = .returned (.int .i64 (cmpS x y)) ∧ Below w.heap.size w w' := by
  generalize hr : cmpS x y = r
  unfold cmpS at hr
  have hc1 := ccmpu_any x.1 y.1
  have hc2 := ccmp_any x.2 y.2
  have ho := or_any
  generalize ordI x.1 y.1 = p at *
  generalize ordI x.2 y.2 = q at *
  have hc1 := Lib.hid hc1
  have hc2 := Lib.hid hc2
  have ho := Lib.hid (fun g w h0 h1 h2 => hr ▸ ho g p q w h0 h1 h2)
  clear hr
  go_enter Try.func118, Try.ntmps118
  go_wp2
  go_region_held3 (fun w' => KQ (w.heap.size + 2) ((w.alloc (.cells #[.int .u32 x.1, .int .i64 x.2] 92)).alloc (.cells #[.int .u32 y.1, .int .i64 y.2] 92)) w') (first
      | with_reducible exact kq_call (by assumption) (by simp) (by assumption)
      | with_reducible exact kq_grown (by assumption) (by simp) (by assumption) (by simp [Value.ownBlock])
      | ((with_reducible refine kq ?_); (repeat (first | (with_reducible exact Below.refl _ _) | (with_reducible refine Below.drew ?_) | (with_reducible refine Below.alloc ?_ (by simp) _) | (with_reducible refine Below.setCell ?_ (by simp) _) | (with_reducible exact (by assumption : KQ _ _ _).1))); done))
    (first
      | (go_at_call 129; refine (hc2.out _).mono ?_; rintro e w1 ⟨rfl, rfl⟩)
      | (go_at_call 147; refine (hc1.out _).mono ?_; rintro e w1 ⟨rfl, rfl⟩)
      | (go_at_call 117; refine (ho.out _ _ (by simp) (blk_cell (heap_drew (heap_at _ _ (by simp))) 0) (blk_cell (heap_drew (heap_at _ _ (by simp))) 1)).mono ?_; rintro e w1 ⟨rfl, rfl⟩))
  go_wp2
  go_ret
  exact ⟨rfl, ((((Below.refl _ w).alloc (Nat.le_refl _) _).alloc (by simp) _).alloc (by simp; omega) _).drew⟩
set_option maxRecDepth 100000 in
theorem rlcmp_any (x y : Sm) (w : World) :
    Calls Try.prog 70 #[.agg #[.int .u32 x.1, .int .i64 x.2], .agg #[.int .u32 y.1, .int .i64 y.2]] w fun e w' => e = .returned (.int .i64 (cmpS x y)) ∧ Below w.heap.size w w' := by
  generalize hr : cmpS x y = r
  obtain ⟨a, s⟩ := x
  obtain ⟨b, t⟩ := y
  unfold cmpS ordI at hr
  dsimp only at hr ⊢
  have hrH := Lib.hid hr
  clear hr
  have hB : Below w.heap.size w ((w.alloc (.cells #[.int .u32 a, .int .i64 s] 92)).alloc (.cells #[.int .u32 b, .int .i64 t] 92)) := ((Below.refl _ _).alloc (Nat.le_refl _) _).alloc (by simp) _
  rcases Int.lt_trichotomy a b with h | h | h
  · have hT : Hid (-1 = r) := Lib.hid (by rw [← hrH.out]; (repeat' split) <;> omega)
    go_enter Try.func70, Try.ntmps70
    go_wp2
    go_ret
    exact ⟨ret_int hT.out, hB⟩
  · subst h
    have hn : ¬ a < a := by omega
    rcases Int.lt_trichotomy s t with h | h | h
    · have hT : Hid (-1 = r) := Lib.hid (by rw [← hrH.out]; (repeat' split) <;> omega)
      go_enter Try.func70, Try.ntmps70
      go_wp2
      go_ret
      exact ⟨ret_int hT.out, hB⟩
    · subst h
      have hn2 : ¬ s < s := by omega
      have hT : Hid (0 = r) := Lib.hid (by rw [← hrH.out]; (repeat' split) <;> omega)
      go_enter Try.func70, Try.ntmps70
      go_wp2
      go_ret
      exact ⟨ret_int hT.out, hB⟩
    · have hT : Hid (1 = r) := Lib.hid (by rw [← hrH.out]; (repeat' split) <;> omega)
      have hd : decide (s < t) = false := decide_eq_false (by omega)
      have hn3 : ¬ s < t := by omega
      have he : (s == t) = false := by rw [beq_eq_false_iff_ne]; omega
      have hne : ¬ s = t := by omega
      go_enter Try.func70, Try.ntmps70
      go_wp2
      go_ret
      exact ⟨ret_int hT.out, hB⟩
  · have hT : Hid (1 = r) := Lib.hid (by rw [← hrH.out]; (repeat' split) <;> omega)
    have hd : decide (a < b) = false := decide_eq_false (by omega)
    have hn3 : ¬ a < b := by omega
    have he : (a == b) = false := by rw [beq_eq_false_iff_ne]; omega
    have hne : ¬ a = b := by omega
    go_enter Try.func70, Try.ntmps70
    go_wp2
    go_ret
    exact ⟨ret_int hT.out, hB⟩
/-- The order in which puts of a field count. -/
def cmpL (x y : Pm) : Int := if cmpS x.2.2.2 y.2.2.2 ≠ 0 then cmpS x.2.2.2 y.2.2.2 else cmpT x.1 y.1
set_option maxRecDepth 100000 in
set_option maxHeartbeats 1000000 in
theorem later_any (x y : Pm) (w : World) :
    Calls Try.prog 69 #[.agg #[.int .i64 x.1.1.1, .int .u32 x.1.1.2, .int .i64 x.1.2, .string (bs x.2.1), .int .i64 x.2.2.1, .int .u32 x.2.2.2.1, .int .i64 x.2.2.2.2], .agg #[.int .i64 y.1.1.1, .int .u32 y.1.1.2, .int .i64 y.1.2, .string (bs y.2.1), .int .i64 y.2.2.1, .int .u32 y.2.2.2.1, .int .i64 y.2.2.2.2]] w fun e w' => e = .returned (.int .i64 (cmpL x y)) ∧ Below w.heap.size w w' := by
  generalize hr : cmpL x y = r
  unfold cmpL at hr
  have hc1 := plcmp_any x.2.2.2 y.2.2.2
  have hc2 := pcmpt_any x.1 y.1
  have ho := or_any
  generalize cmpS x.2.2.2 y.2.2.2 = p at *
  generalize cmpT x.1 y.1 = q at *
  have hc1 := Lib.hid hc1
  have hc2 := Lib.hid hc2
  have ho := Lib.hid (fun g w h0 h1 h2 => hr ▸ ho g p q w h0 h1 h2)
  clear hr
  have hB0 : Below w.heap.size w ((w.alloc (.cells #[.int .i64 x.1.1.1, .int .u32 x.1.1.2, .int .i64 x.1.2, .string (bs x.2.1), .int .i64 x.2.2.1, .int .u32 x.2.2.2.1, .int .i64 x.2.2.2.2] 96)).alloc (.cells #[.int .i64 y.1.1.1, .int .u32 y.1.1.2, .int .i64 y.1.2, .string (bs y.2.1), .int .i64 y.2.2.1, .int .u32 y.2.2.2.1, .int .i64 y.2.2.2.2] 96)) := ((Below.refl _ w).alloc (Nat.le_refl _) _).alloc (by simp) _
  have hbx : ((w.alloc (.cells #[.int .i64 x.1.1.1, .int .u32 x.1.1.2, .int .i64 x.1.2, .string (bs x.2.1), .int .i64 x.2.2.1, .int .u32 x.2.2.2.1, .int .i64 x.2.2.2.2] 96)).alloc (.cells #[.int .i64 y.1.1.1, .int .u32 y.1.1.2, .int .i64 y.1.2, .string (bs y.2.1), .int .i64 y.2.2.1, .int .u32 y.2.2.2.1, .int .i64 y.2.2.2.2] 96)).heap[w.heap.size]? = some (.cells #[.int .i64 x.1.1.1, .int .u32 x.1.1.2, .int .i64 x.1.2, .string (bs x.2.1), .int .i64 x.2.2.1, .int .u32 x.2.2.2.1, .int .i64 x.2.2.2.2] 96 (0, 0)) := heap_old _ (by simp) (heap_at _ _ rfl)
  have hby : ((w.alloc (.cells #[.int .i64 x.1.1.1, .int .u32 x.1.1.2, .int .i64 x.1.2, .string (bs x.2.1), .int .i64 x.2.2.1, .int .u32 x.2.2.2.1, .int .i64 x.2.2.2.2] 96)).alloc (.cells #[.int .i64 y.1.1.1, .int .u32 y.1.1.2, .int .i64 y.1.2, .string (bs y.2.1), .int .i64 y.2.2.1, .int .u32 y.2.2.2.1, .int .i64 y.2.2.2.2] 96)).heap[w.heap.size + 1]? = some (.cells #[.int .i64 y.1.1.1, .int .u32 y.1.1.2, .int .i64 y.1.2, .string (bs y.2.1), .int .i64 y.2.2.1, .int .u32 y.2.2.2.1, .int .i64 y.2.2.2.2] 96 (0, 0)) := heap_at _ _ (by simp)
  generalize hW : ((w.alloc (.cells #[.int .i64 x.1.1.1, .int .u32 x.1.1.2, .int .i64 x.1.2, .string (bs x.2.1), .int .i64 x.2.2.1, .int .u32 x.2.2.2.1, .int .i64 x.2.2.2.2] 96)).alloc (.cells #[.int .i64 y.1.1.1, .int .u32 y.1.1.2, .int .i64 y.1.2, .string (bs y.2.1), .int .i64 y.2.2.1, .int .u32 y.2.2.2.1, .int .i64 y.2.2.2.2] 96)) = W at hB0 hbx hby
  have hltx := blk_lt hbx
  have hlty := blk_lt hby
  have p0 := blk_cell hbx 0
  have p1 := blk_cell hbx 1
  have p2 := blk_cell hbx 2
  have p3 := blk_cell hbx 3
  have p4 := blk_cell hbx 4
  have p5 := blk_cell hbx 5
  have p6 := blk_cell hbx 6
  have q0 := blk_cell hby 0
  have q1 := blk_cell hby 1
  have q2 := blk_cell hby 2
  have q3 := blk_cell hby 3
  have q4 := blk_cell hby 4
  have q5 := blk_cell hby 5
  have q6 := blk_cell hby 6
  simp at p0 p1 p2 p3 p4 p5 p6 q0 q1 q2 q3 q4 q5 q6
  clear hbx hby
  go_enter Try.func69, Try.ntmps69
  go_wp2
  have hq0 : KQ W.heap.size W W := kq (Below.refl _ _)
  go_region_held3 (fun w' => KQ W.heap.size W w') (first
      | with_reducible exact kq_call (by assumption) (by simp) (by assumption)
      | with_reducible exact kq_alloc (by with_reducible assumption) (Nat.le_refl _) _
      | with_reducible exact kq_alloc (kq_drew (by assumption)) (Nat.le_refl _) _
      | ((with_reducible refine kq ?_); (repeat (first | (with_reducible exact Below.refl _ _) | (with_reducible refine Below.drew ?_) | (with_reducible refine Below.alloc ?_ (by simp) _) | (with_reducible refine Below.setCell ?_ (by simp) _) | (with_reducible exact (by assumption : KQ _ _ _).1))); done))
    (first
      | (go_at_call 118; refine (hc1.out _).mono ?_; rintro e w1 ⟨rfl, hb1⟩)
      | (go_at_call 87; refine (hc2.out _).mono ?_; rintro e w2 ⟨rfl, hb2⟩)
      | (go_at_call 117; refine (ho.out _ _ (by simp) (blk_cell (heap_at _ _ (by simp)) 0) (blk_cell (heap_at _ _ (by simp)) 1)).mono ?_; rintro e w3 ⟨rfl, rfl⟩))
  go_wp2
  go_ret
  exact ⟨rfl, hB0.trans ((by with_reducible assumption : KQ W.heap.size W _).1.mono hB0.size)⟩
/-- The greatest of puts, one after the other. -/
def stepL (o : Option Pm) (x : Pm) : Option Pm := match o with | none => some x | some m => some (if 0 < cmpL x m then x else m)
def maxL (xs : List Pm) : Option Pm := xs.foldl stepL none
def PostMax (w : World) (xs : List Pm) (e : Ending) (w' : World) : Prop := ∃ m : Pm, maxL xs = some m ∧ e = .returned (.agg #[.int .i64 m.1.1.1, .int .u32 m.1.1.2, .int .i64 m.1.2, .string (bs m.2.1), .int .i64 m.2.2.1, .int .u32 m.2.2.2.1, .int .i64 m.2.2.2.2]) ∧ Below w.heap.size w w'
theorem maxL_succ {xs : List Pm} {k : Nat} {u : Pm} (h : xs[k]? = some u) : maxL (xs.take (k + 1)) = stepL (maxL (xs.take k)) u := by
  unfold maxL
  rw [List.take_add_one, h, List.foldl_append]; rfl
set_option maxRecDepth 100000 in
set_option maxHeartbeats 2000000 in
theorem maxP_any (A : Option Addr) (n c : Nat) (xs : List Pm) (w : World) (hA : RdP w w.heap.size A n xs) (hn0 : 0 < n) (hn : n ≤ 100000) :
    Calls Try.prog 68 #[.slice A n c, .func (.func 69) #[] #[]] w (PostMax w xs) := by
  have hl := hA.len
  have hb0 : Below w.heap.size w (w.alloc (.cells #[.int .i64 0, .int .u32 0, .int .i64 0, .string ⟨#[]⟩, .int .i64 0, .int .u32 0, .int .i64 0] 96)) := (Below.refl _ w).alloc (Nat.le_refl _) _
  have hbr : (w.alloc (.cells #[.int .i64 0, .int .u32 0, .int .i64 0, .string ⟨#[]⟩, .int .i64 0, .int .u32 0, .int .i64 0] 96)).heap[w.heap.size]? = some (.cells #[.int .i64 0, .int .u32 0, .int .i64 0, .string ⟨#[]⟩, .int .i64 0, .int .u32 0, .int .i64 0] 96 (0, 0)) := heap_at _ _ rfl
  obtain ⟨bA, oA, u0, rfl, hbA, hq0, hcp⟩ := (hA.below hb0).at_ hn0
  generalize hW : (w.alloc (.cells #[.int .i64 0, .int .u32 0, .int .i64 0, .string ⟨#[]⟩, .int .i64 0, .int .u32 0, .int .i64 0] 96)) = W at hb0 hbr hcp
  have p0 := hcp 0 _ rfl
  have p1 := hcp 1 _ rfl
  have p2 := hcp 2 _ rfl
  have p3 := hcp 3 _ rfl
  have p4 := hcp 4 _ rfl
  have p5 := hcp 5 _ rfl
  have p6 := hcp 6 _ rfl
  simp only [Nat.zero_mul, Nat.add_zero] at p0 p1 p2 p3 p4 p5 p6
  have hbrH := Lib.hid hbr
  have hltr := blk_lt hbr
  have hzW := hb0.size
  have hbA2 : bA < W.heap.size := by omega
  have hnd : decide ((n : Int) < 1) = false := decide_eq_false (by omega)
  have hnd2 : ¬ (n : Int) < 1 := by omega
  have hm0 : Hid (maxL (xs.take 1) = some u0) := Lib.hid (by
    cases xs with
    | nil => simp at hq0
    | cons x t => simp at hq0; subst hq0; rfl)
  have hArH := Lib.hid (fun w' (h : Below w.heap.size w w') => (hA.below h).more h.size)
  have hlH := Lib.hid hl
  clear hbr hA hcp hq0 hl
  go_enter Try.func68, Try.ntmps68
  go_upto_region 4 with (fail)
  try rw [hW]
  clear hW
  obtain ⟨w1, hwn⟩ : ∃ w9, W.alloc (.cells #[.int .i64 u0.1.1.1, .int .u32 u0.1.1.2, .int .i64 u0.1.2, .string (bs u0.2.1), .int .i64 u0.2.2.1, .int .u32 u0.2.2.2.1, .int .i64 u0.2.2.2.2] 96) = w9 := ⟨_, rfl⟩
  have hbm : w1.heap[W.heap.size]? = some (.cells #[.int .i64 u0.1.1.1, .int .u32 u0.1.1.2, .int .i64 u0.1.2, .string (bs u0.2.1), .int .i64 u0.2.2.1, .int .u32 u0.2.2.2.1, .int .i64 u0.2.2.2.2] 96 (0, 0)) := by rw [← hwn]; exact heap_at _ _ rfl
  have hb1 : Below W.heap.size W w1 := by rw [← hwn]; exact (Below.refl _ W).alloc (Nat.le_refl _) _
  rw [hwn]
  clear hwn
  have hz1 := hb1.size
  have hbmH := Lib.hid hbm
  have hG1 := hb0.trans (hb1.mono hzW)
  clear p0 p1 p2 p3 p4 p5 p6 hbm
  go_wp2_with fail
  go_loopg [6] n (fun g i wr => ∃ (k : Nat) (m : Pm), 1 ≤ k ∧ k ≤ n ∧ g = n + 1 - k ∧ i = .int .i64 (k : Int) ∧ maxL (xs.take k) = some m ∧ wr.heap[W.heap.size]? = some (.cells #[.int .i64 m.1.1.1, .int .u32 m.1.1.2, .int .i64 m.1.2, .string (bs m.2.1), .int .i64 m.2.2.1, .int .u32 m.2.2.2.1, .int .i64 m.2.2.2.2] 96 (0, 0)) ∧ Below W.heap.size W wr)
  case atStart => exact ⟨1, u0, by omega, by omega, by omega, rfl, hm0.out, hbmH.out, hb1⟩
  case round =>
    obtain ⟨k, m, hk1, hk, rfl, rfl, hmk, hm, hbr⟩ := hrel
    have hz := hbr.size
    have hGr := hb0.trans (hbr.mono hzW)
    have hlm := blk_lt hm
    have m0 := blk_cell hm 0
    have m1 := blk_cell hm 1
    have m2 := blk_cell hm 2
    have m3 := blk_cell hm 3
    have m4 := blk_cell hm 4
    have m5 := blk_cell hm 5
    have m6 := blk_cell hm 6
    simp at m0 m1 m2 m3 m4 m5 m6
    have hmH := Lib.hid hm
    have hmkH := Lib.hid hmk
    clear hm hmk
    by_cases hlt : k < n
    · obtain ⟨bB, oB, u, hAe, hbB, hqu, hcp⟩ := (hArH.out wr hGr).at_ hlt
      injection hAe with hAe
      injection hAe with h1 h2 h3
      subst h1; subst h2
      have p0 := hcp 0 _ rfl
      have p1 := hcp 1 _ rfl
      have p2 := hcp 2 _ rfl
      have p3 := hcp 3 _ rfl
      have p4 := hcp 4 _ rfl
      have p5 := hcp 5 _ rfl
      have p6 := hcp 6 _ rfl
      rw [Nat.add_zero] at p0
      have hlti : (k : Int) < (n : Int) := by omega
      have hbA3 : bA < wr.heap.size := by omega
      have hst := Lib.hid (maxL_succ hqu)
      have cl := Lib.hid (later_any u m)
      clear hcp hqu h3 hbB
      have hstep : Hid (maxL (xs.take (k + 1)) = some (if 0 < cmpL u m then u else m)) := Lib.hid (by rw [hst.out, hmkH.out]; rfl)
      generalize cmpL u m = z at cl hstep
      have hqq : KQ wr.heap.size wr wr := kq (Below.refl _ _)
      go_upto_region 7 with (fail)
      go_region_held3 (fun w' => KQ wr.heap.size wr w') (first
      | with_reducible exact kq_call (by assumption) (by simp) (by assumption)
      | with_reducible exact kq_alloc (by with_reducible assumption) (Nat.le_refl _) _
      | with_reducible exact kq_alloc (kq_drew (by assumption)) (Nat.le_refl _) _
      | ((with_reducible refine kq ?_); (repeat (first | (with_reducible exact Below.refl _ _) | (with_reducible refine Below.drew ?_) | (with_reducible refine Below.alloc ?_ (by simp) _) | (with_reducible refine Below.setCell ?_ (by simp) _) | (with_reducible exact (by assumption : KQ _ _ _).1))); done))
        (first | ((with_reducible refine (cl.out _).mono ?_); rintro e v1 ⟨rfl, hv1⟩))
      have hF : KQ wr.heap.size wr v1 := by with_reducible assumption
      have hv := hF.1
      have hmv := blk_below hmH.out hv
      have hbv := hbr.trans (hv.mono hz)
      have c0 := (hv.cell (p := ⟨bA, _, none⟩) hbA3).trans p0
      have c1 := (hv.cell (p := ⟨bA, _, none⟩) hbA3).trans p1
      have c2 := (hv.cell (p := ⟨bA, _, none⟩) hbA3).trans p2
      have c3 := (hv.cell (p := ⟨bA, _, none⟩) hbA3).trans p3
      have c4 := (hv.cell (p := ⟨bA, _, none⟩) hbA3).trans p4
      have c5 := (hv.cell (p := ⟨bA, _, none⟩) hbA3).trans p5
      have c6 := (hv.cell (p := ⟨bA, _, none⟩) hbA3).trans p6
      have hzv := hv.size
      have hbA4 : bA < v1.heap.size := by omega
      have hlv := blk_lt hmv
      have hfv := blk_frozen hmv
      clear hF cl hqq
      by_cases hz0 : 0 < z
      · have hzd : decide (0 < z) = true := decide_eq_true hz0
        have hfin := hstep.out
        rw [if_pos hz0] at hfin
        have hfinH := Lib.hid hfin
        have hmvH := Lib.hid hmv
        have hbvH := Lib.hid hbv
        clear hfin hmv hbv
        go_wp2
        go_roundg (n + 1 - (k + 1))
        case measure => omega
        case rel => exact ⟨k + 1, u, by omega, by omega, rfl, by go_num, hfinH.out, (by (rw [blk_set (blk_set (blk_set (blk_set (blk_set (blk_set (blk_set hmvH.out 0 _) 1 _) 2 _) 3 _) 4 _) 5 _) 6 _]; rfl)), ((((((((hbvH.out).setCell (by dsimp only; omega) _).setCell (by dsimp only; omega) _).setCell (by dsimp only; omega) _).setCell (by dsimp only; omega) _).setCell (by dsimp only; omega) _).setCell (by dsimp only; omega) _).setCell (by dsimp only; omega) _)⟩
      · have hzd : decide (0 < z) = false := decide_eq_false hz0
        have hfin := hstep.out
        rw [if_neg hz0] at hfin
        have hfinH := Lib.hid hfin
        have hmvH := Lib.hid hmv
        clear hfin hmv
        go_wp2
        go_roundg (n + 1 - (k + 1))
        case measure => omega
        case rel => exact ⟨k + 1, m, by omega, by omega, rfl, by go_num, hfinH.out, hmvH.out, hbv⟩
    · obtain rfl : k = n := by omega
      have hnli : ¬ (k : Int) < (k : Int) := by omega
      have hfin : Hid (maxL xs = some m) := Lib.hid (by rw [← hmkH.out, List.take_of_length_le (by rw [hlH.out]; exact Nat.le_refl _)])
      have hrr := blk_below hbrH.out hbr
      have hlr := blk_lt hrr
      have hfr := blk_frozen hrr
      have r0 := blk_cell hrr 0
      have r1 := blk_cell hrr 1
      have r2 := blk_cell hrr 2
      have r3 := blk_cell hrr 3
      have r4 := blk_cell hrr 4
      have r5 := blk_cell hrr 5
      have r6 := blk_cell hrr 6
      simp at r0 r1 r2 r3 r4 r5 r6
      have hGs := hGr
      have hrrH := Lib.hid hrr
      clear hrr
      go_wp2
      exact bodyPost_ret (v := .agg #[.int .i64 m.1.1.1, .int .u32 m.1.1.2, .int .i64 m.1.2, .string (bs m.2.1), .int .i64 m.2.2.1, .int .u32 m.2.2.2.1, .int .i64 m.2.2.2.2]) (by simp [results, Try.results68, go_sem, r0, r1, r2, r3, r4, r5, r6]) rfl ⟨m, hfin.out, rfl, ((((((((hGs).setCell (by dsimp only; omega) _).setCell (by dsimp only; omega) _).setCell (by dsimp only; omega) _).setCell (by dsimp only; omega) _).setCell (by dsimp only; omega) _).setCell (by dsimp only; omega) _).setCell (by dsimp only; omega) _)⟩
end Go.Proofs.Ytadldndmmobpdaa
