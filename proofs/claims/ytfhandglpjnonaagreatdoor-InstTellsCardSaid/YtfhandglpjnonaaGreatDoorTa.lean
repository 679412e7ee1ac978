/- Operations' names (tags): what ident and the document's chapter 5 say of one, of two; reading lists of them. -/
import Derived.Test.YtfhandglpjnonaaGreatDoorM25
import Derived.Test.YtfhandglpjnonaaGreatDoorTg
namespace Go.Proofs.YtfhandglpjnonaaGreatDoor
open Go.RowKit

def Tm.enc (t : Tm) : List Value := [.int .i64 t.1.1, .int .u32 t.1.2, .int .i64 t.2]
theorem Tm.len {xs : List Tm} : ∀ x ∈ xs.map Tm.enc, x.length = 3 := by
  intro x hx; obtain ⟨t, _, rfl⟩ := List.mem_map.1 hx; rfl
theorem Tm.one {xs : List Tm} : ∀ x ∈ xs.map Tm.enc, ∀ u ∈ x, u.oneCell' = true := by
  intro x hx u hu; obtain ⟨t, _, rfl⟩ := List.mem_map.1 hx
  simp only [Tm.enc, List.mem_cons, List.not_mem_nil, or_false] at hu
  rcases hu with rfl | rfl | rfl <;> rfl
/-- A list of tags, read whole. -/
def RdT (w : World) (B : Nat) (A : Option Addr) (n : Nat) (xs : List Tm) : Prop := Rd w B 3 A n (xs.map Tm.enc)
theorem RdT.below {w w' : World} {B n : Nat} {A : Option Addr} {xs : List Tm} (h : RdT w B A n xs) (hb : Below B w w') : RdT w' B A n xs := Rd.below h hb
theorem RdT.more {w : World} {B B' n : Nat} {A : Option Addr} {xs : List Tm} (h : RdT w B A n xs) (hb : B ≤ B') : RdT w B' A n xs := Rd.more h hb
theorem RdT.len {w : World} {B n : Nat} {A : Option Addr} {xs : List Tm} (h : RdT w B A n xs) : xs.length = n := by simpa using h.1
theorem infoTag : (Tryz.prog.info? 131).map (fun i => (i.zero, i.size, i.bytes)) = some (some (.agg #[.int .i64 0, .int .u32 0, .int .i64 0]), 3, 24) := by kernel_rfl
theorem eTag : ElemInfo Tryz.prog 134 131 3 24 := by
  obtain ⟨i, hi, h0, h1, h2⟩ := info_parts infoTag
  exact ⟨Tryz.underlying134, ⟨i, _, hi, h0, h1, h2, rfl⟩, by decide⟩

/-- The box of a tag that came by value. -/
theorem tbox (t : Tm) (w : World) : (w.alloc (.cells #[.int .i64 t.1.1, .int .u32 t.1.2, .int .i64 t.2] 131)).heap[w.heap.size]? = some (.cells #[.int .i64 t.1.1, .int .u32 t.1.2, .int .i64 t.2] 131 (0, 0)) := heap_at _ _ rfl

set_option maxRecDepth 100000 in
theorem pchkt_any (t : Tm) (ht : t.wf) (w : World) :
    Calls Tryz.prog 152 #[.agg #[.int .i64 t.1.1, .int .u32 t.1.2, .int .i64 t.2]] w fun e w' => e = .returned (.int .i64 (errI (chkT t))) ∧ Below w.heap.size w w' := by
  obtain ⟨⟨o, s⟩, n⟩ := t
  have hch := chk_any (o, s) ht
  dsimp only
  by_cases h1 : n < 0
  · have hr : chkT ((o, s), n) = false := by simp [chkT]; omega
    rw [hr]
    go_enter Tryz.func152, Tryz.ntmps152
    go_wp2
    go_ret
    exact ⟨rfl, (Below.refl _ _).alloc (Nat.le_refl _) _⟩
  by_cases h2 : 16 ≤ n
  · have hr : chkT ((o, s), n) = false := by simp [chkT]; omega
    rw [hr]
    go_enter Tryz.func152, Tryz.ntmps152
    go_wp2
    go_ret
    exact ⟨rfl, (Below.refl _ _).alloc (Nat.le_refl _) _⟩
  · have hr : chkT ((o, s), n) = chk (o, s) := by simp [chkT]; omega
    rw [hr]
    generalize chk (o, s) = r at hch ⊢
    dsimp only at hch
    have hch := Lib.hid hch
    go_enter Tryz.func152, Tryz.ntmps152
    go_wp2_with fail
    refine (hch.out _).mono ?_
    rintro e w1 ⟨rfl, hb⟩
    have hB : Below w.heap.size w w1 := ((Below.refl _ w).alloc (Nat.le_refl _) _).trans (hb.mono (by simp))
    go_wp2
    go_ret
    exact ⟨rfl, hB⟩
set_option maxRecDepth 100000 in
theorem rchkt_any (t : Tm) (ht : t.wf) (w : World) :
    Calls Tryz.prog 118 #[.agg #[.int .i64 t.1.1, .int .u32 t.1.2, .int .i64 t.2]] w fun e w' => e = .returned (.int .i64 (errI (chkT t))) ∧ Below w.heap.size w w' := by
  obtain ⟨⟨o, s⟩, n⟩ := t
  have hch := rchk_any (o, s) ht
  dsimp only at hch ⊢
  have hbx := tbox ((o, s), n) w
  have hB0 : Below w.heap.size w (w.alloc (.cells #[.int .i64 ((o, s), n).1.1, .int .u32 ((o, s), n).1.2, .int .i64 ((o, s), n).2] 131)) := (Below.refl _ w).alloc (Nat.le_refl _) _
  dsimp only at hbx hB0
  cases hc : chk (o, s) with
  | false =>
    have hr : chkT ((o, s), n) = false := by simp [chkT, hc]
    rw [hr]
    rw [hc, show errI false = 2 from rfl] at hch
    have hch := Lib.hid hch
    clear hc
    go_enter Tryz.func118, Tryz.ntmps118
    go_wp2_with fail
    refine (hch.out _).mono ?_
    rintro e w1 ⟨rfl, hb⟩
    have hB : Below w.heap.size w w1 := hB0.trans (hb.mono (by simp))
    go_wp2
    go_ret
    exact ⟨rfl, hB⟩
  | true =>
    rw [hc, show errI true = 0 from rfl] at hch
    have hch := Lib.hid hch
    by_cases h1 : n < 0
    · have hr : chkT ((o, s), n) = false := by simp [chkT]; omega
      rw [hr]
      clear hc hr
      go_enter Tryz.func118, Tryz.ntmps118
      go_wp2_with fail
      refine (hch.out _).mono ?_
      rintro e w1 ⟨rfl, hb⟩
      have hB : Below w.heap.size w w1 := hB0.trans (hb.mono (by simp))
      have hbx1 := blk_below hbx hb
      have i2 := blk_cell hbx1 2
      simp at i2
      have hlt1 := blk_lt hbx1
      clear hbx hbx1 hB0 hb
      go_wp2
      go_ret
      exact ⟨rfl, hB⟩
    by_cases h2 : 15 < n
    · have hr : chkT ((o, s), n) = false := by simp [chkT]; omega
      rw [hr]
      clear hc hr
      go_enter Tryz.func118, Tryz.ntmps118
      go_wp2_with fail
      refine (hch.out _).mono ?_
      rintro e w1 ⟨rfl, hb⟩
      have hB : Below w.heap.size w w1 := hB0.trans (hb.mono (by simp))
      have hbx1 := blk_below hbx hb
      have i2 := blk_cell hbx1 2
      simp at i2
      have hlt1 := blk_lt hbx1
      clear hbx hbx1 hB0 hb
      go_wp2
      go_ret
      exact ⟨rfl, hB⟩
    · have hr : chkT ((o, s), n) = true := by simp [chkT, hc]; omega
      rw [hr]
      clear hc hr
      go_enter Tryz.func118, Tryz.ntmps118
      go_wp2_with fail
      refine (hch.out _).mono ?_
      rintro e w1 ⟨rfl, hb⟩
      have hB : Below w.heap.size w w1 := hB0.trans (hb.mono (by simp))
      have hbx1 := blk_below hbx hb
      have i2 := blk_cell hbx1 2
      simp at i2
      have hlt1 := blk_lt hbx1
      clear hbx hbx1 hB0 hb
      go_wp2
      go_ret
      exact ⟨rfl, hB⟩
set_option maxRecDepth 100000 in
theorem pcmpt_any (x y : Tm) (w : World) :
    Calls Tryz.prog 151 #[.agg #[.int .i64 x.1.1, .int .u32 x.1.2, .int .i64 x.2], .agg #[.int .i64 y.1.1, .int .u32 y.1.2, .int .i64 y.2]] w fun e w' => e = .returned (.int .i64 (cmpT x y)) ∧ Below w.heap.size w w' := by
  generalize hr : cmpT x y = r
  unfold cmpT at hr
  have hc1 := cmp_any x.1 y.1
  have hc2 := ccmp_any x.2 y.2
  have ho := or_any
  generalize cmpI x.1 y.1 = p at *
  generalize ordI x.2 y.2 = q at *
  have hc1 := Lib.hid hc1
  have hc2 := Lib.hid hc2
  have ho := Lib.hid (fun g w h0 h1 h2 => hr ▸ ho g p q w h0 h1 h2)
  clear hr
  have hB0 : Below w.heap.size w ((w.alloc (.cells #[.int .i64 x.1.1, .int .u32 x.1.2, .int .i64 x.2] 131)).alloc (.cells #[.int .i64 y.1.1, .int .u32 y.1.2, .int .i64 y.2] 131)) := ((Below.refl _ w).alloc (Nat.le_refl _) _).alloc (by simp) _
  have hbx : ((w.alloc (.cells #[.int .i64 x.1.1, .int .u32 x.1.2, .int .i64 x.2] 131)).alloc (.cells #[.int .i64 y.1.1, .int .u32 y.1.2, .int .i64 y.2] 131)).heap[w.heap.size]? = some (.cells #[.int .i64 x.1.1, .int .u32 x.1.2, .int .i64 x.2] 131 (0, 0)) := heap_old _ (by simp) (heap_at _ _ rfl)
  have hby : ((w.alloc (.cells #[.int .i64 x.1.1, .int .u32 x.1.2, .int .i64 x.2] 131)).alloc (.cells #[.int .i64 y.1.1, .int .u32 y.1.2, .int .i64 y.2] 131)).heap[w.heap.size + 1]? = some (.cells #[.int .i64 y.1.1, .int .u32 y.1.2, .int .i64 y.2] 131 (0, 0)) := heap_at _ _ (by simp)
  generalize hW : ((w.alloc (.cells #[.int .i64 x.1.1, .int .u32 x.1.2, .int .i64 x.2] 131)).alloc (.cells #[.int .i64 y.1.1, .int .u32 y.1.2, .int .i64 y.2] 131)) = W at hB0 hbx hby
  have hltx := blk_lt hbx
  have hlty := blk_lt hby
  have p0 := blk_cell hbx 0
  have p1 := blk_cell hbx 1
  have p2 := blk_cell hbx 2
  have q0 := blk_cell hby 0
  have q1 := blk_cell hby 1
  have q2 := blk_cell hby 2
  simp at p0 p1 p2 q0 q1 q2
  clear hbx hby
  go_enter Tryz.func151, Tryz.ntmps151
  go_wp2
  have hq0 : KQ W.heap.size W W := kq (Below.refl _ _)
  go_region_held3 (fun w' => KQ W.heap.size W w') (first
      | with_reducible exact kq_call (by assumption) (by simp) (by assumption)
      | with_reducible exact kq_alloc (by with_reducible assumption) (Nat.le_refl _) _
      | with_reducible exact kq_alloc (kq_drew (by assumption)) (Nat.le_refl _) _
      | ((with_reducible refine kq ?_); (repeat (first | (with_reducible exact Below.refl _ _) | (with_reducible refine Below.drew ?_) | (with_reducible refine Below.alloc ?_ (by simp) _) | (with_reducible refine Below.setCell ?_ (by simp) _) | (with_reducible exact (by assumption : KQ _ _ _).1))); done))
    (first
      | (go_at_call 167; refine (hc1.out _).mono ?_; rintro e w1 ⟨rfl, hb1⟩)
      | (go_at_call 168; refine (hc2.out _).mono ?_; rintro e w2 ⟨rfl, rfl⟩)
      | (go_at_call 166; refine (ho.out _ _ (by simp) (blk_cell (heap_at _ _ (by simp)) 0) (blk_cell (heap_at _ _ (by simp)) 1)).mono ?_; rintro e w3 ⟨rfl, rfl⟩))
  go_wp2
  go_ret
  exact ⟨rfl, hB0.trans ((by with_reducible assumption : KQ W.heap.size W _).1.mono hB0.size)⟩
set_option maxRecDepth 100000 in
theorem rcmpt_any (x y : Tm) (hx : x.wf) (hy : y.wf) (w : World) :
    Calls Tryz.prog 122 #[.agg #[.int .i64 x.1.1, .int .u32 x.1.2, .int .i64 x.2], .agg #[.int .i64 y.1.1, .int .u32 y.1.2, .int .i64 y.2]] w fun e w' => e = .returned (.int .i64 (cmpT x y)) ∧ Below w.heap.size w w' := by
  generalize hr : cmpT x y = r
  obtain ⟨⟨a, s⟩, n⟩ := x
  obtain ⟨⟨b, t⟩, m⟩ := y
  unfold cmpT at hr
  dsimp only at hr ⊢
  have hc := rcmp_any (a, s) (b, t) hx hy
  have hrH := Lib.hid hr
  clear hr
  dsimp only at hc
  by_cases h : a = b ∧ s = t
  · obtain ⟨rfl, rfl⟩ := h
    clear hc
    go_enter Tryz.func122, Tryz.ntmps122
    go_wp2_with (go_at_call 145; refine (order_any n m _).mono ?_; rintro e w' ⟨rfl, rfl⟩)
    go_ret
    exact ⟨ret_int (by rw [← hrH.out, if_neg (by rw [cmpI_zero.2 rfl]; simp)]), ((Below.refl _ _).alloc (Nat.le_refl _) _).alloc (by simp) _⟩
  · have hT : Hid (cmpI (a, s) (b, t) ≠ 0) := Lib.hid (fun e => h (by have := cmpI_zero.1 e; simpa using this))
    have hfin : Hid (cmpI (a, s) (b, t) = r) := Lib.hid (by rw [← hrH.out, if_pos hT.out])
    generalize cmpI (a, s) (b, t) = z at hc hfin
    have hc := Lib.hid hc
    clear hrH hT
    by_cases h1 : a = b
    · subst h1
      have h2 : ¬ s = t := fun e => h ⟨rfl, e⟩
      have hd : (s == t) = false := by simpa using h2
      clear h
      go_enter Tryz.func122, Tryz.ntmps122
      go_wp2_with fail
      refine (hc.out _).mono ?_
      rintro e w1 ⟨rfl, hb⟩
      have hB : Below w.heap.size w w1 := (((Below.refl _ w).alloc (Nat.le_refl _) _).alloc (by simp) _).trans (hb.mono (by simp; omega))
      go_wp2
      go_ret
      exact ⟨ret_int hfin.out, hB⟩
    · have hd : (a == b) = false := by simpa using h1
      clear h
      go_enter Tryz.func122, Tryz.ntmps122
      go_wp2_with fail
      refine (hc.out _).mono ?_
      rintro e w1 ⟨rfl, hb⟩
      have hB : Below w.heap.size w w1 := (((Below.refl _ w).alloc (Nat.le_refl _) _).alloc (by simp) _).trans (hb.mono (by simp; omega))
      go_wp2
      go_ret
      exact ⟨ret_int hfin.out, hB⟩
end Go.Proofs.YtfhandglpjnonaaGreatDoor
