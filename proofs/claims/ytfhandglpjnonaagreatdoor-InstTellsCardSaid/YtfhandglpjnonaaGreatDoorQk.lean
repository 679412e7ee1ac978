/- The document's Same of messages. -/
import Derived.Test.YtfhandglpjnonaaGreatDoorQj
namespace Go.Proofs.YtfhandglpjnonaaGreatDoor
open Go.RowKit

/-- Are two messages the same? -/
def sameAll (m n : Mm) : Bool := decide (m.kd = n.kd) && (decide (m.fr = n.fr) && (decide (m.dst = n.dst) && (decide (m.ep = n.ep) && (decide (m.i.1 = n.i.1) && (decide (m.i.2 = n.i.2) && (decide (m.b.1 = n.b.1) && (decide (m.b.2 = n.b.2) && (decide (m.st = n.st) && (decide (m.vv.1 = n.vv.1) && (decide (m.vv.2 = n.vv.2) && (sameCv m.c.val n.c.val && (decide (m.an = n.an) && eqV m.av n.av))))))))))))
set_option maxRecDepth 100000 in
set_option maxHeartbeats 8000000 in
theorem rsameM_any (m n : Mm) (w : World) (hA : m.c.Ok w w.heap.size) (hB : n.c.Ok w w.heap.size) :
    Calls Tryz.prog 21 #[.agg #[.int .i64 m.kd, .int .i64 m.fr, .int .i64 m.dst, .int .u32 m.ep, .int .i64 m.i.1, .int .u32 m.i.2, .int .u32 m.b.1, .int .i64 m.b.2, .int .i64 m.st, .int .u32 m.vv.1, .int .i64 m.vv.2, .int .i64 m.c.kd, .int .i64 m.c.x.1, .int .u32 m.c.x.2, .int .u32 m.c.v.d0, .int .u32 m.c.v.d1, .int .u32 m.c.v.d2, .int .u32 m.c.v.d3, .int .u32 m.c.v.d4, .int .u32 m.c.v.d5, .int .u32 m.c.v.d6, .int .u32 m.c.v.d7, .bool m.c.t, .slice m.c.T m.c.k m.c.kc, .int .i64 m.c.sn, .int .i64 m.c.wh, .slice m.c.B m.c.m m.c.mc, .int .u32 m.c.u.d0, .int .u32 m.c.u.d1, .int .u32 m.c.u.d2, .int .u32 m.c.u.d3, .int .u32 m.c.u.d4, .int .u32 m.c.u.d5, .int .u32 m.c.u.d6, .int .u32 m.c.u.d7, .int .u32 m.an, .int .u32 m.av.d0, .int .u32 m.av.d1, .int .u32 m.av.d2, .int .u32 m.av.d3, .int .u32 m.av.d4, .int .u32 m.av.d5, .int .u32 m.av.d6, .int .u32 m.av.d7], .agg #[.int .i64 n.kd, .int .i64 n.fr, .int .i64 n.dst, .int .u32 n.ep, .int .i64 n.i.1, .int .u32 n.i.2, .int .u32 n.b.1, .int .i64 n.b.2, .int .i64 n.st, .int .u32 n.vv.1, .int .i64 n.vv.2, .int .i64 n.c.kd, .int .i64 n.c.x.1, .int .u32 n.c.x.2, .int .u32 n.c.v.d0, .int .u32 n.c.v.d1, .int .u32 n.c.v.d2, .int .u32 n.c.v.d3, .int .u32 n.c.v.d4, .int .u32 n.c.v.d5, .int .u32 n.c.v.d6, .int .u32 n.c.v.d7, .bool n.c.t, .slice n.c.T n.c.k n.c.kc, .int .i64 n.c.sn, .int .i64 n.c.wh, .slice n.c.B n.c.m n.c.mc, .int .u32 n.c.u.d0, .int .u32 n.c.u.d1, .int .u32 n.c.u.d2, .int .u32 n.c.u.d3, .int .u32 n.c.u.d4, .int .u32 n.c.u.d5, .int .u32 n.c.u.d6, .int .u32 n.c.u.d7, .int .u32 n.an, .int .u32 n.av.d0, .int .u32 n.av.d1, .int .u32 n.av.d2, .int .u32 n.av.d3, .int .u32 n.av.d4, .int .u32 n.av.d5, .int .u32 n.av.d6, .int .u32 n.av.d7]] w fun e w' => e = .returned (.bool (sameAll m n)) ∧ Below w.heap.size w w' := by
  generalize hr : sameAll m n = q
  unfold sameAll at hr
  have cS := Lib.hid (fun w' (h : Below w.heap.size w w') => scmdD_any m.c n.c w' ((hA.below h).more h.size) ((hB.below h).more h.size))
  have hb0 : Below w.heap.size w ((w.alloc (.cells #[.int .i64 m.kd, .int .i64 m.fr, .int .i64 m.dst, .int .u32 m.ep, .int .i64 m.i.1, .int .u32 m.i.2, .int .u32 m.b.1, .int .i64 m.b.2, .int .i64 m.st, .int .u32 m.vv.1, .int .i64 m.vv.2, .int .i64 m.c.kd, .int .i64 m.c.x.1, .int .u32 m.c.x.2, .int .u32 m.c.v.d0, .int .u32 m.c.v.d1, .int .u32 m.c.v.d2, .int .u32 m.c.v.d3, .int .u32 m.c.v.d4, .int .u32 m.c.v.d5, .int .u32 m.c.v.d6, .int .u32 m.c.v.d7, .bool m.c.t, .slice m.c.T m.c.k m.c.kc, .int .i64 m.c.sn, .int .i64 m.c.wh, .slice m.c.B m.c.m m.c.mc, .int .u32 m.c.u.d0, .int .u32 m.c.u.d1, .int .u32 m.c.u.d2, .int .u32 m.c.u.d3, .int .u32 m.c.u.d4, .int .u32 m.c.u.d5, .int .u32 m.c.u.d6, .int .u32 m.c.u.d7, .int .u32 m.an, .int .u32 m.av.d0, .int .u32 m.av.d1, .int .u32 m.av.d2, .int .u32 m.av.d3, .int .u32 m.av.d4, .int .u32 m.av.d5, .int .u32 m.av.d6, .int .u32 m.av.d7] 38)).alloc (.cells #[.int .i64 n.kd, .int .i64 n.fr, .int .i64 n.dst, .int .u32 n.ep, .int .i64 n.i.1, .int .u32 n.i.2, .int .u32 n.b.1, .int .i64 n.b.2, .int .i64 n.st, .int .u32 n.vv.1, .int .i64 n.vv.2, .int .i64 n.c.kd, .int .i64 n.c.x.1, .int .u32 n.c.x.2, .int .u32 n.c.v.d0, .int .u32 n.c.v.d1, .int .u32 n.c.v.d2, .int .u32 n.c.v.d3, .int .u32 n.c.v.d4, .int .u32 n.c.v.d5, .int .u32 n.c.v.d6, .int .u32 n.c.v.d7, .bool n.c.t, .slice n.c.T n.c.k n.c.kc, .int .i64 n.c.sn, .int .i64 n.c.wh, .slice n.c.B n.c.m n.c.mc, .int .u32 n.c.u.d0, .int .u32 n.c.u.d1, .int .u32 n.c.u.d2, .int .u32 n.c.u.d3, .int .u32 n.c.u.d4, .int .u32 n.c.u.d5, .int .u32 n.c.u.d6, .int .u32 n.c.u.d7, .int .u32 n.an, .int .u32 n.av.d0, .int .u32 n.av.d1, .int .u32 n.av.d2, .int .u32 n.av.d3, .int .u32 n.av.d4, .int .u32 n.av.d5, .int .u32 n.av.d6, .int .u32 n.av.d7] 38)) := ((Below.refl _ w).alloc (Nat.le_refl _) _).alloc (by simp) _
  have hbA : ((w.alloc (.cells #[.int .i64 m.kd, .int .i64 m.fr, .int .i64 m.dst, .int .u32 m.ep, .int .i64 m.i.1, .int .u32 m.i.2, .int .u32 m.b.1, .int .i64 m.b.2, .int .i64 m.st, .int .u32 m.vv.1, .int .i64 m.vv.2, .int .i64 m.c.kd, .int .i64 m.c.x.1, .int .u32 m.c.x.2, .int .u32 m.c.v.d0, .int .u32 m.c.v.d1, .int .u32 m.c.v.d2, .int .u32 m.c.v.d3, .int .u32 m.c.v.d4, .int .u32 m.c.v.d5, .int .u32 m.c.v.d6, .int .u32 m.c.v.d7, .bool m.c.t, .slice m.c.T m.c.k m.c.kc, .int .i64 m.c.sn, .int .i64 m.c.wh, .slice m.c.B m.c.m m.c.mc, .int .u32 m.c.u.d0, .int .u32 m.c.u.d1, .int .u32 m.c.u.d2, .int .u32 m.c.u.d3, .int .u32 m.c.u.d4, .int .u32 m.c.u.d5, .int .u32 m.c.u.d6, .int .u32 m.c.u.d7, .int .u32 m.an, .int .u32 m.av.d0, .int .u32 m.av.d1, .int .u32 m.av.d2, .int .u32 m.av.d3, .int .u32 m.av.d4, .int .u32 m.av.d5, .int .u32 m.av.d6, .int .u32 m.av.d7] 38)).alloc (.cells #[.int .i64 n.kd, .int .i64 n.fr, .int .i64 n.dst, .int .u32 n.ep, .int .i64 n.i.1, .int .u32 n.i.2, .int .u32 n.b.1, .int .i64 n.b.2, .int .i64 n.st, .int .u32 n.vv.1, .int .i64 n.vv.2, .int .i64 n.c.kd, .int .i64 n.c.x.1, .int .u32 n.c.x.2, .int .u32 n.c.v.d0, .int .u32 n.c.v.d1, .int .u32 n.c.v.d2, .int .u32 n.c.v.d3, .int .u32 n.c.v.d4, .int .u32 n.c.v.d5, .int .u32 n.c.v.d6, .int .u32 n.c.v.d7, .bool n.c.t, .slice n.c.T n.c.k n.c.kc, .int .i64 n.c.sn, .int .i64 n.c.wh, .slice n.c.B n.c.m n.c.mc, .int .u32 n.c.u.d0, .int .u32 n.c.u.d1, .int .u32 n.c.u.d2, .int .u32 n.c.u.d3, .int .u32 n.c.u.d4, .int .u32 n.c.u.d5, .int .u32 n.c.u.d6, .int .u32 n.c.u.d7, .int .u32 n.an, .int .u32 n.av.d0, .int .u32 n.av.d1, .int .u32 n.av.d2, .int .u32 n.av.d3, .int .u32 n.av.d4, .int .u32 n.av.d5, .int .u32 n.av.d6, .int .u32 n.av.d7] 38)).heap[w.heap.size]? = some (.cells #[.int .i64 m.kd, .int .i64 m.fr, .int .i64 m.dst, .int .u32 m.ep, .int .i64 m.i.1, .int .u32 m.i.2, .int .u32 m.b.1, .int .i64 m.b.2, .int .i64 m.st, .int .u32 m.vv.1, .int .i64 m.vv.2, .int .i64 m.c.kd, .int .i64 m.c.x.1, .int .u32 m.c.x.2, .int .u32 m.c.v.d0, .int .u32 m.c.v.d1, .int .u32 m.c.v.d2, .int .u32 m.c.v.d3, .int .u32 m.c.v.d4, .int .u32 m.c.v.d5, .int .u32 m.c.v.d6, .int .u32 m.c.v.d7, .bool m.c.t, .slice m.c.T m.c.k m.c.kc, .int .i64 m.c.sn, .int .i64 m.c.wh, .slice m.c.B m.c.m m.c.mc, .int .u32 m.c.u.d0, .int .u32 m.c.u.d1, .int .u32 m.c.u.d2, .int .u32 m.c.u.d3, .int .u32 m.c.u.d4, .int .u32 m.c.u.d5, .int .u32 m.c.u.d6, .int .u32 m.c.u.d7, .int .u32 m.an, .int .u32 m.av.d0, .int .u32 m.av.d1, .int .u32 m.av.d2, .int .u32 m.av.d3, .int .u32 m.av.d4, .int .u32 m.av.d5, .int .u32 m.av.d6, .int .u32 m.av.d7] 38 (0, 0)) := heap_old _ (by simp) (heap_at _ _ rfl)
  have hbB : ((w.alloc (.cells #[.int .i64 m.kd, .int .i64 m.fr, .int .i64 m.dst, .int .u32 m.ep, .int .i64 m.i.1, .int .u32 m.i.2, .int .u32 m.b.1, .int .i64 m.b.2, .int .i64 m.st, .int .u32 m.vv.1, .int .i64 m.vv.2, .int .i64 m.c.kd, .int .i64 m.c.x.1, .int .u32 m.c.x.2, .int .u32 m.c.v.d0, .int .u32 m.c.v.d1, .int .u32 m.c.v.d2, .int .u32 m.c.v.d3, .int .u32 m.c.v.d4, .int .u32 m.c.v.d5, .int .u32 m.c.v.d6, .int .u32 m.c.v.d7, .bool m.c.t, .slice m.c.T m.c.k m.c.kc, .int .i64 m.c.sn, .int .i64 m.c.wh, .slice m.c.B m.c.m m.c.mc, .int .u32 m.c.u.d0, .int .u32 m.c.u.d1, .int .u32 m.c.u.d2, .int .u32 m.c.u.d3, .int .u32 m.c.u.d4, .int .u32 m.c.u.d5, .int .u32 m.c.u.d6, .int .u32 m.c.u.d7, .int .u32 m.an, .int .u32 m.av.d0, .int .u32 m.av.d1, .int .u32 m.av.d2, .int .u32 m.av.d3, .int .u32 m.av.d4, .int .u32 m.av.d5, .int .u32 m.av.d6, .int .u32 m.av.d7] 38)).alloc (.cells #[.int .i64 n.kd, .int .i64 n.fr, .int .i64 n.dst, .int .u32 n.ep, .int .i64 n.i.1, .int .u32 n.i.2, .int .u32 n.b.1, .int .i64 n.b.2, .int .i64 n.st, .int .u32 n.vv.1, .int .i64 n.vv.2, .int .i64 n.c.kd, .int .i64 n.c.x.1, .int .u32 n.c.x.2, .int .u32 n.c.v.d0, .int .u32 n.c.v.d1, .int .u32 n.c.v.d2, .int .u32 n.c.v.d3, .int .u32 n.c.v.d4, .int .u32 n.c.v.d5, .int .u32 n.c.v.d6, .int .u32 n.c.v.d7, .bool n.c.t, .slice n.c.T n.c.k n.c.kc, .int .i64 n.c.sn, .int .i64 n.c.wh, .slice n.c.B n.c.m n.c.mc, .int .u32 n.c.u.d0, .int .u32 n.c.u.d1, .int .u32 n.c.u.d2, .int .u32 n.c.u.d3, .int .u32 n.c.u.d4, .int .u32 n.c.u.d5, .int .u32 n.c.u.d6, .int .u32 n.c.u.d7, .int .u32 n.an, .int .u32 n.av.d0, .int .u32 n.av.d1, .int .u32 n.av.d2, .int .u32 n.av.d3, .int .u32 n.av.d4, .int .u32 n.av.d5, .int .u32 n.av.d6, .int .u32 n.av.d7] 38)).heap[w.heap.size + 1]? = some (.cells #[.int .i64 n.kd, .int .i64 n.fr, .int .i64 n.dst, .int .u32 n.ep, .int .i64 n.i.1, .int .u32 n.i.2, .int .u32 n.b.1, .int .i64 n.b.2, .int .i64 n.st, .int .u32 n.vv.1, .int .i64 n.vv.2, .int .i64 n.c.kd, .int .i64 n.c.x.1, .int .u32 n.c.x.2, .int .u32 n.c.v.d0, .int .u32 n.c.v.d1, .int .u32 n.c.v.d2, .int .u32 n.c.v.d3, .int .u32 n.c.v.d4, .int .u32 n.c.v.d5, .int .u32 n.c.v.d6, .int .u32 n.c.v.d7, .bool n.c.t, .slice n.c.T n.c.k n.c.kc, .int .i64 n.c.sn, .int .i64 n.c.wh, .slice n.c.B n.c.m n.c.mc, .int .u32 n.c.u.d0, .int .u32 n.c.u.d1, .int .u32 n.c.u.d2, .int .u32 n.c.u.d3, .int .u32 n.c.u.d4, .int .u32 n.c.u.d5, .int .u32 n.c.u.d6, .int .u32 n.c.u.d7, .int .u32 n.an, .int .u32 n.av.d0, .int .u32 n.av.d1, .int .u32 n.av.d2, .int .u32 n.av.d3, .int .u32 n.av.d4, .int .u32 n.av.d5, .int .u32 n.av.d6, .int .u32 n.av.d7] 38 (0, 0)) := heap_at _ _ (by simp)
  generalize hW : ((w.alloc (.cells #[.int .i64 m.kd, .int .i64 m.fr, .int .i64 m.dst, .int .u32 m.ep, .int .i64 m.i.1, .int .u32 m.i.2, .int .u32 m.b.1, .int .i64 m.b.2, .int .i64 m.st, .int .u32 m.vv.1, .int .i64 m.vv.2, .int .i64 m.c.kd, .int .i64 m.c.x.1, .int .u32 m.c.x.2, .int .u32 m.c.v.d0, .int .u32 m.c.v.d1, .int .u32 m.c.v.d2, .int .u32 m.c.v.d3, .int .u32 m.c.v.d4, .int .u32 m.c.v.d5, .int .u32 m.c.v.d6, .int .u32 m.c.v.d7, .bool m.c.t, .slice m.c.T m.c.k m.c.kc, .int .i64 m.c.sn, .int .i64 m.c.wh, .slice m.c.B m.c.m m.c.mc, .int .u32 m.c.u.d0, .int .u32 m.c.u.d1, .int .u32 m.c.u.d2, .int .u32 m.c.u.d3, .int .u32 m.c.u.d4, .int .u32 m.c.u.d5, .int .u32 m.c.u.d6, .int .u32 m.c.u.d7, .int .u32 m.an, .int .u32 m.av.d0, .int .u32 m.av.d1, .int .u32 m.av.d2, .int .u32 m.av.d3, .int .u32 m.av.d4, .int .u32 m.av.d5, .int .u32 m.av.d6, .int .u32 m.av.d7] 38)).alloc (.cells #[.int .i64 n.kd, .int .i64 n.fr, .int .i64 n.dst, .int .u32 n.ep, .int .i64 n.i.1, .int .u32 n.i.2, .int .u32 n.b.1, .int .i64 n.b.2, .int .i64 n.st, .int .u32 n.vv.1, .int .i64 n.vv.2, .int .i64 n.c.kd, .int .i64 n.c.x.1, .int .u32 n.c.x.2, .int .u32 n.c.v.d0, .int .u32 n.c.v.d1, .int .u32 n.c.v.d2, .int .u32 n.c.v.d3, .int .u32 n.c.v.d4, .int .u32 n.c.v.d5, .int .u32 n.c.v.d6, .int .u32 n.c.v.d7, .bool n.c.t, .slice n.c.T n.c.k n.c.kc, .int .i64 n.c.sn, .int .i64 n.c.wh, .slice n.c.B n.c.m n.c.mc, .int .u32 n.c.u.d0, .int .u32 n.c.u.d1, .int .u32 n.c.u.d2, .int .u32 n.c.u.d3, .int .u32 n.c.u.d4, .int .u32 n.c.u.d5, .int .u32 n.c.u.d6, .int .u32 n.c.u.d7, .int .u32 n.an, .int .u32 n.av.d0, .int .u32 n.av.d1, .int .u32 n.av.d2, .int .u32 n.av.d3, .int .u32 n.av.d4, .int .u32 n.av.d5, .int .u32 n.av.d6, .int .u32 n.av.d7] 38)) = W at hb0 hbA hbB
  have hz0 := hb0.size
  have hltA := blk_lt hbA
  have hltB := blk_lt hbB
  have p0 := blk_cell hbA 0
  have p1 := blk_cell hbA 1
  have p2 := blk_cell hbA 2
  have p3 := blk_cell hbA 3
  have p4 := blk_cell hbA 4
  have p5 := blk_cell hbA 5
  have p6 := blk_cell hbA 6
  have p7 := blk_cell hbA 7
  have p8 := blk_cell hbA 8
  have p9 := blk_cell hbA 9
  have p10 := blk_cell hbA 10
  have q0 := blk_cell hbB 0
  have q1 := blk_cell hbB 1
  have q2 := blk_cell hbB 2
  have q3 := blk_cell hbB 3
  have q4 := blk_cell hbB 4
  have q5 := blk_cell hbB 5
  have q6 := blk_cell hbB 6
  have q7 := blk_cell hbB 7
  have q8 := blk_cell hbB 8
  have q9 := blk_cell hbB 9
  have q10 := blk_cell hbB 10
  have p35 := blk_cell hbA 35
  have p36 := blk_cell hbA 36
  have p37 := blk_cell hbA 37
  have p38 := blk_cell hbA 38
  have p39 := blk_cell hbA 39
  have p40 := blk_cell hbA 40
  have p41 := blk_cell hbA 41
  have p42 := blk_cell hbA 42
  have p43 := blk_cell hbA 43
  have q35 := blk_cell hbB 35
  have q36 := blk_cell hbB 36
  have q37 := blk_cell hbB 37
  have q38 := blk_cell hbB 38
  have q39 := blk_cell hbB 39
  have q40 := blk_cell hbB 40
  have q41 := blk_cell hbB 41
  have q42 := blk_cell hbB 42
  have q43 := blk_cell hbB 43
  simp at p0 p1 p2 p3 p4 p5 p6 p7 p8 p9 p10 p35 p36 p37 p38 p39 p40 p41 p42 p43 q0 q1 q2 q3 q4 q5 q6 q7 q8 q9 q10 q35 q36 q37 q38 q39 q40 q41 q42 q43
  have hbAH := Lib.hid hbA
  have hbBH := Lib.hid hbB
  have hrH := Lib.hid hr
  have hne := eqin9 m.av n.av
  clear hbA hbB hr hA hB
  obtain ⟨kd, fr, dst, ep, ⟨i1, i2⟩, ⟨b1, b2⟩, st, ⟨v1, v2⟩, c, an, av⟩ := m
  obtain ⟨ld, gr, est, fp, ⟨j1, j2⟩, ⟨c1, c2⟩, tt, ⟨u1, u2⟩, d, bn, bv⟩ := n
  dsimp only at *
  by_cases h0 : kd = ld
  case neg =>
    have hT : Hid (false = q) := Lib.hid (by rw [← hrH.out]; simp [h0])
    go_enter Tryz.func21, Tryz.ntmps21
    go_wp2
    go_ret
    exact ⟨ret_boolQ hT.out, hb0⟩
  subst h0
  by_cases h1 : fr = gr
  case neg =>
    have hT : Hid (false = q) := Lib.hid (by rw [← hrH.out]; simp [h1])
    go_enter Tryz.func21, Tryz.ntmps21
    go_wp2
    go_ret
    exact ⟨ret_boolQ hT.out, hb0⟩
  subst h1
  by_cases h2 : dst = est
  case neg =>
    have hT : Hid (false = q) := Lib.hid (by rw [← hrH.out]; simp [h2])
    go_enter Tryz.func21, Tryz.ntmps21
    go_wp2
    go_ret
    exact ⟨ret_boolQ hT.out, hb0⟩
  subst h2
  by_cases h3 : ep = fp
  case neg =>
    have hT : Hid (false = q) := Lib.hid (by rw [← hrH.out]; simp [h3])
    go_enter Tryz.func21, Tryz.ntmps21
    go_wp2
    go_ret
    exact ⟨ret_boolQ hT.out, hb0⟩
  subst h3
  by_cases h4 : i1 = j1
  case neg =>
    have hT : Hid (false = q) := Lib.hid (by rw [← hrH.out]; simp [h4])
    go_enter Tryz.func21, Tryz.ntmps21
    go_wp2
    go_ret
    exact ⟨ret_boolQ hT.out, hb0⟩
  subst h4
  by_cases h5 : i2 = j2
  case neg =>
    have hT : Hid (false = q) := Lib.hid (by rw [← hrH.out]; simp [h5])
    go_enter Tryz.func21, Tryz.ntmps21
    go_wp2
    go_ret
    exact ⟨ret_boolQ hT.out, hb0⟩
  subst h5
  by_cases h6 : b1 = c1
  case neg =>
    have hT : Hid (false = q) := Lib.hid (by rw [← hrH.out]; simp [h6])
    go_enter Tryz.func21, Tryz.ntmps21
    go_wp2
    go_ret
    exact ⟨ret_boolQ hT.out, hb0⟩
  subst h6
  by_cases h7 : b2 = c2
  case neg =>
    have hT : Hid (false = q) := Lib.hid (by rw [← hrH.out]; simp [h7])
    go_enter Tryz.func21, Tryz.ntmps21
    go_wp2
    go_ret
    exact ⟨ret_boolQ hT.out, hb0⟩
  subst h7
  by_cases h8 : st = tt
  case neg =>
    have hT : Hid (false = q) := Lib.hid (by rw [← hrH.out]; simp [h8])
    go_enter Tryz.func21, Tryz.ntmps21
    go_wp2
    go_ret
    exact ⟨ret_boolQ hT.out, hb0⟩
  subst h8
  by_cases h9 : v1 = u1
  case neg =>
    have hT : Hid (false = q) := Lib.hid (by rw [← hrH.out]; simp [h9])
    go_enter Tryz.func21, Tryz.ntmps21
    go_wp2
    go_ret
    exact ⟨ret_boolQ hT.out, hb0⟩
  subst h9
  by_cases h10 : v2 = u2
  case neg =>
    have hT : Hid (false = q) := Lib.hid (by rw [← hrH.out]; simp [h10])
    go_enter Tryz.func21, Tryz.ntmps21
    go_wp2
    go_ret
    exact ⟨ret_boolQ hT.out, hb0⟩
  subst h10
  have hq2 : Hid ((sameCv c.val d.val && (decide (an = bn) && eqV av bv)) = q) := Lib.hid (by rw [← hrH.out]; simp)
  generalize sameCv c.val d.val = bC at cS hq2
  generalize hv : eqV av bv = bV at hne hq2
  clear hv
  go_enter Tryz.func21, Tryz.ntmps21
  go_upto_region 1 with (fail)
  refine wp_region_list ?_
  refine wpList_step (fun K hK => ?_)
  rw [if_pos (by kernel_rfl)]
  go_simp
  refine hK _ _ ?_
  clear hK K
  refine wpList_step (fun K hK => ?_)
  rw [if_pos (by kernel_rfl)]
  go_simp
  refine hK _ _ ?_
  clear hK K
  refine wpList_step (fun K hK => ?_)
  rw [if_pos (by kernel_rfl)]
  go_simp
  refine hK _ _ ?_
  clear hK K
  refine wpList_step (fun K hK => ?_)
  rw [if_pos (by kernel_rfl)]
  go_simp
  refine hK _ _ ?_
  clear hK K
  refine wpList_step (fun K hK => ?_)
  rw [if_pos (by kernel_rfl)]
  go_simp
  refine hK _ _ ?_
  clear hK K
  refine wpList_step (fun K hK => ?_)
  rw [if_pos (by kernel_rfl)]
  go_simp
  refine hK _ _ ?_
  clear hK K
  refine wpList_step (fun K hK => ?_)
  rw [if_pos (by kernel_rfl)]
  go_simp
  refine hK _ _ ?_
  clear hK K
  refine wpList_step (fun K hK => ?_)
  rw [if_pos (by kernel_rfl)]
  go_simp
  refine hK _ _ ?_
  clear hK K
  refine wpList_step (fun K hK => ?_)
  rw [if_pos (by kernel_rfl)]
  go_simp
  refine hK _ _ ?_
  clear hK K
  refine wpList_step (fun K hK => ?_)
  rw [if_pos (by kernel_rfl)]
  go_simp
  refine hK _ _ ?_
  clear hK K
  refine wpList_step (fun K hK => ?_)
  rw [if_pos (by kernel_rfl)]
  go_simp
  refine hK _ _ ?_
  clear hK K
  refine wpList_step (fun K hK => ?_)
  rw [if_pos (by kernel_rfl)]
  go_simp
  refine hK _ _ ?_
  clear hK K
  refine wpList_step (fun K hK => ?_)
  rw [if_pos (by kernel_rfl)]
  go_simp
  refine hK _ _ ?_
  clear hK K
  refine wpList_step (fun K hK => ?_)
  rw [if_pos (by kernel_rfl)]
  go_simp
  refine hK _ _ ?_
  clear hK K
  refine wpList_step (fun K hK => ?_)
  rw [if_pos (by kernel_rfl)]
  go_simp
  refine hK _ _ ?_
  clear hK K
  refine wpList_step (fun K hK => ?_)
  rw [if_pos (by kernel_rfl)]
  go_simp
  refine hK _ _ ?_
  clear hK K
  refine wpList_step (fun K hK => ?_)
  rw [if_pos (by kernel_rfl)]
  go_simp
  refine hK _ _ ?_
  clear hK K
  refine wpList_step (fun K hK => ?_)
  rw [if_pos (by kernel_rfl)]
  go_simp
  refine hK _ _ ?_
  clear hK K
  refine wpList_step (fun K hK => ?_)
  rw [if_pos (by kernel_rfl)]
  go_simp
  refine hK _ _ ?_
  clear hK K
  refine wpList_step (fun K hK => ?_)
  rw [if_pos (by kernel_rfl)]
  go_simp
  refine hK _ _ ?_
  clear hK K
  refine wpList_step (fun K hK => ?_)
  rw [if_pos (by kernel_rfl)]
  go_simp
  refine hK _ _ ?_
  clear hK K
  refine wpList_step (fun K hK => ?_)
  rw [if_pos (by kernel_rfl)]
  go_simp
  refine hK _ _ ?_
  clear hK K
  refine wpList_step (fun K hK => ?_)
  rw [if_pos (by kernel_rfl)]
  go_simp
  refine hK _ _ ?_
  clear hK K
  refine wpList_step (fun K hK => ?_)
  rw [if_pos (by kernel_rfl)]
  go_simp
  refine hK _ _ ?_
  clear hK K
  refine wpList_step (fun K hK => ?_)
  rw [if_pos (by kernel_rfl)]
  go_simp
  refine hK _ _ ?_
  clear hK K
  refine wpList_step (fun K hK => ?_)
  rw [if_pos (by kernel_rfl)]
  go_simp
  refine hK _ _ ?_
  clear hK K
  refine wpList_step (fun K hK => ?_)
  rw [if_pos (by kernel_rfl)]
  go_simp
  refine hK _ _ ?_
  clear hK K
  refine wpList_step (fun K hK => ?_)
  rw [if_pos (by kernel_rfl)]
  go_simp
  refine hK _ _ ?_
  clear hK K
  refine wpList_step (fun K hK => ?_)
  rw [if_pos (by kernel_rfl)]
  go_simp
  refine hK _ _ ?_
  clear hK K
  refine wpList_step (fun K hK => ?_)
  rw [if_pos (by kernel_rfl)]
  go_simp
  refine hK _ _ ?_
  clear hK K
  refine wpList_step (fun K hK => ?_)
  rw [if_pos (by kernel_rfl)]
  go_simp
  refine hK _ _ ?_
  clear hK K
  refine wpList_step (fun K hK => ?_)
  rw [if_pos (by kernel_rfl)]
  go_simp
  refine hK _ _ ?_
  clear hK K
  refine wpList_step (fun K hK => ?_)
  rw [if_pos (by kernel_rfl)]
  go_simp
  refine hK _ _ ?_
  clear hK K
  refine wpList_step (fun K hK => ?_)
  rw [if_pos (by kernel_rfl)]
  go_simp
  refine hK _ _ ?_
  clear hK K
  refine wpList_step (fun K hK => ?_)
  rw [if_pos (by kernel_rfl)]
  go_simp
  refine hK _ _ ?_
  clear hK K
  refine wpList_step (fun K hK => ?_)
  rw [if_pos (by kernel_rfl)]
  go_simp
  refine hK _ _ ?_
  clear hK K
  refine wpList_step (fun K hK => ?_)
  rw [if_pos (by kernel_rfl)]
  go_simp
  refine hK _ _ ?_
  clear hK K
  refine wpList_step (fun K hK => ?_)
  rw [if_pos (by kernel_rfl)]
  go_simp
  refine hK _ _ ?_
  clear hK K
  refine wpList_step (fun K hK => ?_)
  rw [if_pos (by kernel_rfl)]
  go_simp
  refine hK _ _ ?_
  clear hK K
  refine wpList_step (fun K hK => ?_)
  rw [if_pos (by kernel_rfl)]
  go_simp
  refine hK _ _ ?_
  clear hK K
  refine wpList_step (fun K hK => ?_)
  rw [if_pos (by kernel_rfl)]
  go_simp
  refine hK _ _ ?_
  clear hK K
  refine wpList_step (fun K hK => ?_)
  rw [if_pos (by kernel_rfl)]
  go_simp
  refine hK _ _ ?_
  clear hK K
  refine wpList_step (fun K hK => ?_)
  rw [if_pos (by kernel_rfl)]
  go_simp
  refine hK _ _ ?_
  clear hK K
  refine wpList_step (fun K hK => ?_)
  rw [if_pos (by kernel_rfl)]
  go_simp
  refine hK _ _ ?_
  clear hK K
  refine wpList_step (fun K hK => ?_)
  rw [if_pos (by kernel_rfl)]
  go_simp
  refine hK _ _ ?_
  clear hK K
  refine wpList_step (fun K hK => ?_)
  rw [if_pos (by kernel_rfl)]
  go_simp
  refine hK _ _ ?_
  clear hK K
  refine wpList_step (fun K hK => ?_)
  rw [if_pos (by kernel_rfl)]
  go_simp
  refine hK _ _ ?_
  clear hK K
  refine wpList_step (fun K hK => ?_)
  rw [if_pos (by kernel_rfl)]
  go_simp
  refine hK _ _ ?_
  clear hK K
  refine wpList_step (fun K hK => ?_)
  rw [if_pos (by kernel_rfl)]
  go_simp
  refine hK _ _ ?_
  clear hK K
  refine wpList_step (fun K hK => ?_)
  rw [if_pos (by kernel_rfl)]
  go_simp
  refine hK _ _ ?_
  clear hK K
  refine wpList_step (fun K hK => ?_)
  rw [if_pos (by kernel_rfl)]
  go_simp
  refine hK _ _ ?_
  clear hK K
  refine wpList_step (fun K hK => ?_)
  rw [if_pos (by kernel_rfl)]
  go_simp
  refine hK _ _ ?_
  clear hK K
  refine wpList_step (fun K hK => ?_)
  rw [if_pos (by kernel_rfl)]
  go_simp
  refine hK _ _ ?_
  clear hK K
  refine wpList_step (fun K hK => ?_)
  rw [if_pos (by kernel_rfl)]
  go_simp
  refine hK _ _ ?_
  clear hK K
  refine wpList_step (fun K hK => ?_)
  rw [if_pos (by kernel_rfl)]
  go_simp
  refine hK _ _ ?_
  clear hK K
  refine wpList_step (fun K hK => ?_)
  rw [if_pos (by kernel_rfl)]
  go_simp
  refine hK _ _ ?_
  clear hK K
  refine wpList_load_midG (by kernel_rfl) _ _ rfl (w.heap.size) 11 rfl [.int .i64 c.kd, .int .i64 c.x.1, .int .u32 c.x.2, .int .u32 c.v.d0, .int .u32 c.v.d1, .int .u32 c.v.d2, .int .u32 c.v.d3, .int .u32 c.v.d4, .int .u32 c.v.d5, .int .u32 c.v.d6, .int .u32 c.v.d7, .bool c.t, .slice c.T c.k c.kc, .int .i64 c.sn, .int .i64 c.wh, .slice c.B c.m c.mc, .int .u32 c.u.d0, .int .u32 c.u.d1, .int .u32 c.u.d2, .int .u32 c.u.d3, .int .u32 c.u.d4, .int .u32 c.u.d5, .int .u32 c.u.d6, .int .u32 c.u.d7] _ (rangeQ hbAH.out 11 [.int .i64 c.kd, .int .i64 c.x.1, .int .u32 c.x.2, .int .u32 c.v.d0, .int .u32 c.v.d1, .int .u32 c.v.d2, .int .u32 c.v.d3, .int .u32 c.v.d4, .int .u32 c.v.d5, .int .u32 c.v.d6, .int .u32 c.v.d7, .bool c.t, .slice c.T c.k c.kc, .int .i64 c.sn, .int .i64 c.wh, .slice c.B c.m c.mc, .int .u32 c.u.d0, .int .u32 c.u.d1, .int .u32 c.u.d2, .int .u32 c.u.d3, .int .u32 c.u.d4, .int .u32 c.u.d5, .int .u32 c.u.d6, .int .u32 c.u.d7] rfl) Tryz.underlying34 rfl (by kernel_rfl) ?_
  refine wpList_step (fun K hK => ?_)
  rw [if_pos (by kernel_rfl)]
  go_simp
  refine hK _ _ ?_
  clear hK K
  refine wpList_load_midG (by kernel_rfl) _ _ rfl (w.heap.size + 1) 11 rfl [.int .i64 d.kd, .int .i64 d.x.1, .int .u32 d.x.2, .int .u32 d.v.d0, .int .u32 d.v.d1, .int .u32 d.v.d2, .int .u32 d.v.d3, .int .u32 d.v.d4, .int .u32 d.v.d5, .int .u32 d.v.d6, .int .u32 d.v.d7, .bool d.t, .slice d.T d.k d.kc, .int .i64 d.sn, .int .i64 d.wh, .slice d.B d.m d.mc, .int .u32 d.u.d0, .int .u32 d.u.d1, .int .u32 d.u.d2, .int .u32 d.u.d3, .int .u32 d.u.d4, .int .u32 d.u.d5, .int .u32 d.u.d6, .int .u32 d.u.d7] _ (rangeQ hbBH.out 11 [.int .i64 d.kd, .int .i64 d.x.1, .int .u32 d.x.2, .int .u32 d.v.d0, .int .u32 d.v.d1, .int .u32 d.v.d2, .int .u32 d.v.d3, .int .u32 d.v.d4, .int .u32 d.v.d5, .int .u32 d.v.d6, .int .u32 d.v.d7, .bool d.t, .slice d.T d.k d.kc, .int .i64 d.sn, .int .i64 d.wh, .slice d.B d.m d.mc, .int .u32 d.u.d0, .int .u32 d.u.d1, .int .u32 d.u.d2, .int .u32 d.u.d3, .int .u32 d.u.d4, .int .u32 d.u.d5, .int .u32 d.u.d6, .int .u32 d.u.d7] rfl) Tryz.underlying34 rfl (by kernel_rfl) ?_
  (try simp only [Act.put, List.setIfInBounds_toArray, List.set_cons_zero, List.set_cons_succ])
  go_wp2_with fail
  refine (cS.out _ hb0).mono ?_
  rintro e w2 ⟨rfl, hb2⟩
  have hG := hb0.trans (hb2.mono hz0)
  clear p0 p1 p2 p3 p4 p5 p6 p7 p8 p9 p10 p35 p36 p37 p38 p39 p40 p41 p42 p43 q0 q1 q2 q3 q4 q5 q6 q7 q8 q9 q10 q35 q36 q37 q38 q39 q40 q41 q42 q43
  cases bC with
  | false =>
    have hT : Hid (false = q) := Lib.hid (by rw [← hq2.out]; simp)
    go_wp2
    go_ret
    exact ⟨ret_boolQ hT.out, hG⟩
  | true =>
  have hbA2 := blk_below hbAH.out hb2
  have hbB2 := blk_below hbBH.out hb2
  have hltA2 := blk_lt hbA2
  have hltB2 := blk_lt hbB2
  have p35 := blk_cell hbA2 35
  have p36 := blk_cell hbA2 36
  have p37 := blk_cell hbA2 37
  have p38 := blk_cell hbA2 38
  have p39 := blk_cell hbA2 39
  have p40 := blk_cell hbA2 40
  have p41 := blk_cell hbA2 41
  have p42 := blk_cell hbA2 42
  have p43 := blk_cell hbA2 43
  have q35 := blk_cell hbB2 35
  have q36 := blk_cell hbB2 36
  have q37 := blk_cell hbB2 37
  have q38 := blk_cell hbB2 38
  have q39 := blk_cell hbB2 39
  have q40 := blk_cell hbB2 40
  have q41 := blk_cell hbB2 41
  have q42 := blk_cell hbB2 42
  have q43 := blk_cell hbB2 43
  simp at p35 p36 p37 p38 p39 p40 p41 p42 p43 q35 q36 q37 q38 q39 q40 q41 q42 q43
  clear hbA2 hbB2
  by_cases h12 : an = bn
  case neg =>
    have hT : Hid (false = q) := Lib.hid (by rw [← hq2.out]; simp [h12])
    clear hne
    go_wp2
    go_ret
    exact ⟨ret_boolQ hT.out, hG⟩
  subst h12
  have hT : Hid (bV = q) := Lib.hid (by rw [← hq2.out]; simp)
  cases bV with
  | false =>
    go_wp2
    go_ret
    exact ⟨ret_boolQ hT.out, hG⟩
  | true =>
    go_wp2
    go_ret
    exact ⟨ret_boolQ hT.out, hG⟩
end Go.Proofs.YtfhandglpjnonaaGreatDoor
