/- The law's To of ballots, Attr, To of messages. -/
import Derived.Test.YtfhandglpjnonaaGreatDoorQp
namespace Go.Proofs.YtfhandglpjnonaaGreatDoor
open Go.RowKit

theorem bto_any (a b : Int) (w : World) : Calls Tryz.prog 31 #[.agg #[.int .u32 a, .int .i64 b]] w fun e w' => e = .returned (.agg #[.int .u32 a, .int .i64 b]) ∧ Below w.heap.size w w' := by
  go_enter Tryz.func31, Tryz.ntmps31
  go_wp2
  refine bodyPost_ret (v := .agg #[.int .u32 a, .int .i64 b]) (by simp [results, Tryz.results31, go_sem]) rfl ⟨rfl, ?_⟩
  repeat (with_reducible refine Below.setCell ?_ (by simp) _)
  exact ((Below.refl _ w).alloc (Nat.le_refl _) _).alloc (by simp) _
theorem attr_any (a : Int) (v : Vm) (w : World) : Calls Tryz.prog 32 #[.agg #[.int .u32 a, .int .u32 v.d0, .int .u32 v.d1, .int .u32 v.d2, .int .u32 v.d3, .int .u32 v.d4, .int .u32 v.d5, .int .u32 v.d6, .int .u32 v.d7]] w fun e w' => e = .returned (.agg #[.int .u32 a, .int .u32 v.d0, .int .u32 v.d1, .int .u32 v.d2, .int .u32 v.d3, .int .u32 v.d4, .int .u32 v.d5, .int .u32 v.d6, .int .u32 v.d7]) ∧ Below w.heap.size w w' := by
  go_enter Tryz.func32, Tryz.ntmps32
  go_wp2
  refine bodyPost_ret (v := .agg #[.int .u32 a, .int .u32 v.d0, .int .u32 v.d1, .int .u32 v.d2, .int .u32 v.d3, .int .u32 v.d4, .int .u32 v.d5, .int .u32 v.d6, .int .u32 v.d7]) (by simp [results, Tryz.results32, go_sem]) rfl ⟨rfl, ?_⟩
  repeat (with_reducible refine Below.setCell ?_ (by simp) _)
  exact ((Below.refl _ w).alloc (Nat.le_refl _) _).alloc (by simp) _
/-- What a message says. -/
structure MgV where
  kd : Int
  fr : Int
  dst : Int
  ep : Int
  i : Im
  b : Int × Int
  st : Int
  vv : Int × Int
  c : Cv
  an : Int
  av : Vm
def Mm.val (m : Mm) : MgV := ⟨m.kd, m.fr, m.dst, m.ep, m.i, m.b, m.st, m.vv, m.c.val, m.an, m.av⟩
structure Mm.Sml (w : World) (m : Mm) : Prop where
  c : m.c.Sml w
  i : m.i.wf
  av : m.av.wf
theorem Mm.Sml.fit {w : World} {m : Mm} (h : m.Sml w) : m.Fit w := ⟨h.c.fit, h.i, h.av⟩
theorem Mm.Sml.below {w w' : World} {m : Mm} (h : m.Sml w) (hb : Below w.heap.size w w') : m.Sml w' := ⟨h.c.below hb, h.i, h.av⟩
def MsgP (m : Mm) (w : World) (e : Ending) (w' : World) : Prop := ∃ n : Mm, e = .returned (.agg #[.int .i64 n.kd, .int .i64 n.fr, .int .i64 n.dst, .int .u32 n.ep, .int .i64 n.i.1, .int .u32 n.i.2, .int .u32 n.b.1, .int .i64 n.b.2, .int .i64 n.st, .int .u32 n.vv.1, .int .i64 n.vv.2, .int .i64 n.c.kd, .int .i64 n.c.x.1, .int .u32 n.c.x.2, .int .u32 n.c.v.d0, .int .u32 n.c.v.d1, .int .u32 n.c.v.d2, .int .u32 n.c.v.d3, .int .u32 n.c.v.d4, .int .u32 n.c.v.d5, .int .u32 n.c.v.d6, .int .u32 n.c.v.d7, .bool n.c.t, .slice n.c.T n.c.k n.c.kc, .int .i64 n.c.sn, .int .i64 n.c.wh, .slice n.c.B n.c.m n.c.mc, .int .u32 n.c.u.d0, .int .u32 n.c.u.d1, .int .u32 n.c.u.d2, .int .u32 n.c.u.d3, .int .u32 n.c.u.d4, .int .u32 n.c.u.d5, .int .u32 n.c.u.d6, .int .u32 n.c.u.d7, .int .u32 n.an, .int .u32 n.av.d0, .int .u32 n.av.d1, .int .u32 n.av.d2, .int .u32 n.av.d3, .int .u32 n.av.d4, .int .u32 n.av.d5, .int .u32 n.av.d6, .int .u32 n.av.d7]) ∧ n.val = m.val ∧ n.c.Own w' w.heap.size ∧ Below w.heap.size w w'
theorem MsgP.sml {m : Mm} {w w' : World} {e : Ending} (h : MsgP m w e w') (hs : m.Sml w) : ∃ n : Mm, e = .returned (.agg #[.int .i64 n.kd, .int .i64 n.fr, .int .i64 n.dst, .int .u32 n.ep, .int .i64 n.i.1, .int .u32 n.i.2, .int .u32 n.b.1, .int .i64 n.b.2, .int .i64 n.st, .int .u32 n.vv.1, .int .i64 n.vv.2, .int .i64 n.c.kd, .int .i64 n.c.x.1, .int .u32 n.c.x.2, .int .u32 n.c.v.d0, .int .u32 n.c.v.d1, .int .u32 n.c.v.d2, .int .u32 n.c.v.d3, .int .u32 n.c.v.d4, .int .u32 n.c.v.d5, .int .u32 n.c.v.d6, .int .u32 n.c.v.d7, .bool n.c.t, .slice n.c.T n.c.k n.c.kc, .int .i64 n.c.sn, .int .i64 n.c.wh, .slice n.c.B n.c.m n.c.mc, .int .u32 n.c.u.d0, .int .u32 n.c.u.d1, .int .u32 n.c.u.d2, .int .u32 n.c.u.d3, .int .u32 n.c.u.d4, .int .u32 n.c.u.d5, .int .u32 n.c.u.d6, .int .u32 n.c.u.d7, .int .u32 n.an, .int .u32 n.av.d0, .int .u32 n.av.d1, .int .u32 n.av.d2, .int .u32 n.av.d3, .int .u32 n.av.d4, .int .u32 n.av.d5, .int .u32 n.av.d6, .int .u32 n.av.d7]) ∧ n.val = m.val ∧ n.Sml w' ∧ Below w.heap.size w w' := by
  obtain ⟨n, h1, h2, h3, h4⟩ := h
  have e1 : n.i = m.i := congrArg MgV.i h2
  have e2 : n.av = m.av := congrArg MgV.av h2
  have e3 : n.c.val = m.c.val := congrArg MgV.c h2
  exact ⟨n, h1, h2, ⟨⟨h3.ok, by rw [e3]; exact hs.c.v⟩, by rw [e1]; exact hs.i, by rw [e2]; exact hs.av⟩, h4⟩
theorem ite_val {b : Bool} {x y : Cm} (h : x.val = y.val) : (if b = true then x else zCm).val = (if b = true then y else zCm).val := by cases b <;> simp [h]
theorem msgErr_val {n m : Mm} (h : n.val = m.val) : msgErr n = msgErr m := by
  obtain ⟨kd, fr, dst, ep, i, b, st, vv, c, an, av⟩ := m
  obtain ⟨ld, gr, est, fp, j, d, tt, uu, c', bn, bv⟩ := n
  simp only [Mm.val, MgV.mk.injEq] at h
  obtain ⟨rfl, rfl, rfl, rfl, rfl, rfl, rfl, rfl, hc, rfl, rfl⟩ := h
  have h1 : sameMm (keptM ⟨ld, gr, est, fp, j, d, tt, uu, c', bn, bv⟩) ⟨ld, gr, est, fp, j, d, tt, uu, c', bn, bv⟩ = sameMm (keptM ⟨ld, gr, est, fp, j, d, tt, uu, c, bn, bv⟩) ⟨ld, gr, est, fp, j, d, tt, uu, c, bn, bv⟩ := by
    unfold sameMm keptM onlyM
    dsimp only
    rw [ite_val hc, hc]
  unfold msgErr
  rw [h1]
  unfold fieldsE rangeBad
  dsimp only
  rw [hc]
set_option maxRecDepth 100000 in
set_option maxHeartbeats 16000000 in
theorem to25_any (m : Mm) (w : World) (hA : m.Sml w) : Calls Tryz.prog 8 #[.agg #[.int .i64 m.kd, .int .i64 m.fr, .int .i64 m.dst, .int .u32 m.ep, .int .i64 m.i.1, .int .u32 m.i.2, .int .u32 m.b.1, .int .i64 m.b.2, .int .i64 m.st, .int .u32 m.vv.1, .int .i64 m.vv.2, .int .i64 m.c.kd, .int .i64 m.c.x.1, .int .u32 m.c.x.2, .int .u32 m.c.v.d0, .int .u32 m.c.v.d1, .int .u32 m.c.v.d2, .int .u32 m.c.v.d3, .int .u32 m.c.v.d4, .int .u32 m.c.v.d5, .int .u32 m.c.v.d6, .int .u32 m.c.v.d7, .bool m.c.t, .slice m.c.T m.c.k m.c.kc, .int .i64 m.c.sn, .int .i64 m.c.wh, .slice m.c.B m.c.m m.c.mc, .int .u32 m.c.u.d0, .int .u32 m.c.u.d1, .int .u32 m.c.u.d2, .int .u32 m.c.u.d3, .int .u32 m.c.u.d4, .int .u32 m.c.u.d5, .int .u32 m.c.u.d6, .int .u32 m.c.u.d7, .int .u32 m.an, .int .u32 m.av.d0, .int .u32 m.av.d1, .int .u32 m.av.d2, .int .u32 m.av.d3, .int .u32 m.av.d4, .int .u32 m.av.d5, .int .u32 m.av.d6, .int .u32 m.av.d7]] w fun e w' => MsgP m w e w' := by
  have cT := Lib.hid (fun w' (h : Below w.heap.size w w') => cmd25_any m.c w' (hA.c.below h))
  have cB := Lib.hid (fun w' => bto_any m.b.1 m.b.2 w')
  have cV := Lib.hid (fun w' => bto_any m.vv.1 m.vv.2 w')
  have cA := Lib.hid (fun w' => attr_any m.an m.av w')
  have hb0 : Below w.heap.size w ((w.alloc (.cells #[.int .i64 m.kd, .int .i64 m.fr, .int .i64 m.dst, .int .u32 m.ep, .int .i64 m.i.1, .int .u32 m.i.2, .int .u32 m.b.1, .int .i64 m.b.2, .int .i64 m.st, .int .u32 m.vv.1, .int .i64 m.vv.2, .int .i64 m.c.kd, .int .i64 m.c.x.1, .int .u32 m.c.x.2, .int .u32 m.c.v.d0, .int .u32 m.c.v.d1, .int .u32 m.c.v.d2, .int .u32 m.c.v.d3, .int .u32 m.c.v.d4, .int .u32 m.c.v.d5, .int .u32 m.c.v.d6, .int .u32 m.c.v.d7, .bool m.c.t, .slice m.c.T m.c.k m.c.kc, .int .i64 m.c.sn, .int .i64 m.c.wh, .slice m.c.B m.c.m m.c.mc, .int .u32 m.c.u.d0, .int .u32 m.c.u.d1, .int .u32 m.c.u.d2, .int .u32 m.c.u.d3, .int .u32 m.c.u.d4, .int .u32 m.c.u.d5, .int .u32 m.c.u.d6, .int .u32 m.c.u.d7, .int .u32 m.an, .int .u32 m.av.d0, .int .u32 m.av.d1, .int .u32 m.av.d2, .int .u32 m.av.d3, .int .u32 m.av.d4, .int .u32 m.av.d5, .int .u32 m.av.d6, .int .u32 m.av.d7] 38)).alloc (.cells #[.int .i64 0, .int .i64 0, .int .i64 0, .int .u32 0, .int .i64 0, .int .u32 0, .int .u32 0, .int .i64 0, .int .i64 0, .int .u32 0, .int .i64 0, .int .i64 0, .int .i64 0, .int .u32 0, .int .u32 0, .int .u32 0, .int .u32 0, .int .u32 0, .int .u32 0, .int .u32 0, .int .u32 0, .int .u32 0, .bool false, .slice none 0 0, .int .i64 0, .int .i64 0, .slice none 0 0, .int .u32 0, .int .u32 0, .int .u32 0, .int .u32 0, .int .u32 0, .int .u32 0, .int .u32 0, .int .u32 0, .int .u32 0, .int .u32 0, .int .u32 0, .int .u32 0, .int .u32 0, .int .u32 0, .int .u32 0, .int .u32 0, .int .u32 0] 50)) := ((Below.refl _ w).alloc (Nat.le_refl _) _).alloc (by simp) _
  have hbA : ((w.alloc (.cells #[.int .i64 m.kd, .int .i64 m.fr, .int .i64 m.dst, .int .u32 m.ep, .int .i64 m.i.1, .int .u32 m.i.2, .int .u32 m.b.1, .int .i64 m.b.2, .int .i64 m.st, .int .u32 m.vv.1, .int .i64 m.vv.2, .int .i64 m.c.kd, .int .i64 m.c.x.1, .int .u32 m.c.x.2, .int .u32 m.c.v.d0, .int .u32 m.c.v.d1, .int .u32 m.c.v.d2, .int .u32 m.c.v.d3, .int .u32 m.c.v.d4, .int .u32 m.c.v.d5, .int .u32 m.c.v.d6, .int .u32 m.c.v.d7, .bool m.c.t, .slice m.c.T m.c.k m.c.kc, .int .i64 m.c.sn, .int .i64 m.c.wh, .slice m.c.B m.c.m m.c.mc, .int .u32 m.c.u.d0, .int .u32 m.c.u.d1, .int .u32 m.c.u.d2, .int .u32 m.c.u.d3, .int .u32 m.c.u.d4, .int .u32 m.c.u.d5, .int .u32 m.c.u.d6, .int .u32 m.c.u.d7, .int .u32 m.an, .int .u32 m.av.d0, .int .u32 m.av.d1, .int .u32 m.av.d2, .int .u32 m.av.d3, .int .u32 m.av.d4, .int .u32 m.av.d5, .int .u32 m.av.d6, .int .u32 m.av.d7] 38)).alloc (.cells #[.int .i64 0, .int .i64 0, .int .i64 0, .int .u32 0, .int .i64 0, .int .u32 0, .int .u32 0, .int .i64 0, .int .i64 0, .int .u32 0, .int .i64 0, .int .i64 0, .int .i64 0, .int .u32 0, .int .u32 0, .int .u32 0, .int .u32 0, .int .u32 0, .int .u32 0, .int .u32 0, .int .u32 0, .int .u32 0, .bool false, .slice none 0 0, .int .i64 0, .int .i64 0, .slice none 0 0, .int .u32 0, .int .u32 0, .int .u32 0, .int .u32 0, .int .u32 0, .int .u32 0, .int .u32 0, .int .u32 0, .int .u32 0, .int .u32 0, .int .u32 0, .int .u32 0, .int .u32 0, .int .u32 0, .int .u32 0, .int .u32 0, .int .u32 0] 50)).heap[w.heap.size]? = some (.cells #[.int .i64 m.kd, .int .i64 m.fr, .int .i64 m.dst, .int .u32 m.ep, .int .i64 m.i.1, .int .u32 m.i.2, .int .u32 m.b.1, .int .i64 m.b.2, .int .i64 m.st, .int .u32 m.vv.1, .int .i64 m.vv.2, .int .i64 m.c.kd, .int .i64 m.c.x.1, .int .u32 m.c.x.2, .int .u32 m.c.v.d0, .int .u32 m.c.v.d1, .int .u32 m.c.v.d2, .int .u32 m.c.v.d3, .int .u32 m.c.v.d4, .int .u32 m.c.v.d5, .int .u32 m.c.v.d6, .int .u32 m.c.v.d7, .bool m.c.t, .slice m.c.T m.c.k m.c.kc, .int .i64 m.c.sn, .int .i64 m.c.wh, .slice m.c.B m.c.m m.c.mc, .int .u32 m.c.u.d0, .int .u32 m.c.u.d1, .int .u32 m.c.u.d2, .int .u32 m.c.u.d3, .int .u32 m.c.u.d4, .int .u32 m.c.u.d5, .int .u32 m.c.u.d6, .int .u32 m.c.u.d7, .int .u32 m.an, .int .u32 m.av.d0, .int .u32 m.av.d1, .int .u32 m.av.d2, .int .u32 m.av.d3, .int .u32 m.av.d4, .int .u32 m.av.d5, .int .u32 m.av.d6, .int .u32 m.av.d7] 38 (0, 0)) := heap_old _ (by simp) (heap_at _ _ rfl)
  have hbK : ((w.alloc (.cells #[.int .i64 m.kd, .int .i64 m.fr, .int .i64 m.dst, .int .u32 m.ep, .int .i64 m.i.1, .int .u32 m.i.2, .int .u32 m.b.1, .int .i64 m.b.2, .int .i64 m.st, .int .u32 m.vv.1, .int .i64 m.vv.2, .int .i64 m.c.kd, .int .i64 m.c.x.1, .int .u32 m.c.x.2, .int .u32 m.c.v.d0, .int .u32 m.c.v.d1, .int .u32 m.c.v.d2, .int .u32 m.c.v.d3, .int .u32 m.c.v.d4, .int .u32 m.c.v.d5, .int .u32 m.c.v.d6, .int .u32 m.c.v.d7, .bool m.c.t, .slice m.c.T m.c.k m.c.kc, .int .i64 m.c.sn, .int .i64 m.c.wh, .slice m.c.B m.c.m m.c.mc, .int .u32 m.c.u.d0, .int .u32 m.c.u.d1, .int .u32 m.c.u.d2, .int .u32 m.c.u.d3, .int .u32 m.c.u.d4, .int .u32 m.c.u.d5, .int .u32 m.c.u.d6, .int .u32 m.c.u.d7, .int .u32 m.an, .int .u32 m.av.d0, .int .u32 m.av.d1, .int .u32 m.av.d2, .int .u32 m.av.d3, .int .u32 m.av.d4, .int .u32 m.av.d5, .int .u32 m.av.d6, .int .u32 m.av.d7] 38)).alloc (.cells #[.int .i64 0, .int .i64 0, .int .i64 0, .int .u32 0, .int .i64 0, .int .u32 0, .int .u32 0, .int .i64 0, .int .i64 0, .int .u32 0, .int .i64 0, .int .i64 0, .int .i64 0, .int .u32 0, .int .u32 0, .int .u32 0, .int .u32 0, .int .u32 0, .int .u32 0, .int .u32 0, .int .u32 0, .int .u32 0, .bool false, .slice none 0 0, .int .i64 0, .int .i64 0, .slice none 0 0, .int .u32 0, .int .u32 0, .int .u32 0, .int .u32 0, .int .u32 0, .int .u32 0, .int .u32 0, .int .u32 0, .int .u32 0, .int .u32 0, .int .u32 0, .int .u32 0, .int .u32 0, .int .u32 0, .int .u32 0, .int .u32 0, .int .u32 0] 50)).heap[w.heap.size + 1]? = some (.cells #[.int .i64 0, .int .i64 0, .int .i64 0, .int .u32 0, .int .i64 0, .int .u32 0, .int .u32 0, .int .i64 0, .int .i64 0, .int .u32 0, .int .i64 0, .int .i64 0, .int .i64 0, .int .u32 0, .int .u32 0, .int .u32 0, .int .u32 0, .int .u32 0, .int .u32 0, .int .u32 0, .int .u32 0, .int .u32 0, .bool false, .slice none 0 0, .int .i64 0, .int .i64 0, .slice none 0 0, .int .u32 0, .int .u32 0, .int .u32 0, .int .u32 0, .int .u32 0, .int .u32 0, .int .u32 0, .int .u32 0, .int .u32 0, .int .u32 0, .int .u32 0, .int .u32 0, .int .u32 0, .int .u32 0, .int .u32 0, .int .u32 0, .int .u32 0] 50 (0, 0)) := heap_at _ _ (by simp)
  generalize hW : ((w.alloc (.cells #[.int .i64 m.kd, .int .i64 m.fr, .int .i64 m.dst, .int .u32 m.ep, .int .i64 m.i.1, .int .u32 m.i.2, .int .u32 m.b.1, .int .i64 m.b.2, .int .i64 m.st, .int .u32 m.vv.1, .int .i64 m.vv.2, .int .i64 m.c.kd, .int .i64 m.c.x.1, .int .u32 m.c.x.2, .int .u32 m.c.v.d0, .int .u32 m.c.v.d1, .int .u32 m.c.v.d2, .int .u32 m.c.v.d3, .int .u32 m.c.v.d4, .int .u32 m.c.v.d5, .int .u32 m.c.v.d6, .int .u32 m.c.v.d7, .bool m.c.t, .slice m.c.T m.c.k m.c.kc, .int .i64 m.c.sn, .int .i64 m.c.wh, .slice m.c.B m.c.m m.c.mc, .int .u32 m.c.u.d0, .int .u32 m.c.u.d1, .int .u32 m.c.u.d2, .int .u32 m.c.u.d3, .int .u32 m.c.u.d4, .int .u32 m.c.u.d5, .int .u32 m.c.u.d6, .int .u32 m.c.u.d7, .int .u32 m.an, .int .u32 m.av.d0, .int .u32 m.av.d1, .int .u32 m.av.d2, .int .u32 m.av.d3, .int .u32 m.av.d4, .int .u32 m.av.d5, .int .u32 m.av.d6, .int .u32 m.av.d7] 38)).alloc (.cells #[.int .i64 0, .int .i64 0, .int .i64 0, .int .u32 0, .int .i64 0, .int .u32 0, .int .u32 0, .int .i64 0, .int .i64 0, .int .u32 0, .int .i64 0, .int .i64 0, .int .i64 0, .int .u32 0, .int .u32 0, .int .u32 0, .int .u32 0, .int .u32 0, .int .u32 0, .int .u32 0, .int .u32 0, .int .u32 0, .bool false, .slice none 0 0, .int .i64 0, .int .i64 0, .slice none 0 0, .int .u32 0, .int .u32 0, .int .u32 0, .int .u32 0, .int .u32 0, .int .u32 0, .int .u32 0, .int .u32 0, .int .u32 0, .int .u32 0, .int .u32 0, .int .u32 0, .int .u32 0, .int .u32 0, .int .u32 0, .int .u32 0, .int .u32 0] 50)) = W at hb0 hbA hbK
  have hz0 := hb0.size
  have hltA := blk_lt hbA
  have hltK := blk_lt hbK
  have hn1 : w.heap.size + 1 ≤ W.heap.size := by omega
  have hn0 : w.heap.size ≤ w.heap.size + 1 := by omega
  have p0 := blk_cell hbA 0
  have p1 := blk_cell hbA 1
  have p2 := blk_cell hbA 2
  have p3 := blk_cell hbA 3
  have p4 := blk_cell hbA 4
  have p5 := blk_cell hbA 5
  have p6 := blk_cell hbA 6
  have p7 := blk_cell hbA 7
  have p8 := blk_cell hbA 8
  have p9 := blk_cell hbA 9
  have p10 := blk_cell hbA 10
  have p35 := blk_cell hbA 35
  have p36 := blk_cell hbA 36
  have p37 := blk_cell hbA 37
  have p38 := blk_cell hbA 38
  have p39 := blk_cell hbA 39
  have p40 := blk_cell hbA 40
  have p41 := blk_cell hbA 41
  have p42 := blk_cell hbA 42
  have p43 := blk_cell hbA 43
  simp at p0 p1 p2 p3 p4 p5 p6 p7 p8 p9 p10 p35 p36 p37 p38 p39 p40 p41 p42 p43
  have hbKH := Lib.hid hbK
  have hmid := Lib.hid (fun w' (h : KQ (w.heap.size + 1) W w') => rangeQ ((h.1.block _ (Nat.lt_succ_self _)).trans hbA) 11 [.int .i64 m.c.kd, .int .i64 m.c.x.1, .int .u32 m.c.x.2, .int .u32 m.c.v.d0, .int .u32 m.c.v.d1, .int .u32 m.c.v.d2, .int .u32 m.c.v.d3, .int .u32 m.c.v.d4, .int .u32 m.c.v.d5, .int .u32 m.c.v.d6, .int .u32 m.c.v.d7, .bool m.c.t, .slice m.c.T m.c.k m.c.kc, .int .i64 m.c.sn, .int .i64 m.c.wh, .slice m.c.B m.c.m m.c.mc, .int .u32 m.c.u.d0, .int .u32 m.c.u.d1, .int .u32 m.c.u.d2, .int .u32 m.c.u.d3, .int .u32 m.c.u.d4, .int .u32 m.c.u.d5, .int .u32 m.c.u.d6, .int .u32 m.c.u.d7] rfl)
  have hGr := Lib.hid (fun w' (h : Below (w.heap.size + 1) W w') => hb0.trans (h.mono hn0))
  clear hbA hA hbK hb0
  go_enter Tryz.func8, Tryz.ntmps8
  go_upto_region 1 with (fail)
  clear hW
  refine wp_region_M (fun w' => KQ (w.heap.size + 1) W w') (fun w' => w'.heap[w.heap.size + 1]? = some (.cells #[.int .i64 0, .int .i64 0, .int .i64 0, .int .u32 0, .int .i64 0, .int .u32 0, .int .u32 0, .int .i64 0, .int .i64 0, .int .u32 0, .int .i64 0, .int .i64 0, .int .i64 0, .int .u32 0, .int .u32 0, .int .u32 0, .int .u32 0, .int .u32 0, .int .u32 0, .int .u32 0, .int .u32 0, .int .u32 0, .bool false, .slice none 0 0, .int .i64 0, .int .i64 0, .slice none 0 0, .int .u32 0, .int .u32 0, .int .u32 0, .int .u32 0, .int .u32 0, .int .u32 0, .int .u32 0, .int .u32 0, .int .u32 0, .int .u32 0, .int .u32 0, .int .u32 0, .int .u32 0, .int .u32 0, .int .u32 0, .int .u32 0, .int .u32 0] 50 (0, 0))) 25 (by kernel_rfl) (kq (Below.refl _ _).drew) hbKH.out ?_
  intro hcl
  have hC : KQ (w.heap.size + 1) W W.drew := kq (Below.refl _ _).drew
  have hE : W.drew.heap[w.heap.size + 1]? = some (.cells #[.int .i64 0, .int .i64 0, .int .i64 0, .int .u32 0, .int .i64 0, .int .u32 0, .int .u32 0, .int .i64 0, .int .i64 0, .int .u32 0, .int .i64 0, .int .i64 0, .int .i64 0, .int .u32 0, .int .u32 0, .int .u32 0, .int .u32 0, .int .u32 0, .int .u32 0, .int .u32 0, .int .u32 0, .int .u32 0, .bool false, .slice none 0 0, .int .i64 0, .int .i64 0, .slice none 0 0, .int .u32 0, .int .u32 0, .int .u32 0, .int .u32 0, .int .u32 0, .int .u32 0, .int .u32 0, .int .u32 0, .int .u32 0, .int .u32 0, .int .u32 0, .int .u32 0, .int .u32 0, .int .u32 0, .int .u32 0, .int .u32 0, .int .u32 0] 50 (0, 0)) := hbKH.out
  (refine wpM_take (i := 0) (v := ?_) rfl (by kernel_rfl) (by kernel_rfl) (by kernel_rfl) (by decide) (fun _ _ _ h => h) hcl hC (fun _ => hE) (Or.inl ⟨by rfl, ?_⟩) ?_; rotate_left; (· (intro w hSw; (try dsimp only at hSw); go_simp; (try with_reducible rfl))); clear hcl; intro hcl; (try simp only [Act.put, List.getElem_toArray, List.getElem_cons_zero, List.setIfInBounds_toArray, List.set_cons_zero, List.set_cons_succ]))
  (refine wpM_take (i := 1) (v := ?_) rfl (by kernel_rfl) (by kernel_rfl) (by kernel_rfl) (by decide) (fun _ _ _ h => h) hcl hC (fun _ => hE) (Or.inl ⟨by rfl, ?_⟩) ?_; rotate_left; (· (intro w hSw; (try dsimp only at hSw); go_simp; (try with_reducible rfl))); clear hcl; intro hcl; (try simp only [Act.put, List.getElem_toArray, List.getElem_cons_zero, List.getElem_cons_succ, List.setIfInBounds_toArray, List.set_cons_zero, List.set_cons_succ]))
  (refine wpM_take (i := 2) (v := ?_) rfl (by kernel_rfl) (by kernel_rfl) (by kernel_rfl) (by decide) (fun _ _ _ h => h) hcl hC (fun _ => hE) (Or.inl ⟨by rfl, ?_⟩) ?_; rotate_left; (· (intro w hSw; (try dsimp only at hSw); go_simp; (try with_reducible rfl))); clear hcl; intro hcl; (try simp only [Act.put, List.getElem_toArray, List.getElem_cons_zero, List.getElem_cons_succ, List.setIfInBounds_toArray, List.set_cons_zero, List.set_cons_succ]))
  (refine wpM_take (i := 3) (v := ?_) rfl (by kernel_rfl) (by kernel_rfl) (by kernel_rfl) (by decide) (fun _ _ _ h => h) hcl hC (fun _ => hE) (Or.inl ⟨by rfl, ?_⟩) ?_; rotate_left; (· (intro w hSw; (try dsimp only at hSw); go_simp; (try with_reducible rfl))); clear hcl; intro hcl; (try simp only [Act.put, List.getElem_toArray, List.getElem_cons_zero, List.getElem_cons_succ, List.setIfInBounds_toArray, List.set_cons_zero, List.set_cons_succ]))
  (refine wpM_take (i := 4) (v := ?_) rfl (by kernel_rfl) (by kernel_rfl) (by kernel_rfl) (by decide) (fun _ _ _ h => h) hcl hC (fun _ => hE) (Or.inl ⟨by rfl, ?_⟩) ?_; rotate_left; (· (intro w hSw; (try dsimp only at hSw); go_simp; (try with_reducible rfl))); clear hcl; intro hcl; (try simp only [Act.put, List.getElem_toArray, List.getElem_cons_zero, List.getElem_cons_succ, List.setIfInBounds_toArray, List.set_cons_zero, List.set_cons_succ]))
  (refine wpM_take (i := 5) (v := ?_) rfl (by kernel_rfl) (by kernel_rfl) (by kernel_rfl) (by decide) (fun _ _ _ h => h) hcl hC (fun _ => hE) (Or.inl ⟨by rfl, ?_⟩) ?_; rotate_left; (· (intro w hSw; (try dsimp only at hSw); go_simp; (try with_reducible rfl))); clear hcl; intro hcl; (try simp only [Act.put, List.getElem_toArray, List.getElem_cons_zero, List.getElem_cons_succ, List.setIfInBounds_toArray, List.set_cons_zero, List.set_cons_succ]))
  (refine wpM_take (i := 6) (v := ?_) rfl (by kernel_rfl) (by kernel_rfl) (by kernel_rfl) (by decide) (fun _ _ _ h => h) hcl hC (fun _ => hE) (Or.inl ⟨by rfl, ?_⟩) ?_; rotate_left; (· (intro w hSw; (try dsimp only at hSw); go_simp; (try with_reducible rfl))); clear hcl; intro hcl; (try simp only [Act.put, List.getElem_toArray, List.getElem_cons_zero, List.getElem_cons_succ, List.setIfInBounds_toArray, List.set_cons_zero, List.set_cons_succ]))
  (refine wpM_take (i := 7) (v := ?_) rfl (by kernel_rfl) (by kernel_rfl) (by kernel_rfl) (by decide) (fun _ _ _ h => h) hcl hC (fun _ => hE) (Or.inl ⟨by rfl, ?_⟩) ?_; rotate_left; (· (intro w hSw; (try dsimp only at hSw); go_simp; (try with_reducible rfl))); clear hcl; intro hcl; (try simp only [Act.put, List.getElem_toArray, List.getElem_cons_zero, List.getElem_cons_succ, List.setIfInBounds_toArray, List.set_cons_zero, List.set_cons_succ]))
  (refine wpM_take (i := 8) (v := ?_) rfl (by kernel_rfl) (by kernel_rfl) (by kernel_rfl) (by decide) (fun _ _ _ h => h) hcl hC (fun _ => hE) (Or.inl ⟨by rfl, ?_⟩) ?_; rotate_left; (· (intro w hSw; (try dsimp only at hSw); go_simp; (try with_reducible rfl))); clear hcl; intro hcl; (try simp only [Act.put, List.getElem_toArray, List.getElem_cons_zero, List.getElem_cons_succ, List.setIfInBounds_toArray, List.set_cons_zero, List.set_cons_succ]))
  (refine wpM_take (i := 9) (v := ?_) rfl (by kernel_rfl) (by kernel_rfl) (by kernel_rfl) (by decide) (fun _ _ _ h => h) hcl hC (fun _ => hE) (Or.inl ⟨by rfl, ?_⟩) ?_; rotate_left; (· (intro w hSw; (try dsimp only at hSw); go_simp; (try with_reducible rfl))); clear hcl; intro hcl; (try simp only [Act.put, List.getElem_toArray, List.getElem_cons_zero, List.getElem_cons_succ, List.setIfInBounds_toArray, List.set_cons_zero, List.set_cons_succ]))
  (refine wpM_take (i := 10) (v := ?_) rfl (by kernel_rfl) (by kernel_rfl) (by kernel_rfl) (by decide) (fun _ _ _ h => h) hcl hC (fun _ => hE) (Or.inl ⟨by rfl, ?_⟩) ?_; rotate_left; (· (intro w hSw; (try dsimp only at hSw); go_simp; (try with_reducible rfl))); clear hcl; intro hcl; (try simp only [Act.put, List.getElem_toArray, List.getElem_cons_zero, List.getElem_cons_succ, List.setIfInBounds_toArray, List.set_cons_zero, List.set_cons_succ]))
  (refine wpM_take (i := 11) (v := ?_) rfl (by kernel_rfl) (by kernel_rfl) (by kernel_rfl) (by decide) (fun _ _ _ h => h) hcl hC (fun _ => hE) (Or.inl ⟨by rfl, ?_⟩) ?_; rotate_left; (· (intro w hSw; (try dsimp only at hSw); go_simp; (try with_reducible rfl))); clear hcl; intro hcl; (try simp only [Act.put, List.getElem_toArray, List.getElem_cons_zero, List.getElem_cons_succ, List.setIfInBounds_toArray, List.set_cons_zero, List.set_cons_succ]))
  (refine wpM_take (i := 13) (v := ?_) rfl (by kernel_rfl) (by kernel_rfl) (by kernel_rfl) (by decide) (fun _ _ _ h => h) hcl hC (fun _ => hE) (Or.inl ⟨by rfl, ?_⟩) ?_; rotate_left; (· (intro w hSw; (try dsimp only at hSw); go_simp; (try with_reducible rfl))); clear hcl; intro hcl; (try simp only [Act.put, List.getElem_toArray, List.getElem_cons_zero, List.getElem_cons_succ, List.setIfInBounds_toArray, List.set_cons_zero, List.set_cons_succ]))
  (refine wpM_take (i := 14) (v := ?_) rfl (by kernel_rfl) (by kernel_rfl) (by kernel_rfl) (by decide) (fun _ _ _ h => h) hcl hC (fun _ => hE) (Or.inl ⟨by rfl, ?_⟩) ?_; rotate_left; (· (intro w hSw; (try dsimp only at hSw); go_simp; (try with_reducible rfl))); clear hcl; intro hcl; (try simp only [Act.put, List.getElem_toArray, List.getElem_cons_zero, List.getElem_cons_succ, List.setIfInBounds_toArray, List.set_cons_zero, List.set_cons_succ]))
  (refine wpM_take (i := 15) (v := ?_) rfl (by kernel_rfl) (by kernel_rfl) (by kernel_rfl) (by decide) (fun _ _ _ h => h) hcl hC (fun _ => hE) (Or.inl ⟨by rfl, ?_⟩) ?_; rotate_left; (· (intro w hSw; (try dsimp only at hSw); go_simp; (try with_reducible rfl))); clear hcl; intro hcl; (try simp only [Act.put, List.getElem_toArray, List.getElem_cons_zero, List.getElem_cons_succ, List.setIfInBounds_toArray, List.set_cons_zero, List.set_cons_succ]))
  (refine wpM_take (i := 16) (v := ?_) rfl (by kernel_rfl) (by kernel_rfl) (by kernel_rfl) (by decide) (fun _ _ _ h => h) hcl hC (fun _ => hE) (Or.inl ⟨by rfl, ?_⟩) ?_; rotate_left; (· (intro w hSw; (try dsimp only at hSw); go_simp; (try with_reducible rfl))); clear hcl; intro hcl; (try simp only [Act.put, List.getElem_toArray, List.getElem_cons_zero, List.getElem_cons_succ, List.setIfInBounds_toArray, List.set_cons_zero, List.set_cons_succ]))
  (refine wpM_take (i := 18) (v := ?_) rfl (by kernel_rfl) (by kernel_rfl) (by kernel_rfl) (by decide) (fun _ _ _ h => h) hcl hC (fun _ => hE) (Or.inl ⟨by rfl, ?_⟩) ?_; rotate_left; (· (intro w hSw; (try dsimp only at hSw); go_simp; (try with_reducible rfl))); clear hcl; intro hcl; (try simp only [Act.put, List.getElem_toArray, List.getElem_cons_zero, List.getElem_cons_succ, List.setIfInBounds_toArray, List.set_cons_zero, List.set_cons_succ]))
  refine wpM_take (i := 19) (v := .agg ([.int .i64 m.c.kd, .int .i64 m.c.x.1, .int .u32 m.c.x.2, .int .u32 m.c.v.d0, .int .u32 m.c.v.d1, .int .u32 m.c.v.d2, .int .u32 m.c.v.d3, .int .u32 m.c.v.d4, .int .u32 m.c.v.d5, .int .u32 m.c.v.d6, .int .u32 m.c.v.d7, .bool m.c.t, .slice m.c.T m.c.k m.c.kc, .int .i64 m.c.sn, .int .i64 m.c.wh, .slice m.c.B m.c.m m.c.mc, .int .u32 m.c.u.d0, .int .u32 m.c.u.d1, .int .u32 m.c.u.d2, .int .u32 m.c.u.d3, .int .u32 m.c.u.d4, .int .u32 m.c.u.d5, .int .u32 m.c.u.d6, .int .u32 m.c.u.d7] : List Value).toArray) rfl (by kernel_rfl) (by kernel_rfl) (by kernel_rfl) (by decide) (fun _ _ _ h => h) hcl hC (fun _ => hE) (yields_mid (by kernel_rfl) rfl (w.heap.size) 11 rfl [.int .i64 m.c.kd, .int .i64 m.c.x.1, .int .u32 m.c.x.2, .int .u32 m.c.v.d0, .int .u32 m.c.v.d1, .int .u32 m.c.v.d2, .int .u32 m.c.v.d3, .int .u32 m.c.v.d4, .int .u32 m.c.v.d5, .int .u32 m.c.v.d6, .int .u32 m.c.v.d7, .bool m.c.t, .slice m.c.T m.c.k m.c.kc, .int .i64 m.c.sn, .int .i64 m.c.wh, .slice m.c.B m.c.m m.c.mc, .int .u32 m.c.u.d0, .int .u32 m.c.u.d1, .int .u32 m.c.u.d2, .int .u32 m.c.u.d3, .int .u32 m.c.u.d4, .int .u32 m.c.u.d5, .int .u32 m.c.u.d6, .int .u32 m.c.u.d7] _ hmid.out Tryz.underlying34 rfl (by kernel_rfl)) ?_
  clear hcl
  intro hcl
  (try simp only [Act.put, List.getElem_toArray, List.getElem_cons_zero, List.getElem_cons_succ, List.setIfInBounds_toArray, List.set_cons_zero, List.set_cons_succ])
  (refine wpM_take (i := 21) (v := ?_) rfl (by kernel_rfl) (by kernel_rfl) (by kernel_rfl) (by decide) (fun _ _ _ h => h) hcl hC (fun _ => hE) (Or.inl ⟨by rfl, ?_⟩) ?_; rotate_left; (· (intro w hSw; (try dsimp only at hSw); go_simp; (try with_reducible rfl))); clear hcl; intro hcl; (try simp only [Act.put, List.getElem_toArray, List.getElem_cons_zero, List.getElem_cons_succ, List.setIfInBounds_toArray, List.set_cons_zero, List.set_cons_succ]))
  (refine wpM_take (i := 22) (v := ?_) rfl (by kernel_rfl) (by kernel_rfl) (by kernel_rfl) (by decide) (fun _ _ _ h => h) hcl hC (fun _ => hE) (Or.inl ⟨by rfl, ?_⟩) ?_; rotate_left; (· (intro w hSw; (try dsimp only at hSw); go_simp; (try with_reducible rfl))); clear hcl; intro hcl; (try simp only [Act.put, List.getElem_toArray, List.getElem_cons_zero, List.getElem_cons_succ, List.setIfInBounds_toArray, List.set_cons_zero, List.set_cons_succ]))
  refine wpM_only (i := 12) rfl (by kernel_rfl) hcl (fun K hK => ?_)
  go_simp
  refine (cB.out _).mono ?_
  rintro e v1 ⟨rfl, hv1⟩
  have hC' := kq_call hC hn1 hv1
  have hE' := blk_below hE hv1
  refine hK.out _ _ hC' hE' ?_
  clear hK K
  clear hcl
  intro hcl
  (try simp only [Act.put, List.getElem_toArray, List.getElem_cons_zero, List.getElem_cons_succ, List.setIfInBounds_toArray, List.set_cons_zero, List.set_cons_succ])
  clear hC hE
  have hC := hC'
  have hE := hE'
  clear hC' hE'
  refine wpM_only (i := 17) rfl (by kernel_rfl) hcl (fun K hK => ?_)
  go_simp
  refine (cV.out _).mono ?_
  rintro e v2 ⟨rfl, hv2⟩
  have hC' := kq_call hC hn1 hv2
  have hE' := blk_below hE hv2
  refine hK.out _ _ hC' hE' ?_
  clear hK K
  clear hcl
  intro hcl
  (try simp only [Act.put, List.getElem_toArray, List.getElem_cons_zero, List.getElem_cons_succ, List.setIfInBounds_toArray, List.set_cons_zero, List.set_cons_succ])
  clear hC hE
  have hC := hC'
  have hE := hE'
  clear hC' hE'
  refine wpM_only (i := 20) rfl (by kernel_rfl) hcl (fun K hK => ?_)
  go_simp
  refine (cT.out _ (hGr.out _ hC.1)).mono ?_
  rintro e v3 ⟨c', rfl, hcv, hcok, hv3⟩
  have hcs := hC.1.size
  replace hcok := hcok.base (show w.heap.size + 2 ≤ _ by omega)
  clear hcs
  replace hcv := Lib.hid hcv
  have hC' := kq_call hC hn1 hv3
  have hE' := blk_below hE hv3
  refine hK.out _ _ hC' hE' ?_
  clear hK K
  clear hcl
  intro hcl
  (try simp only [Act.put, List.getElem_toArray, List.getElem_cons_zero, List.getElem_cons_succ, List.setIfInBounds_toArray, List.set_cons_zero, List.set_cons_succ])
  clear hC hE
  have hC := hC'
  have hE := hE'
  clear hC' hE'
  refine wpM_only (i := 23) rfl (by kernel_rfl) hcl (fun K hK => ?_)
  go_simp
  refine (cA.out _).mono ?_
  rintro e v4 ⟨rfl, hv4⟩
  replace hcok := hcok.below hv4
  have hC' := kq_call hC hn1 hv4
  have hE' := blk_below hE hv4
  refine hK.out _ _ hC' hE' ?_
  clear hK K
  clear hcl
  intro hcl
  (try simp only [Act.put, List.getElem_toArray, List.getElem_cons_zero, List.getElem_cons_succ, List.setIfInBounds_toArray, List.set_cons_zero, List.set_cons_succ])
  clear hC hE
  have hC := hC'
  have hE := hE'
  clear hC' hE'
  obtain ⟨n, hn⟩ : ∃ n : Mm, n = ⟨m.kd, m.fr, m.dst, m.ep, m.i, m.b, m.st, m.vv, c', m.an, m.av⟩ := ⟨_, rfl⟩
  have hnv : n.val = m.val := by rw [hn]; unfold Mm.val; dsimp only; rw [hcv.out]
  have hnc : n.c = c' := by rw [hn]
  replace hcok : n.c.Own v4 (w.heap.size + 2) := by rw [hnc]; exact hcok
  have hag : (#[.int .i64 m.kd, .int .i64 m.fr, .int .i64 m.dst, .int .u32 m.ep, .int .i64 m.i.1, .int .u32 m.i.2, .int .u32 m.b.1, .int .i64 m.b.2, .int .i64 m.st, .int .u32 m.vv.1, .int .i64 m.vv.2, .int .i64 c'.kd, .int .i64 c'.x.1, .int .u32 c'.x.2, .int .u32 c'.v.d0, .int .u32 c'.v.d1, .int .u32 c'.v.d2, .int .u32 c'.v.d3, .int .u32 c'.v.d4, .int .u32 c'.v.d5, .int .u32 c'.v.d6, .int .u32 c'.v.d7, .bool c'.t, .slice c'.T c'.k c'.kc, .int .i64 c'.sn, .int .i64 c'.wh, .slice c'.B c'.m c'.mc, .int .u32 c'.u.d0, .int .u32 c'.u.d1, .int .u32 c'.u.d2, .int .u32 c'.u.d3, .int .u32 c'.u.d4, .int .u32 c'.u.d5, .int .u32 c'.u.d6, .int .u32 c'.u.d7, .int .u32 m.an, .int .u32 m.av.d0, .int .u32 m.av.d1, .int .u32 m.av.d2, .int .u32 m.av.d3, .int .u32 m.av.d4, .int .u32 m.av.d5, .int .u32 m.av.d6, .int .u32 m.av.d7] : Array Value) = #[.int .i64 n.kd, .int .i64 n.fr, .int .i64 n.dst, .int .u32 n.ep, .int .i64 n.i.1, .int .u32 n.i.2, .int .u32 n.b.1, .int .i64 n.b.2, .int .i64 n.st, .int .u32 n.vv.1, .int .i64 n.vv.2, .int .i64 n.c.kd, .int .i64 n.c.x.1, .int .u32 n.c.x.2, .int .u32 n.c.v.d0, .int .u32 n.c.v.d1, .int .u32 n.c.v.d2, .int .u32 n.c.v.d3, .int .u32 n.c.v.d4, .int .u32 n.c.v.d5, .int .u32 n.c.v.d6, .int .u32 n.c.v.d7, .bool n.c.t, .slice n.c.T n.c.k n.c.kc, .int .i64 n.c.sn, .int .i64 n.c.wh, .slice n.c.B n.c.m n.c.mc, .int .u32 n.c.u.d0, .int .u32 n.c.u.d1, .int .u32 n.c.u.d2, .int .u32 n.c.u.d3, .int .u32 n.c.u.d4, .int .u32 n.c.u.d5, .int .u32 n.c.u.d6, .int .u32 n.c.u.d7, .int .u32 n.an, .int .u32 n.av.d0, .int .u32 n.av.d1, .int .u32 n.av.d2, .int .u32 n.av.d3, .int .u32 n.av.d4, .int .u32 n.av.d5, .int .u32 n.av.d6, .int .u32 n.av.d7] := by rw [hn]
  refine wpM_take (i := 24) (v := .agg #[.int .i64 m.kd, .int .i64 m.fr, .int .i64 m.dst, .int .u32 m.ep, .int .i64 m.i.1, .int .u32 m.i.2, .int .u32 m.b.1, .int .i64 m.b.2, .int .i64 m.st, .int .u32 m.vv.1, .int .i64 m.vv.2, .int .i64 c'.kd, .int .i64 c'.x.1, .int .u32 c'.x.2, .int .u32 c'.v.d0, .int .u32 c'.v.d1, .int .u32 c'.v.d2, .int .u32 c'.v.d3, .int .u32 c'.v.d4, .int .u32 c'.v.d5, .int .u32 c'.v.d6, .int .u32 c'.v.d7, .bool c'.t, .slice c'.T c'.k c'.kc, .int .i64 c'.sn, .int .i64 c'.wh, .slice c'.B c'.m c'.mc, .int .u32 c'.u.d0, .int .u32 c'.u.d1, .int .u32 c'.u.d2, .int .u32 c'.u.d3, .int .u32 c'.u.d4, .int .u32 c'.u.d5, .int .u32 c'.u.d6, .int .u32 c'.u.d7, .int .u32 m.an, .int .u32 m.av.d0, .int .u32 m.av.d1, .int .u32 m.av.d2, .int .u32 m.av.d3, .int .u32 m.av.d4, .int .u32 m.av.d5, .int .u32 m.av.d6, .int .u32 m.av.d7]) rfl (by kernel_rfl) (by kernel_rfl) (by kernel_rfl) (by decide) (fun _ _ _ h => h) hcl hC (fun _ => hE) (yields_build (by kernel_rfl) _ _ rfl (by kernel_rfl)) ?_
  clear hcl
  intro hcl
  (try simp only [Act.put, List.setIfInBounds_toArray])
  rw [hag]
  refine wpM_last (i := 25) rfl (by kernel_rfl) hcl (by kernel_rfl) (fun K hK => ?_)
  rw [if_pos (by kernel_rfl)]
  refine wp_store_mid _ _ _ rfl (w.heap.size + 1) 0 #[.int .i64 n.kd, .int .i64 n.fr, .int .i64 n.dst, .int .u32 n.ep, .int .i64 n.i.1, .int .u32 n.i.2, .int .u32 n.b.1, .int .i64 n.b.2, .int .i64 n.st, .int .u32 n.vv.1, .int .i64 n.vv.2, .int .i64 n.c.kd, .int .i64 n.c.x.1, .int .u32 n.c.x.2, .int .u32 n.c.v.d0, .int .u32 n.c.v.d1, .int .u32 n.c.v.d2, .int .u32 n.c.v.d3, .int .u32 n.c.v.d4, .int .u32 n.c.v.d5, .int .u32 n.c.v.d6, .int .u32 n.c.v.d7, .bool n.c.t, .slice n.c.T n.c.k n.c.kc, .int .i64 n.c.sn, .int .i64 n.c.wh, .slice n.c.B n.c.m n.c.mc, .int .u32 n.c.u.d0, .int .u32 n.c.u.d1, .int .u32 n.c.u.d2, .int .u32 n.c.u.d3, .int .u32 n.c.u.d4, .int .u32 n.c.u.d5, .int .u32 n.c.u.d6, .int .u32 n.c.u.d7, .int .u32 n.an, .int .u32 n.av.d0, .int .u32 n.av.d1, .int .u32 n.av.d2, .int .u32 n.av.d3, .int .u32 n.av.d4, .int .u32 n.av.d5, .int .u32 n.av.d6, .int .u32 n.av.d7] rfl rfl (there_all hE _ (by simp)) (by kernel_rfl) (by simp [Value.oneCell']) ?_
  have hR := Lib.hid (blk_all hE #[.int .i64 n.kd, .int .i64 n.fr, .int .i64 n.dst, .int .u32 n.ep, .int .i64 n.i.1, .int .u32 n.i.2, .int .u32 n.b.1, .int .i64 n.b.2, .int .i64 n.st, .int .u32 n.vv.1, .int .i64 n.vv.2, .int .i64 n.c.kd, .int .i64 n.c.x.1, .int .u32 n.c.x.2, .int .u32 n.c.v.d0, .int .u32 n.c.v.d1, .int .u32 n.c.v.d2, .int .u32 n.c.v.d3, .int .u32 n.c.v.d4, .int .u32 n.c.v.d5, .int .u32 n.c.v.d6, .int .u32 n.c.v.d7, .bool n.c.t, .slice n.c.T n.c.k n.c.kc, .int .i64 n.c.sn, .int .i64 n.c.wh, .slice n.c.B n.c.m n.c.mc, .int .u32 n.c.u.d0, .int .u32 n.c.u.d1, .int .u32 n.c.u.d2, .int .u32 n.c.u.d3, .int .u32 n.c.u.d4, .int .u32 n.c.u.d5, .int .u32 n.c.u.d6, .int .u32 n.c.u.d7, .int .u32 n.an, .int .u32 n.av.d0, .int .u32 n.av.d1, .int .u32 n.av.d2, .int .u32 n.av.d3, .int .u32 n.av.d4, .int .u32 n.av.d5, .int .u32 n.av.d6, .int .u32 n.av.d7] (by simp))
  have hBl := Lib.hid (hGr.out _ (below_setCells (Nat.le_refl _) (#[.int .i64 n.kd, .int .i64 n.fr, .int .i64 n.dst, .int .u32 n.ep, .int .i64 n.i.1, .int .u32 n.i.2, .int .u32 n.b.1, .int .i64 n.b.2, .int .i64 n.st, .int .u32 n.vv.1, .int .i64 n.vv.2, .int .i64 n.c.kd, .int .i64 n.c.x.1, .int .u32 n.c.x.2, .int .u32 n.c.v.d0, .int .u32 n.c.v.d1, .int .u32 n.c.v.d2, .int .u32 n.c.v.d3, .int .u32 n.c.v.d4, .int .u32 n.c.v.d5, .int .u32 n.c.v.d6, .int .u32 n.c.v.d7, .bool n.c.t, .slice n.c.T n.c.k n.c.kc, .int .i64 n.c.sn, .int .i64 n.c.wh, .slice n.c.B n.c.m n.c.mc, .int .u32 n.c.u.d0, .int .u32 n.c.u.d1, .int .u32 n.c.u.d2, .int .u32 n.c.u.d3, .int .u32 n.c.u.d4, .int .u32 n.c.u.d5, .int .u32 n.c.u.d6, .int .u32 n.c.u.d7, .int .u32 n.an, .int .u32 n.av.d0, .int .u32 n.av.d1, .int .u32 n.av.d2, .int .u32 n.av.d3, .int .u32 n.av.d4, .int .u32 n.av.d5, .int .u32 n.av.d6, .int .u32 n.av.d7] : Array Value).toList 0 _ hC.1))
  have hok := Lib.hid (Cm.Own.setCells (by omega) (#[.int .i64 n.kd, .int .i64 n.fr, .int .i64 n.dst, .int .u32 n.ep, .int .i64 n.i.1, .int .u32 n.i.2, .int .u32 n.b.1, .int .i64 n.b.2, .int .i64 n.st, .int .u32 n.vv.1, .int .i64 n.vv.2, .int .i64 n.c.kd, .int .i64 n.c.x.1, .int .u32 n.c.x.2, .int .u32 n.c.v.d0, .int .u32 n.c.v.d1, .int .u32 n.c.v.d2, .int .u32 n.c.v.d3, .int .u32 n.c.v.d4, .int .u32 n.c.v.d5, .int .u32 n.c.v.d6, .int .u32 n.c.v.d7, .bool n.c.t, .slice n.c.T n.c.k n.c.kc, .int .i64 n.c.sn, .int .i64 n.c.wh, .slice n.c.B n.c.m n.c.mc, .int .u32 n.c.u.d0, .int .u32 n.c.u.d1, .int .u32 n.c.u.d2, .int .u32 n.c.u.d3, .int .u32 n.c.u.d4, .int .u32 n.c.u.d5, .int .u32 n.c.u.d6, .int .u32 n.c.u.d7, .int .u32 n.an, .int .u32 n.av.d0, .int .u32 n.av.d1, .int .u32 n.av.d2, .int .u32 n.av.d3, .int .u32 n.av.d4, .int .u32 n.av.d5, .int .u32 n.av.d6, .int .u32 n.av.d7] : Array Value).toList 0 hcok (b := w.heap.size + 1))
  have hKN := kq (below_setCells (Nat.le_refl _) (#[.int .i64 n.kd, .int .i64 n.fr, .int .i64 n.dst, .int .u32 n.ep, .int .i64 n.i.1, .int .u32 n.i.2, .int .u32 n.b.1, .int .i64 n.b.2, .int .i64 n.st, .int .u32 n.vv.1, .int .i64 n.vv.2, .int .i64 n.c.kd, .int .i64 n.c.x.1, .int .u32 n.c.x.2, .int .u32 n.c.v.d0, .int .u32 n.c.v.d1, .int .u32 n.c.v.d2, .int .u32 n.c.v.d3, .int .u32 n.c.v.d4, .int .u32 n.c.v.d5, .int .u32 n.c.v.d6, .int .u32 n.c.v.d7, .bool n.c.t, .slice n.c.T n.c.k n.c.kc, .int .i64 n.c.sn, .int .i64 n.c.wh, .slice n.c.B n.c.m n.c.mc, .int .u32 n.c.u.d0, .int .u32 n.c.u.d1, .int .u32 n.c.u.d2, .int .u32 n.c.u.d3, .int .u32 n.c.u.d4, .int .u32 n.c.u.d5, .int .u32 n.c.u.d6, .int .u32 n.c.u.d7, .int .u32 n.an, .int .u32 n.av.d0, .int .u32 n.av.d1, .int .u32 n.av.d2, .int .u32 n.av.d3, .int .u32 n.av.d4, .int .u32 n.av.d5, .int .u32 n.av.d6, .int .u32 n.av.d7] : Array Value).toList 0 _ hC.1)
  generalize hwy : World.setCells v4 (w.heap.size + 1) 0 (#[.int .i64 n.kd, .int .i64 n.fr, .int .i64 n.dst, .int .u32 n.ep, .int .i64 n.i.1, .int .u32 n.i.2, .int .u32 n.b.1, .int .i64 n.b.2, .int .i64 n.st, .int .u32 n.vv.1, .int .i64 n.vv.2, .int .i64 n.c.kd, .int .i64 n.c.x.1, .int .u32 n.c.x.2, .int .u32 n.c.v.d0, .int .u32 n.c.v.d1, .int .u32 n.c.v.d2, .int .u32 n.c.v.d3, .int .u32 n.c.v.d4, .int .u32 n.c.v.d5, .int .u32 n.c.v.d6, .int .u32 n.c.v.d7, .bool n.c.t, .slice n.c.T n.c.k n.c.kc, .int .i64 n.c.sn, .int .i64 n.c.wh, .slice n.c.B n.c.m n.c.mc, .int .u32 n.c.u.d0, .int .u32 n.c.u.d1, .int .u32 n.c.u.d2, .int .u32 n.c.u.d3, .int .u32 n.c.u.d4, .int .u32 n.c.u.d5, .int .u32 n.c.u.d6, .int .u32 n.c.u.d7, .int .u32 n.an, .int .u32 n.av.d0, .int .u32 n.av.d1, .int .u32 n.av.d2, .int .u32 n.av.d3, .int .u32 n.av.d4, .int .u32 n.av.d5, .int .u32 n.av.d6, .int .u32 n.av.d7] : Array Value).toList = wy at hR hBl hok hKN ⊢
  clear hwy
  refine hK.out _ _ hKN ?_
  clear hK K hcl hKN
  intro hcl
  refine wpM_done (by kernel_rfl) ?_
  clear hcl hC hE p0 p1 p2 p3 p4 p5 p6 p7 p8 p9 p10 p35 p36 p37 p38 p39 p40 p41 p42 p43 hag hn
  (try simp only [Act.put])
  go_wp2_with fail
  exact bodyPost_ret (v := .agg #[.int .i64 n.kd, .int .i64 n.fr, .int .i64 n.dst, .int .u32 n.ep, .int .i64 n.i.1, .int .u32 n.i.2, .int .u32 n.b.1, .int .i64 n.b.2, .int .i64 n.st, .int .u32 n.vv.1, .int .i64 n.vv.2, .int .i64 n.c.kd, .int .i64 n.c.x.1, .int .u32 n.c.x.2, .int .u32 n.c.v.d0, .int .u32 n.c.v.d1, .int .u32 n.c.v.d2, .int .u32 n.c.v.d3, .int .u32 n.c.v.d4, .int .u32 n.c.v.d5, .int .u32 n.c.v.d6, .int .u32 n.c.v.d7, .bool n.c.t, .slice n.c.T n.c.k n.c.kc, .int .i64 n.c.sn, .int .i64 n.c.wh, .slice n.c.B n.c.m n.c.mc, .int .u32 n.c.u.d0, .int .u32 n.c.u.d1, .int .u32 n.c.u.d2, .int .u32 n.c.u.d3, .int .u32 n.c.u.d4, .int .u32 n.c.u.d5, .int .u32 n.c.u.d6, .int .u32 n.c.u.d7, .int .u32 n.an, .int .u32 n.av.d0, .int .u32 n.av.d1, .int .u32 n.av.d2, .int .u32 n.av.d3, .int .u32 n.av.d4, .int .u32 n.av.d5, .int .u32 n.av.d6, .int .u32 n.av.d7]) (results_cellQ 2 50 (by kernel_rfl) (w.heap.size + 1) rfl (run_loadVar_row _ _ _ _ _ _ _ hR.out Tryz.underlying50 rfl (by kernel_rfl))) rfl
    ⟨n, rfl, hnv, hok.out.base (by omega), hBl.out⟩
end Go.Proofs.YtfhandglpjnonaaGreatDoor
