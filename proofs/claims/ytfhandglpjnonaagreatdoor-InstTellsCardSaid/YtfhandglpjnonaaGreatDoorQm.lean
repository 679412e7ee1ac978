/- (inst.has).only. -/
import Derived.Test.YtfhandglpjnonaaGreatDoorQl
import Derived.Laws.CopyOwn
namespace Go.Proofs.YtfhandglpjnonaaGreatDoor
open Go.RowKit

def putL (cs : Array Value) : Nat → List Value → Array Value
  | _, [] => cs
  | o, v :: r => putL (cs.setIfInBounds o v) (o + 1) r
theorem putL_list : ∀ (l : List Value) (o : Nat) (cs : List Value), o + l.length ≤ cs.length → putL cs.toArray o l = (cs.take o ++ (l ++ cs.drop (o + l.length))).toArray
  | [], o, cs, h => by simp [putL]
  | v :: r, o, cs, h => by
    have h' : o + 1 + r.length ≤ cs.length := by simp at h; omega
    unfold putL
    rw [List.setIfInBounds_toArray, putL_list r (o + 1) (cs.set o v) (by simpa using h')]
    congr 1
    have e : cs.set o v = cs.take o ++ v :: cs.drop (o + 1) := by rw [List.set_eq_take_append_cons_drop, if_pos (by omega)]
    have hl : (cs.take o).length = o := by simp; omega
    have e1 : (cs.set o v).take (o + 1) = cs.take o ++ [v] := by
      rw [e, List.take_append, hl, show o + 1 - o = 1 by omega, List.take_of_length_le (by omega)]
      rfl
    have e2 : (cs.set o v).drop (o + 1 + r.length) = cs.drop (o + (v :: r).length) := by
      rw [List.drop_set_of_lt (by omega)]
      congr 1; simp; omega
    rw [e1, e2]; simp
theorem blk_setCells {b : Nat} {t : TypeId} : ∀ (l : List Value) (o : Nat) (w : World) (cs : Array Value), w.heap[b]? = some (.cells cs t (0, 0)) → (w.setCells b o l).heap[b]? = some (.cells (putL cs o l) t (0, 0))
  | [], _, _, _, h => h
  | v :: r, o, _w, _cs, h => blk_setCells r (o + 1) _ _ (blk_set h o v)
theorem ne_setCells {b k : Nat} {x : Option Obj} (hb : b ≠ k) : ∀ (l : List Value) (o : Nat) (w : World), w.heap[k]? = x → (w.setCells b o l).heap[k]? = x
  | [], _, _, h => h
  | _ :: r, o, _, h => ne_setCells hb r (o + 1) _ (heap_set_ne hb h)
theorem below_setCells {B b : Nat} {a : World} (hb : B ≤ b) : ∀ (l : List Value) (o : Nat) (w : World), Below B a w → Below B a (w.setCells b o l)
  | [], _, _, h => h
  | _ :: r, o, _, h => below_setCells hb r (o + 1) _ (h.setCell hb _)
theorem results_cellQ {P : Program} {fn : Func} {tmps : Array Value} {v : Value} {w : World} (a : Nat) (t : TypeId) (hf : fn.results = #[ResultVar.cell a t]) (g : Nat) (hx : tmps.getD a undef = .pointer (some ⟨g, 0, none⟩))
    (h : (loadVar t ⟨g, 0, none⟩).run P w = .ok v w) : (results fn tmps).run P w = .ok v w := by
  unfold results
  rw [hf]
  have hx' : tmps[a]?.getD undef = .pointer (some ⟨g, 0, none⟩) := by simpa using hx
  rw [show ∀ f : ResultVar → Sem Value, (#[ResultVar.cell a t].mapM f : Sem (Array Value)) = (do let x ← f (ResultVar.cell a t); pure #[x]) from fun f => by simp [Array.mapM_eq_mapM_toList]]
  simp only [hx, asAddr, Sem.run_bind, Sem.run_pure, Result.andThen_ok, h]
  rfl
/-- A command of zeros. -/
def zCm : Cm := ⟨0, (0, 0), zeroQ, false, none, 0, 0, [], 0, 0, none, 0, 0, [], zeroQ⟩
def Mm.uB (m : Mm) (h : Bool) : Mm := ⟨m.kd, m.fr, m.dst, m.ep, m.i, if h then m.b else (0, 0), m.st, m.vv, m.c, m.an, m.av⟩
def Mm.uS (m : Mm) (h : Bool) : Mm := ⟨m.kd, m.fr, m.dst, m.ep, m.i, m.b, if h then m.st else 0, m.vv, m.c, m.an, m.av⟩
def Mm.uV (m : Mm) (h : Bool) : Mm := ⟨m.kd, m.fr, m.dst, m.ep, m.i, m.b, m.st, if h then m.vv else (0, 0), m.c, m.an, m.av⟩
def Mm.uC (m : Mm) (h : Bool) : Mm := ⟨m.kd, m.fr, m.dst, m.ep, m.i, m.b, m.st, m.vv, if h then m.c else zCm, m.an, m.av⟩
def Mm.uA (m : Mm) (h : Bool) : Mm := ⟨m.kd, m.fr, m.dst, m.ep, m.i, m.b, m.st, m.vv, m.c, if h then m.an else 0, if h then m.av else zeroQ⟩
def onlyM (hb hs hv hc ha : Bool) (m : Mm) : Mm := ⟨m.kd, m.fr, m.dst, m.ep, m.i, if hb then m.b else (0, 0), if hs then m.st else 0, if hv then m.vv else (0, 0), if hc then m.c else zCm, if ha then m.an else 0, if ha then m.av else zeroQ⟩
theorem onlyM_u (hb hs hv hc ha : Bool) (m : Mm) : ((((m.uB hb).uS hs).uV hv).uC hc).uA ha = onlyM hb hs hv hc ha m := rfl
def OnlyP (hb hs hv hc ha : Bool) (m : Mm) (e : Ending) : Prop := ∃ n, n = onlyM hb hs hv hc ha m ∧ e = .returned (.agg #[.int .i64 n.kd, .int .i64 n.fr, .int .i64 n.dst, .int .u32 n.ep, .int .i64 n.i.1, .int .u32 n.i.2, .int .u32 n.b.1, .int .i64 n.b.2, .int .i64 n.st, .int .u32 n.vv.1, .int .i64 n.vv.2, .int .i64 n.c.kd, .int .i64 n.c.x.1, .int .u32 n.c.x.2, .int .u32 n.c.v.d0, .int .u32 n.c.v.d1, .int .u32 n.c.v.d2, .int .u32 n.c.v.d3, .int .u32 n.c.v.d4, .int .u32 n.c.v.d5, .int .u32 n.c.v.d6, .int .u32 n.c.v.d7, .bool n.c.t, .slice n.c.T n.c.k n.c.kc, .int .i64 n.c.sn, .int .i64 n.c.wh, .slice n.c.B n.c.m n.c.mc, .int .u32 n.c.u.d0, .int .u32 n.c.u.d1, .int .u32 n.c.u.d2, .int .u32 n.c.u.d3, .int .u32 n.c.u.d4, .int .u32 n.c.u.d5, .int .u32 n.c.u.d6, .int .u32 n.c.u.d7, .int .u32 n.an, .int .u32 n.av.d0, .int .u32 n.av.d1, .int .u32 n.av.d2, .int .u32 n.av.d3, .int .u32 n.av.d4, .int .u32 n.av.d5, .int .u32 n.av.d6, .int .u32 n.av.d7])
/-- What lies in memory: the five words, the message, the result. -/
structure ON (w wx : World) (hb hs hv hc ha : Bool) (n : Mm) : Prop where
  has : wx.heap[w.heap.size]? = some (.cells #[.bool hb, .bool hs, .bool hv, .bool hc, .bool ha] 83 (0, 0))
  msg : wx.heap[w.heap.size + 1]? = some (.cells #[.int .i64 n.kd, .int .i64 n.fr, .int .i64 n.dst, .int .u32 n.ep, .int .i64 n.i.1, .int .u32 n.i.2, .int .u32 n.b.1, .int .i64 n.b.2, .int .i64 n.st, .int .u32 n.vv.1, .int .i64 n.vv.2, .int .i64 n.c.kd, .int .i64 n.c.x.1, .int .u32 n.c.x.2, .int .u32 n.c.v.d0, .int .u32 n.c.v.d1, .int .u32 n.c.v.d2, .int .u32 n.c.v.d3, .int .u32 n.c.v.d4, .int .u32 n.c.v.d5, .int .u32 n.c.v.d6, .int .u32 n.c.v.d7, .bool n.c.t, .slice n.c.T n.c.k n.c.kc, .int .i64 n.c.sn, .int .i64 n.c.wh, .slice n.c.B n.c.m n.c.mc, .int .u32 n.c.u.d0, .int .u32 n.c.u.d1, .int .u32 n.c.u.d2, .int .u32 n.c.u.d3, .int .u32 n.c.u.d4, .int .u32 n.c.u.d5, .int .u32 n.c.u.d6, .int .u32 n.c.u.d7, .int .u32 n.an, .int .u32 n.av.d0, .int .u32 n.av.d1, .int .u32 n.av.d2, .int .u32 n.av.d3, .int .u32 n.av.d4, .int .u32 n.av.d5, .int .u32 n.av.d6, .int .u32 n.av.d7] 50 (0, 0))
  res : wx.heap[w.heap.size + 2]? = some (.cells #[.int .i64 0, .int .i64 0, .int .i64 0, .int .u32 0, .int .i64 0, .int .u32 0, .int .u32 0, .int .i64 0, .int .i64 0, .int .u32 0, .int .i64 0, .int .i64 0, .int .i64 0, .int .u32 0, .int .u32 0, .int .u32 0, .int .u32 0, .int .u32 0, .int .u32 0, .int .u32 0, .int .u32 0, .int .u32 0, .bool false, .slice none 0 0, .int .i64 0, .int .i64 0, .slice none 0 0, .int .u32 0, .int .u32 0, .int .u32 0, .int .u32 0, .int .u32 0, .int .u32 0, .int .u32 0, .int .u32 0, .int .u32 0, .int .u32 0, .int .u32 0, .int .u32 0, .int .u32 0, .int .u32 0, .int .u32 0, .int .u32 0, .int .u32 0] 50 (0, 0))
  bel : Below w.heap.size w wx
theorem ON.store {w wx : World} {hb hs hv hc ha : Bool} {n n' : Mm} (h : ON w wx hb hs hv hc ha n) (o : Nat) (l : List Value) (hl : o + l.length ≤ 44) (he : (#[.int .i64 n.kd, .int .i64 n.fr, .int .i64 n.dst, .int .u32 n.ep, .int .i64 n.i.1, .int .u32 n.i.2, .int .u32 n.b.1, .int .i64 n.b.2, .int .i64 n.st, .int .u32 n.vv.1, .int .i64 n.vv.2, .int .i64 n.c.kd, .int .i64 n.c.x.1, .int .u32 n.c.x.2, .int .u32 n.c.v.d0, .int .u32 n.c.v.d1, .int .u32 n.c.v.d2, .int .u32 n.c.v.d3, .int .u32 n.c.v.d4, .int .u32 n.c.v.d5, .int .u32 n.c.v.d6, .int .u32 n.c.v.d7, .bool n.c.t, .slice n.c.T n.c.k n.c.kc, .int .i64 n.c.sn, .int .i64 n.c.wh, .slice n.c.B n.c.m n.c.mc, .int .u32 n.c.u.d0, .int .u32 n.c.u.d1, .int .u32 n.c.u.d2, .int .u32 n.c.u.d3, .int .u32 n.c.u.d4, .int .u32 n.c.u.d5, .int .u32 n.c.u.d6, .int .u32 n.c.u.d7, .int .u32 n.an, .int .u32 n.av.d0, .int .u32 n.av.d1, .int .u32 n.av.d2, .int .u32 n.av.d3, .int .u32 n.av.d4, .int .u32 n.av.d5, .int .u32 n.av.d6, .int .u32 n.av.d7] : Array Value).toList.take o ++ (l ++ (#[.int .i64 n.kd, .int .i64 n.fr, .int .i64 n.dst, .int .u32 n.ep, .int .i64 n.i.1, .int .u32 n.i.2, .int .u32 n.b.1, .int .i64 n.b.2, .int .i64 n.st, .int .u32 n.vv.1, .int .i64 n.vv.2, .int .i64 n.c.kd, .int .i64 n.c.x.1, .int .u32 n.c.x.2, .int .u32 n.c.v.d0, .int .u32 n.c.v.d1, .int .u32 n.c.v.d2, .int .u32 n.c.v.d3, .int .u32 n.c.v.d4, .int .u32 n.c.v.d5, .int .u32 n.c.v.d6, .int .u32 n.c.v.d7, .bool n.c.t, .slice n.c.T n.c.k n.c.kc, .int .i64 n.c.sn, .int .i64 n.c.wh, .slice n.c.B n.c.m n.c.mc, .int .u32 n.c.u.d0, .int .u32 n.c.u.d1, .int .u32 n.c.u.d2, .int .u32 n.c.u.d3, .int .u32 n.c.u.d4, .int .u32 n.c.u.d5, .int .u32 n.c.u.d6, .int .u32 n.c.u.d7, .int .u32 n.an, .int .u32 n.av.d0, .int .u32 n.av.d1, .int .u32 n.av.d2, .int .u32 n.av.d3, .int .u32 n.av.d4, .int .u32 n.av.d5, .int .u32 n.av.d6, .int .u32 n.av.d7] : Array Value).toList.drop (o + l.length)) = (#[.int .i64 n'.kd, .int .i64 n'.fr, .int .i64 n'.dst, .int .u32 n'.ep, .int .i64 n'.i.1, .int .u32 n'.i.2, .int .u32 n'.b.1, .int .i64 n'.b.2, .int .i64 n'.st, .int .u32 n'.vv.1, .int .i64 n'.vv.2, .int .i64 n'.c.kd, .int .i64 n'.c.x.1, .int .u32 n'.c.x.2, .int .u32 n'.c.v.d0, .int .u32 n'.c.v.d1, .int .u32 n'.c.v.d2, .int .u32 n'.c.v.d3, .int .u32 n'.c.v.d4, .int .u32 n'.c.v.d5, .int .u32 n'.c.v.d6, .int .u32 n'.c.v.d7, .bool n'.c.t, .slice n'.c.T n'.c.k n'.c.kc, .int .i64 n'.c.sn, .int .i64 n'.c.wh, .slice n'.c.B n'.c.m n'.c.mc, .int .u32 n'.c.u.d0, .int .u32 n'.c.u.d1, .int .u32 n'.c.u.d2, .int .u32 n'.c.u.d3, .int .u32 n'.c.u.d4, .int .u32 n'.c.u.d5, .int .u32 n'.c.u.d6, .int .u32 n'.c.u.d7, .int .u32 n'.an, .int .u32 n'.av.d0, .int .u32 n'.av.d1, .int .u32 n'.av.d2, .int .u32 n'.av.d3, .int .u32 n'.av.d4, .int .u32 n'.av.d5, .int .u32 n'.av.d6, .int .u32 n'.av.d7] : Array Value).toList) : ON w (wx.setCells (w.heap.size + 1) o l) hb hs hv hc ha n' :=
  ⟨ne_setCells (by omega) l o wx h.has, (by have h1 := blk_setCells l o wx _ h.msg; have h2 := putL_list l o (#[.int .i64 n.kd, .int .i64 n.fr, .int .i64 n.dst, .int .u32 n.ep, .int .i64 n.i.1, .int .u32 n.i.2, .int .u32 n.b.1, .int .i64 n.b.2, .int .i64 n.st, .int .u32 n.vv.1, .int .i64 n.vv.2, .int .i64 n.c.kd, .int .i64 n.c.x.1, .int .u32 n.c.x.2, .int .u32 n.c.v.d0, .int .u32 n.c.v.d1, .int .u32 n.c.v.d2, .int .u32 n.c.v.d3, .int .u32 n.c.v.d4, .int .u32 n.c.v.d5, .int .u32 n.c.v.d6, .int .u32 n.c.v.d7, .bool n.c.t, .slice n.c.T n.c.k n.c.kc, .int .i64 n.c.sn, .int .i64 n.c.wh, .slice n.c.B n.c.m n.c.mc, .int .u32 n.c.u.d0, .int .u32 n.c.u.d1, .int .u32 n.c.u.d2, .int .u32 n.c.u.d3, .int .u32 n.c.u.d4, .int .u32 n.c.u.d5, .int .u32 n.c.u.d6, .int .u32 n.c.u.d7, .int .u32 n.an, .int .u32 n.av.d0, .int .u32 n.av.d1, .int .u32 n.av.d2, .int .u32 n.av.d3, .int .u32 n.av.d4, .int .u32 n.av.d5, .int .u32 n.av.d6, .int .u32 n.av.d7] : Array Value).toList hl; rw [he] at h2; have h3 : putL #[.int .i64 n.kd, .int .i64 n.fr, .int .i64 n.dst, .int .u32 n.ep, .int .i64 n.i.1, .int .u32 n.i.2, .int .u32 n.b.1, .int .i64 n.b.2, .int .i64 n.st, .int .u32 n.vv.1, .int .i64 n.vv.2, .int .i64 n.c.kd, .int .i64 n.c.x.1, .int .u32 n.c.x.2, .int .u32 n.c.v.d0, .int .u32 n.c.v.d1, .int .u32 n.c.v.d2, .int .u32 n.c.v.d3, .int .u32 n.c.v.d4, .int .u32 n.c.v.d5, .int .u32 n.c.v.d6, .int .u32 n.c.v.d7, .bool n.c.t, .slice n.c.T n.c.k n.c.kc, .int .i64 n.c.sn, .int .i64 n.c.wh, .slice n.c.B n.c.m n.c.mc, .int .u32 n.c.u.d0, .int .u32 n.c.u.d1, .int .u32 n.c.u.d2, .int .u32 n.c.u.d3, .int .u32 n.c.u.d4, .int .u32 n.c.u.d5, .int .u32 n.c.u.d6, .int .u32 n.c.u.d7, .int .u32 n.an, .int .u32 n.av.d0, .int .u32 n.av.d1, .int .u32 n.av.d2, .int .u32 n.av.d3, .int .u32 n.av.d4, .int .u32 n.av.d5, .int .u32 n.av.d6, .int .u32 n.av.d7] o l = #[.int .i64 n'.kd, .int .i64 n'.fr, .int .i64 n'.dst, .int .u32 n'.ep, .int .i64 n'.i.1, .int .u32 n'.i.2, .int .u32 n'.b.1, .int .i64 n'.b.2, .int .i64 n'.st, .int .u32 n'.vv.1, .int .i64 n'.vv.2, .int .i64 n'.c.kd, .int .i64 n'.c.x.1, .int .u32 n'.c.x.2, .int .u32 n'.c.v.d0, .int .u32 n'.c.v.d1, .int .u32 n'.c.v.d2, .int .u32 n'.c.v.d3, .int .u32 n'.c.v.d4, .int .u32 n'.c.v.d5, .int .u32 n'.c.v.d6, .int .u32 n'.c.v.d7, .bool n'.c.t, .slice n'.c.T n'.c.k n'.c.kc, .int .i64 n'.c.sn, .int .i64 n'.c.wh, .slice n'.c.B n'.c.m n'.c.mc, .int .u32 n'.c.u.d0, .int .u32 n'.c.u.d1, .int .u32 n'.c.u.d2, .int .u32 n'.c.u.d3, .int .u32 n'.c.u.d4, .int .u32 n'.c.u.d5, .int .u32 n'.c.u.d6, .int .u32 n'.c.u.d7, .int .u32 n'.an, .int .u32 n'.av.d0, .int .u32 n'.av.d1, .int .u32 n'.av.d2, .int .u32 n'.av.d3, .int .u32 n'.av.d4, .int .u32 n'.av.d5, .int .u32 n'.av.d6, .int .u32 n'.av.d7] := h2; rw [h3] at h1; exact h1), ne_setCells (by omega) l o wx h.res, below_setCells (by omega) l o wx h.bel⟩
theorem there_msg {w wx : World} {hb hs hv hc ha : Bool} {n : Mm} (h : ON w wx hb hs hv hc ha n) (o k : Nat) (hk : o + k ≤ 44) : wx.there (w.heap.size + 1) o k := fun j hj => by
  refine ⟨?_, ?_⟩
  · rw [blk_cell h.msg]; have : o + j < 44 := by omega
    simp; omega
  · exact blk_frozen h.msg _
set_option maxRecDepth 100000 in
set_option maxHeartbeats 8000000 in
theorem only_any (hb hs hv hc ha : Bool) (m : Mm) (w : World) :
    Calls Tryz.prog 30 #[.agg #[.bool hb, .bool hs, .bool hv, .bool hc, .bool ha], .agg #[.int .i64 m.kd, .int .i64 m.fr, .int .i64 m.dst, .int .u32 m.ep, .int .i64 m.i.1, .int .u32 m.i.2, .int .u32 m.b.1, .int .i64 m.b.2, .int .i64 m.st, .int .u32 m.vv.1, .int .i64 m.vv.2, .int .i64 m.c.kd, .int .i64 m.c.x.1, .int .u32 m.c.x.2, .int .u32 m.c.v.d0, .int .u32 m.c.v.d1, .int .u32 m.c.v.d2, .int .u32 m.c.v.d3, .int .u32 m.c.v.d4, .int .u32 m.c.v.d5, .int .u32 m.c.v.d6, .int .u32 m.c.v.d7, .bool m.c.t, .slice m.c.T m.c.k m.c.kc, .int .i64 m.c.sn, .int .i64 m.c.wh, .slice m.c.B m.c.m m.c.mc, .int .u32 m.c.u.d0, .int .u32 m.c.u.d1, .int .u32 m.c.u.d2, .int .u32 m.c.u.d3, .int .u32 m.c.u.d4, .int .u32 m.c.u.d5, .int .u32 m.c.u.d6, .int .u32 m.c.u.d7, .int .u32 m.an, .int .u32 m.av.d0, .int .u32 m.av.d1, .int .u32 m.av.d2, .int .u32 m.av.d3, .int .u32 m.av.d4, .int .u32 m.av.d5, .int .u32 m.av.d6, .int .u32 m.av.d7]] w fun e w' => OnlyP hb hs hv hc ha m e ∧ Below w.heap.size w w' := by
  have hO : ON w (((w.alloc (.cells #[.bool hb, .bool hs, .bool hv, .bool hc, .bool ha] 83)).alloc (.cells #[.int .i64 m.kd, .int .i64 m.fr, .int .i64 m.dst, .int .u32 m.ep, .int .i64 m.i.1, .int .u32 m.i.2, .int .u32 m.b.1, .int .i64 m.b.2, .int .i64 m.st, .int .u32 m.vv.1, .int .i64 m.vv.2, .int .i64 m.c.kd, .int .i64 m.c.x.1, .int .u32 m.c.x.2, .int .u32 m.c.v.d0, .int .u32 m.c.v.d1, .int .u32 m.c.v.d2, .int .u32 m.c.v.d3, .int .u32 m.c.v.d4, .int .u32 m.c.v.d5, .int .u32 m.c.v.d6, .int .u32 m.c.v.d7, .bool m.c.t, .slice m.c.T m.c.k m.c.kc, .int .i64 m.c.sn, .int .i64 m.c.wh, .slice m.c.B m.c.m m.c.mc, .int .u32 m.c.u.d0, .int .u32 m.c.u.d1, .int .u32 m.c.u.d2, .int .u32 m.c.u.d3, .int .u32 m.c.u.d4, .int .u32 m.c.u.d5, .int .u32 m.c.u.d6, .int .u32 m.c.u.d7, .int .u32 m.an, .int .u32 m.av.d0, .int .u32 m.av.d1, .int .u32 m.av.d2, .int .u32 m.av.d3, .int .u32 m.av.d4, .int .u32 m.av.d5, .int .u32 m.av.d6, .int .u32 m.av.d7] 50)).alloc (.cells #[.int .i64 0, .int .i64 0, .int .i64 0, .int .u32 0, .int .i64 0, .int .u32 0, .int .u32 0, .int .i64 0, .int .i64 0, .int .u32 0, .int .i64 0, .int .i64 0, .int .i64 0, .int .u32 0, .int .u32 0, .int .u32 0, .int .u32 0, .int .u32 0, .int .u32 0, .int .u32 0, .int .u32 0, .int .u32 0, .bool false, .slice none 0 0, .int .i64 0, .int .i64 0, .slice none 0 0, .int .u32 0, .int .u32 0, .int .u32 0, .int .u32 0, .int .u32 0, .int .u32 0, .int .u32 0, .int .u32 0, .int .u32 0, .int .u32 0, .int .u32 0, .int .u32 0, .int .u32 0, .int .u32 0, .int .u32 0, .int .u32 0, .int .u32 0] 50)) hb hs hv hc ha m := ⟨heap_old _ (by simp; try omega) (heap_old _ (by simp) (heap_at _ _ rfl)), heap_old _ (by simp) (heap_at _ _ (by simp)), heap_at _ _ (by simp), (((Below.refl _ w).alloc (Nat.le_refl _) _).alloc (by simp) _).alloc (by simp; omega) _⟩
  generalize hW : (((w.alloc (.cells #[.bool hb, .bool hs, .bool hv, .bool hc, .bool ha] 83)).alloc (.cells #[.int .i64 m.kd, .int .i64 m.fr, .int .i64 m.dst, .int .u32 m.ep, .int .i64 m.i.1, .int .u32 m.i.2, .int .u32 m.b.1, .int .i64 m.b.2, .int .i64 m.st, .int .u32 m.vv.1, .int .i64 m.vv.2, .int .i64 m.c.kd, .int .i64 m.c.x.1, .int .u32 m.c.x.2, .int .u32 m.c.v.d0, .int .u32 m.c.v.d1, .int .u32 m.c.v.d2, .int .u32 m.c.v.d3, .int .u32 m.c.v.d4, .int .u32 m.c.v.d5, .int .u32 m.c.v.d6, .int .u32 m.c.v.d7, .bool m.c.t, .slice m.c.T m.c.k m.c.kc, .int .i64 m.c.sn, .int .i64 m.c.wh, .slice m.c.B m.c.m m.c.mc, .int .u32 m.c.u.d0, .int .u32 m.c.u.d1, .int .u32 m.c.u.d2, .int .u32 m.c.u.d3, .int .u32 m.c.u.d4, .int .u32 m.c.u.d5, .int .u32 m.c.u.d6, .int .u32 m.c.u.d7, .int .u32 m.an, .int .u32 m.av.d0, .int .u32 m.av.d1, .int .u32 m.av.d2, .int .u32 m.av.d3, .int .u32 m.av.d4, .int .u32 m.av.d5, .int .u32 m.av.d6, .int .u32 m.av.d7] 50)).alloc (.cells #[.int .i64 0, .int .i64 0, .int .i64 0, .int .u32 0, .int .i64 0, .int .u32 0, .int .u32 0, .int .i64 0, .int .i64 0, .int .u32 0, .int .i64 0, .int .i64 0, .int .i64 0, .int .u32 0, .int .u32 0, .int .u32 0, .int .u32 0, .int .u32 0, .int .u32 0, .int .u32 0, .int .u32 0, .int .u32 0, .bool false, .slice none 0 0, .int .i64 0, .int .i64 0, .slice none 0 0, .int .u32 0, .int .u32 0, .int .u32 0, .int .u32 0, .int .u32 0, .int .u32 0, .int .u32 0, .int .u32 0, .int .u32 0, .int .u32 0, .int .u32 0, .int .u32 0, .int .u32 0, .int .u32 0, .int .u32 0, .int .u32 0, .int .u32 0] 50)) = W at hO
  go_enter Tryz.func30, Tryz.ntmps30
  go_upto_region 1 with (fail)
  clear hW
  have p0 := blk_cell hO.has 0
  simp at p0
  have hlH := blk_lt hO.has
  have hlM := blk_lt hO.msg
  have hfM := blk_frozen hO.msg
  have hOH := Lib.hid hO
  clear hO
  go_upto_if 7 with (fail)
  go_cut [] (fun wx => ON w wx hb hs hv hc ha (m.uB hb))
  case first =>
    cases hb with
    | true =>
      go_wp2_with fail
      go_meet
      exact hOH.out
    | false =>
      go_upto_region 2 with (fail)
      refine wp_region_list ?_
      refine wpList_buildK rfl _ _ rfl (cells := #[.int .u32 0, .int .i64 0]) (by kernel_rfl) ?_
      refine wpList_step (fun K hK => ?_)
      rw [if_pos (by kernel_rfl)]
      go_simp
      refine hK _ _ ?_
      clear hK K
      refine wpList_store_mid rfl _ _ _ rfl (w.heap.size + 1) 6 #[.int .u32 0, .int .i64 0] rfl rfl (there_msg hOH.out 6 2 (by decide)) (by kernel_rfl) (by simp [Value.oneCell']) ?_
      (try simp only [Act.put])
      go_wp2_with fail
      go_meet
      exact hOH.out.store 6 [.int .u32 0, .int .i64 0] (by simp) (by rfl)
  case rest =>
  obtain ⟨w1, hw1⟩ : ∃ x, x = wc := ⟨_, rfl⟩
  obtain rfl := hw1
  have hO1 := hcut
  clear hcut p0 hlH hlM hfM hOH
  obtain ⟨m1, hm1⟩ : ∃ x, x = (m.uB hb) := ⟨_, rfl⟩
  rw [← hm1] at hO1
  have hm1H := Lib.hid hm1
  clear hm1
  have p1 := blk_cell hO1.has 1
  simp at p1
  have hlH := blk_lt hO1.has
  have hlM := blk_lt hO1.msg
  have hfM := blk_frozen hO1.msg
  have hO1H := Lib.hid hO1
  clear hO1
  go_upto_if 12 with (fail)
  go_cut [] (fun wx => ON w wx hb hs hv hc ha (m1.uS hs))
  case first =>
    cases hs with
    | true =>
      go_wp2_with fail
      go_meet
      exact hO1H.out
    | false =>
      have p8 := blk_cell hO1H.out.msg 8
      simp at p8
      go_wp2_with fail
      go_meet
      exact hO1H.out.store 8 [.int .i64 0] (by simp) (by rfl)
  case rest =>
  obtain ⟨w2, hw2⟩ : ∃ x, x = wc := ⟨_, rfl⟩
  obtain rfl := hw2
  have hO2 := hcut
  clear hcut p1 hlH hlM hfM hO1H
  obtain ⟨m2, hm2⟩ : ∃ x, x = (m1.uS hs) := ⟨_, rfl⟩
  rw [← hm2] at hO2
  have hm2H := Lib.hid hm2
  clear hm2
  have p2 := blk_cell hO2.has 2
  simp at p2
  have hlH := blk_lt hO2.has
  have hlM := blk_lt hO2.msg
  have hfM := blk_frozen hO2.msg
  have hO2H := Lib.hid hO2
  clear hO2
  go_upto_if 16 with (fail)
  go_cut [] (fun wx => ON w wx hb hs hv hc ha (m2.uV hv))
  case first =>
    cases hv with
    | true =>
      go_wp2_with fail
      go_meet
      exact hO2H.out
    | false =>
      go_upto_region 6 with (fail)
      refine wp_region_list ?_
      refine wpList_buildK rfl _ _ rfl (cells := #[.int .u32 0, .int .i64 0]) (by kernel_rfl) ?_
      refine wpList_step (fun K hK => ?_)
      rw [if_pos (by kernel_rfl)]
      go_simp
      refine hK _ _ ?_
      clear hK K
      refine wpList_store_mid rfl _ _ _ rfl (w.heap.size + 1) 9 #[.int .u32 0, .int .i64 0] rfl rfl (there_msg hO2H.out 9 2 (by decide)) (by kernel_rfl) (by simp [Value.oneCell']) ?_
      (try simp only [Act.put])
      go_wp2_with fail
      go_meet
      exact hO2H.out.store 9 [.int .u32 0, .int .i64 0] (by simp) (by rfl)
  case rest =>
  obtain ⟨w3, hw3⟩ : ∃ x, x = wc := ⟨_, rfl⟩
  obtain rfl := hw3
  have hO3 := hcut
  clear hcut p2 hlH hlM hfM hO2H
  obtain ⟨m3, hm3⟩ : ∃ x, x = (m2.uV hv) := ⟨_, rfl⟩
  rw [← hm3] at hO3
  have hm3H := Lib.hid hm3
  clear hm3
  have p3 := blk_cell hO3.has 3
  simp at p3
  have hlH := blk_lt hO3.has
  have hlM := blk_lt hO3.msg
  have hfM := blk_frozen hO3.msg
  have hO3H := Lib.hid hO3
  clear hO3
  go_upto_if 21 with (fail)
  go_cut [] (fun wx => ON w wx hb hs hv hc ha (m3.uC hc))
  case first =>
    cases hc with
    | true =>
      go_wp2_with fail
      go_meet
      exact hO3H.out
    | false =>
      go_upto_region 8 with (fail)
      refine wp_region_list ?_
      refine wpList_buildK rfl _ _ rfl (cells := #[.int .i64 0, .int .i64 0, .int .u32 0, .int .u32 0, .int .u32 0, .int .u32 0, .int .u32 0, .int .u32 0, .int .u32 0, .int .u32 0, .int .u32 0, .bool false, .slice none 0 0, .int .i64 0, .int .i64 0, .slice none 0 0, .int .u32 0, .int .u32 0, .int .u32 0, .int .u32 0, .int .u32 0, .int .u32 0, .int .u32 0, .int .u32 0]) (by kernel_rfl) ?_
      refine wpList_step (fun K hK => ?_)
      rw [if_pos (by kernel_rfl)]
      go_simp
      refine hK _ _ ?_
      clear hK K
      refine wpList_store_mid rfl _ _ _ rfl (w.heap.size + 1) 11 #[.int .i64 0, .int .i64 0, .int .u32 0, .int .u32 0, .int .u32 0, .int .u32 0, .int .u32 0, .int .u32 0, .int .u32 0, .int .u32 0, .int .u32 0, .bool false, .slice none 0 0, .int .i64 0, .int .i64 0, .slice none 0 0, .int .u32 0, .int .u32 0, .int .u32 0, .int .u32 0, .int .u32 0, .int .u32 0, .int .u32 0, .int .u32 0] rfl rfl (there_msg hO3H.out 11 24 (by decide)) (by kernel_rfl) (by simp [Value.oneCell']) ?_
      (try simp only [Act.put])
      go_wp2_with fail
      go_meet
      exact hO3H.out.store 11 [.int .i64 0, .int .i64 0, .int .u32 0, .int .u32 0, .int .u32 0, .int .u32 0, .int .u32 0, .int .u32 0, .int .u32 0, .int .u32 0, .int .u32 0, .bool false, .slice none 0 0, .int .i64 0, .int .i64 0, .slice none 0 0, .int .u32 0, .int .u32 0, .int .u32 0, .int .u32 0, .int .u32 0, .int .u32 0, .int .u32 0, .int .u32 0] (by simp) (by rfl)
  case rest =>
  obtain ⟨w4, hw4⟩ : ∃ x, x = wc := ⟨_, rfl⟩
  obtain rfl := hw4
  have hO4 := hcut
  clear hcut p3 hlH hlM hfM hO3H
  obtain ⟨m4, hm4⟩ : ∃ x, x = (m3.uC hc) := ⟨_, rfl⟩
  rw [← hm4] at hO4
  have hm4H := Lib.hid hm4
  clear hm4
  have p4 := blk_cell hO4.has 4
  simp at p4
  have hlH := blk_lt hO4.has
  have hlM := blk_lt hO4.msg
  have hfM := blk_frozen hO4.msg
  have hO4H := Lib.hid hO4
  clear hO4
  go_upto_if 26 with (fail)
  go_cut [] (fun wx => ON w wx hb hs hv hc ha (m4.uA ha))
  case first =>
    cases ha with
    | true =>
      go_wp2_with fail
      go_meet
      exact hO4H.out
    | false =>
      go_upto_region 10 with (fail)
      refine wp_region_list ?_
      refine wpList_buildK rfl _ _ rfl (cells := #[.int .u32 0, .int .u32 0, .int .u32 0, .int .u32 0, .int .u32 0, .int .u32 0, .int .u32 0, .int .u32 0, .int .u32 0]) (by kernel_rfl) ?_
      refine wpList_step (fun K hK => ?_)
      rw [if_pos (by kernel_rfl)]
      go_simp
      refine hK _ _ ?_
      clear hK K
      refine wpList_store_mid rfl _ _ _ rfl (w.heap.size + 1) 35 #[.int .u32 0, .int .u32 0, .int .u32 0, .int .u32 0, .int .u32 0, .int .u32 0, .int .u32 0, .int .u32 0, .int .u32 0] rfl rfl (there_msg hO4H.out 35 9 (by decide)) (by kernel_rfl) (by simp [Value.oneCell']) ?_
      (try simp only [Act.put])
      go_wp2_with fail
      go_meet
      exact hO4H.out.store 35 [.int .u32 0, .int .u32 0, .int .u32 0, .int .u32 0, .int .u32 0, .int .u32 0, .int .u32 0, .int .u32 0, .int .u32 0] (by simp) (by rfl)
  case rest =>
  obtain ⟨w5, hw5⟩ : ∃ x, x = wc := ⟨_, rfl⟩
  obtain rfl := hw5
  have hO5 := hcut
  clear hcut p4 hlH hlM hfM hO4H
  obtain ⟨m5, hm5⟩ : ∃ x, x = (m4.uA ha) := ⟨_, rfl⟩
  rw [← hm5] at hO5
  have hon : Hid (m5 = onlyM hb hs hv hc ha m) := Lib.hid (by rw [hm5, hm4H.out, hm3H.out, hm2H.out, hm1H.out]; exact onlyM_u _ _ _ _ _ _)
  clear hm5
  have hO5H := Lib.hid hO5
  clear hO5
  go_upto_region 11 with (fail)
  refine wp_region_list ?_
  refine wpList_load_row rfl _ _ rfl (w.heap.size + 1) rfl 50 #[.int .i64 m5.kd, .int .i64 m5.fr, .int .i64 m5.dst, .int .u32 m5.ep, .int .i64 m5.i.1, .int .u32 m5.i.2, .int .u32 m5.b.1, .int .i64 m5.b.2, .int .i64 m5.st, .int .u32 m5.vv.1, .int .i64 m5.vv.2, .int .i64 m5.c.kd, .int .i64 m5.c.x.1, .int .u32 m5.c.x.2, .int .u32 m5.c.v.d0, .int .u32 m5.c.v.d1, .int .u32 m5.c.v.d2, .int .u32 m5.c.v.d3, .int .u32 m5.c.v.d4, .int .u32 m5.c.v.d5, .int .u32 m5.c.v.d6, .int .u32 m5.c.v.d7, .bool m5.c.t, .slice m5.c.T m5.c.k m5.c.kc, .int .i64 m5.c.sn, .int .i64 m5.c.wh, .slice m5.c.B m5.c.m m5.c.mc, .int .u32 m5.c.u.d0, .int .u32 m5.c.u.d1, .int .u32 m5.c.u.d2, .int .u32 m5.c.u.d3, .int .u32 m5.c.u.d4, .int .u32 m5.c.u.d5, .int .u32 m5.c.u.d6, .int .u32 m5.c.u.d7, .int .u32 m5.an, .int .u32 m5.av.d0, .int .u32 m5.av.d1, .int .u32 m5.av.d2, .int .u32 m5.av.d3, .int .u32 m5.av.d4, .int .u32 m5.av.d5, .int .u32 m5.av.d6, .int .u32 m5.av.d7] (0, 0) _ hO5H.out.msg Tryz.underlying50 rfl (by kernel_rfl) ?_
  refine wpList_store_row rfl _ _ _ rfl (w.heap.size + 2) #[.int .i64 m5.kd, .int .i64 m5.fr, .int .i64 m5.dst, .int .u32 m5.ep, .int .i64 m5.i.1, .int .u32 m5.i.2, .int .u32 m5.b.1, .int .i64 m5.b.2, .int .i64 m5.st, .int .u32 m5.vv.1, .int .i64 m5.vv.2, .int .i64 m5.c.kd, .int .i64 m5.c.x.1, .int .u32 m5.c.x.2, .int .u32 m5.c.v.d0, .int .u32 m5.c.v.d1, .int .u32 m5.c.v.d2, .int .u32 m5.c.v.d3, .int .u32 m5.c.v.d4, .int .u32 m5.c.v.d5, .int .u32 m5.c.v.d6, .int .u32 m5.c.v.d7, .bool m5.c.t, .slice m5.c.T m5.c.k m5.c.kc, .int .i64 m5.c.sn, .int .i64 m5.c.wh, .slice m5.c.B m5.c.m m5.c.mc, .int .u32 m5.c.u.d0, .int .u32 m5.c.u.d1, .int .u32 m5.c.u.d2, .int .u32 m5.c.u.d3, .int .u32 m5.c.u.d4, .int .u32 m5.c.u.d5, .int .u32 m5.c.u.d6, .int .u32 m5.c.u.d7, .int .u32 m5.an, .int .u32 m5.av.d0, .int .u32 m5.av.d1, .int .u32 m5.av.d2, .int .u32 m5.av.d3, .int .u32 m5.av.d4, .int .u32 m5.av.d5, .int .u32 m5.av.d6, .int .u32 m5.av.d7] rfl rfl 50 #[.int .i64 0, .int .i64 0, .int .i64 0, .int .u32 0, .int .i64 0, .int .u32 0, .int .u32 0, .int .i64 0, .int .i64 0, .int .u32 0, .int .i64 0, .int .i64 0, .int .i64 0, .int .u32 0, .int .u32 0, .int .u32 0, .int .u32 0, .int .u32 0, .int .u32 0, .int .u32 0, .int .u32 0, .int .u32 0, .bool false, .slice none 0 0, .int .i64 0, .int .i64 0, .slice none 0 0, .int .u32 0, .int .u32 0, .int .u32 0, .int .u32 0, .int .u32 0, .int .u32 0, .int .u32 0, .int .u32 0, .int .u32 0, .int .u32 0, .int .u32 0, .int .u32 0, .int .u32 0, .int .u32 0, .int .u32 0, .int .u32 0, .int .u32 0] hO5H.out.res (by kernel_rfl) rfl (by simp [Value.oneCell']) ?_
  have hR := setRow_heap w5 (w.heap.size + 2) #[.int .i64 0, .int .i64 0, .int .i64 0, .int .u32 0, .int .i64 0, .int .u32 0, .int .u32 0, .int .i64 0, .int .i64 0, .int .u32 0, .int .i64 0, .int .i64 0, .int .i64 0, .int .u32 0, .int .u32 0, .int .u32 0, .int .u32 0, .int .u32 0, .int .u32 0, .int .u32 0, .int .u32 0, .int .u32 0, .bool false, .slice none 0 0, .int .i64 0, .int .i64 0, .slice none 0 0, .int .u32 0, .int .u32 0, .int .u32 0, .int .u32 0, .int .u32 0, .int .u32 0, .int .u32 0, .int .u32 0, .int .u32 0, .int .u32 0, .int .u32 0, .int .u32 0, .int .u32 0, .int .u32 0, .int .u32 0, .int .u32 0, .int .u32 0] #[.int .i64 m5.kd, .int .i64 m5.fr, .int .i64 m5.dst, .int .u32 m5.ep, .int .i64 m5.i.1, .int .u32 m5.i.2, .int .u32 m5.b.1, .int .i64 m5.b.2, .int .i64 m5.st, .int .u32 m5.vv.1, .int .i64 m5.vv.2, .int .i64 m5.c.kd, .int .i64 m5.c.x.1, .int .u32 m5.c.x.2, .int .u32 m5.c.v.d0, .int .u32 m5.c.v.d1, .int .u32 m5.c.v.d2, .int .u32 m5.c.v.d3, .int .u32 m5.c.v.d4, .int .u32 m5.c.v.d5, .int .u32 m5.c.v.d6, .int .u32 m5.c.v.d7, .bool m5.c.t, .slice m5.c.T m5.c.k m5.c.kc, .int .i64 m5.c.sn, .int .i64 m5.c.wh, .slice m5.c.B m5.c.m m5.c.mc, .int .u32 m5.c.u.d0, .int .u32 m5.c.u.d1, .int .u32 m5.c.u.d2, .int .u32 m5.c.u.d3, .int .u32 m5.c.u.d4, .int .u32 m5.c.u.d5, .int .u32 m5.c.u.d6, .int .u32 m5.c.u.d7, .int .u32 m5.an, .int .u32 m5.av.d0, .int .u32 m5.av.d1, .int .u32 m5.av.d2, .int .u32 m5.av.d3, .int .u32 m5.av.d4, .int .u32 m5.av.d5, .int .u32 m5.av.d6, .int .u32 m5.av.d7] 50 (0, 0) hO5H.out.res
  have hBl := below_setRow hO5H.out.bel (show w.heap.size ≤ w.heap.size + 2 by omega) #[.int .i64 m5.kd, .int .i64 m5.fr, .int .i64 m5.dst, .int .u32 m5.ep, .int .i64 m5.i.1, .int .u32 m5.i.2, .int .u32 m5.b.1, .int .i64 m5.b.2, .int .i64 m5.st, .int .u32 m5.vv.1, .int .i64 m5.vv.2, .int .i64 m5.c.kd, .int .i64 m5.c.x.1, .int .u32 m5.c.x.2, .int .u32 m5.c.v.d0, .int .u32 m5.c.v.d1, .int .u32 m5.c.v.d2, .int .u32 m5.c.v.d3, .int .u32 m5.c.v.d4, .int .u32 m5.c.v.d5, .int .u32 m5.c.v.d6, .int .u32 m5.c.v.d7, .bool m5.c.t, .slice m5.c.T m5.c.k m5.c.kc, .int .i64 m5.c.sn, .int .i64 m5.c.wh, .slice m5.c.B m5.c.m m5.c.mc, .int .u32 m5.c.u.d0, .int .u32 m5.c.u.d1, .int .u32 m5.c.u.d2, .int .u32 m5.c.u.d3, .int .u32 m5.c.u.d4, .int .u32 m5.c.u.d5, .int .u32 m5.c.u.d6, .int .u32 m5.c.u.d7, .int .u32 m5.an, .int .u32 m5.av.d0, .int .u32 m5.av.d1, .int .u32 m5.av.d2, .int .u32 m5.av.d3, .int .u32 m5.av.d4, .int .u32 m5.av.d5, .int .u32 m5.av.d6, .int .u32 m5.av.d7]
  generalize hwy : w5.setRow (w.heap.size + 2) #[.int .i64 m5.kd, .int .i64 m5.fr, .int .i64 m5.dst, .int .u32 m5.ep, .int .i64 m5.i.1, .int .u32 m5.i.2, .int .u32 m5.b.1, .int .i64 m5.b.2, .int .i64 m5.st, .int .u32 m5.vv.1, .int .i64 m5.vv.2, .int .i64 m5.c.kd, .int .i64 m5.c.x.1, .int .u32 m5.c.x.2, .int .u32 m5.c.v.d0, .int .u32 m5.c.v.d1, .int .u32 m5.c.v.d2, .int .u32 m5.c.v.d3, .int .u32 m5.c.v.d4, .int .u32 m5.c.v.d5, .int .u32 m5.c.v.d6, .int .u32 m5.c.v.d7, .bool m5.c.t, .slice m5.c.T m5.c.k m5.c.kc, .int .i64 m5.c.sn, .int .i64 m5.c.wh, .slice m5.c.B m5.c.m m5.c.mc, .int .u32 m5.c.u.d0, .int .u32 m5.c.u.d1, .int .u32 m5.c.u.d2, .int .u32 m5.c.u.d3, .int .u32 m5.c.u.d4, .int .u32 m5.c.u.d5, .int .u32 m5.c.u.d6, .int .u32 m5.c.u.d7, .int .u32 m5.an, .int .u32 m5.av.d0, .int .u32 m5.av.d1, .int .u32 m5.av.d2, .int .u32 m5.av.d3, .int .u32 m5.av.d4, .int .u32 m5.av.d5, .int .u32 m5.av.d6, .int .u32 m5.av.d7] = wy at hR hBl ⊢
  clear hwy
  (try simp only [Act.put, List.setIfInBounds_toArray, List.set_cons_zero, List.set_cons_succ])
  go_wp2_with fail
  exact bodyPost_ret (v := .agg #[.int .i64 m5.kd, .int .i64 m5.fr, .int .i64 m5.dst, .int .u32 m5.ep, .int .i64 m5.i.1, .int .u32 m5.i.2, .int .u32 m5.b.1, .int .i64 m5.b.2, .int .i64 m5.st, .int .u32 m5.vv.1, .int .i64 m5.vv.2, .int .i64 m5.c.kd, .int .i64 m5.c.x.1, .int .u32 m5.c.x.2, .int .u32 m5.c.v.d0, .int .u32 m5.c.v.d1, .int .u32 m5.c.v.d2, .int .u32 m5.c.v.d3, .int .u32 m5.c.v.d4, .int .u32 m5.c.v.d5, .int .u32 m5.c.v.d6, .int .u32 m5.c.v.d7, .bool m5.c.t, .slice m5.c.T m5.c.k m5.c.kc, .int .i64 m5.c.sn, .int .i64 m5.c.wh, .slice m5.c.B m5.c.m m5.c.mc, .int .u32 m5.c.u.d0, .int .u32 m5.c.u.d1, .int .u32 m5.c.u.d2, .int .u32 m5.c.u.d3, .int .u32 m5.c.u.d4, .int .u32 m5.c.u.d5, .int .u32 m5.c.u.d6, .int .u32 m5.c.u.d7, .int .u32 m5.an, .int .u32 m5.av.d0, .int .u32 m5.av.d1, .int .u32 m5.av.d2, .int .u32 m5.av.d3, .int .u32 m5.av.d4, .int .u32 m5.av.d5, .int .u32 m5.av.d6, .int .u32 m5.av.d7]) (results_cellQ 4 50 (by kernel_rfl) (w.heap.size + 2) rfl (run_loadVar_row _ _ _ _ _ _ _ hR Tryz.underlying50 rfl (by kernel_rfl))) rfl ⟨⟨m5, hon.out, rfl⟩, hBl⟩
end Go.Proofs.YtfhandglpjnonaaGreatDoor
