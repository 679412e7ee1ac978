/- Two transactions copied into variables of their own, in whatever order. -/
import Derived.Test.YtgjiaipheohmoaaClW
import Derived.Test.YtgjiaipheohmoaaGr
namespace Go.Proofs.Ytgjiaipheohmoaa
open Go.RowKit

/-- A value, a block that says what a transaction says. -/
def TxV (w : World) (n0 : Nat) (t : Txm) (v : Value) : Prop := ∃ A c qs, v = .agg #[.int .i64 t.h.o, .int .u32 t.h.s, .int .u32 t.h.d0, .int .u32 t.h.d1, .int .u32 t.h.d2, .int .u32 t.h.d3, .int .u32 t.h.d4, .int .u32 t.h.d5, .int .u32 t.h.d6, .int .u32 t.h.d7, .bool t.h.thin, .slice A t.n c] ∧ OwP w n0 A t.n c qs ∧ qs.map Pt.core = t.ps.map Pt.core
def TxB (w : World) (n0 : Nat) (t : Txm) (g : Nat) : Prop := ∃ A c qs, w.heap[g]? = some (.cells #[.int .i64 t.h.o, .int .u32 t.h.s, .int .u32 t.h.d0, .int .u32 t.h.d1, .int .u32 t.h.d2, .int .u32 t.h.d3, .int .u32 t.h.d4, .int .u32 t.h.d5, .int .u32 t.h.d6, .int .u32 t.h.d7, .bool t.h.thin, .slice A t.n c] 37 (0, 0)) ∧ OwP w n0 A t.n c qs ∧ qs.map Pt.core = t.ps.map Pt.core
def zTx : Obj := (.cells #[.int .i64 0, .int .u32 0, .int .u32 0, .int .u32 0, .int .u32 0, .int .u32 0, .int .u32 0, .int .u32 0, .int .u32 0, .int .u32 0, .bool false, .slice none 0 0] 37)
theorem TxV.below {w w' : World} {n0 : Nat} {t : Txm} {v : Value} (h : TxV w n0 t v) (hb : Below w.heap.size w w') : TxV w' n0 t v := by
  obtain ⟨A, c, qs, h1, h2, h3⟩ := h; exact ⟨A, c, qs, h1, h2.below hb, h3⟩
theorem TxB.below {w w' : World} {n0 g : Nat} {t : Txm} (h : TxB w n0 t g) (hb : Below w.heap.size w w') : TxB w' n0 t g := by
  obtain ⟨A, c, qs, h1, h2, h3⟩ := h; exact ⟨A, c, qs, blk_below h1 hb, h2.below hb, h3⟩
theorem TxV.grown {w w' : World} {n0 g : Nat} {t : Txm} {v : Value} {cs : Array Value} (h : TxV w n0 t v) (hg : w.heap[g]? = some (.cells cs 37 (0, 0))) (hgr : w.grownBy w' (some g)) : TxV w' n0 t v := by
  obtain ⟨A, c, qs, h1, h2, h3⟩ := h; exact ⟨A, c, qs, h1, h2.other_blk hg (by decide) (by decide) hgr, h3⟩
theorem TxB.grown {w w' : World} {n0 g g' : Nat} {t : Txm} {cs : Array Value} (h : TxB w n0 t g') (hg : w.heap[g]? = some (.cells cs 37 (0, 0))) (hne : g' ≠ g) (hgr : w.grownBy w' (some g)) : TxB w' n0 t g' := by
  obtain ⟨A, c, qs, h1, h2, h3⟩ := h
  exact ⟨A, c, qs, (hgr.block g' (blk_lt h1) (by simpa using hne)).trans h1, h2.other_blk hg (by decide) (by decide) hgr, h3⟩

structure JB (t u : Txm) (n0 : Nat) (W : World) (b0 b1 b2 b3 b4 b5 b6 b7 : Bool) (v31 v32 v33 v34 v9 v10 : Value) (w : World) : Prop where
  kq : KQ n0 W w
  f0 : b0 = true → v31 = .agg #[.int .i64 t.h.o, .int .u32 t.h.s, .int .u32 t.h.d0, .int .u32 t.h.d1, .int .u32 t.h.d2, .int .u32 t.h.d3, .int .u32 t.h.d4, .int .u32 t.h.d5, .int .u32 t.h.d6, .int .u32 t.h.d7, .bool t.h.thin, .slice t.A t.n t.c]
  f1 : b1 = true → TxV w n0 t v32
  f2 : b2 = true → v33 = .agg #[.int .i64 u.h.o, .int .u32 u.h.s, .int .u32 u.h.d0, .int .u32 u.h.d1, .int .u32 u.h.d2, .int .u32 u.h.d3, .int .u32 u.h.d4, .int .u32 u.h.d5, .int .u32 u.h.d6, .int .u32 u.h.d7, .bool u.h.thin, .slice u.A u.n u.c]
  f3 : b3 = true → TxV w n0 u v34
  f4 : b4 = true → ∃ g, v9 = .pointer (some ⟨g, 0, none⟩) ∧ n0 ≤ g ∧ g < w.heap.size ∧ (b6 = false → w.heap[g]? = some zTx) ∧ (b6 = true → TxB w n0 t g)
  f5 : b5 = true → ∃ g, v10 = .pointer (some ⟨g, 0, none⟩) ∧ n0 ≤ g ∧ g < w.heap.size ∧ (b7 = false → w.heap[g]? = some zTx) ∧ (b7 = true → TxB w n0 u g)
  ne : b4 = true → b5 = true → v9 ≠ v10

theorem JB.below {t u : Txm} {n0 : Nat} {W w w' : World} {b0 b1 b2 b3 b4 b5 b6 b7 : Bool} {v31 v32 v33 v34 v9 v10 : Value} (h : JB t u n0 W b0 b1 b2 b3 b4 b5 b6 b7 v31 v32 v33 v34 v9 v10 w) (hn : n0 ≤ W.heap.size)
    (hb : Below w.heap.size w w') : JB t u n0 W b0 b1 b2 b3 b4 b5 b6 b7 v31 v32 v33 v34 v9 v10 w' :=
  ⟨kq_call h.kq hn hb, h.f0, fun e => (h.f1 e).below hb, h.f2, fun e => (h.f3 e).below hb,
    fun e => by obtain ⟨g, h1, h2, h3, h4, h5⟩ := h.f4 e; exact ⟨g, h1, h2, Nat.lt_of_lt_of_le h3 hb.size, fun e => blk_below (h4 e) hb, fun e => (h5 e).below hb⟩,
    fun e => by obtain ⟨g, h1, h2, h3, h4, h5⟩ := h.f5 e; exact ⟨g, h1, h2, Nat.lt_of_lt_of_le h3 hb.size, fun e => blk_below (h4 e) hb, fun e => (h5 e).below hb⟩, h.ne⟩
end Go.Proofs.Ytgjiaipheohmoaa
