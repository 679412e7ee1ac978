/- The data of tags, parts and transactions, as their cells lie in memory. -/
import Derived.Test.YtgjiaipheohmoaaKq
namespace Go.Proofs.Ytgjiaipheohmoaa
open Go.RowKit

/-- A tag's cells. -/
structure Tg where
  o : Int
  s : Int
  n : Int
def Tg.enc (t : Tg) : List Value := [.int .i64 t.o, .int .u32 t.s, .int .i64 t.n]
theorem Tg.len {ts : List Tg} : ∀ x ∈ ts.map Tg.enc, x.length = 3 := by
  intro x hx; obtain ⟨t, _, rfl⟩ := List.mem_map.1 hx; rfl
theorem Tg.one {ts : List Tg} : ∀ x ∈ ts.map Tg.enc, ∀ u ∈ x, u.oneCell' = true := by
  intro x hx u hu; obtain ⟨t, _, rfl⟩ := List.mem_map.1 hx
  simp only [Tg.enc, List.mem_cons, List.not_mem_nil, or_false] at hu
  rcases hu with rfl | rfl | rfl <;> rfl

/-- A part of a transaction, as its cells; 'ts': what its list of tags reads as. -/
structure Pt where
  key : ByteArray
  act : Int
  name : ByteArray
  val : Int
  o : Int
  s : Int
  n : Int
  t : Int
  ao : Int
  A : Option Addr
  l : Nat
  c : Nat
  ts : List Tg
instance : Inhabited Pt := ⟨⟨default, 0, default, 0, 0, 0, 0, 0, 0, none, 0, 0, []⟩⟩
def Pt.enc (p : Pt) : List Value := [.string p.key, .int .i64 p.act, .string p.name, .int .i64 p.val, .int .i64 p.o, .int .u32 p.s, .int .i64 p.n, .int .u32 p.t, .int .i64 p.ao, .slice p.A p.l p.c]
theorem Pt.len {ps : List Pt} : ∀ x ∈ ps.map Pt.enc, x.length = 10 := by
  intro x hx; obtain ⟨t, _, rfl⟩ := List.mem_map.1 hx; rfl
theorem Pt.one {ps : List Pt} : ∀ x ∈ ps.map Pt.enc, ∀ u ∈ x, u.oneCell' = true := by
  intro x hx u hu; obtain ⟨t, _, rfl⟩ := List.mem_map.1 hx
  simp only [Pt.enc, List.mem_cons, List.not_mem_nil, or_false] at hu
  rcases hu with rfl | rfl | rfl | rfl | rfl | rfl | rfl | rfl | rfl | rfl <;> rfl
/-- The part's tags lie where its slice says. -/
def Pt.Ok (w : World) (B : Nat) (p : Pt) : Prop := Rd w B 3 p.A p.l (p.ts.map Tg.enc)
/-- What a part says, wherever its tags lie. -/
def Pt.core (p : Pt) : ByteArray × Int × ByteArray × Int × Int × Int × Int × Int × Int × List Tg := (p.key, p.act, p.name, p.val, p.o, p.s, p.n, p.t, p.ao, p.ts)

/-- The parts of a transaction, read whole. -/
def RdP (w : World) (B : Nat) (A : Option Addr) (n : Nat) (ps : List Pt) : Prop := Rd w B 10 A n (ps.map Pt.enc) ∧ ∀ p ∈ ps, p.Ok w B
theorem Pt.Ok.below {w w' : World} {B : Nat} {p : Pt} (h : p.Ok w B) (hb : Below B w w') : p.Ok w' B := Rd.below h hb
theorem Pt.Ok.more {w : World} {B B' : Nat} {p : Pt} (h : p.Ok w B) (hb : B ≤ B') : p.Ok w B' := Rd.more h hb
theorem RdP.below {w w' : World} {B n : Nat} {A : Option Addr} {ps : List Pt} (h : RdP w B A n ps) (hb : Below B w w') : RdP w' B A n ps := ⟨h.1.below hb, fun p hp => (h.2 p hp).below hb⟩
theorem RdP.more {w : World} {B B' n : Nat} {A : Option Addr} {ps : List Pt} (h : RdP w B A n ps) (hb : B ≤ B') : RdP w B' A n ps := ⟨h.1.more hb, fun p hp => (h.2 p hp).more hb⟩

/-- A transaction's first cells: its name, its vector, whether it is thin. -/
structure Hd where
  o : Int
  s : Int
  d0 : Int
  d1 : Int
  d2 : Int
  d3 : Int
  d4 : Int
  d5 : Int
  d6 : Int
  d7 : Int
  thin : Bool

/-- Parts that the call itself made: the row of parts, and each part's row of tags. -/
def OwP (w : World) (base : Nat) (A : Option Addr) (n c : Nat) (ps : List Pt) : Prop :=
  Ow w base 75 10 (.slice A n c) (ps.map Pt.enc) ∧ ∀ p ∈ ps, Ow w base 51 3 (.slice p.A p.l p.c) (p.ts.map Tg.enc)
section
variable {w w' : World} {bs bs' n c : Nat} {A : Option Addr} {ps : List Pt}
theorem OwP.rdp (h : OwP w bs A n c ps) : RdP w w.heap.size A n ps := ⟨h.1.rd.1, fun p hp => (h.2 p hp).rd.1⟩
theorem OwP.len (h : OwP w bs A n c ps) : ps.length = n := by simpa using h.1.rd.2.1
theorem OwP.max (h : OwP w bs A n c ps) : n ≤ maxLen := Nat.le_trans h.1.rd.2.2.1 h.1.rd.2.2.2
theorem OwP.below (h : OwP w bs A n c ps) (hb : Below w.heap.size w w') : OwP w' bs A n c ps := ⟨h.1.below hb, fun p hp => (h.2 p hp).below hb⟩
theorem OwP.base (h : OwP w bs A n c ps) (hb : bs' ≤ bs) : OwP w bs' A n c ps := ⟨h.1.base hb, fun p hp => (h.2 p hp).base hb⟩
theorem OwP.other_blk {g : Nat} {t : TypeId} {cs : Array Value} (h : OwP w bs A n c ps) (hg : w.heap[g]? = some (.cells cs t (0, 0))) (h1 : 75 ≠ t) (h2 : 51 ≠ t) (hgr : w.grownBy w' (some g)) : OwP w' bs A n c ps :=
  ⟨h.1.other_blk hg h1 hgr, fun p hp => (h.2 p hp).other_blk hg h2 hgr⟩
theorem OwP.other {b2 : Nat} {e2 : TypeId} {s2 : Nat} {v2 : Value} {ys : List (List Value)} (h : OwP w bs A n c ps) (hr : Ow w b2 e2 s2 v2 ys) (h1 : 75 ≠ e2) (h2 : 51 ≠ e2) (hg : w.grownBy w' v2.ownBlock) : OwP w' bs A n c ps :=
  ⟨h.1.other hr h1 hg, fun p hp => (h.2 p hp).other hr h2 hg⟩
end
end Go.Proofs.Ytgjiaipheohmoaa
