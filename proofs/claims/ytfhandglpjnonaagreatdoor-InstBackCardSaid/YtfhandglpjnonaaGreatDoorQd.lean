/- inst.sameTx; are two commands the same (inst.SameCmd, and the document's)? -/
import Derived.Test.YtfhandglpjnonaaGreatDoorQc
set_option maxRecDepth 100000
set_option maxHeartbeats 16000000
namespace Go.Proofs.YtfhandglpjnonaaGreatDoor
open Go.RowKit
theorem sametxI_any (x : Im) (v : Vm) (t : Bool) (A : Option Addr) (n c : Nat) (ps : List Pe) (y : Im) (u : Vm) (s : Bool) (B : Option Addr) (m d : Nat) (qs : List Pe) (w : World) (hA : RdE w w.heap.size A n ps) (hB : RdE w w.heap.size B m qs) (hn : n ≤ maxLen) (hm : m ≤ maxLen) (hpl : ∀ p ∈ ps, p.l ≤ maxLen) (hql : ∀ p ∈ qs, p.l ≤ maxLen) :
 Calls Tryz.prog 46 #[.agg #[.int .i64 x.1, .int .u32 x.2, .int .u32 v.d0, .int .u32 v.d1, .int .u32 v.d2, .int .u32 v.d3, .int .u32 v.d4, .int .u32 v.d5, .int .u32 v.d6, .int .u32 v.d7, .bool t, .slice A n c], .agg #[.int .i64 y.1, .int .u32 y.2, .int .u32 u.d0, .int .u32 u.d1, .int .u32 u.d2, .int .u32 u.d3, .int .u32 u.d4, .int .u32 u.d5, .int .u32 u.d6, .int .u32 u.d7, .bool s, .slice B m d]] w fun e w' => e = .returned (.bool (sameTv ⟨x, v, t, ps.map Pe.core⟩ ⟨y, u, s, qs.map Pe.core⟩)) ∧ Below w.heap.size w w' := by
 have hb0 : Below w.heap.size w ((w.alloc (.cells #[.int .i64 x.1, .int .u32 x.2, .int .u32 v.d0, .int .u32 v.d1, .int .u32 v.d2, .int .u32 v.d3, .int .u32 v.d4, .int .u32 v.d5, .int .u32 v.d6, .int .u32 v.d7, .bool t, .slice A n c] 45)).alloc (.cells #[.int .i64 y.1, .int .u32 y.2, .int .u32 u.d0, .int .u32 u.d1, .int .u32 u.d2, .int .u32 u.d3, .int .u32 u.d4, .int .u32 u.d5, .int .u32 u.d6, .int .u32 u.d7, .bool s, .slice B m d] 45)) := ((Below.refl _ w).alloc (Nat.le_refl _) _).alloc (by simp) _
 have hbA : ((w.alloc (.cells #[.int .i64 x.1, .int .u32 x.2, .int .u32 v.d0, .int .u32 v.d1, .int .u32 v.d2, .int .u32 v.d3, .int .u32 v.d4, .int .u32 v.d5, .int .u32 v.d6, .int .u32 v.d7, .bool t, .slice A n c] 45)).alloc (.cells #[.int .i64 y.1, .int .u32 y.2, .int .u32 u.d0, .int .u32 u.d1, .int .u32 u.d2, .int .u32 u.d3, .int .u32 u.d4, .int .u32 u.d5, .int .u32 u.d6, .int .u32 u.d7, .bool s, .slice B m d] 45)).heap[w.heap.size]? = some (.cells #[.int .i64 x.1, .int .u32 x.2, .int .u32 v.d0, .int .u32 v.d1, .int .u32 v.d2, .int .u32 v.d3, .int .u32 v.d4, .int .u32 v.d5, .int .u32 v.d6, .int .u32 v.d7, .bool t, .slice A n c] 45 (0, 0)) := yE _ (by simp) (jT _ _ rfl)
 have hbB : ((w.alloc (.cells #[.int .i64 x.1, .int .u32 x.2, .int .u32 v.d0, .int .u32 v.d1, .int .u32 v.d2, .int .u32 v.d3, .int .u32 v.d4, .int .u32 v.d5, .int .u32 v.d6, .int .u32 v.d7, .bool t, .slice A n c] 45)).alloc (.cells #[.int .i64 y.1, .int .u32 y.2, .int .u32 u.d0, .int .u32 u.d1, .int .u32 u.d2, .int .u32 u.d3, .int .u32 u.d4, .int .u32 u.d5, .int .u32 u.d6, .int .u32 u.d7, .bool s, .slice B m d] 45)).heap[w.heap.size + 1]? = some (.cells #[.int .i64 y.1, .int .u32 y.2, .int .u32 u.d0, .int .u32 u.d1, .int .u32 u.d2, .int .u32 u.d3, .int .u32 u.d4, .int .u32 u.d5, .int .u32 u.d6, .int .u32 u.d7, .bool s, .slice B m d] 45 (0, 0)) := jT _ _ (by simp)
 generalize hW : ((w.alloc (.cells #[.int .i64 x.1, .int .u32 x.2, .int .u32 v.d0, .int .u32 v.d1, .int .u32 v.d2, .int .u32 v.d3, .int .u32 v.d4, .int .u32 v.d5, .int .u32 v.d6, .int .u32 v.d7, .bool t, .slice A n c] 45)).alloc (.cells #[.int .i64 y.1, .int .u32 y.2, .int .u32 u.d0, .int .u32 u.d1, .int .u32 u.d2, .int .u32 u.d3, .int .u32 u.d4, .int .u32 u.d5, .int .u32 u.d6, .int .u32 u.d7, .bool s, .slice B m d] 45)) = W at hb0 hbA hbB
 generalize hr : sameTv ⟨x, v, t, ps.map Pe.core⟩ ⟨y, u, s, qs.map Pe.core⟩ = r
 unfold sameTv at hr
 dsimp only at hr
 have hz0 := hb0.size
 have hltA := jB hbA
 have hltB := jB hbB
 have q0 := jA hbA 0
 have q1 := jA hbA 1
 have q2 := jA hbA 2
 have q3 := jA hbA 3
 have q4 := jA hbA 4
 have q5 := jA hbA 5
 have q6 := jA hbA 6
 have q7 := jA hbA 7
 have q8 := jA hbA 8
 have q9 := jA hbA 9
 have q10 := jA hbA 10
 have q11 := jA hbA 11
 simp at q0 q1 q2 q3 q4 q5 q6 q7 q8 q9 q10 q11
 have s0 := jA hbB 0
 have s1 := jA hbB 1
 have s2 := jA hbB 2
 have s3 := jA hbB 3
 have s4 := jA hbB 4
 have s5 := jA hbB 5
 have s6 := jA hbB 6
 have s7 := jA hbB 7
 have s8 := jA hbB 8
 have s9 := jA hbB 9
 have s10 := jA hbB 10
 have s11 := jA hbB 11
 simp at s0 s1 s2 s3 s4 s5 s6 s7 s8 s9 s10 s11
 have hne := eqlV2 v u
 have hrH := jH hr
 have cE := jH (eqfP_any A B n m c d ps qs W ((hA.below hb0).more hz0) ((hB.below hb0).more hz0) hn hm hpl hql)
 clear hbA hbB hr hA hB hpl hql hn hm
 obtain ⟨x1, x2⟩ := x
 obtain ⟨y1, y2⟩ := y
 dsimp only at *
 by_cases h1 : x1 = y1
 case neg =>
  have hT : Hid (false = r) := jH (by rw [← hrH.out]; simp [h1])
  clear hne
  go_enter Tryz.func46, Tryz.ntmps46
  go_wp2
  go_ret
  exact ⟨jQ hT.out, hb0⟩
 subst h1
 by_cases h2 : x2 = y2
 case neg =>
  have hT : Hid (false = r) := jH (by rw [← hrH.out]; simp [h2])
  clear hne
  go_enter Tryz.func46, Tryz.ntmps46
  go_wp2
  go_ret
  exact ⟨jQ hT.out, hb0⟩
 subst h2
 cases hv : eqV v u with
 | false =>
  rw [hv] at hne
  have hT : Hid (false = r) := jH (by rw [← hrH.out, hv]; simp)
  clear hv
  go_enter Tryz.func46, Tryz.ntmps46
  go_wp2
  go_ret
  exact ⟨jQ hT.out, hb0⟩
 | true =>
 rw [hv] at hne
 by_cases h3 : t = s
 case neg =>
  have hT : Hid (false = r) := jH (by rw [← hrH.out]; simp [h3])
  clear hv
  cases t <;> cases s <;> first | exact absurd rfl h3 | skip
  all_goals
   go_enter Tryz.func46, Tryz.ntmps46
   go_wp2
   go_ret
   exact ⟨jQ hT.out, hb0⟩
 subst h3
 have hrP : Hid (samePs (ps.map Pe.core) (qs.map Pe.core) = r) := jH (by rw [← hrH.out, hv]; simp)
 clear hv
 rw [hrP.out] at cE
 have htt : (t == t) = true := by simp
 go_enter Tryz.func46, Tryz.ntmps46
 go_wp2_with fail
 refine cE.out.mono ?_
 rintro e w1 ⟨rfl, hb1⟩
 have hG := hb0.trans (hb1.mono hz0)
 clear q0 q1 q2 q3 q4 q5 q6 q7 q8 q9 q10 q11 s0 s1 s2 s3 s4 s5 s6 s7 s8 s9 s10 s11 hne
 go_wp2
 go_ret
 exact ⟨rfl, hG⟩
structure Cv where
 kind : Int
 t : Tv
 snap : Int
 who : Int
 mem : List Int
 since : Vm
def sameCv (a b : Cv) : Bool := decide (a.kind = b.kind) && (sameTv a.t b.t && (decide (a.snap = b.snap) && (decide (a.who = b.who) && (decide (a.mem = b.mem) && eqV a.since b.since))))
theorem sameCv_iff {a b : Cv} : sameCv a b = true ↔ a = b := by
 cases a; cases b
 simp [sameCv, sameTv_iff, eqV_iff]
structure Cm where
 kd : Int
 x : Im
 v : Vm
 t : Bool
 T : Option Addr
 k : Nat
 kc : Nat
 ps : List Pe
 sn : Int
 wh : Int
 B : Option Addr
 m : Nat
 mc : Nat
 ms : List Int
 u : Vm
instance : Coe Cm (Array Value) := ⟨fun c => #[.int .i64 c.kd, .int .i64 c.x.1, .int .u32 c.x.2, .int .u32 c.v.d0, .int .u32 c.v.d1, .int .u32 c.v.d2, .int .u32 c.v.d3, .int .u32 c.v.d4, .int .u32 c.v.d5, .int .u32 c.v.d6, .int .u32 c.v.d7, .bool c.t, .slice c.T c.k c.kc, .int .i64 c.sn, .int .i64 c.wh, .slice c.B c.m c.mc, .int .u32 c.u.d0, .int .u32 c.u.d1, .int .u32 c.u.d2, .int .u32 c.u.d3, .int .u32 c.u.d4, .int .u32 c.u.d5, .int .u32 c.u.d6, .int .u32 c.u.d7]⟩
instance : Coe Cm (List Value) := ⟨fun c => [.int .i64 c.kd, .int .i64 c.x.1, .int .u32 c.x.2, .int .u32 c.v.d0, .int .u32 c.v.d1, .int .u32 c.v.d2, .int .u32 c.v.d3, .int .u32 c.v.d4, .int .u32 c.v.d5, .int .u32 c.v.d6, .int .u32 c.v.d7, .bool c.t, .slice c.T c.k c.kc, .int .i64 c.sn, .int .i64 c.wh, .slice c.B c.m c.mc, .int .u32 c.u.d0, .int .u32 c.u.d1, .int .u32 c.u.d2, .int .u32 c.u.d3, .int .u32 c.u.d4, .int .u32 c.u.d5, .int .u32 c.u.d6, .int .u32 c.u.d7]⟩
structure Zc where
instance : Coe Zc (Array Value) := ⟨fun _ => #[.int .i64 0, .int .i64 0, .int .u32 0, .int .u32 0, .int .u32 0, .int .u32 0, .int .u32 0, .int .u32 0, .int .u32 0, .int .u32 0, .int .u32 0, .bool false, .slice none 0 0, .int .i64 0, .int .i64 0, .slice none 0 0, .int .u32 0, .int .u32 0, .int .u32 0, .int .u32 0, .int .u32 0, .int .u32 0, .int .u32 0, .int .u32 0]⟩
structure Zm where
instance : Coe Zm (Array Value) := ⟨fun _ => #[.int .i64 0, .int .i64 0, .int .i64 0, .int .u32 0, .int .i64 0, .int .u32 0, .int .u32 0, .int .i64 0, .int .i64 0, .int .u32 0, .int .i64 0, .int .i64 0, .int .i64 0, .int .u32 0, .int .u32 0, .int .u32 0, .int .u32 0, .int .u32 0, .int .u32 0, .int .u32 0, .int .u32 0, .int .u32 0, .bool false, .slice none 0 0, .int .i64 0, .int .i64 0, .slice none 0 0, .int .u32 0, .int .u32 0, .int .u32 0, .int .u32 0, .int .u32 0, .int .u32 0, .int .u32 0, .int .u32 0, .int .u32 0, .int .u32 0, .int .u32 0, .int .u32 0, .int .u32 0, .int .u32 0, .int .u32 0, .int .u32 0, .int .u32 0]⟩
def Cm.val (c : Cm) : Cv := ⟨c.kd, ⟨c.x, c.v, c.t, c.ps.map Pe.core⟩, c.sn, c.wh, c.ms, c.u⟩
structure Cm.Ok (w : World) (B : Nat) (c : Cm) : Prop where
 rdE : RdE w B c.T c.k c.ps
 rdM : Rd w B 1 c.B c.m (c.ms.map eZ)
 lk : c.k ≤ maxLen
 lm : c.m ≤ maxLen
 pl : ∀ p ∈ c.ps, p.l ≤ maxLen
theorem Cm.Ok.below {w w' : World} {B : Nat} {c : Cm} (h : c.Ok w B) (hb : Below B w w') : c.Ok w' B := ⟨h.rdE.below hb, h.rdM.below hb, h.lk, h.lm, h.pl⟩
theorem Cm.Ok.more {w : World} {B B' : Nat} {c : Cm} (h : c.Ok w B) (hb : B ≤ B') : c.Ok w B' := ⟨h.rdE.more hb, h.rdM.more hb, h.lk, h.lm, h.pl⟩
theorem scmdP_any (a b : Cm) (w : World) (hA : a.Ok w w.heap.size) (hB : b.Ok w w.heap.size) :
 Calls Tryz.prog 13 #[.agg ↑a, .agg ↑b] w fun e w' => e = .returned (.bool (sameCv a.val b.val)) ∧ Below w.heap.size w w' := by
 generalize hr : sameCv a.val b.val = q
 unfold sameCv Cm.val at hr
 obtain ⟨kd, x, v, t, T, k, kc, ps, sn, wh, B, m, mc, ms, u⟩ := a
 obtain ⟨ld, y, z, s, S, l, lc, qs, tn, vh, D, n, nc, ns, r⟩ := b
 dsimp only at hr ⊢
 have hAE := hA.rdE
 have hAM := hA.rdM
 have hBE := hB.rdE
 have hBM := hB.rdM
 have hAl := hA.lk
 have hAm := hA.lm
 have hBl := hB.lk
 have hBm := hB.lm
 have hAp := hA.pl
 have hBp := hB.pl
 dsimp only at hAE hAM hBE hBM hAl hAm hBl hBm hAp hBp
 have hb0 : Below w.heap.size w ((w.alloc (.cells #[.int .i64 kd, .int .i64 x.1, .int .u32 x.2, .int .u32 v.d0, .int .u32 v.d1, .int .u32 v.d2, .int .u32 v.d3, .int .u32 v.d4, .int .u32 v.d5, .int .u32 v.d6, .int .u32 v.d7, .bool t, .slice T k kc, .int .i64 sn, .int .i64 wh, .slice B m mc, .int .u32 u.d0, .int .u32 u.d1, .int .u32 u.d2, .int .u32 u.d3, .int .u32 u.d4, .int .u32 u.d5, .int .u32 u.d6, .int .u32 u.d7] 47)).alloc (.cells #[.int .i64 ld, .int .i64 y.1, .int .u32 y.2, .int .u32 z.d0, .int .u32 z.d1, .int .u32 z.d2, .int .u32 z.d3, .int .u32 z.d4, .int .u32 z.d5, .int .u32 z.d6, .int .u32 z.d7, .bool s, .slice S l lc, .int .i64 tn, .int .i64 vh, .slice D n nc, .int .u32 r.d0, .int .u32 r.d1, .int .u32 r.d2, .int .u32 r.d3, .int .u32 r.d4, .int .u32 r.d5, .int .u32 r.d6, .int .u32 r.d7] 47)) := ((Below.refl _ w).alloc (Nat.le_refl _) _).alloc (by simp) _
 have hbA : ((w.alloc (.cells #[.int .i64 kd, .int .i64 x.1, .int .u32 x.2, .int .u32 v.d0, .int .u32 v.d1, .int .u32 v.d2, .int .u32 v.d3, .int .u32 v.d4, .int .u32 v.d5, .int .u32 v.d6, .int .u32 v.d7, .bool t, .slice T k kc, .int .i64 sn, .int .i64 wh, .slice B m mc, .int .u32 u.d0, .int .u32 u.d1, .int .u32 u.d2, .int .u32 u.d3, .int .u32 u.d4, .int .u32 u.d5, .int .u32 u.d6, .int .u32 u.d7] 47)).alloc (.cells #[.int .i64 ld, .int .i64 y.1, .int .u32 y.2, .int .u32 z.d0, .int .u32 z.d1, .int .u32 z.d2, .int .u32 z.d3, .int .u32 z.d4, .int .u32 z.d5, .int .u32 z.d6, .int .u32 z.d7, .bool s, .slice S l lc, .int .i64 tn, .int .i64 vh, .slice D n nc, .int .u32 r.d0, .int .u32 r.d1, .int .u32 r.d2, .int .u32 r.d3, .int .u32 r.d4, .int .u32 r.d5, .int .u32 r.d6, .int .u32 r.d7] 47)).heap[w.heap.size]? = some (.cells #[.int .i64 kd, .int .i64 x.1, .int .u32 x.2, .int .u32 v.d0, .int .u32 v.d1, .int .u32 v.d2, .int .u32 v.d3, .int .u32 v.d4, .int .u32 v.d5, .int .u32 v.d6, .int .u32 v.d7, .bool t, .slice T k kc, .int .i64 sn, .int .i64 wh, .slice B m mc, .int .u32 u.d0, .int .u32 u.d1, .int .u32 u.d2, .int .u32 u.d3, .int .u32 u.d4, .int .u32 u.d5, .int .u32 u.d6, .int .u32 u.d7] 47 (0, 0)) := yE _ (by simp) (jT _ _ rfl)
 have hbB : ((w.alloc (.cells #[.int .i64 kd, .int .i64 x.1, .int .u32 x.2, .int .u32 v.d0, .int .u32 v.d1, .int .u32 v.d2, .int .u32 v.d3, .int .u32 v.d4, .int .u32 v.d5, .int .u32 v.d6, .int .u32 v.d7, .bool t, .slice T k kc, .int .i64 sn, .int .i64 wh, .slice B m mc, .int .u32 u.d0, .int .u32 u.d1, .int .u32 u.d2, .int .u32 u.d3, .int .u32 u.d4, .int .u32 u.d5, .int .u32 u.d6, .int .u32 u.d7] 47)).alloc (.cells #[.int .i64 ld, .int .i64 y.1, .int .u32 y.2, .int .u32 z.d0, .int .u32 z.d1, .int .u32 z.d2, .int .u32 z.d3, .int .u32 z.d4, .int .u32 z.d5, .int .u32 z.d6, .int .u32 z.d7, .bool s, .slice S l lc, .int .i64 tn, .int .i64 vh, .slice D n nc, .int .u32 r.d0, .int .u32 r.d1, .int .u32 r.d2, .int .u32 r.d3, .int .u32 r.d4, .int .u32 r.d5, .int .u32 r.d6, .int .u32 r.d7] 47)).heap[w.heap.size + 1]? = some (.cells #[.int .i64 ld, .int .i64 y.1, .int .u32 y.2, .int .u32 z.d0, .int .u32 z.d1, .int .u32 z.d2, .int .u32 z.d3, .int .u32 z.d4, .int .u32 z.d5, .int .u32 z.d6, .int .u32 z.d7, .bool s, .slice S l lc, .int .i64 tn, .int .i64 vh, .slice D n nc, .int .u32 r.d0, .int .u32 r.d1, .int .u32 r.d2, .int .u32 r.d3, .int .u32 r.d4, .int .u32 r.d5, .int .u32 r.d6, .int .u32 r.d7] 47 (0, 0)) := jT _ _ (by simp)
 generalize hW : ((w.alloc (.cells #[.int .i64 kd, .int .i64 x.1, .int .u32 x.2, .int .u32 v.d0, .int .u32 v.d1, .int .u32 v.d2, .int .u32 v.d3, .int .u32 v.d4, .int .u32 v.d5, .int .u32 v.d6, .int .u32 v.d7, .bool t, .slice T k kc, .int .i64 sn, .int .i64 wh, .slice B m mc, .int .u32 u.d0, .int .u32 u.d1, .int .u32 u.d2, .int .u32 u.d3, .int .u32 u.d4, .int .u32 u.d5, .int .u32 u.d6, .int .u32 u.d7] 47)).alloc (.cells #[.int .i64 ld, .int .i64 y.1, .int .u32 y.2, .int .u32 z.d0, .int .u32 z.d1, .int .u32 z.d2, .int .u32 z.d3, .int .u32 z.d4, .int .u32 z.d5, .int .u32 z.d6, .int .u32 z.d7, .bool s, .slice S l lc, .int .i64 tn, .int .i64 vh, .slice D n nc, .int .u32 r.d0, .int .u32 r.d1, .int .u32 r.d2, .int .u32 r.d3, .int .u32 r.d4, .int .u32 r.d5, .int .u32 r.d6, .int .u32 r.d7] 47)) = W at hb0 hbA hbB
 have hz0 := hb0.size
 have hltA := jB hbA
 have hltB := jB hbB
 have p0 := jA hbA 0
 have p1 := jA hbA 1
 have p2 := jA hbA 2
 have p3 := jA hbA 3
 have p4 := jA hbA 4
 have p5 := jA hbA 5
 have p6 := jA hbA 6
 have p7 := jA hbA 7
 have p8 := jA hbA 8
 have p9 := jA hbA 9
 have p10 := jA hbA 10
 have p11 := jA hbA 11
 have p12 := jA hbA 12
 have p13 := jA hbA 13
 have p14 := jA hbA 14
 have p15 := jA hbA 15
 have p16 := jA hbA 16
 have p17 := jA hbA 17
 have p18 := jA hbA 18
 have p19 := jA hbA 19
 have p20 := jA hbA 20
 have p21 := jA hbA 21
 have p22 := jA hbA 22
 have p23 := jA hbA 23
 have q0 := jA hbB 0
 have q1 := jA hbB 1
 have q2 := jA hbB 2
 have q3 := jA hbB 3
 have q4 := jA hbB 4
 have q5 := jA hbB 5
 have q6 := jA hbB 6
 have q7 := jA hbB 7
 have q8 := jA hbB 8
 have q9 := jA hbB 9
 have q10 := jA hbB 10
 have q11 := jA hbB 11
 have q12 := jA hbB 12
 have q13 := jA hbB 13
 have q14 := jA hbB 14
 have q15 := jA hbB 15
 have q16 := jA hbB 16
 have q17 := jA hbB 17
 have q18 := jA hbB 18
 have q19 := jA hbB 19
 have q20 := jA hbB 20
 have q21 := jA hbB 21
 have q22 := jA hbB 22
 have q23 := jA hbB 23
 simp at p0 p1 p2 p3 p4 p5 p6 p7 p8 p9 p10 p11 p12 p13 p14 p15 p16 p17 p18 p19 p20 p21 p22 p23 q0 q1 q2 q3 q4 q5 q6 q7 q8 q9 q10 q11 q12 q13 q14 q15 q16 q17 q18 q19 q20 q21 q22 q23
 have hbAH := jH hbA
 have hbBH := jH hbB
 have hrH := jH hr
 have hne := eqlV2 u r
 have cM := jH (fun w' (h : Below w.heap.size w w') => equalZ_any B D m n mc nc ms ns w' ((hAM.below h).more h.size) ((hBM.below h).more h.size) hAm hBm)
 have cT := jH (fun w' (h : Below w.heap.size w w') => sametxI_any x v t T k kc ps y z s S l lc qs w' ((hAE.below h).more h.size) ((hBE.below h).more h.size) hAl hBl hAp hBp)
 clear hbA hbB hr hA hB hAE hAM hBE hBM hAl hAm hBl hBm hAp hBp
 generalize hsT : sameTv ⟨x, v, t, ps.map Pe.core⟩ ⟨y, z, s, qs.map Pe.core⟩ = bT at *
 by_cases h1 : kd = ld
 case neg =>
  have hT : Hid (false = q) := jH (by rw [← hrH.out]; simp [h1])
  clear hne
  go_enter Tryz.func13, Tryz.ntmps13
  go_wp2
  go_ret
  exact ⟨jQ hT.out, hb0⟩
 subst h1
 by_cases h2 : sn = tn
 case neg =>
  have hT : Hid (false = q) := jH (by rw [← hrH.out]; simp [h2])
  clear hne
  go_enter Tryz.func13, Tryz.ntmps13
  go_wp2
  go_ret
  exact ⟨jQ hT.out, hb0⟩
 subst h2
 by_cases h3 : wh = vh
 case neg =>
  have hT : Hid (false = q) := jH (by rw [← hrH.out]; simp [h3])
  clear hne
  go_enter Tryz.func13, Tryz.ntmps13
  go_wp2
  go_ret
  exact ⟨jQ hT.out, hb0⟩
 subst h3
 cases hv : eqV u r with
 | false =>
  rw [hv] at hne
  have hT : Hid (false = q) := jH (by rw [← hrH.out, hv]; simp)
  clear hv
  go_enter Tryz.func13, Tryz.ntmps13
  go_wp2
  go_ret
  exact ⟨jQ hT.out, hb0⟩
 | true =>
 rw [hv] at hne
 have hq2 : Hid ((bT && decide (ms = ns)) = q) := jH (by rw [← hrH.out, hv]; simp)
 clear hv
 generalize decide (ms = ns) = bM at cM hq2
 go_enter Tryz.func13, Tryz.ntmps13
 go_wp2_with fail
 refine (cM.out _ hb0).mono ?_
 rintro e w1 ⟨rfl, hbw⟩
 have hb01 := hb0.trans (hbw.mono hz0)
 clear p0 p1 p2 p3 p4 p5 p6 p7 p8 p9 p10 p11 p12 p13 p14 p15 p16 p17 p18 p19 p20 p21 p22 p23 q0 q1 q2 q3 q4 q5 q6 q7 q8 q9 q10 q11 q12 q13 q14 q15 q16 q17 q18 q19 q20 q21 q22 q23
 have hbA1 := jD hbAH.out hbw
 have hbB1 := jD hbBH.out hbw
 have p0 := jA hbA1 0
 have p1 := jA hbA1 1
 have p2 := jA hbA1 2
 have p3 := jA hbA1 3
 have p4 := jA hbA1 4
 have p5 := jA hbA1 5
 have p6 := jA hbA1 6
 have p7 := jA hbA1 7
 have p8 := jA hbA1 8
 have p9 := jA hbA1 9
 have p10 := jA hbA1 10
 have p11 := jA hbA1 11
 have p12 := jA hbA1 12
 have p13 := jA hbA1 13
 have p14 := jA hbA1 14
 have p15 := jA hbA1 15
 have p16 := jA hbA1 16
 have p17 := jA hbA1 17
 have p18 := jA hbA1 18
 have p19 := jA hbA1 19
 have p20 := jA hbA1 20
 have p21 := jA hbA1 21
 have p22 := jA hbA1 22
 have p23 := jA hbA1 23
 have q0 := jA hbB1 0
 have q1 := jA hbB1 1
 have q2 := jA hbB1 2
 have q3 := jA hbB1 3
 have q4 := jA hbB1 4
 have q5 := jA hbB1 5
 have q6 := jA hbB1 6
 have q7 := jA hbB1 7
 have q8 := jA hbB1 8
 have q9 := jA hbB1 9
 have q10 := jA hbB1 10
 have q11 := jA hbB1 11
 have q12 := jA hbB1 12
 have q13 := jA hbB1 13
 have q14 := jA hbB1 14
 have q15 := jA hbB1 15
 have q16 := jA hbB1 16
 have q17 := jA hbB1 17
 have q18 := jA hbB1 18
 have q19 := jA hbB1 19
 have q20 := jA hbB1 20
 have q21 := jA hbB1 21
 have q22 := jA hbB1 22
 have q23 := jA hbB1 23
 simp at p0 p1 p2 p3 p4 p5 p6 p7 p8 p9 p10 p11 p12 p13 p14 p15 p16 p17 p18 p19 p20 p21 p22 p23 q0 q1 q2 q3 q4 q5 q6 q7 q8 q9 q10 q11 q12 q13 q14 q15 q16 q17 q18 q19 q20 q21 q22 q23
 have hltA1 := jB hbA1
 have hltB1 := jB hbB1
 clear hbA1 hbB1
 cases bM with
 | false =>
  have hT : Hid (false = q) := jH (by rw [← hq2.out]; simp)
  go_wp2
  go_ret
  exact ⟨jQ hT.out, hb01⟩
 | true =>
 rw [Bool.and_true] at hq2
 go_wp2_with fail
 refine (cT.out _ hb01).mono ?_
 rintro e w2 ⟨rfl, hbw2⟩
 have hG := hb01.trans (hbw2.mono hb01.size)
 clear p0 p1 p2 p3 p4 p5 p6 p7 p8 p9 p10 p11 p12 p13 p14 p15 p16 p17 p18 p19 p20 p21 p22 p23 q0 q1 q2 q3 q4 q5 q6 q7 q8 q9 q10 q11 q12 q13 q14 q15 q16 q17 q18 q19 q20 q21 q22 q23
 go_wp2
 go_ret
 exact ⟨jQ hq2.out, hG⟩
theorem scmdD_any (a b : Cm) (w : World) (hA : a.Ok w w.heap.size) (hB : b.Ok w w.heap.size) :
 Calls Tryz.prog 14 #[.agg ↑a, .agg ↑b] w fun e w' => e = .returned (.bool (sameCv a.val b.val)) ∧ Below w.heap.size w w' := by
 generalize hr : sameCv a.val b.val = q
 unfold sameCv Cm.val at hr
 obtain ⟨kd, x, v, t, T, k, kc, ps, sn, wh, B, m, mc, ms, u⟩ := a
 obtain ⟨ld, y, z, s, S, l, lc, qs, tn, vh, D, n, nc, ns, r⟩ := b
 dsimp only at hr ⊢
 have hAE := hA.rdE
 have hAM := hA.rdM
 have hBE := hB.rdE
 have hBM := hB.rdM
 have hAl := hA.lk
 have hAm := hA.lm
 have hBl := hB.lk
 have hBm := hB.lm
 have hAp := hA.pl
 have hBp := hB.pl
 dsimp only at hAE hAM hBE hBM hAl hAm hBl hBm hAp hBp
 have hb0 : Below w.heap.size w ((w.alloc (.cells #[.int .i64 kd, .int .i64 x.1, .int .u32 x.2, .int .u32 v.d0, .int .u32 v.d1, .int .u32 v.d2, .int .u32 v.d3, .int .u32 v.d4, .int .u32 v.d5, .int .u32 v.d6, .int .u32 v.d7, .bool t, .slice T k kc, .int .i64 sn, .int .i64 wh, .slice B m mc, .int .u32 u.d0, .int .u32 u.d1, .int .u32 u.d2, .int .u32 u.d3, .int .u32 u.d4, .int .u32 u.d5, .int .u32 u.d6, .int .u32 u.d7] 34)).alloc (.cells #[.int .i64 ld, .int .i64 y.1, .int .u32 y.2, .int .u32 z.d0, .int .u32 z.d1, .int .u32 z.d2, .int .u32 z.d3, .int .u32 z.d4, .int .u32 z.d5, .int .u32 z.d6, .int .u32 z.d7, .bool s, .slice S l lc, .int .i64 tn, .int .i64 vh, .slice D n nc, .int .u32 r.d0, .int .u32 r.d1, .int .u32 r.d2, .int .u32 r.d3, .int .u32 r.d4, .int .u32 r.d5, .int .u32 r.d6, .int .u32 r.d7] 34)) := ((Below.refl _ w).alloc (Nat.le_refl _) _).alloc (by simp) _
 have hbA : ((w.alloc (.cells #[.int .i64 kd, .int .i64 x.1, .int .u32 x.2, .int .u32 v.d0, .int .u32 v.d1, .int .u32 v.d2, .int .u32 v.d3, .int .u32 v.d4, .int .u32 v.d5, .int .u32 v.d6, .int .u32 v.d7, .bool t, .slice T k kc, .int .i64 sn, .int .i64 wh, .slice B m mc, .int .u32 u.d0, .int .u32 u.d1, .int .u32 u.d2, .int .u32 u.d3, .int .u32 u.d4, .int .u32 u.d5, .int .u32 u.d6, .int .u32 u.d7] 34)).alloc (.cells #[.int .i64 ld, .int .i64 y.1, .int .u32 y.2, .int .u32 z.d0, .int .u32 z.d1, .int .u32 z.d2, .int .u32 z.d3, .int .u32 z.d4, .int .u32 z.d5, .int .u32 z.d6, .int .u32 z.d7, .bool s, .slice S l lc, .int .i64 tn, .int .i64 vh, .slice D n nc, .int .u32 r.d0, .int .u32 r.d1, .int .u32 r.d2, .int .u32 r.d3, .int .u32 r.d4, .int .u32 r.d5, .int .u32 r.d6, .int .u32 r.d7] 34)).heap[w.heap.size]? = some (.cells #[.int .i64 kd, .int .i64 x.1, .int .u32 x.2, .int .u32 v.d0, .int .u32 v.d1, .int .u32 v.d2, .int .u32 v.d3, .int .u32 v.d4, .int .u32 v.d5, .int .u32 v.d6, .int .u32 v.d7, .bool t, .slice T k kc, .int .i64 sn, .int .i64 wh, .slice B m mc, .int .u32 u.d0, .int .u32 u.d1, .int .u32 u.d2, .int .u32 u.d3, .int .u32 u.d4, .int .u32 u.d5, .int .u32 u.d6, .int .u32 u.d7] 34 (0, 0)) := yE _ (by simp) (jT _ _ rfl)
 have hbB : ((w.alloc (.cells #[.int .i64 kd, .int .i64 x.1, .int .u32 x.2, .int .u32 v.d0, .int .u32 v.d1, .int .u32 v.d2, .int .u32 v.d3, .int .u32 v.d4, .int .u32 v.d5, .int .u32 v.d6, .int .u32 v.d7, .bool t, .slice T k kc, .int .i64 sn, .int .i64 wh, .slice B m mc, .int .u32 u.d0, .int .u32 u.d1, .int .u32 u.d2, .int .u32 u.d3, .int .u32 u.d4, .int .u32 u.d5, .int .u32 u.d6, .int .u32 u.d7] 34)).alloc (.cells #[.int .i64 ld, .int .i64 y.1, .int .u32 y.2, .int .u32 z.d0, .int .u32 z.d1, .int .u32 z.d2, .int .u32 z.d3, .int .u32 z.d4, .int .u32 z.d5, .int .u32 z.d6, .int .u32 z.d7, .bool s, .slice S l lc, .int .i64 tn, .int .i64 vh, .slice D n nc, .int .u32 r.d0, .int .u32 r.d1, .int .u32 r.d2, .int .u32 r.d3, .int .u32 r.d4, .int .u32 r.d5, .int .u32 r.d6, .int .u32 r.d7] 34)).heap[w.heap.size + 1]? = some (.cells #[.int .i64 ld, .int .i64 y.1, .int .u32 y.2, .int .u32 z.d0, .int .u32 z.d1, .int .u32 z.d2, .int .u32 z.d3, .int .u32 z.d4, .int .u32 z.d5, .int .u32 z.d6, .int .u32 z.d7, .bool s, .slice S l lc, .int .i64 tn, .int .i64 vh, .slice D n nc, .int .u32 r.d0, .int .u32 r.d1, .int .u32 r.d2, .int .u32 r.d3, .int .u32 r.d4, .int .u32 r.d5, .int .u32 r.d6, .int .u32 r.d7] 34 (0, 0)) := jT _ _ (by simp)
 generalize hW : ((w.alloc (.cells #[.int .i64 kd, .int .i64 x.1, .int .u32 x.2, .int .u32 v.d0, .int .u32 v.d1, .int .u32 v.d2, .int .u32 v.d3, .int .u32 v.d4, .int .u32 v.d5, .int .u32 v.d6, .int .u32 v.d7, .bool t, .slice T k kc, .int .i64 sn, .int .i64 wh, .slice B m mc, .int .u32 u.d0, .int .u32 u.d1, .int .u32 u.d2, .int .u32 u.d3, .int .u32 u.d4, .int .u32 u.d5, .int .u32 u.d6, .int .u32 u.d7] 34)).alloc (.cells #[.int .i64 ld, .int .i64 y.1, .int .u32 y.2, .int .u32 z.d0, .int .u32 z.d1, .int .u32 z.d2, .int .u32 z.d3, .int .u32 z.d4, .int .u32 z.d5, .int .u32 z.d6, .int .u32 z.d7, .bool s, .slice S l lc, .int .i64 tn, .int .i64 vh, .slice D n nc, .int .u32 r.d0, .int .u32 r.d1, .int .u32 r.d2, .int .u32 r.d3, .int .u32 r.d4, .int .u32 r.d5, .int .u32 r.d6, .int .u32 r.d7] 34)) = W at hb0 hbA hbB
 have hz0 := hb0.size
 have hltA := jB hbA
 have hltB := jB hbB
 have p0 := jA hbA 0
 have p1 := jA hbA 1
 have p2 := jA hbA 2
 have p3 := jA hbA 3
 have p4 := jA hbA 4
 have p5 := jA hbA 5
 have p6 := jA hbA 6
 have p7 := jA hbA 7
 have p8 := jA hbA 8
 have p9 := jA hbA 9
 have p10 := jA hbA 10
 have p11 := jA hbA 11
 have p12 := jA hbA 12
 have p13 := jA hbA 13
 have p14 := jA hbA 14
 have p15 := jA hbA 15
 have p16 := jA hbA 16
 have p17 := jA hbA 17
 have p18 := jA hbA 18
 have p19 := jA hbA 19
 have p20 := jA hbA 20
 have p21 := jA hbA 21
 have p22 := jA hbA 22
 have p23 := jA hbA 23
 have q0 := jA hbB 0
 have q1 := jA hbB 1
 have q2 := jA hbB 2
 have q3 := jA hbB 3
 have q4 := jA hbB 4
 have q5 := jA hbB 5
 have q6 := jA hbB 6
 have q7 := jA hbB 7
 have q8 := jA hbB 8
 have q9 := jA hbB 9
 have q10 := jA hbB 10
 have q11 := jA hbB 11
 have q12 := jA hbB 12
 have q13 := jA hbB 13
 have q14 := jA hbB 14
 have q15 := jA hbB 15
 have q16 := jA hbB 16
 have q17 := jA hbB 17
 have q18 := jA hbB 18
 have q19 := jA hbB 19
 have q20 := jA hbB 20
 have q21 := jA hbB 21
 have q22 := jA hbB 22
 have q23 := jA hbB 23
 simp at p0 p1 p2 p3 p4 p5 p6 p7 p8 p9 p10 p11 p12 p13 p14 p15 p16 p17 p18 p19 p20 p21 p22 p23 q0 q1 q2 q3 q4 q5 q6 q7 q8 q9 q10 q11 q12 q13 q14 q15 q16 q17 q18 q19 q20 q21 q22 q23
 have hbAH := jH hbA
 have hbBH := jH hbB
 have hrH := jH hr
 have hne := eqlV2 u r
 have cM := jH (fun w' (h : Below w.heap.size w w') => sameZ_any B D m n mc nc ms ns w' ((hAM.below h).more h.size) ((hBM.below h).more h.size) hAm hBm)
 have cT := jH (fun w' (h : Below w.heap.size w w') => txsame_any x v t T k kc ps y z s S l lc qs w' ((hAE.below h).more h.size) ((hBE.below h).more h.size) hAl hBl hAp hBp)
 clear hbA hbB hr hA hB hAE hAM hBE hBM hAl hAm hBl hBm hAp hBp
 generalize hsT : sameTv ⟨x, v, t, ps.map Pe.core⟩ ⟨y, z, s, qs.map Pe.core⟩ = bT at *
 by_cases h1 : kd = ld
 case neg =>
  have hT : Hid (false = q) := jH (by rw [← hrH.out]; simp [h1])
  clear hne
  go_enter Tryz.func14, Tryz.ntmps14
  go_wp2
  go_ret
  exact ⟨jQ hT.out, hb0⟩
 subst h1
 cases bT with
 | false =>
  have hT : Hid (false = q) := jH (by rw [← hrH.out]; simp)
  go_enter Tryz.func14, Tryz.ntmps14
  go_wp2_with fail
  refine (cT.out _ hb0).mono ?_
  rintro e w1 ⟨rfl, hbw⟩
  have hb01 := hb0.trans (hbw.mono hz0)
  clear p0 p1 p2 p3 p4 p5 p6 p7 p8 p9 p10 p11 p12 p13 p14 p15 p16 p17 p18 p19 p20 p21 p22 p23 q0 q1 q2 q3 q4 q5 q6 q7 q8 q9 q10 q11 q12 q13 q14 q15 q16 q17 q18 q19 q20 q21 q22 q23
  go_wp2
  go_ret
  exact ⟨jQ hT.out, hb01⟩
 | true =>
 have hq2 : Hid ((decide (sn = tn) && (decide (wh = vh) && (decide (ms = ns) && eqV u r))) = q) := jH (by rw [← hrH.out]; simp)
 go_enter Tryz.func14, Tryz.ntmps14
 go_wp2_with fail
 refine (cT.out _ hb0).mono ?_
 rintro e w1 ⟨rfl, hbw⟩
 have hb01 := hb0.trans (hbw.mono hz0)
 clear p0 p1 p2 p3 p4 p5 p6 p7 p8 p9 p10 p11 p12 p13 p14 p15 p16 p17 p18 p19 p20 p21 p22 p23 q0 q1 q2 q3 q4 q5 q6 q7 q8 q9 q10 q11 q12 q13 q14 q15 q16 q17 q18 q19 q20 q21 q22 q23
 have hbA1 := jD hbAH.out hbw
 have hbB1 := jD hbBH.out hbw
 have p0 := jA hbA1 0
 have p1 := jA hbA1 1
 have p2 := jA hbA1 2
 have p3 := jA hbA1 3
 have p4 := jA hbA1 4
 have p5 := jA hbA1 5
 have p6 := jA hbA1 6
 have p7 := jA hbA1 7
 have p8 := jA hbA1 8
 have p9 := jA hbA1 9
 have p10 := jA hbA1 10
 have p11 := jA hbA1 11
 have p12 := jA hbA1 12
 have p13 := jA hbA1 13
 have p14 := jA hbA1 14
 have p15 := jA hbA1 15
 have p16 := jA hbA1 16
 have p17 := jA hbA1 17
 have p18 := jA hbA1 18
 have p19 := jA hbA1 19
 have p20 := jA hbA1 20
 have p21 := jA hbA1 21
 have p22 := jA hbA1 22
 have p23 := jA hbA1 23
 have q0 := jA hbB1 0
 have q1 := jA hbB1 1
 have q2 := jA hbB1 2
 have q3 := jA hbB1 3
 have q4 := jA hbB1 4
 have q5 := jA hbB1 5
 have q6 := jA hbB1 6
 have q7 := jA hbB1 7
 have q8 := jA hbB1 8
 have q9 := jA hbB1 9
 have q10 := jA hbB1 10
 have q11 := jA hbB1 11
 have q12 := jA hbB1 12
 have q13 := jA hbB1 13
 have q14 := jA hbB1 14
 have q15 := jA hbB1 15
 have q16 := jA hbB1 16
 have q17 := jA hbB1 17
 have q18 := jA hbB1 18
 have q19 := jA hbB1 19
 have q20 := jA hbB1 20
 have q21 := jA hbB1 21
 have q22 := jA hbB1 22
 have q23 := jA hbB1 23
 simp at p0 p1 p2 p3 p4 p5 p6 p7 p8 p9 p10 p11 p12 p13 p14 p15 p16 p17 p18 p19 p20 p21 p22 p23 q0 q1 q2 q3 q4 q5 q6 q7 q8 q9 q10 q11 q12 q13 q14 q15 q16 q17 q18 q19 q20 q21 q22 q23
 have hltA1 := jB hbA1
 have hltB1 := jB hbB1
 clear hbA1 hbB1
 by_cases h2 : sn = tn
 case neg =>
  have hT : Hid (false = q) := jH (by rw [← hq2.out]; simp [h2])
  clear hne
  go_wp2
  go_ret
  exact ⟨jQ hT.out, hb01⟩
 subst h2
 by_cases h3 : wh = vh
 case neg =>
  have hT : Hid (false = q) := jH (by rw [← hq2.out]; simp [h3])
  clear hne
  go_wp2
  go_ret
  exact ⟨jQ hT.out, hb01⟩
 subst h3
 go_wp2_with fail
 refine (cM.out _ hb01).mono ?_
 rintro e w2 ⟨rfl, hbw2⟩
 have hb02 := hb01.trans (hbw2.mono hb01.size)
 clear p0 p1 p2 p3 p4 p5 p6 p7 p8 p9 p10 p11 p12 p13 p14 p15 p16 p17 p18 p19 p20 p21 p22 p23 q0 q1 q2 q3 q4 q5 q6 q7 q8 q9 q10 q11 q12 q13 q14 q15 q16 q17 q18 q19 q20 q21 q22 q23 hltA1 hltB1
 have hbw := hbw.trans (hbw2.mono hbw.size)
 have hbA1 := jD hbAH.out hbw
 have hbB1 := jD hbBH.out hbw
 have p0 := jA hbA1 0
 have p1 := jA hbA1 1
 have p2 := jA hbA1 2
 have p3 := jA hbA1 3
 have p4 := jA hbA1 4
 have p5 := jA hbA1 5
 have p6 := jA hbA1 6
 have p7 := jA hbA1 7
 have p8 := jA hbA1 8
 have p9 := jA hbA1 9
 have p10 := jA hbA1 10
 have p11 := jA hbA1 11
 have p12 := jA hbA1 12
 have p13 := jA hbA1 13
 have p14 := jA hbA1 14
 have p15 := jA hbA1 15
 have p16 := jA hbA1 16
 have p17 := jA hbA1 17
 have p18 := jA hbA1 18
 have p19 := jA hbA1 19
 have p20 := jA hbA1 20
 have p21 := jA hbA1 21
 have p22 := jA hbA1 22
 have p23 := jA hbA1 23
 have q0 := jA hbB1 0
 have q1 := jA hbB1 1
 have q2 := jA hbB1 2
 have q3 := jA hbB1 3
 have q4 := jA hbB1 4
 have q5 := jA hbB1 5
 have q6 := jA hbB1 6
 have q7 := jA hbB1 7
 have q8 := jA hbB1 8
 have q9 := jA hbB1 9
 have q10 := jA hbB1 10
 have q11 := jA hbB1 11
 have q12 := jA hbB1 12
 have q13 := jA hbB1 13
 have q14 := jA hbB1 14
 have q15 := jA hbB1 15
 have q16 := jA hbB1 16
 have q17 := jA hbB1 17
 have q18 := jA hbB1 18
 have q19 := jA hbB1 19
 have q20 := jA hbB1 20
 have q21 := jA hbB1 21
 have q22 := jA hbB1 22
 have q23 := jA hbB1 23
 simp at p0 p1 p2 p3 p4 p5 p6 p7 p8 p9 p10 p11 p12 p13 p14 p15 p16 p17 p18 p19 p20 p21 p22 p23 q0 q1 q2 q3 q4 q5 q6 q7 q8 q9 q10 q11 q12 q13 q14 q15 q16 q17 q18 q19 q20 q21 q22 q23
 have hltA1 := jB hbA1
 have hltB1 := jB hbB1
 clear hbA1 hbB1
 generalize decide (ms = ns) = bM at *
 cases bM with
 | false =>
  have hT : Hid (false = q) := jH (by rw [← hq2.out]; simp)
  clear hne
  go_wp2
  go_ret
  exact ⟨jQ hT.out, hb02⟩
 | true =>
 have hT : Hid (eqV u r = q) := jH (by rw [← hq2.out]; simp)
 go_wp2
 go_ret
 exact ⟨jQ hT.out, hb02⟩
end Go.Proofs.YtfhandglpjnonaaGreatDoor
