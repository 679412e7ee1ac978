/- The document's SameEffect, samePart, Same of transactions. The document's Same of transactions. The statements' own Great of effects and of transactions. -/
import Derived.Test.YtfhandglpjnonaaGreatDoorM39
import Derived.Test.YtfhandglpjnonaaGreatDoorGb
import Derived.Test.YtfhandglpjnonaaGreatDoorN06
import Derived.Test.YtfhandglpjnonaaGreatDoorN08
import Derived.Deep.DeepCutAuto
import Derived.Deep.RegionHeld3
import Derived.Deep.LoopGhost
set_option maxRecDepth 100000
set_option maxHeartbeats 16000000
namespace Go.Proofs.YtfhandglpjnonaaGreatDoor
open Go.RowKit
theorem samee_any (a b : Ef) (A B : Option Addr) (l m c d : Nat) (w : World) (hA : RdT w w.heap.size A l a.tags) (hB : RdT w w.heap.size B m b.tags) (hl : l ≤ maxLen) (hm : m ≤ maxLen) :
 Calls Tryz.prog 123 #[.agg #[.int .i64 a.act, .string (bs a.name), .int .i64 a.val, .int .i64 a.tag.1.1, .int .u32 a.tag.1.2, .int .i64 a.tag.2, .int .u32 a.st.1, .int .i64 a.st.2, .slice A l c], .agg #[.int .i64 b.act, .string (bs b.name), .int .i64 b.val, .int .i64 b.tag.1.1, .int .u32 b.tag.1.2, .int .i64 b.tag.2, .int .u32 b.st.1, .int .i64 b.st.2, .slice B m d]] w fun e w' => e = .returned (.bool (sameE a b)) ∧ Below w.heap.size w w' := by
 obtain ⟨a1, a2, a3, ⟨⟨a4, a5⟩, a6⟩, ⟨a7, a8⟩, a9⟩ := a
 obtain ⟨b1, b2, b3, ⟨⟨b4, b5⟩, b6⟩, ⟨b7, b8⟩, b9⟩ := b
 dsimp only at hA hB ⊢
 have hb0 : Below w.heap.size w ((w.alloc (.cells #[.int .i64 a1, .string (bs a2), .int .i64 a3, .int .i64 a4, .int .u32 a5, .int .i64 a6, .int .u32 a7, .int .i64 a8, .slice A l c] 136)).alloc (.cells #[.int .i64 b1, .string (bs b2), .int .i64 b3, .int .i64 b4, .int .u32 b5, .int .i64 b6, .int .u32 b7, .int .i64 b8, .slice B m d] 136)) := ((Below.refl _ w).alloc (Nat.le_refl _) _).alloc (by simp) _
 by_cases he : a1 = b1 ∧ a2 = b2 ∧ a3 = b3 ∧ a4 = b4 ∧ a5 = b5 ∧ a6 = b6 ∧ a7 = b7 ∧ a8 = b8
 ·
  obtain ⟨rfl, rfl, rfl, rfl, rfl, rfl, rfl, rfl⟩ := he
  have hs : sameE ⟨a1, a2, a3, ((a4, a5), a6), (a7, a8), a9⟩ ⟨a1, a2, a3, ((a4, a5), a6), (a7, a8), b9⟩ = decide (a9 = b9) := by simp [sameE]
  rw [hs]
  have cS := jH (fun w' (h : Below w.heap.size w w') => sametags_any A B l m c d a9 b9 w' ((hA.below h).more h.size) ((hB.below h).more h.size) hl hm)
  generalize decide (a9 = b9) = r at cS
  clear hs
  go_enter Tryz.func123, Tryz.ntmps123
  go_wp2_with fail
  refine (cS.out _ hb0).mono ?_
  rintro e w1 ⟨rfl, hb1⟩
  have hG := hb0.trans (hb1.mono hb0.size)
  go_wp2
  go_ret
  exact ⟨rfl, hG⟩
 ·
  have hs : sameE ⟨a1, a2, a3, ((a4, a5), a6), (a7, a8), a9⟩ ⟨b1, b2, b3, ((b4, b5), b6), (b7, b8), b9⟩ = false := by
   rw [Bool.eq_false_iff]
   intro h
   have h := sameE_iff.1 h
   injection h with h1 h2 h3 h4 h5 h6
   injection h4 with h41 h42
   injection h41 with h43 h44
   injection h5 with h51 h52
   exact he ⟨h1, h2, h3, h43, h44, h42, h51, h52⟩
  rw [hs]
  clear hs hA hB
  by_cases h1 : a1 = b1
  case neg =>
   clear he
   go_enter Tryz.func123, Tryz.ntmps123
   go_wp2
   go_ret
   exact ⟨rfl, hb0⟩
  subst h1
  by_cases h2 : a2 = b2
  case neg =>
   have h2b : ((bs a2).toList == (bs b2).toList) = false := by rw [bs_toL, bs_toL, beq_eq_false_iff_ne]; exact h2
   clear he
   go_enter Tryz.func123, Tryz.ntmps123
   go_wp2
   go_ret
   exact ⟨rfl, hb0⟩
  subst h2
  by_cases h3 : a3 = b3
  case neg =>
   clear he
   go_enter Tryz.func123, Tryz.ntmps123
   go_wp2
   go_ret
   exact ⟨rfl, hb0⟩
  subst h3
  by_cases h4 : a4 = b4
  case neg =>
   clear he
   go_enter Tryz.func123, Tryz.ntmps123
   go_wp2
   go_ret
   exact ⟨rfl, hb0⟩
  subst h4
  by_cases h5 : a5 = b5
  case neg =>
   clear he
   go_enter Tryz.func123, Tryz.ntmps123
   go_wp2
   go_ret
   exact ⟨rfl, hb0⟩
  subst h5
  by_cases h6 : a6 = b6
  case neg =>
   clear he
   go_enter Tryz.func123, Tryz.ntmps123
   go_wp2
   go_ret
   exact ⟨rfl, hb0⟩
  subst h6
  by_cases h7 : a7 = b7
  case neg =>
   clear he
   go_enter Tryz.func123, Tryz.ntmps123
   go_wp2
   go_ret
   exact ⟨rfl, hb0⟩
  subst h7
  have h8 : ¬ a8 = b8 := fun e => he ⟨rfl, rfl, rfl, rfl, rfl, rfl, rfl, e⟩
  clear he
  go_enter Tryz.func123, Tryz.ntmps123
  go_wp2
  go_ret
  exact ⟨rfl, hb0⟩
theorem samep_any (p q : Pe) (w : World) (hA : p.Ok w w.heap.size) (hB : q.Ok w w.heap.size) (hl : p.l ≤ maxLen) (hm : q.l ≤ maxLen) :
 Calls Tryz.prog 92 #[.agg #[.string (bs p.key), .int .i64 p.e.act, .string (bs p.e.name), .int .i64 p.e.val, .int .i64 p.e.tag.1.1, .int .u32 p.e.tag.1.2, .int .i64 p.e.tag.2, .int .u32 p.e.st.1, .int .i64 p.e.st.2, .slice p.A p.l p.c], .agg #[.string (bs q.key), .int .i64 q.e.act, .string (bs q.e.name), .int .i64 q.e.val, .int .i64 q.e.tag.1.1, .int .u32 q.e.tag.1.2, .int .i64 q.e.tag.2, .int .u32 q.e.st.1, .int .i64 q.e.st.2, .slice q.A q.l q.c]] w fun e w' => e = .returned (.bool (samePv p.core q.core)) ∧ Below w.heap.size w w' := by
 have hb0 : Below w.heap.size w ((w.alloc (.cells #[.string (bs p.key), .int .i64 p.e.act, .string (bs p.e.name), .int .i64 p.e.val, .int .i64 p.e.tag.1.1, .int .u32 p.e.tag.1.2, .int .i64 p.e.tag.2, .int .u32 p.e.st.1, .int .i64 p.e.st.2, .slice p.A p.l p.c] 138)).alloc (.cells #[.string (bs q.key), .int .i64 q.e.act, .string (bs q.e.name), .int .i64 q.e.val, .int .i64 q.e.tag.1.1, .int .u32 q.e.tag.1.2, .int .i64 q.e.tag.2, .int .u32 q.e.st.1, .int .i64 q.e.st.2, .slice q.A q.l q.c] 138)) := ((Below.refl _ w).alloc (Nat.le_refl _) _).alloc (by simp) _
 by_cases hk : p.key = q.key
 ·
  have hs : samePv p.core q.core = sameE p.e q.e := by simp [samePv, Pe.core, hk]
  rw [hs]
  have cS := jH (fun w' (h : Below w.heap.size w w') => samee_any p.e q.e p.A q.A p.l q.l p.c q.c w' ((RdT.below hA h).more h.size) ((RdT.below hB h).more h.size) hl hm)
  generalize sameE p.e q.e = r at cS
  have hkb : ((bs p.key).toList == (bs q.key).toList) = true := by rw [hk]; simp
  clear hs hk hA hB
  go_enter Tryz.func92, Tryz.ntmps92
  go_wp2_with fail
  refine (cS.out _ hb0).mono ?_
  rintro e w1 ⟨rfl, hb1⟩
  have hG := hb0.trans (hb1.mono hb0.size)
  go_wp2
  go_ret
  exact ⟨rfl, hG⟩
 ·
  have hs : samePv p.core q.core = false := by simp [samePv, Pe.core, hk]
  rw [hs]
  have hkb : ((bs p.key).toList == (bs q.key).toList) = false := by rw [bs_toL, bs_toL, beq_eq_false_iff_ne]; exact hk
  clear hs hk
  go_enter Tryz.func92, Tryz.ntmps92
  go_wp2
  go_ret
  exact ⟨rfl, hb0⟩
def sameTv (a b : Tv) : Bool := decide (a.id = b.id) && eqV a.deps b.deps && decide (a.thin = b.thin) && samePs a.parts b.parts
theorem sameTv_iff {a b : Tv} : sameTv a b = true ↔ a = b := by
 cases a; cases b
 simp [sameTv, eqV_iff, samePs_iff, and_assoc]
theorem samePs_at : ∀ {l m : List Pv} {k : Nat} {a b : Pv}, l[k]? = some a → m[k]? = some b → samePv a b = false → samePs l m = false
 | l, m, k, a, b, h1, h2, h3 => by
  rw [Bool.eq_false_iff]
  intro h
  obtain rfl := samePs_iff.1 h
  rw [h1] at h2
  injection h2 with h2
  subst h2
  rw [samePv_iff.2 rfl] at h3
  cases h3
theorem samePs_len {l m : List Pv} (h : l.length ≠ m.length) : samePs l m = false := by
 rw [Bool.eq_false_iff]
 intro h2
 exact h (by rw [samePs_iff.1 h2])
theorem txsame_any (x : Im) (v : Vm) (t : Bool) (A : Option Addr) (n c : Nat) (ps : List Pe) (y : Im) (u : Vm) (s : Bool) (B : Option Addr) (m d : Nat) (qs : List Pe) (w : World) (hA : RdE w w.heap.size A n ps) (hB : RdE w w.heap.size B m qs) (hn : n ≤ maxLen) (hm : m ≤ maxLen) (hpl : ∀ p ∈ ps, p.l ≤ maxLen) (hql : ∀ p ∈ qs, p.l ≤ maxLen) :
 Calls Tryz.prog 47 #[.agg #[.int .i64 x.1, .int .u32 x.2, .int .u32 v.d0, .int .u32 v.d1, .int .u32 v.d2, .int .u32 v.d3, .int .u32 v.d4, .int .u32 v.d5, .int .u32 v.d6, .int .u32 v.d7, .bool t, .slice A n c], .agg #[.int .i64 y.1, .int .u32 y.2, .int .u32 u.d0, .int .u32 u.d1, .int .u32 u.d2, .int .u32 u.d3, .int .u32 u.d4, .int .u32 u.d5, .int .u32 u.d6, .int .u32 u.d7, .bool s, .slice B m d]] w fun e w' => e = .returned (.bool (sameTv ⟨x, v, t, ps.map Pe.core⟩ ⟨y, u, s, qs.map Pe.core⟩)) ∧ Below w.heap.size w w' := by
 unfold maxLen at hn hm
 have hl := hA.len
 have hl2 := hB.len
 have hb0 : Below w.heap.size w ((w.alloc (.cells #[.int .i64 x.1, .int .u32 x.2, .int .u32 v.d0, .int .u32 v.d1, .int .u32 v.d2, .int .u32 v.d3, .int .u32 v.d4, .int .u32 v.d5, .int .u32 v.d6, .int .u32 v.d7, .bool t, .slice A n c] 31)).alloc (.cells #[.int .i64 y.1, .int .u32 y.2, .int .u32 u.d0, .int .u32 u.d1, .int .u32 u.d2, .int .u32 u.d3, .int .u32 u.d4, .int .u32 u.d5, .int .u32 u.d6, .int .u32 u.d7, .bool s, .slice B m d] 31)) := ((Below.refl _ w).alloc (Nat.le_refl _) _).alloc (by simp) _
 have hbA : ((w.alloc (.cells #[.int .i64 x.1, .int .u32 x.2, .int .u32 v.d0, .int .u32 v.d1, .int .u32 v.d2, .int .u32 v.d3, .int .u32 v.d4, .int .u32 v.d5, .int .u32 v.d6, .int .u32 v.d7, .bool t, .slice A n c] 31)).alloc (.cells #[.int .i64 y.1, .int .u32 y.2, .int .u32 u.d0, .int .u32 u.d1, .int .u32 u.d2, .int .u32 u.d3, .int .u32 u.d4, .int .u32 u.d5, .int .u32 u.d6, .int .u32 u.d7, .bool s, .slice B m d] 31)).heap[w.heap.size]? = some (.cells #[.int .i64 x.1, .int .u32 x.2, .int .u32 v.d0, .int .u32 v.d1, .int .u32 v.d2, .int .u32 v.d3, .int .u32 v.d4, .int .u32 v.d5, .int .u32 v.d6, .int .u32 v.d7, .bool t, .slice A n c] 31 (0, 0)) := yE _ (by simp) (jT _ _ rfl)
 have hbB : ((w.alloc (.cells #[.int .i64 x.1, .int .u32 x.2, .int .u32 v.d0, .int .u32 v.d1, .int .u32 v.d2, .int .u32 v.d3, .int .u32 v.d4, .int .u32 v.d5, .int .u32 v.d6, .int .u32 v.d7, .bool t, .slice A n c] 31)).alloc (.cells #[.int .i64 y.1, .int .u32 y.2, .int .u32 u.d0, .int .u32 u.d1, .int .u32 u.d2, .int .u32 u.d3, .int .u32 u.d4, .int .u32 u.d5, .int .u32 u.d6, .int .u32 u.d7, .bool s, .slice B m d] 31)).heap[w.heap.size + 1]? = some (.cells #[.int .i64 y.1, .int .u32 y.2, .int .u32 u.d0, .int .u32 u.d1, .int .u32 u.d2, .int .u32 u.d3, .int .u32 u.d4, .int .u32 u.d5, .int .u32 u.d6, .int .u32 u.d7, .bool s, .slice B m d] 31 (0, 0)) := jT _ _ (by simp)
 generalize hW : ((w.alloc (.cells #[.int .i64 x.1, .int .u32 x.2, .int .u32 v.d0, .int .u32 v.d1, .int .u32 v.d2, .int .u32 v.d3, .int .u32 v.d4, .int .u32 v.d5, .int .u32 v.d6, .int .u32 v.d7, .bool t, .slice A n c] 31)).alloc (.cells #[.int .i64 y.1, .int .u32 y.2, .int .u32 u.d0, .int .u32 u.d1, .int .u32 u.d2, .int .u32 u.d3, .int .u32 u.d4, .int .u32 u.d5, .int .u32 u.d6, .int .u32 u.d7, .bool s, .slice B m d] 31)) = W at hb0 hbA hbB
 generalize hr : sameTv ⟨x, v, t, ps.map Pe.core⟩ ⟨y, u, s, qs.map Pe.core⟩ = r
 unfold sameTv at hr
 dsimp only at hr
 have hltA := jB hbA
 have hltB := jB hbB
 have q0 := jA hbA 0
 have q1 := jA hbA 1
 have q2 := jA hbA 2
 have q3 := jA hbA 3
 have q4 := jA hbA 4
 have q5 := jA hbA 5
 have q6 := jA hbA 6
 have q7 := jA hbA 7
 have q8 := jA hbA 8
 have q9 := jA hbA 9
 have q10 := jA hbA 10
 have q11 := jA hbA 11
 simp at q0 q1 q2 q3 q4 q5 q6 q7 q8 q9 q10 q11
 have s0 := jA hbB 0
 have s1 := jA hbB 1
 have s2 := jA hbB 2
 have s3 := jA hbB 3
 have s4 := jA hbB 4
 have s5 := jA hbB 5
 have s6 := jA hbB 6
 have s7 := jA hbB 7
 have s8 := jA hbB 8
 have s9 := jA hbB 9
 have s10 := jA hbB 10
 have s11 := jA hbB 11
 simp at s0 s1 s2 s3 s4 s5 s6 s7 s8 s9 s10 s11
 have hbAH := jH hbA
 have hbBH := jH hbB
 have hne := neqV2 v u
 have hrH := jH hr
 clear hbA hbB hr
 obtain ⟨x1, x2⟩ := x
 obtain ⟨y1, y2⟩ := y
 dsimp only at *
 by_cases h1 : x1 = y1
 case neg =>
  have hT : Hid (false = r) := jH (by rw [← hrH.out]; simp [h1])
  clear hne
  go_enter Tryz.func47, Tryz.ntmps47
  go_wp2
  go_ret
  exact ⟨jY hT.out, hb0⟩
 subst h1
 by_cases h2 : x2 = y2
 case neg =>
  have hT : Hid (false = r) := jH (by rw [← hrH.out]; simp [h2])
  clear hne
  go_enter Tryz.func47, Tryz.ntmps47
  go_wp2
  go_ret
  exact ⟨jY hT.out, hb0⟩
 subst h2
 cases hv : eqV v u with
 | false =>
  rw [hv] at hne
  have hT : Hid (false = r) := jH (by rw [← hrH.out, hv]; simp)
  clear hv
  go_enter Tryz.func47, Tryz.ntmps47
  go_wp2
  go_ret
  exact ⟨jY hT.out, hb0⟩
 | true =>
 rw [hv] at hne
 by_cases h3 : t = s
 case neg =>
  have hT : Hid (false = r) := jH (by rw [← hrH.out]; simp [h3])
  clear hv
  have h4 : (t != s) = true := by simpa using h3
  cases t <;> cases s <;> first | exact absurd rfl h3 | skip
  all_goals
   go_enter Tryz.func47, Tryz.ntmps47
   go_wp2
   go_ret
   exact ⟨jY hT.out, hb0⟩
 subst h3
 have hrP : Hid (samePs (ps.map Pe.core) (qs.map Pe.core) = r) := jH (by rw [← hrH.out, hv]; simp)
 have htt : (t != t) = false := by simp
 clear hv
 by_cases hnm : n = m
 case neg =>
  have hT : Hid (false = r) := jH (by rw [← hrP.out]; symm; apply samePs_len; rw [List.length_map, List.length_map, hl, hl2]; exact hnm)
  have hnm2 : ((n : Int) != (m : Int)) = true := by simp; omega
  clear hnm
  go_enter Tryz.func47, Tryz.ntmps47
  go_wp2
  go_ret
  exact ⟨jY hT.out, hb0⟩
 subst hnm
 have hAr := jH (fun w' (h : Below w.heap.size w w') => hA.below h)
 have hBr := jH (fun w' (h : Below w.heap.size w w') => hB.below h)
 have hlH := jH hl
 have hl2H := jH hl2
 have hplH := jH hpl
 have hqlH := jH hql
 clear hA hB hl hl2 hpl hql
 go_enter Tryz.func47, Tryz.ntmps47
 go_wp2_with fail
 clear q0 q1 q2 q3 q4 q5 q6 q7 q8 q9 q10 q11 s0 s1 s2 s3 s4 s5 s6 s7 s8 s9 s10 s11 hne
 go_loopg [5] (n + 1) (fun g i wr => ∃ k : Nat, k ≤ n ∧ g = n + 1 - k ∧ i = .int .i64 (k : Int) ∧ (∀ j, j < k → (ps.map Pe.core)[j]? = (qs.map Pe.core)[j]?) ∧ Below W.heap.size W wr)
 case atStart => exact ⟨0, Nat.zero_le _, rfl, rfl, by simp, Below.refl _ _⟩
 case round =>
  obtain ⟨k, hk, rfl, rfl, htk, hbr⟩ := hrel
  have hG := hb0.trans (hbr.mono hb0.size)
  have hz := hG.size
  have hbA1 := jD hbAH.out hbr
  have hbB1 := jD hbBH.out hbr
  have hltA1 := jB hbA1
  have hltB1 := jB hbB1
  have s11 := jA hbA1 11
  have t11 := jA hbB1 11
  simp at s11 t11
  clear hbA1 hbB1
  have htkH := jH htk
  clear htk
  by_cases hlt : k < n
  ·
   have hAw := hAr.out wr hG
   have hBw := hBr.out wr hG
   obtain ⟨bA, oA, p, rfl, hbA, hp, hcp⟩ := hAw.1.at_ hlt
   obtain ⟨bB, oB, q, rfl, hbB, hq, hcq⟩ := hBw.1.at_ hlt
   have p0 := hcp 0 _ rfl
   have p1 := hcp 1 _ rfl
   have p2 := hcp 2 _ rfl
   have p3 := hcp 3 _ rfl
   have p4 := hcp 4 _ rfl
   have p5 := hcp 5 _ rfl
   have p6 := hcp 6 _ rfl
   have p7 := hcp 7 _ rfl
   have p8 := hcp 8 _ rfl
   have p9 := hcp 9 _ rfl
   have q0 := hcq 0 _ rfl
   have q1 := hcq 1 _ rfl
   have q2 := hcq 2 _ rfl
   have q3 := hcq 3 _ rfl
   have q4 := hcq 4 _ rfl
   have q5 := hcq 5 _ rfl
   have q6 := hcq 6 _ rfl
   have q7 := hcq 7 _ rfl
   have q8 := hcq 8 _ rfl
   have q9 := hcq 9 _ rfl
   rw [Nat.add_zero] at p0 q0
   clear hcp hcq
   have hbA2 : bA < wr.heap.size := by omega
   have hbB2 : bB < wr.heap.size := by omega
   have hlti : (k : Int) < (n : Int) := by omega
   have hpm := List.mem_of_getElem? hp
   have hqm := List.mem_of_getElem? hq
   have hpo := hAw.2 p hpm
   have hqo := hBw.2 q hqm
   have hp1 : (ps.map Pe.core)[k]? = some p.core := by rw [List.getElem?_map, hp]; rfl
   have hq1 : (qs.map Pe.core)[k]? = some q.core := by rw [List.getElem?_map, hq]; rfl
   have cP := jH (fun w' (h : KQ wr.heap.size wr w') => samep_any p q w' ((hpo.below (h.1.mono hz)).more (Nat.le_trans hz h.1.size)) ((hqo.below (h.1.mono hz)).more (Nat.le_trans hz h.1.size)) (hplH.out p hpm) (hqlH.out q hqm))
   have hpH := jH hp1
   have hqH := jH hq1
   clear hp hq hpm hqm hpo hqo hp1 hq1 hAw hBw
   have hq0 : KQ wr.heap.size wr wr := kq (Below.refl _ _)
   cases hs : samePv p.core q.core with
   | true =>
    rw [hs] at cP
    have hT : Hid (∀ j, j < k + 1 → (ps.map Pe.core)[j]? = (qs.map Pe.core)[j]?) := jH (fun j hj => by
     by_cases hjk : j < k
     ·
      exact htkH.out j hjk
     ·
      obtain rfl : j = k := by omega
      rw [hpH.out, hqH.out, samePv_iff.1 hs])
    clear hs
    go_wp2_with fail
    go_region_held3 (fun w' => KQ wr.heap.size wr w') (first
     | with_reducible exact jP (by assumption) (by simp) (by assumption)
     | with_reducible exact yB (by assumption) (by simp) (by assumption) (by simp [Value.ownBlock])
     | ((
     with_reducible refine kq ?_); (repeat (first | (with_reducible exact Below.refl _ _) | (with_reducible refine Below.drew ?_) | (with_reducible refine Below.alloc ?_ (by simp) _) | (with_reducible refine Below.setCell ?_ (by simp) _) | (with_reducible exact (by assumption : KQ _ _ _).1))); done))
     (first
      | (go_at_call 92; ((with_reducible refine (cP.out _ (by with_reducible assumption)).mono ?_); rintro e w1 ⟨rfl, hb1⟩)))
    have hF : KQ wr.heap.size wr w1 := by with_reducible assumption
    have hGr := hbr.trans (hF.1.mono hbr.size)
    clear hF
    go_wp2
    go_roundg (n + 1 - (k + 1))
    case measure => omega
    case rel => exact ⟨k + 1, by omega, rfl, by go_num, hT.out, hGr⟩
   | false =>
    rw [hs] at cP
    have hT : Hid (false = r) := jH (by rw [← hrP.out]; exact (samePs_at hpH.out hqH.out hs).symm)
    clear hs
    go_wp2_with fail
    go_region_held3 (fun w' => KQ wr.heap.size wr w') (first
     | with_reducible exact jP (by assumption) (by simp) (by assumption)
     | with_reducible exact yB (by assumption) (by simp) (by assumption) (by simp [Value.ownBlock])
     | ((
     with_reducible refine kq ?_); (repeat (first | (with_reducible exact Below.refl _ _) | (with_reducible refine Below.drew ?_) | (with_reducible refine Below.alloc ?_ (by simp) _) | (with_reducible refine Below.setCell ?_ (by simp) _) | (with_reducible exact (by assumption : KQ _ _ _).1))); done))
     (first
      | (go_at_call 92; ((with_reducible refine (cP.out _ (by with_reducible assumption)).mono ?_); rintro e w1 ⟨rfl, hb1⟩)))
    have hF : KQ wr.heap.size wr w1 := by with_reducible assumption
    have hGr := hG.trans (hF.1.mono hz)
    clear hF
    go_wp2
    go_ret
    exact ⟨jY hT.out, hGr⟩
  ·
   obtain rfl : k = n := by omega
   have hT : Hid (true = r) := jH (by
    rw [← hrP.out]; symm; apply samePs_iff.2
    apply List.ext_getElem?
    intro j
    by_cases hj : j < k
    ·
     exact htkH.out j hj
    ·
     rw [List.getElem?_eq_none (by rw [List.length_map, hlH.out]; omega), List.getElem?_eq_none (by rw [List.length_map, hl2H.out]; omega)])
   have hnli : ¬ (k : Int) < (k : Int) := by omega
   go_wp2
   go_ret
   exact ⟨jY hT.out, hG⟩
theorem fgreat12_any (A B : Option Addr) (n m c d : Nat) (w : World) :
 Calls Tryz.prog 112 #[.agg #[.slice A n c, .slice B m d]] w fun e w' => e = .returned (.bool (decide (200 < n) || decide (200 < m))) ∧ Below w.heap.size w w' := by
 go_enter Tryz.func112, Tryz.ntmps112
 go_wp2
 all_goals
  go_ret
  refine ⟨jY ?_, (Below.refl _ _).alloc (Nat.le_refl _) _⟩
  rw [Bool.eq_iff_iff]
  simp only [Bool.or_eq_true, decide_eq_true_eq, true_iff]
  omega
theorem fgreat13_any (A B : Option Addr) (n m c d : Nat) (w : World) :
 Calls Tryz.prog 113 #[.agg #[.slice A n c, .slice B m d]] w fun e w' => e = .returned (.bool (decide (100 < n) || decide (200 < m))) ∧ Below w.heap.size w w' := by
 go_enter Tryz.func113, Tryz.ntmps113
 go_wp2
 all_goals
  go_ret
  refine ⟨jY ?_, (Below.refl _ _).alloc (Nat.le_refl _) _⟩
  rw [Bool.eq_iff_iff]
  simp only [Bool.or_eq_true, decide_eq_true_eq, true_iff]
  omega
def fgr14 (l : Nat) (nm : ByteArray) : Bool := decide (100 < l) || decide (1000 < nm.size)
theorem fgreat14_any (a v o s n t ao : Int) (nm : ByteArray) (A : Option Addr) (l c : Nat) (k r0 r1 r2 n0 n1 : Value) (w : World) :
 Calls Tryz.prog 79 #[.agg #[k, r0, r1, r2, n0, n1, .slice none 0 0, .slice none 0 0, .slice none 0 0, .slice none 0 0],
  .agg #[.int .i64 a, .string nm, .int .i64 v, .int .i64 o, .int .u32 s, .int .i64 n, .int .u32 t, .int .i64 ao, .slice A l c]] w
  fun e w' => e = .returned (.bool (fgr14 l nm)) ∧ Below w.heap.size w w' := by
 go_enter Tryz.func79, Tryz.ntmps79
 go_wp2_with fail
 refine (fgreat12_any _ _ _ _ _ _ _).mono ?_
 rintro e w1 ⟨rfl, hb1⟩
 obtain ⟨hc1, hf1⟩ := bcell hb1
 have hz1 := hb1.size
 simp only [World.size_alloc] at hz1
 have hz2 : w.heap.size < w1.heap.size := by omega
 have hz3 : w.heap.size + 1 < w1.heap.size := by omega
 go_wp2_with fail
 refine (fgreat13_any _ _ _ _ _ _ _).mono ?_
 rintro e w2 ⟨rfl, hb2⟩
 obtain ⟨hc2, hf2⟩ := bcell hb2
 go_wp2
 all_goals
  go_ret
  refine ⟨jY ?_, (((Below.refl _ _).alloc (Nat.le_refl _) _).alloc (by simp) _).trans ((hb1.mono (by simp; omega)).trans (hb2.mono (by omega)))⟩
  rw [Bool.eq_iff_iff]
  simp only [fgr14, Bool.or_eq_true, decide_eq_true_eq, true_iff]
  omega
def fgr15 (ps : List Pe) : Bool := decide (30 < ps.length) || ps.any fun p => decide (500 < (bs p.key).size) || fgr14 p.l (bs p.e.name)
theorem fgreat15_any (h0 h1 h2 h3 h4 h5 h6 h7 h8 h9 h10 : Value) (A : Option Addr) (n c : Nat) (ps : List Pe) (w : World)
 (hA : Rd w w.heap.size 10 A n (ps.map Pe.enc)) (hn : n ≤ maxLen) :
 Calls Tryz.prog 25 #[.agg #[h0, h1, h2, h3, h4, h5, h6, h7, h8, h9, h10, .slice A n c]] w
  fun e w' => e = .returned (.bool (fgr15 ps)) ∧ Below w.heap.size w w' := by
 unfold maxLen at hn
 have hl := hA.len
 by_cases h30 : 30 < n
 ·
  go_enter Tryz.func25, Tryz.ntmps25
  go_wp2
  go_ret
  refine ⟨jY ?_, (Below.refl _ _).alloc (Nat.le_refl _) _⟩
  simp [fgr15, hl, h30]
 go_enter Tryz.func25, Tryz.ntmps25
 go_wp2
 go_loopg [3] (n + 1) (fun g i wr => ∃ k : Nat, k ≤ n ∧ g = n + 1 - k ∧ i = .int .i64 k ∧ (∀ p ∈ ps.take k, (decide (500 < (bs p.key).size) || fgr14 p.l (bs p.e.name)) = false) ∧
  Below (w.heap.size + 1) (w.alloc (.cells #[h0, h1, h2, h3, h4, h5, h6, h7, h8, h9, h10, .slice A n c] 31)) wr)
 case atStart => exact ⟨0, Nat.zero_le _, rfl, rfl, by simp, Below.refl _ _⟩
 case round =>
  obtain ⟨k, hk, rfl, rfl, hno, hbr⟩ := hrel
  obtain ⟨hc, hf⟩ := bcell hbr
  have hz := hbr.size
  simp only [World.size_alloc] at hz
  have hz1 : w.heap.size < wr.heap.size := by omega
  have hl := jH hl
  by_cases hlt : k < n
  ·
   obtain ⟨bA, oA, p, rfl, hbA, hp, hcp⟩ := hA.at_ hlt
   have p0 := hcp 0 _ rfl
   have p1 := hcp 1 _ rfl
   have p2 := hcp 2 _ rfl
   have p3 := hcp 3 _ rfl
   have p4 := hcp 4 _ rfl
   have p5 := hcp 5 _ rfl
   have p6 := hcp 6 _ rfl
   have p7 := hcp 7 _ rfl
   have p8 := hcp 8 _ rfl
   have p9 := hcp 9 _ rfl
   rw [Nat.add_zero] at p0
   clear hcp
   have hpm : p ∈ ps := List.mem_of_getElem? hp
   have hy : bA < wr.heap.size := by omega
   by_cases hkey : 500 < ((bs p.key).size : Int)
   ·
    have hT : Hid (fgr15 ps = true) := by
     show fgr15 ps = true
     have : (ps.any fun p => decide (500 < (bs p.key).size) || fgr14 p.l (bs p.e.name)) = true := List.any_eq_true.2 ⟨p, hpm, by simp; left; omega⟩
     simp [fgr15, this]
    go_wp2
    go_ret
    exact ⟨jY hT.out.symm, ((Below.refl _ w).alloc (Nat.le_refl _) _).trans (hbr.mono (by omega))⟩
   ·
    go_wp2_with fail
    refine (fgreat14_any _ _ _ _ _ _ _ _ _ _ _ _ _ _ _ _ _ _).mono ?_
    rintro e w1 ⟨rfl, hb1⟩
    have hb2 : Below (w.heap.size + 1) (w.alloc (.cells #[h0, h1, h2, h3, h4, h5, h6, h7, h8, h9, h10, .slice (some ⟨bA, oA, none⟩) n c] 31)) w1 := hbr.trans (hb1.mono (by omega))
    generalize hg : fgr14 p.l (bs p.e.name) = r
    cases r
    case true =>
     have hT : Hid (fgr15 ps = true) := by
      show fgr15 ps = true
      have : (ps.any fun p => decide (500 < (bs p.key).size) || fgr14 p.l (bs p.e.name)) = true := List.any_eq_true.2 ⟨p, hpm, by simp [hg]⟩
      simp [fgr15, this]
     clear hg
     go_wp2
     go_ret
     exact ⟨jY hT.out.symm, ((Below.refl _ w).alloc (Nat.le_refl _) _).trans (hb2.mono (by omega))⟩
    case false =>
     have hT : Hid ((decide (500 < (bs p.key).size) || fgr14 p.l (bs p.e.name)) = false) := by
      show (decide (500 < (bs p.key).size) || fgr14 p.l (bs p.e.name)) = false
      simp [hg]; omega
     clear hg
     go_wp2
     go_roundg (n + 1 - (k + 1))
     case measure => omega
     case rel => exact ⟨k + 1, by omega, rfl, by go_num, all_take_succ hno hp hT.out, hb2⟩
  ·
   have hT : Hid (fgr15 ps = false) := by
    show fgr15 ps = false
    have hall := all_take_all (by rw [show k = n from by omega] at hno; exact hno) hA.len
    have : (ps.any fun p => decide (500 < (bs p.key).size) || fgr14 p.l (bs p.e.name)) = false := by
     rw [← Bool.not_eq_true]
     intro h
     obtain ⟨p, h1, h2⟩ := List.any_eq_true.1 h
     rw [hall p h1] at h2
     cases h2
    simp only [fgr15, this, Bool.or_false, decide_eq_false_iff_not]
    rw [hl.out]
    exact h30
   go_wp2
   go_ret
   exact ⟨jY hT.out.symm, ((Below.refl _ w).alloc (Nat.le_refl _) _).trans (hbr.mono (by omega))⟩
def okPs (a b : Nat) (ps : List Pv) : Prop := ∀ p ∈ ps, p.1.length ≤ a ∧ p.2.tags.length ≤ b ∧ p.2.name.length ≤ 1000
theorem RdE.l {w : World} {B n : Nat} {A : Option Addr} {ps : List Pe} (h : RdE w B A n ps) : ∀ p ∈ ps, p.l = p.e.tags.length := fun p hp => (RdT.len (h.2 p hp)).symm
theorem okPs.pe {a b : Nat} {ps : List Pe} (h : okPs a b (ps.map Pe.core)) : ∀ p ∈ ps, p.key.length ≤ a ∧ p.e.tags.length ≤ b := fun p hp => by
 have := h p.core (List.mem_map.2 ⟨p, hp, rfl⟩)
 exact ⟨this.1, this.2.1⟩
theorem okPs.le {a b : Nat} {w : World} {B n : Nat} {A : Option Addr} {ps : List Pe} (h : okPs a b (ps.map Pe.core)) (hr : RdE w B A n ps) : ∀ p ∈ ps, p.l ≤ b := fun p hp => by rw [hr.l p hp]; exact (h.pe p hp).2
theorem fgr15_no {w : World} {B n : Nat} {A : Option Addr} {ps : List Pe} (hr : RdE w B A n ps) (h : fgr15 ps = false) : n ≤ 30 ∧ okPs 500 100 (ps.map Pe.core) := by
 unfold fgr15 at h
 rw [Bool.or_eq_false_iff, decide_eq_false_iff_not, List.any_eq_false] at h
 refine ⟨by rw [← hr.len]; omega, fun q hq => ?_⟩
 obtain ⟨p, hp, rfl⟩ := List.mem_map.1 hq
 have h2 := h.2 p hp
 have h3 := hr.l p hp
 simp only [fgr14, Bool.or_eq_true, decide_eq_true_eq, not_or, jG] at h2
 exact ⟨by show p.key.length ≤ 500; omega, by show p.e.tags.length ≤ 100; omega, by show p.e.name.length ≤ 1000; omega⟩
end Go.Proofs.YtfhandglpjnonaaGreatDoor
