/- inst.sameTx: its function value (are two parts the same?). inst.sameTx: the library's EqualFunc at parts; are two transactions the same? -/
import Derived.Test.YtfhandglpjnonaaGreatDoorN08
import Derived.Test.YtfhandglpjnonaaGreatDoorM40
import Derived.Test.YtfhandglpjnonaaGreatDoorM39
set_option maxRecDepth 100000
set_option maxHeartbeats 16000000
namespace Go.Proofs.YtfhandglpjnonaaGreatDoor
open Go.RowKit
theorem psameI_any (p q : Pe) (w : World) (hA : p.Ok w w.heap.size) (hB : q.Ok w w.heap.size) (hl : p.l ≤ maxLen) (hm : q.l ≤ maxLen) :
 Calls Tryz.prog 89 #[.agg #[.string (bs p.key), .int .i64 p.e.act, .string (bs p.e.name), .int .i64 p.e.val, .int .i64 p.e.tag.1.1, .int .u32 p.e.tag.1.2, .int .i64 p.e.tag.2, .int .u32 p.e.st.1, .int .i64 p.e.st.2, .slice p.A p.l p.c], .agg #[.string (bs q.key), .int .i64 q.e.act, .string (bs q.e.name), .int .i64 q.e.val, .int .i64 q.e.tag.1.1, .int .u32 q.e.tag.1.2, .int .i64 q.e.tag.2, .int .u32 q.e.st.1, .int .i64 q.e.st.2, .slice q.A q.l q.c]] w fun e w' => e = .returned (.bool (samePv p.core q.core)) ∧ Below w.heap.size w w' := by
 obtain ⟨ak, ⟨a1, a2, a3, ⟨⟨a4, a5⟩, a6⟩, ⟨a7, a8⟩, a9⟩, A, l, c⟩ := p
 obtain ⟨bk, ⟨b1, b2, b3, ⟨⟨b4, b5⟩, b6⟩, ⟨b7, b8⟩, b9⟩, B, m, d⟩ := q
 have hA : RdT w w.heap.size A l a9 := hA
 have hB : RdT w w.heap.size B m b9 := hB
 dsimp only at hl hm ⊢
 have cS := jH (fun w' (h : Below w.heap.size w w') => equalT_any A B l m c d a9 b9 w' ((hA.below h).more h.size) ((hB.below h).more h.size) hl hm)
 have hb0 : Below w.heap.size w ((w.alloc (.cells #[.string (bs ak), .int .i64 a1, .string (bs a2), .int .i64 a3, .int .i64 a4, .int .u32 a5, .int .i64 a6, .int .u32 a7, .int .i64 a8, .slice A l c] 159)).alloc (.cells #[.string (bs bk), .int .i64 b1, .string (bs b2), .int .i64 b3, .int .i64 b4, .int .u32 b5, .int .i64 b6, .int .u32 b7, .int .i64 b8, .slice B m d] 159)) := ((Below.refl _ w).alloc (Nat.le_refl _) _).alloc (by simp) _
 have hbp : ((w.alloc (.cells #[.string (bs ak), .int .i64 a1, .string (bs a2), .int .i64 a3, .int .i64 a4, .int .u32 a5, .int .i64 a6, .int .u32 a7, .int .i64 a8, .slice A l c] 159)).alloc (.cells #[.string (bs bk), .int .i64 b1, .string (bs b2), .int .i64 b3, .int .i64 b4, .int .u32 b5, .int .i64 b6, .int .u32 b7, .int .i64 b8, .slice B m d] 159)).heap[w.heap.size]? = some (.cells #[.string (bs ak), .int .i64 a1, .string (bs a2), .int .i64 a3, .int .i64 a4, .int .u32 a5, .int .i64 a6, .int .u32 a7, .int .i64 a8, .slice A l c] 159 (0, 0)) := yE _ (by simp) (jT _ _ rfl)
 have hbq : ((w.alloc (.cells #[.string (bs ak), .int .i64 a1, .string (bs a2), .int .i64 a3, .int .i64 a4, .int .u32 a5, .int .i64 a6, .int .u32 a7, .int .i64 a8, .slice A l c] 159)).alloc (.cells #[.string (bs bk), .int .i64 b1, .string (bs b2), .int .i64 b3, .int .i64 b4, .int .u32 b5, .int .i64 b6, .int .u32 b7, .int .i64 b8, .slice B m d] 159)).heap[w.heap.size + 1]? = some (.cells #[.string (bs bk), .int .i64 b1, .string (bs b2), .int .i64 b3, .int .i64 b4, .int .u32 b5, .int .i64 b6, .int .u32 b7, .int .i64 b8, .slice B m d] 159 (0, 0)) := jT _ _ (by simp)
 clear hA hB
 generalize hWe : ((w.alloc (.cells #[.string (bs ak), .int .i64 a1, .string (bs a2), .int .i64 a3, .int .i64 a4, .int .u32 a5, .int .i64 a6, .int .u32 a7, .int .i64 a8, .slice A l c] 159)).alloc (.cells #[.string (bs bk), .int .i64 b1, .string (bs b2), .int .i64 b3, .int .i64 b4, .int .u32 b5, .int .i64 b6, .int .u32 b7, .int .i64 b8, .slice B m d] 159)) = W at hb0 hbp hbq
 have hz0 := hb0.size
 have p0 := jA hbp 0
 have p1 := jA hbp 1
 have p2 := jA hbp 2
 have p3 := jA hbp 3
 have p4 := jA hbp 4
 have p5 := jA hbp 5
 have p6 := jA hbp 6
 have p7 := jA hbp 7
 have p8 := jA hbp 8
 have p9 := jA hbp 9
 have q0 := jA hbq 0
 have q1 := jA hbq 1
 have q2 := jA hbq 2
 have q3 := jA hbq 3
 have q4 := jA hbq 4
 have q5 := jA hbq 5
 have q6 := jA hbq 6
 have q7 := jA hbq 7
 have q8 := jA hbq 8
 have q9 := jA hbq 9
 simp at p0 p1 p2 p3 p4 p5 p6 p7 p8 p9 q0 q1 q2 q3 q4 q5 q6 q7 q8 q9
 have hlp := jB hbp
 have hlq := jB hbq
 go_enter Tryz.func89, Tryz.ntmps89
 go_upto_region 1 with (fail)
 go_cut [5, 6] (fun s5 s6 wx => ∃ g5 g6 : Nat, s5 = .pointer (some ⟨g5, 0, none⟩) ∧ s6 = .pointer (some ⟨g6, 0, none⟩) ∧ Below W.heap.size W wx ∧ wx.heap[g5]? = some (.cells #[.int .i64 a1, .string (bs a2), .int .i64 a3, .int .i64 a4, .int .u32 a5, .int .i64 a6, .int .u32 a7, .int .i64 a8, .slice A l c] 156 (0, 0)) ∧ wx.heap[g6]? = some (.cells #[.int .i64 b1, .string (bs b2), .int .i64 b3, .int .i64 b4, .int .u32 b5, .int .i64 b6, .int .u32 b7, .int .i64 b8, .slice B m d] 156 (0, 0)))
 case first =>
  go_wp2_with fail
  go_region
  all_goals
   go_wp2
   go_meet
   refine ⟨_, _, rfl, rfl, ?_, ?_, ?_⟩
   ·
    (repeat (first | (with_reducible exact Below.refl _ _) | (with_reducible refine Below.drew ?_) | (with_reducible refine Below.alloc ?_ (by simp) _) | (with_reducible refine Below.setCell ?_ (by simp) _) | (with_reducible exact (by assumption : KQ _ _ _).1))); done
   all_goals (first | exact heap_drew (jT _ _ (by simp; done)) | exact heap_drew (jT _ _ rfl) | exact heap_drew (yE _ (by simp; done) (jT _ _ rfl)) | exact heap_drew (yE _ (by simp; done) (jT _ _ (by simp; done))) | exact jT _ _ (by simp; done) | exact yE _ (by simp; done) (jT _ _ (by simp; done)) | fail)
 case rest =>
 obtain ⟨g5, g6, rfl, rfl, hbW, hg5, hg6⟩ := hcut
 have hbx := hb0.trans (hbW.mono hz0)
 have hbp1 := jD hbp hbW
 have hbq1 := jD hbq hbW
 clear p0 p1 p2 p3 p4 p5 p6 p7 p8 p9 q0 q1 q2 q3 q4 q5 q6 q7 q8 q9 hlp hlq
 have p0 := jA hbp1 0
 have q0 := jA hbq1 0
 have x0 := jA hg5 0
 have x1 := jA hg5 1
 have x2 := jA hg5 2
 have x3 := jA hg5 3
 have x4 := jA hg5 4
 have x5 := jA hg5 5
 have x6 := jA hg5 6
 have x7 := jA hg5 7
 have x8 := jA hg5 8
 have y0 := jA hg6 0
 have y1 := jA hg6 1
 have y2 := jA hg6 2
 have y3 := jA hg6 3
 have y4 := jA hg6 4
 have y5 := jA hg6 5
 have y6 := jA hg6 6
 have y7 := jA hg6 7
 have y8 := jA hg6 8
 simp at p0 q0 x0 x1 x2 x3 x4 x5 x6 x7 x8 y0 y1 y2 y3 y4 y5 y6 y7 y8
 have hlp := jB hbp1
 have hlq := jB hbq1
 have hl5 := jB hg5
 have hl6 := jB hg6
 clear hbp hbq hbp1 hbq1 hg5 hg6
 by_cases he : a1 = b1 ∧ a2 = b2 ∧ a3 = b3 ∧ a4 = b4 ∧ a5 = b5 ∧ a6 = b6 ∧ a7 = b7 ∧ a8 = b8 ∧ ak = bk
 ·
  obtain ⟨rfl, rfl, rfl, rfl, rfl, rfl, rfl, rfl, rfl⟩ := he
  have hs : decide (a9 = b9) = samePv (Pe.core ⟨ak, ⟨a1, a2, a3, ((a4, a5), a6), (a7, a8), a9⟩, A, l, c⟩) (Pe.core ⟨ak, ⟨a1, a2, a3, ((a4, a5), a6), (a7, a8), b9⟩, B, m, d⟩) := by rw [Bool.eq_iff_iff, samePv_iff]; simp [Pe.core]
  have hs := jH hs
  have hbxH := jH hbx
  go_wp2_with fail
  refine (cS.out _ hbxH.out).mono ?_
  rintro e w1 ⟨rfl, hb1⟩
  have hG := hbxH.out.trans (hb1.mono hbxH.out.size)
  go_wp2
  go_ret
  exact ⟨by first | rfl | exact jY hs.out, hG⟩
 ·
  have hs : samePv (Pe.core ⟨ak, ⟨a1, a2, a3, ((a4, a5), a6), (a7, a8), a9⟩, A, l, c⟩) (Pe.core ⟨bk, ⟨b1, b2, b3, ((b4, b5), b6), (b7, b8), b9⟩, B, m, d⟩) = false := by
   rw [Bool.eq_false_iff]
   intro h
   have h := samePv_iff.1 h
   injection h with hk h
   injection h with h1 h2 h3 h4 h5 h6
   injection h4 with h41 h42
   injection h41 with h43 h44
   injection h5 with h51 h52
   exact he ⟨h1, h2, h3, h43, h44, h42, h51, h52, hk⟩
  have hs := jH hs
  by_cases h9 : ak = bk
  case neg =>
   have h2b : ((bs ak).toList == (bs bk).toList) = false := by rw [bs_toL, bs_toL, beq_eq_false_iff_ne]; exact h9
   clear he
   go_wp2
   go_ret
   exact ⟨jY hs.out.symm, hbx⟩
  subst h9
  by_cases h1 : a1 = b1
  case neg =>
   clear he
   go_wp2
   go_ret
   exact ⟨jY hs.out.symm, hbx⟩
  subst h1
  by_cases h2 : a2 = b2
  case neg =>
   have h2b : ((bs a2).toList == (bs b2).toList) = false := by rw [bs_toL, bs_toL, beq_eq_false_iff_ne]; exact h2
   clear he
   go_wp2
   go_ret
   exact ⟨jY hs.out.symm, hbx⟩
  subst h2
  by_cases h3 : a3 = b3
  case neg =>
   clear he
   go_wp2
   go_ret
   exact ⟨jY hs.out.symm, hbx⟩
  subst h3
  by_cases h4 : a4 = b4
  case neg =>
   clear he
   go_wp2
   go_ret
   exact ⟨jY hs.out.symm, hbx⟩
  subst h4
  by_cases h5 : a5 = b5
  case neg =>
   clear he
   go_wp2
   go_ret
   exact ⟨jY hs.out.symm, hbx⟩
  subst h5
  by_cases h6 : a6 = b6
  case neg =>
   clear he
   go_wp2
   go_ret
   exact ⟨jY hs.out.symm, hbx⟩
  subst h6
  by_cases h7 : a7 = b7
  case neg =>
   clear he
   go_wp2
   go_ret
   exact ⟨jY hs.out.symm, hbx⟩
  subst h7
  have h8 : ¬ a8 = b8 := fun e => he ⟨rfl, rfl, rfl, rfl, rfl, rfl, rfl, e, rfl⟩
  clear he
  go_wp2
  go_ret
  exact ⟨jY hs.out.symm, hbx⟩
theorem samePs_takeX {l m : List Pv} {k : Nat} {a b : Pv} (h : ∀ j, j < k → l[j]? = m[j]?) (ha : l[k]? = some a) (hb : m[k]? = some b) (e : samePv a b = true) : ∀ j, j < k + 1 → l[j]? = m[j]? := by
 intro j hj
 by_cases hjk : j = k
 ·
  subst hjk
  rw [ha, hb, samePv_iff.1 e]
 ·
  exact h j (by omega)
theorem samePs_all {l m : List Pv} (h : ∀ j, j < l.length → l[j]? = m[j]?) (hl : l.length = m.length) : samePs l m = true := by
 refine samePs_iff.2 (List.ext_getElem? fun j => ?_)
 rcases Nat.lt_or_ge j l.length with hj | hj
 ·
  exact h j hj
 ·
  rw [List.getElem?_eq_none hj, List.getElem?_eq_none (by omega)]
theorem eqfP_any (A B : Option Addr) (n m c d : Nat) (ps qs : List Pe) (w : World) (hA : RdE w w.heap.size A n ps) (hB : RdE w w.heap.size B m qs) (hn : n ≤ maxLen) (hm : m ≤ maxLen) (hpl : ∀ p ∈ ps, p.l ≤ maxLen) (hql : ∀ p ∈ qs, p.l ≤ maxLen) :
 Calls Tryz.prog 91 #[.slice A n c, .slice B m d, .func (.func 89) #[] #[]] w fun e w' => e = .returned (.bool (samePs (ps.map Pe.core) (qs.map Pe.core))) ∧ Below w.heap.size w w' := by
 have hl := hA.len
 have hl2 := hB.len
 unfold maxLen at hn hm
 generalize hr : samePs (ps.map Pe.core) (qs.map Pe.core) = r
 have hrH := jH hr
 clear hr
 by_cases hnm : n = m
 case neg =>
  have hT : Hid (false = r) := jH (by rw [← hrH.out]; symm; apply samePs_len; rw [List.length_map, List.length_map, hl, hl2]; exact hnm)
  have hnm2 : ((n : Int) != (m : Int)) = true := by simp; omega
  have hnm3 : ((n : Int) == (m : Int)) = false := by rw [beq_eq_false_iff_ne]; omega
  clear hnm hA hB hpl hql
  go_enter Tryz.func91, Tryz.ntmps91
  go_wp2
  go_ret
  exact ⟨jY hT.out, Below.refl _ _⟩
 subst hnm
 have hAH := jH hA
 have hBH := jH hB
 have hlH := jH hl
 have hl2H := jH hl2
 have hplH := jH hpl
 have hqlH := jH hql
 clear hA hB hl hl2 hpl hql
 go_enter Tryz.func91, Tryz.ntmps91
 go_wp2_with fail
 go_loopg [17] (n + 1) (fun g i wr => ∃ k : Nat, k ≤ n ∧ g = n + 1 - k ∧ i = .int .i64 (k : Int) ∧ (∀ j, j < k → (ps.map Pe.core)[j]? = (qs.map Pe.core)[j]?) ∧ Below w.heap.size w wr)
 case atStart => exact ⟨0, Nat.zero_le _, rfl, rfl, by simp, Below.refl _ _⟩
 case round =>
  obtain ⟨k, hk, rfl, rfl, htk, hbr⟩ := hrel
  obtain ⟨wv, hwv⟩ : ∃ wv, wv = wr := ⟨_, rfl⟩
  obtain rfl := hwv
  have hz := hbr.size
  by_cases hlt : k < n
  ·
   have hlti : (k : Int) < (n : Int) := by omega
   have hkn1 : IntKind.i64.wrap ((k : Int) + 1) = ((k + 1 : Nat) : Int) := by rw [IntWalk.i64_in _ (by omega)]; omega
   obtain ⟨bA, oA, p, hA4, hbA, hp, hcp⟩ := (hAH.out.below hbr).1.at_ hlt
   obtain ⟨bB, oB, q, hB4, hbB, hq, hcq⟩ := (hBH.out.below hbr).1.at_ hlt
   subst hA4
   subst hB4
   have p0 := hcp 0 _ rfl
   have p1 := hcp 1 _ rfl
   have p2 := hcp 2 _ rfl
   have p3 := hcp 3 _ rfl
   have p4 := hcp 4 _ rfl
   have p5 := hcp 5 _ rfl
   have p6 := hcp 6 _ rfl
   have p7 := hcp 7 _ rfl
   have p8 := hcp 8 _ rfl
   have p9 := hcp 9 _ rfl
   have q0 := hcq 0 _ rfl
   have q1 := hcq 1 _ rfl
   have q2 := hcq 2 _ rfl
   have q3 := hcq 3 _ rfl
   have q4 := hcq 4 _ rfl
   have q5 := hcq 5 _ rfl
   have q6 := hcq 6 _ rfl
   have q7 := hcq 7 _ rfl
   have q8 := hcq 8 _ rfl
   have q9 := hcq 9 _ rfl
   rw [Nat.add_zero] at p0 q0
   have hbA2 : bA < wv.heap.size := by omega
   have hbB2 : bB < wv.heap.size := by omega
   have hpo := (hAH.out.below hbr).2 p (List.mem_of_getElem? hp)
   have hqo := (hBH.out.below hbr).2 q (List.mem_of_getElem? hq)
   have hpl := hplH.out p (List.mem_of_getElem? hp)
   have hql := hqlH.out q (List.mem_of_getElem? hq)
   have hpc : (ps.map Pe.core)[k]? = some p.core := by rw [List.getElem?_map, hp]; rfl
   have hqc : (qs.map Pe.core)[k]? = some q.core := by rw [List.getElem?_map, hq]; rfl
   have hst := jH (fun e => samePs_takeX htk hpc hqc e)
   have hno := jH (fun e => samePs_at hpc hqc e)
   have hb2 : Below wv.heap.size wv ((wv.alloc (.cells #[.string (bs p.key), .int .i64 p.e.act, .string (bs p.e.name), .int .i64 p.e.val, .int .i64 p.e.tag.1.1, .int .u32 p.e.tag.1.2, .int .i64 p.e.tag.2, .int .u32 p.e.st.1, .int .i64 p.e.st.2, .slice p.A p.l p.c] 159)).alloc (.cells #[.string (bs q.key), .int .i64 q.e.act, .string (bs q.e.name), .int .i64 q.e.val, .int .i64 q.e.tag.1.1, .int .u32 q.e.tag.1.2, .int .i64 q.e.tag.2, .int .u32 q.e.st.1, .int .i64 q.e.st.2, .slice q.A q.l q.c] 159)) := ((Below.refl _ wv).alloc (Nat.le_refl _) _).alloc (by simp) _
   have hh1 : ((wv.alloc (.cells #[.string (bs p.key), .int .i64 p.e.act, .string (bs p.e.name), .int .i64 p.e.val, .int .i64 p.e.tag.1.1, .int .u32 p.e.tag.1.2, .int .i64 p.e.tag.2, .int .u32 p.e.st.1, .int .i64 p.e.st.2, .slice p.A p.l p.c] 159)).alloc (.cells #[.string (bs q.key), .int .i64 q.e.act, .string (bs q.e.name), .int .i64 q.e.val, .int .i64 q.e.tag.1.1, .int .u32 q.e.tag.1.2, .int .i64 q.e.tag.2, .int .u32 q.e.st.1, .int .i64 q.e.st.2, .slice q.A q.l q.c] 159)).heap[wv.heap.size]? = some (.cells #[.string (bs p.key), .int .i64 p.e.act, .string (bs p.e.name), .int .i64 p.e.val, .int .i64 p.e.tag.1.1, .int .u32 p.e.tag.1.2, .int .i64 p.e.tag.2, .int .u32 p.e.st.1, .int .i64 p.e.st.2, .slice p.A p.l p.c] 159 (0, 0)) := yE _ (by simp) (jT _ _ rfl)
   have hh2 : ((wv.alloc (.cells #[.string (bs p.key), .int .i64 p.e.act, .string (bs p.e.name), .int .i64 p.e.val, .int .i64 p.e.tag.1.1, .int .u32 p.e.tag.1.2, .int .i64 p.e.tag.2, .int .u32 p.e.st.1, .int .i64 p.e.st.2, .slice p.A p.l p.c] 159)).alloc (.cells #[.string (bs q.key), .int .i64 q.e.act, .string (bs q.e.name), .int .i64 q.e.val, .int .i64 q.e.tag.1.1, .int .u32 q.e.tag.1.2, .int .i64 q.e.tag.2, .int .u32 q.e.st.1, .int .i64 q.e.st.2, .slice q.A q.l q.c] 159)).heap[wv.heap.size + 1]? = some (.cells #[.string (bs q.key), .int .i64 q.e.act, .string (bs q.e.name), .int .i64 q.e.val, .int .i64 q.e.tag.1.1, .int .u32 q.e.tag.1.2, .int .i64 q.e.tag.2, .int .u32 q.e.st.1, .int .i64 q.e.st.2, .slice q.A q.l q.c] 159 (0, 0)) := jT _ _ (by simp)
   generalize hWe : ((wv.alloc (.cells #[.string (bs p.key), .int .i64 p.e.act, .string (bs p.e.name), .int .i64 p.e.val, .int .i64 p.e.tag.1.1, .int .u32 p.e.tag.1.2, .int .i64 p.e.tag.2, .int .u32 p.e.st.1, .int .i64 p.e.st.2, .slice p.A p.l p.c] 159)).alloc (.cells #[.string (bs q.key), .int .i64 q.e.act, .string (bs q.e.name), .int .i64 q.e.val, .int .i64 q.e.tag.1.1, .int .u32 q.e.tag.1.2, .int .i64 q.e.tag.2, .int .u32 q.e.st.1, .int .i64 q.e.st.2, .slice q.A q.l q.c] 159)) = W at hb2 hh1 hh2
   have hzW := hb2.size
   have cS := jH (psameI_any p q W ((hpo.below (hb2.mono hz)).more (by omega)) ((hqo.below (hb2.mono hz)).more (by omega)) hpl hql)
   have x0 := jA hh1 0
   have x1 := jA hh1 1
   have x2 := jA hh1 2
   have x3 := jA hh1 3
   have x4 := jA hh1 4
   have x5 := jA hh1 5
   have x6 := jA hh1 6
   have x7 := jA hh1 7
   have x8 := jA hh1 8
   have x9 := jA hh1 9
   have y0 := jA hh2 0
   have y1 := jA hh2 1
   have y2 := jA hh2 2
   have y3 := jA hh2 3
   have y4 := jA hh2 4
   have y5 := jA hh2 5
   have y6 := jA hh2 6
   have y7 := jA hh2 7
   have y8 := jA hh2 8
   have y9 := jA hh2 9
   simp at x0 x1 x2 x3 x4 x5 x6 x7 x8 x9 y0 y1 y2 y3 y4 y5 y6 y7 y8 y9
   have hl1 := jB hh1
   have hl2' := jB hh2
   have hbW := hbr.trans (hb2.mono hz)
   clear hcp hcq hp hq hpo hqo hpc hqc htk hh1 hh2
   generalize hsv : samePv p.core q.core = sv at cS hst hno
   cases sv with
   | true =>
    have hT := jH (hst.out rfl)
    clear hst hno hsv
    go_wp2_with fail
    refine cS.out.mono ?_
    rintro e w1 ⟨rfl, hb1⟩
    have hG := hbW.trans (hb1.mono hbW.size)
    clear x0 x1 x2 x3 x4 x5 x6 x7 x8 x9 y0 y1 y2 y3 y4 y5 y6 y7 y8 y9 p0 p1 p2 p3 p4 p5 p6 p7 p8 p9 q0 q1 q2 q3 q4 q5 q6 q7 q8 q9
    go_wp2
    go_roundg (n + 1 - (k + 1))
    case measure => omega
    case rel => exact ⟨k + 1, by omega, rfl, by go_num, hT.out, hG⟩
   | false =>
    have hT : Hid (false = r) := jH (by rw [← hrH.out, hno.out rfl])
    clear hst hno hsv
    go_wp2_with fail
    refine cS.out.mono ?_
    rintro e w1 ⟨rfl, hb1⟩
    have hG := hbW.trans (hb1.mono hbW.size)
    clear x0 x1 x2 x3 x4 x5 x6 x7 x8 x9 y0 y1 y2 y3 y4 y5 y6 y7 y8 y9 p0 p1 p2 p3 p4 p5 p6 p7 p8 p9 q0 q1 q2 q3 q4 q5 q6 q7 q8 q9
    go_wp2
    go_ret
    exact ⟨jY hT.out, hG⟩
  ·
   obtain rfl : k = n := by omega
   have hnlt : ¬ (k : Int) < (k : Int) := by omega
   have hT : Hid (true = r) := jH (by
    rw [← hrH.out]; symm
    exact samePs_all (fun j hj => htk j (by rw [List.length_map, hlH.out] at hj; exact hj)) (by rw [List.length_map, List.length_map, hlH.out, hl2H.out]))
   clear htk
   go_wp2
   go_ret
   exact ⟨jY hT.out, hbr⟩
end Go.Proofs.YtfhandglpjnonaaGreatDoor
