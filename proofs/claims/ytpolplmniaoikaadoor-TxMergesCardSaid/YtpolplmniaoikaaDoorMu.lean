/- The document's Merge of transactions that fit: its loop. -/
import Derived.Test.YtpolplmniaoikaaDoorMs
import Derived.Test.YtpolplmniaoikaaDoorMv
namespace Go.Proofs.YtpolplmniaoikaaDoor
open Go.RowKit

set_option maxRecDepth 100000 in
set_option maxHeartbeats 60000000 in
theorem rtxmergeD_any (x : Im) (v : Vm) (s : Bool) (A : Option Addr) (n c : Nat) (ps : List Pe) (y : Im) (u : Vm) (t : Bool) (B : Option Addr) (m d : Nat) (qs : List Pe) (w : World)
    (hA : RdE w w.heap.size A n ps) (hn : n ≤ 400) (hfA : ∀ p ∈ ps, p.Fit w) (hx : x.wf) (hvw : v.wf) (hB : RdE w w.heap.size B m qs) (hm : m ≤ 400) (hfB : ∀ p ∈ qs, p.Fit w) (hy : y.wf) (huw : u.wf) (M : Tv × Int) (hM : mergeT ⟨x, v, s, ps.map Pe.core⟩ ⟨y, u, t, qs.map Pe.core⟩ = M) (hok : txErr x v (ps.map Pe.core) = 0) (hok2 : txErr y u (qs.map Pe.core) = 0) (hgood : (decide (x.1 = y.1) && decide (x.2 = y.2) && eqV v u) = true) :
    Calls Tryd.prog 7 #[.agg #[.int .i64 x.1, .int .u32 x.2, .int .u32 v.d0, .int .u32 v.d1, .int .u32 v.d2, .int .u32 v.d3, .int .u32 v.d4, .int .u32 v.d5, .int .u32 v.d6, .int .u32 v.d7, .bool s, .slice A n c], .agg #[.int .i64 y.1, .int .u32 y.2, .int .u32 u.d0, .int .u32 u.d1, .int .u32 u.d2, .int .u32 u.d3, .int .u32 u.d4, .int .u32 u.d5, .int .u32 u.d6, .int .u32 u.d7, .bool t, .slice B m d]] w
      (fun e w' => MgD M w e w') := by
  have hb0 : Below w.heap.size w (((w.alloc (.cells #[.int .i64 x.1, .int .u32 x.2, .int .u32 v.d0, .int .u32 v.d1, .int .u32 v.d2, .int .u32 v.d3, .int .u32 v.d4, .int .u32 v.d5, .int .u32 v.d6, .int .u32 v.d7, .bool s, .slice A n c] 29)).alloc (.cells #[.int .i64 y.1, .int .u32 y.2, .int .u32 u.d0, .int .u32 u.d1, .int .u32 u.d2, .int .u32 u.d3, .int .u32 u.d4, .int .u32 u.d5, .int .u32 u.d6, .int .u32 u.d7, .bool t, .slice B m d] 29)).alloc (.cells #[.int .i64 0, .int .u32 0, .int .u32 0, .int .u32 0, .int .u32 0, .int .u32 0, .int .u32 0, .int .u32 0, .int .u32 0, .int .u32 0, .bool false, .slice none 0 0] 29)) := (((Below.refl _ w).alloc (Nat.le_refl _) _).alloc (by simp) _).alloc (by simp; omega) _
  have hba : (((w.alloc (.cells #[.int .i64 x.1, .int .u32 x.2, .int .u32 v.d0, .int .u32 v.d1, .int .u32 v.d2, .int .u32 v.d3, .int .u32 v.d4, .int .u32 v.d5, .int .u32 v.d6, .int .u32 v.d7, .bool s, .slice A n c] 29)).alloc (.cells #[.int .i64 y.1, .int .u32 y.2, .int .u32 u.d0, .int .u32 u.d1, .int .u32 u.d2, .int .u32 u.d3, .int .u32 u.d4, .int .u32 u.d5, .int .u32 u.d6, .int .u32 u.d7, .bool t, .slice B m d] 29)).alloc (.cells #[.int .i64 0, .int .u32 0, .int .u32 0, .int .u32 0, .int .u32 0, .int .u32 0, .int .u32 0, .int .u32 0, .int .u32 0, .int .u32 0, .bool false, .slice none 0 0] 29)).heap[w.heap.size]? = some (.cells #[.int .i64 x.1, .int .u32 x.2, .int .u32 v.d0, .int .u32 v.d1, .int .u32 v.d2, .int .u32 v.d3, .int .u32 v.d4, .int .u32 v.d5, .int .u32 v.d6, .int .u32 v.d7, .bool s, .slice A n c] 29 (0, 0)) := heap_old _ (by simp; omega) (heap_old _ (by simp) (heap_at _ _ rfl))
  have hbb : (((w.alloc (.cells #[.int .i64 x.1, .int .u32 x.2, .int .u32 v.d0, .int .u32 v.d1, .int .u32 v.d2, .int .u32 v.d3, .int .u32 v.d4, .int .u32 v.d5, .int .u32 v.d6, .int .u32 v.d7, .bool s, .slice A n c] 29)).alloc (.cells #[.int .i64 y.1, .int .u32 y.2, .int .u32 u.d0, .int .u32 u.d1, .int .u32 u.d2, .int .u32 u.d3, .int .u32 u.d4, .int .u32 u.d5, .int .u32 u.d6, .int .u32 u.d7, .bool t, .slice B m d] 29)).alloc (.cells #[.int .i64 0, .int .u32 0, .int .u32 0, .int .u32 0, .int .u32 0, .int .u32 0, .int .u32 0, .int .u32 0, .int .u32 0, .int .u32 0, .bool false, .slice none 0 0] 29)).heap[w.heap.size + 1]? = some (.cells #[.int .i64 y.1, .int .u32 y.2, .int .u32 u.d0, .int .u32 u.d1, .int .u32 u.d2, .int .u32 u.d3, .int .u32 u.d4, .int .u32 u.d5, .int .u32 u.d6, .int .u32 u.d7, .bool t, .slice B m d] 29 (0, 0)) := heap_old _ (by simp) (heap_at _ _ (by simp))
  have hbz : (((w.alloc (.cells #[.int .i64 x.1, .int .u32 x.2, .int .u32 v.d0, .int .u32 v.d1, .int .u32 v.d2, .int .u32 v.d3, .int .u32 v.d4, .int .u32 v.d5, .int .u32 v.d6, .int .u32 v.d7, .bool s, .slice A n c] 29)).alloc (.cells #[.int .i64 y.1, .int .u32 y.2, .int .u32 u.d0, .int .u32 u.d1, .int .u32 u.d2, .int .u32 u.d3, .int .u32 u.d4, .int .u32 u.d5, .int .u32 u.d6, .int .u32 u.d7, .bool t, .slice B m d] 29)).alloc (.cells #[.int .i64 0, .int .u32 0, .int .u32 0, .int .u32 0, .int .u32 0, .int .u32 0, .int .u32 0, .int .u32 0, .int .u32 0, .int .u32 0, .bool false, .slice none 0 0] 29)).heap[w.heap.size + 1 + 1]? = some (.cells #[.int .i64 0, .int .u32 0, .int .u32 0, .int .u32 0, .int .u32 0, .int .u32 0, .int .u32 0, .int .u32 0, .int .u32 0, .int .u32 0, .bool false, .slice none 0 0] 29 (0, 0)) := heap_at _ _ (by simp)
  generalize hWe : (((w.alloc (.cells #[.int .i64 x.1, .int .u32 x.2, .int .u32 v.d0, .int .u32 v.d1, .int .u32 v.d2, .int .u32 v.d3, .int .u32 v.d4, .int .u32 v.d5, .int .u32 v.d6, .int .u32 v.d7, .bool s, .slice A n c] 29)).alloc (.cells #[.int .i64 y.1, .int .u32 y.2, .int .u32 u.d0, .int .u32 u.d1, .int .u32 u.d2, .int .u32 u.d3, .int .u32 u.d4, .int .u32 u.d5, .int .u32 u.d6, .int .u32 u.d7, .bool t, .slice B m d] 29)).alloc (.cells #[.int .i64 0, .int .u32 0, .int .u32 0, .int .u32 0, .int .u32 0, .int .u32 0, .int .u32 0, .int .u32 0, .int .u32 0, .int .u32 0, .bool false, .slice none 0 0] 29)) = W at hb0 hba hbb hbz
  have hz0 := hb0.size
  have hlW : w.heap.size + 1 + 1 < W.heap.size := blk_lt hbz
  have hbaH := Lib.hid hba
  have hbbH := Lib.hid hbb
  have hbzH := Lib.hid hbz
  have q0 := blk_cell hba 0
  have q1 := blk_cell hba 1
  have q2 := blk_cell hba 2
  have q3 := blk_cell hba 3
  have q4 := blk_cell hba 4
  have q5 := blk_cell hba 5
  have q6 := blk_cell hba 6
  have q7 := blk_cell hba 7
  have q8 := blk_cell hba 8
  have q9 := blk_cell hba 9
  have q10 := blk_cell hba 10
  have q11 := blk_cell hba 11
  simp at q0 q1 q2 q3 q4 q5 q6 q7 q8 q9 q10 q11
  have r0 := blk_cell hbb 0
  have r1 := blk_cell hbb 1
  have r2 := blk_cell hbb 2
  have r3 := blk_cell hbb 3
  have r4 := blk_cell hbb 4
  have r5 := blk_cell hbb 5
  have r6 := blk_cell hbb 6
  have r7 := blk_cell hbb 7
  have r8 := blk_cell hbb 8
  have r9 := blk_cell hbb 9
  have r10 := blk_cell hbb 10
  have r11 := blk_cell hbb 11
  simp at r0 r1 r2 r3 r4 r5 r6 r7 r8 r9 r10 r11
  have hlta := blk_lt hba
  have hltb := blk_lt hbb
  have cA := Lib.hid (fun w' (h : Below w.heap.size w w') => rtxcheck_any x v s A n c ps w' ((hA.below h).more h.size) (by unfold maxLen; omega) (fun p hp => (hfA p hp).below h) hx hvw)
  have cB := Lib.hid (fun w' (h : Below w.heap.size w w') => rtxcheck_any y u t B m d qs w' ((hB.below h).more h.size) (by unfold maxLen; omega) (fun p hp => (hfB p hp).below h) hy huw)
  have hAr := Lib.hid (fun w' (h : Below w.heap.size w w') => hA.below h)
  have hBr := Lib.hid (fun w' (h : Below w.heap.size w w') => hB.below h)
  have hfAH := Lib.hid hfA
  have hfBH := Lib.hid hfB
  have hlA := Lib.hid hA.len
  have hlB := Lib.hid hB.len
  unfold mergeT at hM
  dsimp only at hM
  generalize hea : txErr x v (ps.map Pe.core) = ea at *
  generalize heb : txErr y u (qs.map Pe.core) = eb at *
  replace hM := Lib.hid hM
  have heaH := Lib.hid hea
  have hebH := Lib.hid heb
  have hneq := neqV2 v u
  have hneqH := Lib.hid hneq
  have hea0 : ea = 0 := hok
  have heb0 : eb = 0 := hok2
  have hgoodH := Lib.hid hgood
  clear hgood hok hok2 hA hB hfA hfB hx hvw hy huw hba hbb hbz hea heb hneq
  subst hea0
  subst heb0
  have hM2 : Hid ((if (decide (x.1 = y.1) && decide (x.2 = y.2) && eqV v u) = false then (zTv, (3 : Int)) else match mrgD pvN (ps.map Pe.core) (qs.map Pe.core) with
    | none => (zTv, 3)
    | some out => if 16 < out.length then (zTv, 8) else (⟨x, v, s && t, out⟩, 0)) = M) := Lib.hid (by
      have h1 := hM.out
      rw [if_neg (by simp), if_neg (by simp)] at h1
      exact h1)
  have hn16 : n ≤ 16 := by have h1 := (txErr_zero heaH.out).1; rw [List.length_map, hlA.out] at h1; exact h1
  have hm16 : m ≤ 16 := by have h1 := (txErr_zero hebH.out).1; rw [List.length_map, hlB.out] at h1; exact h1
  clear hM heaH hebH
  go_enter Tryd.func7, Tryd.ntmps7
  go_wp2_with fail
  refine (cA.out _ hb0).mono ?_
  rintro e v1 ⟨rfl, hv1⟩
  have hbb1 := blk_below hbbH.out hv1
  have r0 := blk_cell hbb1 0
  have r1 := blk_cell hbb1 1
  have r2 := blk_cell hbb1 2
  have r3 := blk_cell hbb1 3
  have r4 := blk_cell hbb1 4
  have r5 := blk_cell hbb1 5
  have r6 := blk_cell hbb1 6
  have r7 := blk_cell hbb1 7
  have r8 := blk_cell hbb1 8
  have r9 := blk_cell hbb1 9
  have r10 := blk_cell hbb1 10
  have r11 := blk_cell hbb1 11
  simp at r0 r1 r2 r3 r4 r5 r6 r7 r8 r9 r10 r11
  have hltb := blk_lt hbb1
  clear hbb1
  go_wp2_with fail
  refine (cB.out _ (hb0.trans (hv1.mono hz0))).mono ?_
  rintro e w5 ⟨rfl, hv2⟩
  have hGW := hv1.trans (hv2.mono hv1.size)
  clear cA cB hv1 hv2 q0 q1 q2 q3 q4 q5 q6 q7 q8 q9 q10 q11 r0 r1 r2 r3 r4 r5 r6 r7 r8 r9 r10 r11 hlta hltb
  have hba1 := blk_below hbaH.out hGW
  have hbb1 := blk_below hbbH.out hGW
  have q0 := blk_cell hba1 0
  have q1 := blk_cell hba1 1
  have q2 := blk_cell hba1 2
  have q3 := blk_cell hba1 3
  have q4 := blk_cell hba1 4
  have q5 := blk_cell hba1 5
  have q6 := blk_cell hba1 6
  have q7 := blk_cell hba1 7
  have q8 := blk_cell hba1 8
  have q9 := blk_cell hba1 9
  have q10 := blk_cell hba1 10
  have q11 := blk_cell hba1 11
  simp at q0 q1 q2 q3 q4 q5 q6 q7 q8 q9 q10 q11
  have r0 := blk_cell hbb1 0
  have r1 := blk_cell hbb1 1
  have r2 := blk_cell hbb1 2
  have r3 := blk_cell hbb1 3
  have r4 := blk_cell hbb1 4
  have r5 := blk_cell hbb1 5
  have r6 := blk_cell hbb1 6
  have r7 := blk_cell hbb1 7
  have r8 := blk_cell hbb1 8
  have r9 := blk_cell hbb1 9
  have r10 := blk_cell hbb1 10
  have r11 := blk_cell hbb1 11
  simp at r0 r1 r2 r3 r4 r5 r6 r7 r8 r9 r10 r11
  have hlta := blk_lt hba1
  have hltb := blk_lt hbb1
  clear hba1 hbb1
  have hneq := hneqH.out
  obtain ⟨x1, x2⟩ := x
  obtain ⟨y1, y2⟩ := y
  dsimp only at *
  obtain ⟨⟨h1, h2⟩, hvu⟩ : (x1 = y1 ∧ x2 = y2) ∧ eqV v u = true := by have h := hgoodH.out; simpa using h
  subst h1
  subst h2
  have hR : Hid ((match mrgD pvN (ps.map Pe.core) (qs.map Pe.core) with
    | none => (zTv, (3 : Int))
    | some out => if 16 < out.length then (zTv, 8) else (⟨(x1, x2), v, s && t, out⟩, 0)) = M) := Lib.hid (by rw [← hM2.out, if_neg (by simp [hvu])])
  rw [hvu] at hneq
  have hGwc := hb0.trans (hGW.mono hz0)
  clear hvu hM2 hneqH
  go_upto_region 8 with (fail)
  go_cut [7] (fun s7 wx => s7 = .pointer (some ⟨w5.heap.size, 0, none⟩) ∧ wx = w5.alloc (.cells #[.int .i64 (x1, x2).1, .int .u32 (x1, x2).2, .int .u32 v.d0, .int .u32 v.d1, .int .u32 v.d2, .int .u32 v.d3, .int .u32 v.d4, .int .u32 v.d5, .int .u32 v.d6, .int .u32 v.d7, .bool (s && t), .slice none 0 0] 29))
  case first =>
    cases s with
    | true =>
      go_wp2_with fail
      go_meet
      exact ⟨rfl, rfl⟩
    | false =>
      go_wp2_with fail
      go_meet
      exact ⟨rfl, rfl⟩
  case rest =>
  obtain ⟨rfl, hwx⟩ := hcut
  obtain ⟨w6, hw6⟩ : ∃ w6, w6 = wc := ⟨_, rfl⟩
  obtain rfl := hw6
  have hbo : w6.heap[w5.heap.size]? = some (.cells #[.int .i64 (x1, x2).1, .int .u32 (x1, x2).2, .int .u32 v.d0, .int .u32 v.d1, .int .u32 v.d2, .int .u32 v.d3, .int .u32 v.d4, .int .u32 v.d5, .int .u32 v.d6, .int .u32 v.d7, .bool (s && t), .slice none 0 0] 29 (0, 0)) := by rw [hwx]; exact heap_at _ _ rfl
  have hbwc : Below w5.heap.size w5 w6 := by rw [hwx]; exact (Below.refl _ w5).alloc (Nat.le_refl _) _
  have hG6 : Below W.heap.size W w6 := hGW.trans (hbwc.mono hGW.size)
  have hbRef := Below.refl w5.heap.size w6
  have hz5 := hGW.size
  generalize hob : w5.heap.size = ob at *
  have hob3 : w.heap.size + 1 + 1 < ob := by omega
  have hfm : Hid (∀ q, q ∈ ps ∨ q ∈ qs → q.Ok w w.heap.size ∧ q.l ≤ 100000) := Lib.hid (fun q hq => hq.elim (fun h => ⟨(hfAH.out q h).ok, (hfAH.out q h).l⟩) (fun h => ⟨(hfBH.out q h).ok, (hfBH.out q h).l⟩))
  clear q0 q1 q2 q3 q4 q5 q6 q7 q8 q9 q10 q11 r0 r1 r2 r3 r4 r5 r6 r7 r8 r9 r10 r11 hlta hltb hwx hob hneq hfAH hfBH
  go_wp2_with fail
  go_loopg [8, 9] (n + m + 1) (fun gg i k wr => ∃ (a b n' : Nat) (A' : Option Addr) (c' : Nat) (rs : List Pe), a ≤ n ∧ b ≤ m ∧ gg = n + m + 1 - (a + b) ∧ i = .int .i64 (a : Int) ∧ k = .int .i64 (b : Int) ∧ n' ≤ a + b ∧ (mrgD pvN ((ps.map Pe.core).drop a) ((qs.map Pe.core).drop b)).map ((rs.map Pe.core) ++ ·) = mrgD pvN (ps.map Pe.core) (qs.map Pe.core) ∧
    wr.heap[ob]? = some (.cells #[.int .i64 (x1, x2).1, .int .u32 (x1, x2).2, .int .u32 v.d0, .int .u32 v.d1, .int .u32 v.d2, .int .u32 v.d3, .int .u32 v.d4, .int .u32 v.d5, .int .u32 v.d6, .int .u32 v.d7, .bool (s && t), .slice A' n' c'] 29 (0, 0)) ∧ Ow wr (ob + 1) 50 10 (.slice A' n' c') (rs.map Pe.enc) ∧ (∀ q ∈ rs, q ∈ ps ∨ q ∈ qs) ∧ Below ob w6 wr)
  case atStart => exact ⟨0, 0, 0, none, 0, [], Nat.zero_le _, Nat.zero_le _, rfl, rfl, rfl, Nat.le_refl _, by simp, hbo, Ow.nil_ _ _ _ _, (fun q hq => by cases hq), hbRef⟩
  case round =>
    clear hbo hbRef
    obtain ⟨a, b, n', A', c', rs, ha, hb, rfl, rfl, rfl, hnk, hrs, hblk, hown, hmem, hbr⟩ := hrel
    obtain ⟨wz, hwz⟩ : ∃ wz, wz = wr := ⟨_, rfl⟩
    obtain rfl := hwz
    have hGr : Below W.heap.size W wz := hG6.trans (hbr.mono (by omega))
    have hbw : Below w.heap.size w wz := hb0.trans (hGr.mono hz0)
    have hbl := blk_lt hblk
    have hrl : rs.length = n' := by simpa using hown.rd.2.1
    have hba1 := blk_below hbaH.out hGr
    have hbb1 := blk_below hbbH.out hGr
    have q11 := blk_cell hba1 11
    have r11 := blk_cell hbb1 11
    simp at q11 r11
    have hlta := blk_lt hba1
    have hltb := blk_lt hbb1
    have hrsH := Lib.hid hrs
    have hblkH := Lib.hid hblk
    have hqlH := Lib.hid hrl
    have hmemH := Lib.hid hmem
    clear hrs hrl hblk hba1 hbb1 hmem
    have hnm : n' ≤ 32 := by omega
    have hpl : ps.length = n := hlA.out
    have hql : qs.length = m := hlB.out
    have hplH := Lib.hid hpl
    have hqlH2 := Lib.hid hql
    by_cases hal : a < n
    · have hali : (a : Int) < (n : Int) := by omega
      obtain ⟨p, hp⟩ : ∃ p, ps[a]? = some p := ⟨ps[a]'(by omega), List.getElem?_eq_getElem _⟩
      have hpm : p ∈ ps ∨ p ∈ qs := .inl (List.mem_of_getElem? hp)
      have hdp : (ps.map Pe.core).drop a = p.core :: (ps.map Pe.core).drop (a + 1) := by
        have h1 : (ps.map Pe.core)[a]? = some p.core := by rw [List.getElem?_map, hp]; rfl
        obtain ⟨h2, h3⟩ := List.getElem?_eq_some_iff.1 h1
        rw [List.drop_eq_getElem_cons h2, h3]
      have hdpH := Lib.hid hdp
      have hpH := Lib.hid hp
      clear hp hdp hpl hql
      by_cases hbl2 : b < m
      · have hbli : (b : Int) < (m : Int) := by omega
        obtain ⟨z, hz⟩ : ∃ z, qs[b]? = some z := ⟨qs[b]'(by have := hqlH2.out; omega), List.getElem?_eq_getElem _⟩
        have hzm : z ∈ ps ∨ z ∈ qs := .inr (List.mem_of_getElem? hz)
        have hdz : (qs.map Pe.core).drop b = z.core :: (qs.map Pe.core).drop (b + 1) := by
          have h1 : (qs.map Pe.core)[b]? = some z.core := by rw [List.getElem?_map, hz]; rfl
          obtain ⟨h2, h3⟩ := List.getElem?_eq_some_iff.1 h1
          rw [List.drop_eq_getElem_cons h2, h3]
        have hdzH := Lib.hid hdz
        have hzH := Lib.hid hz
        clear hz hdz
        by_cases hlt : p.e.tag.2 < z.e.tag.2
        · have hltd := Lib.hid (show decide (p.e.tag.2 < z.e.tag.2) = true from decide_eq_true hlt)
          have hQ : Hid ((mrgD pvN ((ps.map Pe.core).drop (a + 1)) ((qs.map Pe.core).drop b)).map (((rs ++ [p]).map Pe.core) ++ ·) = mrgD pvN (ps.map Pe.core) (qs.map Pe.core)) := Lib.hid (by
            rw [← hrsH.out, hdpH.out, mrgD_left (by rw [hdzH.out]; intro y hy; obtain rfl := Option.some.inj hy; exact hlt), map_snoc, List.map_append]; rfl)
          clear hlt
          go_upto_region 14 with (fail)
          refine mtest14_any _ _ (by kernel_rfl) wz (w.heap.size) (w.heap.size + 1) a b n m c d _ _ ps qs true q11 r11 (by omega) (by omega) ((hAr.out wz hbw).more (by omega)) ((hBr.out wz hbw).more (by omega)) (by omega) (by omega) (by omega) (by omega) (.inr (.inr ⟨hbl2, hal, p, z, hpH.out, hzH.out, hltd.out⟩)) (fun _ _ _ _ _ h => h) ?_
          iterate 31 (intro _)
          intro wN hbz1
          replace hown := hown.below hbz1
          replace hblkH := Lib.hid (blk_below hblkH.out hbz1)
          replace hbr := hbr.trans (hbz1.mono (by omega))
          have hz2 := hbz1.size
          replace hbl := blk_lt hblkH.out
          replace hbw := hbw.trans (hbz1.mono (by omega))
          replace q11 := (hbz1.cell (p := ⟨w.heap.size, 11, none⟩) (by show w.heap.size < _; omega)).trans q11
          replace r11 := (hbz1.cell (p := ⟨w.heap.size + 1, 11, none⟩) (by show w.heap.size + 1 < _; omega)).trans r11
          replace hlta := Nat.lt_of_lt_of_le hlta hz2
          replace hltb := Nat.lt_of_lt_of_le hltb hz2
          clear hbz1 hz2
          obtain ⟨wz, hwz⟩ : ∃ x, x = wN := ⟨_, rfl⟩
          obtain rfl := hwz
          go_upto_region 15 with (fail)
          refine mapp15_any _ _ (by kernel_rfl) wz (w.heap.size) ob a n c n' c' _ A' ps rs _ (x1, x2) v (s && t) q11 ((hAr.out wz hbw).more (by omega)) hal hpH.out hnm (by omega) (by omega) hblkH.out hown (fun _ _ _ _ _ h => h) ?_
          intro v0 v1 v2 v3 v4 v5 v6 v7 v8 v9 A2 c2 wN hblkN hownN hbN
          replace hblkN := Lib.hid hblkN
          replace hownN := Lib.hid hownN
          replace hbN := Lib.hid (hbr.trans hbN)
          have hmN : ∀ q ∈ rs ++ [p], q ∈ ps ∨ q ∈ qs := fun q hq => (List.mem_append.1 hq).elim (hmemH.out q) (fun h => by rw [List.mem_singleton.1 h]; assumption)
          replace hmN := Lib.hid hmN
          go_wp2
          go_roundg (n + m + 1 - (a + 1 + (b)))
          case measure => omega
          case rel =>
            exact ⟨a + 1, b, n' + 1, A2, c2, rs ++ [p], by omega, by omega, rfl, by go_num, rfl, by omega, hQ.out, hblkN.out, hownN.out, hmN.out, hbN.out⟩
        have hltd := Lib.hid (show decide (p.e.tag.2 < z.e.tag.2) = false from decide_eq_false hlt)
        by_cases hgt : z.e.tag.2 < p.e.tag.2
        · have hgtd := Lib.hid (show decide (z.e.tag.2 < p.e.tag.2) = true from decide_eq_true hgt)
          have hQ : Hid ((mrgD pvN ((ps.map Pe.core).drop a) ((qs.map Pe.core).drop (b + 1))).map (((rs ++ [z]).map Pe.core) ++ ·) = mrgD pvN (ps.map Pe.core) (qs.map Pe.core)) := Lib.hid (by
            rw [← hrsH.out, hdzH.out, mrgD_right (by rw [hdpH.out]; intro y hy; obtain rfl := Option.some.inj hy; exact hgt), map_snoc, List.map_append]; rfl)
          clear hlt hgt
          go_upto_region 14 with (fail)
          refine mtest14_any _ _ (by kernel_rfl) wz (w.heap.size) (w.heap.size + 1) a b n m c d _ _ ps qs false q11 r11 (by omega) (by omega) ((hAr.out wz hbw).more (by omega)) ((hBr.out wz hbw).more (by omega)) (by omega) (by omega) (by omega) (by omega) (.inr (.inr ⟨hbl2, hal, p, z, hpH.out, hzH.out, hltd.out⟩)) (fun _ _ _ _ _ h => h) ?_
          iterate 31 (intro _)
          intro wN hbz1
          replace hown := hown.below hbz1
          replace hblkH := Lib.hid (blk_below hblkH.out hbz1)
          replace hbr := hbr.trans (hbz1.mono (by omega))
          have hz2 := hbz1.size
          replace hbl := blk_lt hblkH.out
          replace hbw := hbw.trans (hbz1.mono (by omega))
          replace q11 := (hbz1.cell (p := ⟨w.heap.size, 11, none⟩) (by show w.heap.size < _; omega)).trans q11
          replace r11 := (hbz1.cell (p := ⟨w.heap.size + 1, 11, none⟩) (by show w.heap.size + 1 < _; omega)).trans r11
          replace hlta := Nat.lt_of_lt_of_le hlta hz2
          replace hltb := Nat.lt_of_lt_of_le hltb hz2
          clear hbz1 hz2
          obtain ⟨wz, hwz⟩ : ∃ x, x = wN := ⟨_, rfl⟩
          obtain rfl := hwz
          go_upto_region 17 with (fail)
          refine mtest17_any _ _ (by kernel_rfl) wz (w.heap.size) (w.heap.size + 1) a b n m c d _ _ ps qs true q11 r11 (by omega) (by omega) ((hAr.out wz hbw).more (by omega)) ((hBr.out wz hbw).more (by omega)) (by omega) (by omega) (by omega) (by omega) (.inr ⟨hbl2, hal, p, z, hpH.out, hzH.out, hgtd.out⟩) (fun _ _ _ _ _ h => h) ?_
          iterate 24 (intro _)
          intro wN hbz1
          replace hown := hown.below hbz1
          replace hblkH := Lib.hid (blk_below hblkH.out hbz1)
          replace hbr := hbr.trans (hbz1.mono (by omega))
          have hz2 := hbz1.size
          replace hbl := blk_lt hblkH.out
          replace hbw := hbw.trans (hbz1.mono (by omega))
          replace q11 := (hbz1.cell (p := ⟨w.heap.size, 11, none⟩) (by show w.heap.size < _; omega)).trans q11
          replace r11 := (hbz1.cell (p := ⟨w.heap.size + 1, 11, none⟩) (by show w.heap.size + 1 < _; omega)).trans r11
          replace hlta := Nat.lt_of_lt_of_le hlta hz2
          replace hltb := Nat.lt_of_lt_of_le hltb hz2
          clear hbz1 hz2
          obtain ⟨wz, hwz⟩ : ∃ x, x = wN := ⟨_, rfl⟩
          obtain rfl := hwz
          go_upto_region 18 with (fail)
          refine mapp18_any _ _ (by kernel_rfl) wz (w.heap.size + 1) ob b m d n' c' _ A' qs rs _ (x1, x2) v (s && t) r11 ((hBr.out wz hbw).more (by omega)) hbl2 hzH.out hnm (by omega) (by omega) hblkH.out hown (fun _ _ _ _ _ h => h) ?_
          intro v0 v1 v2 v3 v4 v5 v6 v7 v8 v9 A2 c2 wN hblkN hownN hbN
          replace hblkN := Lib.hid hblkN
          replace hownN := Lib.hid hownN
          replace hbN := Lib.hid (hbr.trans hbN)
          have hmN : ∀ q ∈ rs ++ [z], q ∈ ps ∨ q ∈ qs := fun q hq => (List.mem_append.1 hq).elim (hmemH.out q) (fun h => by rw [List.mem_singleton.1 h]; assumption)
          replace hmN := Lib.hid hmN
          go_wp2
          go_roundg (n + m + 1 - (a + (b + 1)))
          case measure => omega
          case rel =>
            exact ⟨a, b + 1, n' + 1, A2, c2, rs ++ [z], by omega, by omega, rfl, rfl, by go_num, by omega, hQ.out, hblkN.out, hownN.out, hmN.out, hbN.out⟩
        have hgtd := Lib.hid (show decide (z.e.tag.2 < p.e.tag.2) = false from decide_eq_false hgt)
        have heq : pvN p.core = pvN z.core := by show p.e.tag.2 = z.e.tag.2; omega
        have heqH := Lib.hid heq
        have hpo := (hfm.out p hpm).2
        have hzo := (hfm.out z hzm).2
        clear heq hlt hgt
        by_cases hsm : p.core = z.core
        · have hQ : Hid ((mrgD pvN ((ps.map Pe.core).drop (a + 1)) ((qs.map Pe.core).drop (b + 1))).map (((rs ++ [p]).map Pe.core) ++ ·) = mrgD pvN (ps.map Pe.core) (qs.map Pe.core)) := Lib.hid (by
            rw [← hrsH.out, hdpH.out, hdzH.out, mrgD_same heqH.out hsm, map_snoc, List.map_append]; rfl)
          have hsmd := Lib.hid (show decide (p.core = z.core) = !false from decide_eq_true hsm)
          clear hsm
          go_upto_region 14 with (fail)
          refine mtest14_any _ _ (by kernel_rfl) wz (w.heap.size) (w.heap.size + 1) a b n m c d _ _ ps qs false q11 r11 (by omega) (by omega) ((hAr.out wz hbw).more (by omega)) ((hBr.out wz hbw).more (by omega)) (by omega) (by omega) (by omega) (by omega) (.inr (.inr ⟨hbl2, hal, p, z, hpH.out, hzH.out, hltd.out⟩)) (fun _ _ _ _ _ h => h) ?_
          iterate 31 (intro _)
          intro wN hbz1
          replace hown := hown.below hbz1
          replace hblkH := Lib.hid (blk_below hblkH.out hbz1)
          replace hbr := hbr.trans (hbz1.mono (by omega))
          have hz2 := hbz1.size
          replace hbl := blk_lt hblkH.out
          replace hbw := hbw.trans (hbz1.mono (by omega))
          replace q11 := (hbz1.cell (p := ⟨w.heap.size, 11, none⟩) (by show w.heap.size < _; omega)).trans q11
          replace r11 := (hbz1.cell (p := ⟨w.heap.size + 1, 11, none⟩) (by show w.heap.size + 1 < _; omega)).trans r11
          replace hlta := Nat.lt_of_lt_of_le hlta hz2
          replace hltb := Nat.lt_of_lt_of_le hltb hz2
          clear hbz1 hz2
          obtain ⟨wz, hwz⟩ : ∃ x, x = wN := ⟨_, rfl⟩
          obtain rfl := hwz
          go_upto_region 17 with (fail)
          refine mtest17_any _ _ (by kernel_rfl) wz (w.heap.size) (w.heap.size + 1) a b n m c d _ _ ps qs false q11 r11 (by omega) (by omega) ((hAr.out wz hbw).more (by omega)) ((hBr.out wz hbw).more (by omega)) (by omega) (by omega) (by omega) (by omega) (.inr ⟨hbl2, hal, p, z, hpH.out, hzH.out, hgtd.out⟩) (fun _ _ _ _ _ h => h) ?_
          iterate 24 (intro _)
          intro wN hbz1
          replace hown := hown.below hbz1
          replace hblkH := Lib.hid (blk_below hblkH.out hbz1)
          replace hbr := hbr.trans (hbz1.mono (by omega))
          have hz2 := hbz1.size
          replace hbl := blk_lt hblkH.out
          replace hbw := hbw.trans (hbz1.mono (by omega))
          replace q11 := (hbz1.cell (p := ⟨w.heap.size, 11, none⟩) (by show w.heap.size < _; omega)).trans q11
          replace r11 := (hbz1.cell (p := ⟨w.heap.size + 1, 11, none⟩) (by show w.heap.size + 1 < _; omega)).trans r11
          replace hlta := Nat.lt_of_lt_of_le hlta hz2
          replace hltb := Nat.lt_of_lt_of_le hltb hz2
          clear hbz1 hz2
          obtain ⟨wz, hwz⟩ : ∃ x, x = wN := ⟨_, rfl⟩
          obtain rfl := hwz
          go_upto_region 20 with (fail)
          refine mtest20_any _ _ (by kernel_rfl) wz (w.heap.size) (w.heap.size + 1) a b n m c d _ _ ps qs p z false q11 r11 (by omega) (by omega) ((hAr.out wz hbw).more (by omega)) ((hBr.out wz hbw).more (by omega)) hal hbl2 (by omega) (by omega) hpH.out hzH.out hpo hzo hsmd.out (fun _ _ _ _ _ h => h) ?_
          iterate 12 (intro _)
          intro wN hbz1
          replace hown := hown.below hbz1
          replace hblkH := Lib.hid (blk_below hblkH.out hbz1)
          replace hbr := hbr.trans (hbz1.mono (by omega))
          have hz2 := hbz1.size
          replace hbl := blk_lt hblkH.out
          replace hbw := hbw.trans (hbz1.mono (by omega))
          replace q11 := (hbz1.cell (p := ⟨w.heap.size, 11, none⟩) (by show w.heap.size < _; omega)).trans q11
          replace r11 := (hbz1.cell (p := ⟨w.heap.size + 1, 11, none⟩) (by show w.heap.size + 1 < _; omega)).trans r11
          replace hlta := Nat.lt_of_lt_of_le hlta hz2
          replace hltb := Nat.lt_of_lt_of_le hltb hz2
          clear hbz1 hz2
          obtain ⟨wz, hwz⟩ : ∃ x, x = wN := ⟨_, rfl⟩
          obtain rfl := hwz
          go_upto_region 11 with (fail)
          refine mapp11_any _ _ (by kernel_rfl) wz (w.heap.size) ob a n c n' c' _ A' ps rs _ (x1, x2) v (s && t) q11 ((hAr.out wz hbw).more (by omega)) hal hpH.out hnm (by omega) (by omega) hblkH.out hown (fun _ _ _ _ _ h => h) ?_
          intro v0 v1 v2 v3 v4 v5 v6 v7 v8 v9 A2 c2 wN hblkN hownN hbN
          replace hblkN := Lib.hid hblkN
          replace hownN := Lib.hid hownN
          replace hbN := Lib.hid (hbr.trans hbN)
          have hmN : ∀ q ∈ rs ++ [p], q ∈ ps ∨ q ∈ qs := fun q hq => (List.mem_append.1 hq).elim (hmemH.out q) (fun h => by rw [List.mem_singleton.1 h]; assumption)
          replace hmN := Lib.hid hmN
          go_wp2
          go_roundg (n + m + 1 - (a + 1 + (b + 1)))
          case measure => omega
          case rel =>
            exact ⟨a + 1, b + 1, n' + 1, A2, c2, rs ++ [p], by omega, by omega, rfl, by go_num, by go_num, by omega, hQ.out, hblkN.out, hownN.out, hmN.out, hbN.out⟩
        · have hnone : mrgD pvN (ps.map Pe.core) (qs.map Pe.core) = none := by
            rw [← hrsH.out, hdpH.out, hdzH.out, mrgD_bad heqH.out hsm]; rfl
          have hT : Hid ((zTv, (3 : Int)) = M) := Lib.hid (by have h1 := hR.out; rw [hnone] at h1; exact h1)
          have hsmd := Lib.hid (show decide (p.core = z.core) = !true from decide_eq_false hsm)
          clear hsm hnone
          go_upto_region 14 with (fail)
          refine mtest14_any _ _ (by kernel_rfl) wz (w.heap.size) (w.heap.size + 1) a b n m c d _ _ ps qs false q11 r11 (by omega) (by omega) ((hAr.out wz hbw).more (by omega)) ((hBr.out wz hbw).more (by omega)) (by omega) (by omega) (by omega) (by omega) (.inr (.inr ⟨hbl2, hal, p, z, hpH.out, hzH.out, hltd.out⟩)) (fun _ _ _ _ _ h => h) ?_
          iterate 31 (intro _)
          intro wN hbz1
          replace hown := hown.below hbz1
          replace hblkH := Lib.hid (blk_below hblkH.out hbz1)
          replace hbr := hbr.trans (hbz1.mono (by omega))
          have hz2 := hbz1.size
          replace hbl := blk_lt hblkH.out
          replace hbw := hbw.trans (hbz1.mono (by omega))
          replace q11 := (hbz1.cell (p := ⟨w.heap.size, 11, none⟩) (by show w.heap.size < _; omega)).trans q11
          replace r11 := (hbz1.cell (p := ⟨w.heap.size + 1, 11, none⟩) (by show w.heap.size + 1 < _; omega)).trans r11
          replace hlta := Nat.lt_of_lt_of_le hlta hz2
          replace hltb := Nat.lt_of_lt_of_le hltb hz2
          clear hbz1 hz2
          obtain ⟨wz, hwz⟩ : ∃ x, x = wN := ⟨_, rfl⟩
          obtain rfl := hwz
          go_upto_region 17 with (fail)
          refine mtest17_any _ _ (by kernel_rfl) wz (w.heap.size) (w.heap.size + 1) a b n m c d _ _ ps qs false q11 r11 (by omega) (by omega) ((hAr.out wz hbw).more (by omega)) ((hBr.out wz hbw).more (by omega)) (by omega) (by omega) (by omega) (by omega) (.inr ⟨hbl2, hal, p, z, hpH.out, hzH.out, hgtd.out⟩) (fun _ _ _ _ _ h => h) ?_
          iterate 24 (intro _)
          intro wN hbz1
          replace hown := hown.below hbz1
          replace hblkH := Lib.hid (blk_below hblkH.out hbz1)
          replace hbr := hbr.trans (hbz1.mono (by omega))
          have hz2 := hbz1.size
          replace hbl := blk_lt hblkH.out
          replace hbw := hbw.trans (hbz1.mono (by omega))
          replace q11 := (hbz1.cell (p := ⟨w.heap.size, 11, none⟩) (by show w.heap.size < _; omega)).trans q11
          replace r11 := (hbz1.cell (p := ⟨w.heap.size + 1, 11, none⟩) (by show w.heap.size + 1 < _; omega)).trans r11
          replace hlta := Nat.lt_of_lt_of_le hlta hz2
          replace hltb := Nat.lt_of_lt_of_le hltb hz2
          clear hbz1 hz2
          obtain ⟨wz, hwz⟩ : ∃ x, x = wN := ⟨_, rfl⟩
          obtain rfl := hwz
          go_upto_region 20 with (fail)
          refine mtest20_any _ _ (by kernel_rfl) wz (w.heap.size) (w.heap.size + 1) a b n m c d _ _ ps qs p z true q11 r11 (by omega) (by omega) ((hAr.out wz hbw).more (by omega)) ((hBr.out wz hbw).more (by omega)) hal hbl2 (by omega) (by omega) hpH.out hzH.out hpo hzo hsmd.out (fun _ _ _ _ _ h => h) ?_
          iterate 12 (intro _)
          intro wN hbz1
          replace hown := hown.below hbz1
          replace hblkH := Lib.hid (blk_below hblkH.out hbz1)
          replace hbr := hbr.trans (hbz1.mono (by omega))
          have hz2 := hbz1.size
          replace hbl := blk_lt hblkH.out
          replace hbw := hbw.trans (hbz1.mono (by omega))
          replace q11 := (hbz1.cell (p := ⟨w.heap.size, 11, none⟩) (by show w.heap.size < _; omega)).trans q11
          replace r11 := (hbz1.cell (p := ⟨w.heap.size + 1, 11, none⟩) (by show w.heap.size + 1 < _; omega)).trans r11
          replace hlta := Nat.lt_of_lt_of_le hlta hz2
          replace hltb := Nat.lt_of_lt_of_le hltb hz2
          clear hbz1 hz2
          obtain ⟨wz, hwz⟩ : ∃ x, x = wN := ⟨_, rfl⟩
          obtain rfl := hwz
          have hGW : Below W.heap.size W wz := hG6.trans (hbr.mono (by omega))
          clear q11 r11
          have hres := blk_below hbzH.out hGW
          have z0 := blk_cell hres 0
          have z1 := blk_cell hres 1
          have z2 := blk_cell hres 2
          have z3 := blk_cell hres 3
          have z4 := blk_cell hres 4
          have z5 := blk_cell hres 5
          have z6 := blk_cell hres 6
          have z7 := blk_cell hres 7
          have z8 := blk_cell hres 8
          have z9 := blk_cell hres 9
          have z10 := blk_cell hres 10
          have z11 := blk_cell hres 11
          simp at z0 z1 z2 z3 z4 z5 z6 z7 z8 z9 z10 z11
          have hlz := blk_lt hres
          have hfz := blk_frozen hres
          clear hres
          go_wp2
          rw [← hT.out]
          refine bodyPost_ret (v := .tuple #[.agg #[.int .i64 (0, 0).1, .int .u32 (0, 0).2, .int .u32 zeroV.d0, .int .u32 zeroV.d1, .int .u32 zeroV.d2, .int .u32 zeroV.d3, .int .u32 zeroV.d4, .int .u32 zeroV.d5, .int .u32 zeroV.d6, .int .u32 zeroV.d7, .bool false, .slice none 0 0], .int .i64 (3)]) (by simp [results, Tryd.results7, go_sem, z0, z1, z2, z3, z4, z5, z6, z7, z8, z9, z10, z11, zeroV]) rfl (MgD.zero _ ?_)
          repeat (with_reducible refine Below.setCell ?_ (by simp; omega) _)
          exact hb0.trans (hGW.mono hz0)
      · have hbm : b = m := by omega
        have hbnl : ¬ (b : Int) < (m : Int) := by omega
        have hdz : (qs.map Pe.core).drop b = [] := List.drop_of_length_le (by rw [List.length_map, hlB.out]; omega)
        have hdzH := Lib.hid hdz
        clear hdz
        replace hbm := Lib.hid hbm
        have hQ : Hid ((mrgD pvN ((ps.map Pe.core).drop (a + 1)) ((qs.map Pe.core).drop b)).map (((rs ++ [p]).map Pe.core) ++ ·) = mrgD pvN (ps.map Pe.core) (qs.map Pe.core)) := Lib.hid (by
          rw [← hrsH.out, hdpH.out, mrgD_left (by rw [hdzH.out]; intro y hy; cases hy), map_snoc, List.map_append]; rfl)
        go_upto_region 14 with (fail)
        refine mtest14_any _ _ (by kernel_rfl) wz (w.heap.size) (w.heap.size + 1) a b n m c d _ _ ps qs true q11 r11 (by omega) (by omega) ((hAr.out wz hbw).more (by omega)) ((hBr.out wz hbw).more (by omega)) (by omega) (by omega) (by omega) (by omega) (.inl ⟨hbm.out, rfl⟩) (fun _ _ _ _ _ h => h) ?_
        iterate 31 (intro _)
        intro wN hbz1
        replace hown := hown.below hbz1
        replace hblkH := Lib.hid (blk_below hblkH.out hbz1)
        replace hbr := hbr.trans (hbz1.mono (by omega))
        have hz2 := hbz1.size
        replace hbl := blk_lt hblkH.out
        replace hbw := hbw.trans (hbz1.mono (by omega))
        replace q11 := (hbz1.cell (p := ⟨w.heap.size, 11, none⟩) (by show w.heap.size < _; omega)).trans q11
        replace r11 := (hbz1.cell (p := ⟨w.heap.size + 1, 11, none⟩) (by show w.heap.size + 1 < _; omega)).trans r11
        replace hlta := Nat.lt_of_lt_of_le hlta hz2
        replace hltb := Nat.lt_of_lt_of_le hltb hz2
        clear hbz1 hz2
        obtain ⟨wz, hwz⟩ : ∃ x, x = wN := ⟨_, rfl⟩
        obtain rfl := hwz
        go_upto_region 15 with (fail)
        refine mapp15_any _ _ (by kernel_rfl) wz (w.heap.size) ob a n c n' c' _ A' ps rs _ (x1, x2) v (s && t) q11 ((hAr.out wz hbw).more (by omega)) hal hpH.out hnm (by omega) (by omega) hblkH.out hown (fun _ _ _ _ _ h => h) ?_
        intro v0 v1 v2 v3 v4 v5 v6 v7 v8 v9 A2 c2 wN hblkN hownN hbN
        replace hblkN := Lib.hid hblkN
        replace hownN := Lib.hid hownN
        replace hbN := Lib.hid (hbr.trans hbN)
        have hmN : ∀ q ∈ rs ++ [p], q ∈ ps ∨ q ∈ qs := fun q hq => (List.mem_append.1 hq).elim (hmemH.out q) (fun h => by rw [List.mem_singleton.1 h]; assumption)
        replace hmN := Lib.hid hmN
        go_wp2
        go_roundg (n + m + 1 - (a + 1 + (b)))
        case measure => omega
        case rel =>
          exact ⟨a + 1, b, n' + 1, A2, c2, rs ++ [p], by omega, by omega, rfl, by go_num, rfl, by omega, hQ.out, hblkN.out, hownN.out, hmN.out, hbN.out⟩
    · have han : a = n := by omega
      have hanl : ¬ (a : Int) < (n : Int) := by omega
      have hdp : (ps.map Pe.core).drop a = [] := List.drop_of_length_le (by rw [List.length_map, hlA.out]; omega)
      have hdpH := Lib.hid hdp
      clear hdp hpl hql
      have hanH := Lib.hid han
      clear han
      by_cases hbl2 : b < m
      · have hbli : (b : Int) < (m : Int) := by omega
        obtain ⟨z, hz⟩ : ∃ z, qs[b]? = some z := ⟨qs[b]'(by have := hqlH2.out; omega), List.getElem?_eq_getElem _⟩
        have hzm : z ∈ ps ∨ z ∈ qs := .inr (List.mem_of_getElem? hz)
        have hdz : (qs.map Pe.core).drop b = z.core :: (qs.map Pe.core).drop (b + 1) := by
          have h1 : (qs.map Pe.core)[b]? = some z.core := by rw [List.getElem?_map, hz]; rfl
          obtain ⟨h2, h3⟩ := List.getElem?_eq_some_iff.1 h1
          rw [List.drop_eq_getElem_cons h2, h3]
        have hdzH := Lib.hid hdz
        have hzH := Lib.hid hz
        clear hz hdz
        have hQ : Hid ((mrgD pvN ((ps.map Pe.core).drop a) ((qs.map Pe.core).drop (b + 1))).map (((rs ++ [z]).map Pe.core) ++ ·) = mrgD pvN (ps.map Pe.core) (qs.map Pe.core)) := Lib.hid (by
          rw [← hrsH.out, hdzH.out, mrgD_right (by rw [hdpH.out]; intro y hy; cases hy), map_snoc, List.map_append]; rfl)
        go_upto_region 14 with (fail)
        refine mtest14_any _ _ (by kernel_rfl) wz (w.heap.size) (w.heap.size + 1) a b n m c d _ _ ps qs false q11 r11 (by omega) (by omega) ((hAr.out wz hbw).more (by omega)) ((hBr.out wz hbw).more (by omega)) (by omega) (by omega) (by omega) (by omega) (.inr (.inl ⟨hbl2, hanH.out, rfl⟩)) (fun _ _ _ _ _ h => h) ?_
        iterate 31 (intro _)
        intro wN hbz1
        replace hown := hown.below hbz1
        replace hblkH := Lib.hid (blk_below hblkH.out hbz1)
        replace hbr := hbr.trans (hbz1.mono (by omega))
        have hz2 := hbz1.size
        replace hbl := blk_lt hblkH.out
        replace hbw := hbw.trans (hbz1.mono (by omega))
        replace q11 := (hbz1.cell (p := ⟨w.heap.size, 11, none⟩) (by show w.heap.size < _; omega)).trans q11
        replace r11 := (hbz1.cell (p := ⟨w.heap.size + 1, 11, none⟩) (by show w.heap.size + 1 < _; omega)).trans r11
        replace hlta := Nat.lt_of_lt_of_le hlta hz2
        replace hltb := Nat.lt_of_lt_of_le hltb hz2
        clear hbz1 hz2
        obtain ⟨wz, hwz⟩ : ∃ x, x = wN := ⟨_, rfl⟩
        obtain rfl := hwz
        go_upto_region 17 with (fail)
        refine mtest17_any _ _ (by kernel_rfl) wz (w.heap.size) (w.heap.size + 1) a b n m c d _ _ ps qs true q11 r11 (by omega) (by omega) ((hAr.out wz hbw).more (by omega)) ((hBr.out wz hbw).more (by omega)) (by omega) (by omega) (by omega) (by omega) (.inl ⟨hanH.out, rfl⟩) (fun _ _ _ _ _ h => h) ?_
        iterate 24 (intro _)
        intro wN hbz1
        replace hown := hown.below hbz1
        replace hblkH := Lib.hid (blk_below hblkH.out hbz1)
        replace hbr := hbr.trans (hbz1.mono (by omega))
        have hz2 := hbz1.size
        replace hbl := blk_lt hblkH.out
        replace hbw := hbw.trans (hbz1.mono (by omega))
        replace q11 := (hbz1.cell (p := ⟨w.heap.size, 11, none⟩) (by show w.heap.size < _; omega)).trans q11
        replace r11 := (hbz1.cell (p := ⟨w.heap.size + 1, 11, none⟩) (by show w.heap.size + 1 < _; omega)).trans r11
        replace hlta := Nat.lt_of_lt_of_le hlta hz2
        replace hltb := Nat.lt_of_lt_of_le hltb hz2
        clear hbz1 hz2
        obtain ⟨wz, hwz⟩ : ∃ x, x = wN := ⟨_, rfl⟩
        obtain rfl := hwz
        go_upto_region 18 with (fail)
        refine mapp18_any _ _ (by kernel_rfl) wz (w.heap.size + 1) ob b m d n' c' _ A' qs rs _ (x1, x2) v (s && t) r11 ((hBr.out wz hbw).more (by omega)) hbl2 hzH.out hnm (by omega) (by omega) hblkH.out hown (fun _ _ _ _ _ h => h) ?_
        intro v0 v1 v2 v3 v4 v5 v6 v7 v8 v9 A2 c2 wN hblkN hownN hbN
        replace hblkN := Lib.hid hblkN
        replace hownN := Lib.hid hownN
        replace hbN := Lib.hid (hbr.trans hbN)
        have hmN : ∀ q ∈ rs ++ [z], q ∈ ps ∨ q ∈ qs := fun q hq => (List.mem_append.1 hq).elim (hmemH.out q) (fun h => by rw [List.mem_singleton.1 h]; assumption)
        replace hmN := Lib.hid hmN
        go_wp2
        go_roundg (n + m + 1 - (a + (b + 1)))
        case measure => omega
        case rel =>
          exact ⟨a, b + 1, n' + 1, A2, c2, rs ++ [z], by omega, by omega, rfl, rfl, by go_num, by omega, hQ.out, hblkN.out, hownN.out, hmN.out, hbN.out⟩
      · have hbm : b = m := by omega
        have hbnl : ¬ (b : Int) < (m : Int) := by omega
        have hfin : Hid (mrgD pvN (ps.map Pe.core) (qs.map Pe.core) = some (rs.map Pe.core)) := Lib.hid (by
          rw [← hrsH.out, hdpH.out, List.drop_of_length_le (by rw [List.length_map, hlB.out]; omega), mrgD_none]; simp)
        have hM3 : Hid ((if 16 < n' then (zTv, (8 : Int)) else (⟨(x1, x2), v, s && t, rs.map Pe.core⟩, 0)) = M) := Lib.hid (by
          have h1 := hR.out
          rw [hfin.out] at h1
          dsimp only at h1
          rw [List.length_map, hqlH.out] at h1
          exact h1)
        replace hbm := Lib.hid hbm
        have o11 := blk_cell hblkH.out 11
        simp at o11
        by_cases h16 : 16 < n'
        · have h16i : (16 : Int) < (n' : Int) := by omega
          have hT : Hid ((zTv, (8 : Int)) = M) := Lib.hid (by have h1 := hM3.out; rw [if_pos h16] at h1; exact h1)
          have hGW := hGr
          have hres := blk_below hbzH.out hGW
          have z0 := blk_cell hres 0
          have z1 := blk_cell hres 1
          have z2 := blk_cell hres 2
          have z3 := blk_cell hres 3
          have z4 := blk_cell hres 4
          have z5 := blk_cell hres 5
          have z6 := blk_cell hres 6
          have z7 := blk_cell hres 7
          have z8 := blk_cell hres 8
          have z9 := blk_cell hres 9
          have z10 := blk_cell hres 10
          have z11 := blk_cell hres 11
          simp at z0 z1 z2 z3 z4 z5 z6 z7 z8 z9 z10 z11
          have hlz := blk_lt hres
          have hfz := blk_frozen hres
          clear hres
          go_wp2
          rw [← hT.out]
          refine bodyPost_ret (v := .tuple #[.agg #[.int .i64 (0, 0).1, .int .u32 (0, 0).2, .int .u32 zeroV.d0, .int .u32 zeroV.d1, .int .u32 zeroV.d2, .int .u32 zeroV.d3, .int .u32 zeroV.d4, .int .u32 zeroV.d5, .int .u32 zeroV.d6, .int .u32 zeroV.d7, .bool false, .slice none 0 0], .int .i64 (8)]) (by simp [results, Tryd.results7, go_sem, z0, z1, z2, z3, z4, z5, z6, z7, z8, z9, z10, z11, zeroV]) rfl (MgD.zero _ ?_)
          repeat (with_reducible refine Below.setCell ?_ (by simp; omega) _)
          exact hb0.trans (hGW.mono hz0)
        · have h16i : ¬ (16 : Int) < (n' : Int) := by omega
          have hT : Hid ((⟨(x1, x2), v, s && t, rs.map Pe.core⟩, (0 : Int)) = M) := Lib.hid (by have h1 := hM3.out; rw [if_neg h16] at h1; exact h1)
          have hres := blk_below hbzH.out hGr
          have z0 := blk_cell hres 0
          have z1 := blk_cell hres 1
          have z2 := blk_cell hres 2
          have z3 := blk_cell hres 3
          have z4 := blk_cell hres 4
          have z5 := blk_cell hres 5
          have z6 := blk_cell hres 6
          have z7 := blk_cell hres 7
          have z8 := blk_cell hres 8
          have z9 := blk_cell hres 9
          have z10 := blk_cell hres 10
          have z11 := blk_cell hres 11
          simp at z0 z1 z2 z3 z4 z5 z6 z7 z8 z9 z10 z11
          have o0 := blk_cell hblkH.out 0
          have o1 := blk_cell hblkH.out 1
          have o2 := blk_cell hblkH.out 2
          have o3 := blk_cell hblkH.out 3
          have o4 := blk_cell hblkH.out 4
          have o5 := blk_cell hblkH.out 5
          have o6 := blk_cell hblkH.out 6
          have o7 := blk_cell hblkH.out 7
          have o8 := blk_cell hblkH.out 8
          have o9 := blk_cell hblkH.out 9
          have o10 := blk_cell hblkH.out 10
          have o11 := blk_cell hblkH.out 11
          simp at o0 o1 o2 o3 o4 o5 o6 o7 o8 o9 o10 o11
          have hlz := blk_lt hres
          have hfz := blk_frozen hres
          have hresH := Lib.hid hres
          clear hres
          go_wp2
          rw [← hT.out]
          refine bodyPost_ret (v := .tuple #[.agg #[.int .i64 (x1, x2).1, .int .u32 (x1, x2).2, .int .u32 v.d0, .int .u32 v.d1, .int .u32 v.d2, .int .u32 v.d3, .int .u32 v.d4, .int .u32 v.d5, .int .u32 v.d6, .int .u32 v.d7, .bool (s && t), .slice A' n' c'], .int .i64 0]) (by simp [results, Tryd.results7, go_sem, z0, z1, z2, z3, z4, z5, z6, z7, z8, z9, z10, z11]) rfl (MgD.full ⟨?_, ?_⟩ rfl (fun q hq => (hfm.out q (hmemH.out q hq)).2) (by omega) ?_)
          · refine (Ow.rd (base := ob + 1) (e := 50) (c := c') ?_).1
            repeat (with_reducible refine Ow.setCell ?_ (by simp; omega) _)
            exact hown
          · intro q hq
            refine Pe.Ok.more (Pe.Ok.below (hfm.out q (hmemH.out q hq)).1 ?_) ?_
            · repeat (with_reducible refine Below.setCell ?_ (by simp; omega) _)
              exact hbw
            · have := hbw.size
              simp; omega
          · repeat (with_reducible refine Below.setCell ?_ (by simp; omega) _)
            exact hbw
theorem rtxmerge_any (x : Im) (v : Vm) (s : Bool) (A : Option Addr) (n c : Nat) (ps : List Pe) (y : Im) (u : Vm) (t : Bool) (B : Option Addr) (m d : Nat) (qs : List Pe) (w : World)
    (hA : RdE w w.heap.size A n ps) (hn : n ≤ 400) (hfA : ∀ p ∈ ps, p.Fit w) (hx : x.wf) (hvw : v.wf) (hB : RdE w w.heap.size B m qs) (hm : m ≤ 400) (hfB : ∀ p ∈ qs, p.Fit w) (hy : y.wf) (huw : u.wf) (M : Tv × Int) (hM : mergeT ⟨x, v, s, ps.map Pe.core⟩ ⟨y, u, t, qs.map Pe.core⟩ = M) :
    Calls Tryd.prog 7 #[.agg #[.int .i64 x.1, .int .u32 x.2, .int .u32 v.d0, .int .u32 v.d1, .int .u32 v.d2, .int .u32 v.d3, .int .u32 v.d4, .int .u32 v.d5, .int .u32 v.d6, .int .u32 v.d7, .bool s, .slice A n c], .agg #[.int .i64 y.1, .int .u32 y.2, .int .u32 u.d0, .int .u32 u.d1, .int .u32 u.d2, .int .u32 u.d3, .int .u32 u.d4, .int .u32 u.d5, .int .u32 u.d6, .int .u32 u.d7, .bool t, .slice B m d]] w
      (fun e w' => MgD M w e w') := by
  by_cases ha : txErr x v (ps.map Pe.core) = 0
  · by_cases hb : txErr y u (qs.map Pe.core) = 0
    · cases hh : (decide (x.1 = y.1) && decide (x.2 = y.2) && eqV v u) with
      | false => exact rtxmergeC_any x v s A n c ps y u t B m d qs w hA hn hfA hx hvw hB hm hfB hy huw M hM ha hb hh
      | true => exact rtxmergeD_any x v s A n c ps y u t B m d qs w hA hn hfA hx hvw hB hm hfB hy huw M hM ha hb hh
    · exact rtxmergeB_any x v s A n c ps y u t B m d qs w hA hn hfA hx hvw hB hm hfB hy huw M hM ha hb
  · exact rtxmergeA_any x v s A n c ps y u t B m d qs w hA hn hfA hx hvw hB hm hfB hy huw M hM ha
end Go.Proofs.YtpolplmniaoikaaDoor
