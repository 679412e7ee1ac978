/- What is wrong with a part of a transaction: the program's. What is wrong with a transaction: the program's Check. What is wrong with a transaction: the document's Check. -/
import Derived.Test.YtfhandglpjnonaaGreatDoorM47
import Derived.Test.YtfhandglpjnonaaGreatDoorM45
import Derived.Test.YtfhandglpjnonaaGreatDoorN16
import Derived.Test.YtfhandglpjnonaaGreatDoorN08
set_option maxRecDepth 100000
set_option maxHeartbeats 16000000
namespace Go.Proofs.YtfhandglpjnonaaGreatDoor
open Go.RowKit
def partErr (id : Im) (last : Int) (p : Pv) : Int :=
 if keyE p.1 ≠ 0 then keyE p.1 else if errE p.2 ≠ 0 then errE p.2 else if kindA p.2.act ≠ keyK p.1 then 5
 else if (!(decide (p.2.tag.1.1 = id.1) && decide (p.2.tag.1.2 = id.2)) || decide (p.2.tag.2 ≤ last) || (decide (0 < p.2.st.1) && !decide (p.2.st.2 = id.1))) = true then 3 else 0
structure Pe.Fit (w : World) (p : Pe) : Prop where
 ok : p.Ok w w.heap.size
 wf : p.e.wf
 key : p.key.length ≤ maxLen
 name : p.e.name.length ≤ maxLen
 l : p.l ≤ 100000
theorem Pe.Fit.below {w w' : World} {p : Pe} (h : p.Fit w) (hb : Below w.heap.size w w') : p.Fit w' := ⟨(Pe.Ok.below h.ok hb).more hb.size, h.wf, h.key, h.name, h.l⟩
theorem ppart_any (p : Pe) (id : Im) (last : Int) (w : World) (hf : p.Fit w) (hv : VarM w) :
 Calls Tryz.prog 116 #[.agg #[.string (bs p.key), .int .i64 p.e.act, .string (bs p.e.name), .int .i64 p.e.val, .int .i64 p.e.tag.1.1, .int .u32 p.e.tag.1.2, .int .i64 p.e.tag.2, .int .u32 p.e.st.1, .int .i64 p.e.st.2, .slice p.A p.l p.c], .agg #[.int .i64 id.1, .int .u32 id.2], .int .i64 last] w fun e w' => e = .returned (.int .i64 (partErr id last p.core)) ∧ Below w.heap.size w w' := by
 obtain ⟨key, ⟨act, nm, val, ⟨⟨o, s⟩, nn⟩, ⟨tm, ao⟩, tgs⟩, A, l, c⟩ := p
 obtain ⟨i, q⟩ := id
 obtain ⟨hok, hwf, hkl, hnl, hll⟩ := hf
 have hcE := fun w' h1 => ocheck_e_any ⟨act, nm, val, ((o, s), nn), (tm, ao), tgs⟩ A l c w' h1 hll hwf hnl
 have h0t : 0 ≤ tm := hwf.2.1.1
 unfold Pe.Ok at hok
 unfold Pe.core
 dsimp only at *
 generalize hr : partErr (i, q) last (key, ⟨act, nm, val, ((o, s), nn), (tm, ao), tgs⟩) = r
 unfold partErr at hr
 dsimp only at hr
 have hb0 : Below w.heap.size w ((w.alloc (.cells #[.string (bs key), .int .i64 act, .string (bs nm), .int .i64 val, .int .i64 o, .int .u32 s, .int .i64 nn, .int .u32 tm, .int .i64 ao, .slice A l c] 159)).alloc (.cells #[.int .i64 i, .int .u32 q] 24)) := ((Below.refl _ w).alloc (Nat.le_refl _) _).alloc (by simp) _
 have hbx : ((w.alloc (.cells #[.string (bs key), .int .i64 act, .string (bs nm), .int .i64 val, .int .i64 o, .int .u32 s, .int .i64 nn, .int .u32 tm, .int .i64 ao, .slice A l c] 159)).alloc (.cells #[.int .i64 i, .int .u32 q] 24)).heap[w.heap.size]? = some (.cells #[.string (bs key), .int .i64 act, .string (bs nm), .int .i64 val, .int .i64 o, .int .u32 s, .int .i64 nn, .int .u32 tm, .int .i64 ao, .slice A l c] 159 (0, 0)) := yE _ (by simp) (jT _ _ rfl)
 have hby : ((w.alloc (.cells #[.string (bs key), .int .i64 act, .string (bs nm), .int .i64 val, .int .i64 o, .int .u32 s, .int .i64 nn, .int .u32 tm, .int .i64 ao, .slice A l c] 159)).alloc (.cells #[.int .i64 i, .int .u32 q] 24)).heap[w.heap.size + 1]? = some (.cells #[.int .i64 i, .int .u32 q] 24 (0, 0)) := jT _ _ (by simp)
 generalize hW : ((w.alloc (.cells #[.string (bs key), .int .i64 act, .string (bs nm), .int .i64 val, .int .i64 o, .int .u32 s, .int .i64 nn, .int .u32 tm, .int .i64 ao, .slice A l c] 159)).alloc (.cells #[.int .i64 i, .int .u32 q] 24)) = W at hb0 hbx hby
 have cK := jH (fun w' (h : Below w.heap.size w w') => okey_any key hkl w' (hv.below h hv.lt))
 have cE := jH (fun w' (h : Below w.heap.size w w') => hcE w' ((RdT.below hok h).more h.size))
 have cA := jH (okind_any act)
 have hbxH := jH hbx
 have hbyH := jH hby
 generalize errE ⟨act, nm, val, ((o, s), nn), (tm, ao), tgs⟩ = ee at cE hr
 generalize keyE key = ke at cK hr
 generalize keyK key = kk at cK hr
 generalize kindA act = ka at cA hr
 have hrH := jH hr
 (try clear q0 q1 q2 q3 q4 q5 q6 q7 q8 q9 s0 s1 hltx hlty)
 have hltx := jB hbx
 have hlty := jB hby
 have q0 := jA hbx 0
 have q1 := jA hbx 1
 have q2 := jA hbx 2
 have q3 := jA hbx 3
 have q4 := jA hbx 4
 have q5 := jA hbx 5
 have q6 := jA hbx 6
 have q7 := jA hbx 7
 have q8 := jA hbx 8
 have q9 := jA hbx 9
 have s0 := jA hby 0
 have s1 := jA hby 1
 simp at q0 q1 q2 q3 q4 q5 q6 q7 q8 q9 s0 s1
 clear hcE hok hwf hkl hnl hll hbx hby hr hv
 go_enter Tryz.func116, Tryz.ntmps116
 go_wp2_with fail
 refine (cK.out _ hb0).mono ?_
 rintro e w1 ⟨rfl, hb1⟩
 have hG1 := hb0.trans (hb1.mono hb0.size)
 by_cases h1 : ke = 0
 case neg =>
  have hT : Hid (ke = r) := jH (by have := hrH.out; rw [if_pos h1] at this; exact this)
  have h1b : (ke != 0) = true := by simpa using h1
  clear h1
  go_wp2
  go_ret
  exact ⟨jJ hT.out, hG1⟩
 subst h1
 have hr2 : Hid ((if ee ≠ 0 then ee else if ka ≠ kk then 5 else if (!(decide (o = i) && decide (s = q)) || decide (nn ≤ last) || (decide (0 < tm) && !decide (ao = i))) = true then 3 else 0) = r) := jH (by have := hrH.out; rw [if_neg (by simp)] at this; exact this)
 clear hrH cK
 have hx1 := jD hbxH.out hb1
 have hy1 := jD hbyH.out hb1
 (try clear q0 q1 q2 q3 q4 q5 q6 q7 q8 q9 s0 s1 hltx hlty)
 have hltx := jB hx1
 have hlty := jB hy1
 have q0 := jA hx1 0
 have q1 := jA hx1 1
 have q2 := jA hx1 2
 have q3 := jA hx1 3
 have q4 := jA hx1 4
 have q5 := jA hx1 5
 have q6 := jA hx1 6
 have q7 := jA hx1 7
 have q8 := jA hx1 8
 have q9 := jA hx1 9
 have s0 := jA hy1 0
 have s1 := jA hy1 1
 simp at q0 q1 q2 q3 q4 q5 q6 q7 q8 q9 s0 s1
 clear hx1 hy1
 go_wp2_with fail
 refine (cE.out _ hG1).mono ?_
 rintro e w2 ⟨rfl, hb2⟩
 have hG2 := hG1.trans (hb2.mono hG1.size)
 have hW2 := hb1.trans (hb2.mono hb1.size)
 by_cases h1 : ee = 0
 case neg =>
  have hT : Hid (ee = r) := jH (by have := hr2.out; rw [if_pos h1] at this; exact this)
  have h1b : (ee != 0) = true := by simpa using h1
  clear h1
  go_wp2
  go_ret
  exact ⟨jJ hT.out, hG2⟩
 subst h1
 have hr3 : Hid ((if ka ≠ kk then 5 else if (!(decide (o = i) && decide (s = q)) || decide (nn ≤ last) || (decide (0 < tm) && !decide (ao = i))) = true then 3 else 0) = r) := jH (by have := hr2.out; rw [if_neg (by simp)] at this; exact this)
 clear hr2 cE
 have hx2 := jD hbxH.out hW2
 have hy2 := jD hbyH.out hW2
 (try clear q0 q1 q2 q3 q4 q5 q6 q7 q8 q9 s0 s1 hltx hlty)
 have hltx := jB hx2
 have hlty := jB hy2
 have q0 := jA hx2 0
 have q1 := jA hx2 1
 have q2 := jA hx2 2
 have q3 := jA hx2 3
 have q4 := jA hx2 4
 have q5 := jA hx2 5
 have q6 := jA hx2 6
 have q7 := jA hx2 7
 have q8 := jA hx2 8
 have q9 := jA hx2 9
 have s0 := jA hy2 0
 have s1 := jA hy2 1
 simp at q0 q1 q2 q3 q4 q5 q6 q7 q8 q9 s0 s1
 clear hx2 hy2
 go_wp2_with fail
 refine (cA.out _).mono ?_
 rintro e w3 ⟨rfl, rfl⟩
 by_cases h1 : ka = kk
 case neg =>
  have hT : Hid (5 = r) := jH (by have := hr3.out; rw [if_pos h1] at this; exact this)
  have h1b : (ka != kk) = true := by simpa using h1
  clear h1
  go_wp2
  go_ret
  exact ⟨jJ hT.out, hG2⟩
 subst h1
 have hkk : (ka != ka) = false := by simp
 have hr4 : Hid ((if (!(decide (o = i) && decide (s = q)) || decide (nn ≤ last) || (decide (0 < tm) && !decide (ao = i))) = true then 3 else 0) = r) := jH (by have := hr3.out; rw [if_neg (by simp)] at this; exact this)
 clear hr3 cA
 by_cases h1 : o = i
 case neg =>
  have hT : Hid (3 = r) := jH (by have := hr4.out; rw [decide_eq_false h1] at this; simpa using this)
  go_wp2
  go_ret
  exact ⟨jJ hT.out, hG2⟩
 subst h1
 by_cases h2 : s = q
 case neg =>
  have hT : Hid (3 = r) := jH (by have := hr4.out; rw [decide_eq_false h2] at this; simpa using this)
  go_wp2
  go_ret
  exact ⟨jJ hT.out, hG2⟩
 subst h2
 by_cases h3 : nn ≤ last
 ·
  have hT : Hid (3 = r) := jH (by have := hr4.out; rw [decide_eq_true h3] at this; simpa using this)
  have h3b : decide (nn ≤ last) = true := decide_eq_true h3
  clear h3
  go_wp2
  go_ret
  exact ⟨jJ hT.out, hG2⟩
 have h3b : decide (nn ≤ last) = false := decide_eq_false h3
 by_cases h4 : 0 < tm
 ·
  have h4b : decide (0 < tm) = true := decide_eq_true h4
  by_cases h5 : ao = o
  ·
   have hT : Hid (0 = r) := jH (by have := hr4.out; rw [h3b, h5] at this; simpa using this)
   subst h5
   have hoo : (ao != ao) = false := by simp
   clear h3 h4
   go_wp2
   go_ret
   exact ⟨jJ hT.out, hG2⟩
  ·
   have hT : Hid (3 = r) := jH (by have := hr4.out; rw [h3b, h4b, decide_eq_false h5] at this; simpa using this)
   have h5b : (ao != o) = true := by simpa using h5
   clear h3 h4 h5
   go_wp2
   go_ret
   exact ⟨jJ hT.out, hG2⟩
 ·
  have h4b : decide (0 < tm) = false := decide_eq_false h4
  have hT : Hid (0 = r) := jH (by have := hr4.out; rw [h3b, h4b] at this; simpa using this)
  clear h3 h4
  go_wp2
  go_ret
  exact ⟨jJ hT.out, hG2⟩
def partsErr (id : Im) : Int → List Pv → Int
 | _, [] => 0
 | last, p :: r => if partErr id last p ≠ 0 then partErr id last p else partsErr id p.2.tag.2 r
def txErr (id : Im) (v : Vm) (ps : List Pv) : Int :=
 if (chk id && vchk v) = false then 2 else if v.get id.1 + 1 ≠ id.2 then 17 else if 16 < ps.length then 8 else partsErr id (-1) ps
theorem head_err (x : Im) (v : Vm) : (if errI (chk x) ≠ 0 then errI (chk x) else errI (vchk v)) = if (chk x && vchk v) = false then 2 else 0 := by
 cases chk x <;> cases vchk v <;> rfl
theorem vget_le {v : Vm} (hv : v.wf) (h : vchk v = true) (k : Nat) : 0 ≤ v.get k ∧ v.get k ≤ 1048576 := by
 simp only [vchk, decide_eq_true_eq] at h
 obtain ⟨h0, h1, h2, h3, h4, h5, h6, h7⟩ := hv
 unfold Vm.get
 (repeat' split) <;> omega
theorem txcheck_any (x : Im) (v : Vm) (t : Bool) (A : Option Addr) (n c : Nat) (ps : List Pe) (w : World) (hA : RdE w w.heap.size A n ps) (hn : n ≤ maxLen) (hf : ∀ p ∈ ps, p.Fit w) (hx : x.wf) (hvw : v.wf) (hv : VarM w) :
 Calls Tryz.prog 83 #[.agg #[.int .i64 x.1, .int .u32 x.2, .int .u32 v.d0, .int .u32 v.d1, .int .u32 v.d2, .int .u32 v.d3, .int .u32 v.d4, .int .u32 v.d5, .int .u32 v.d6, .int .u32 v.d7, .bool t, .slice A n c]] w fun e w' => e = .returned (.int .i64 (txErr x v (ps.map Pe.core))) ∧ Below w.heap.size w w' := by
 unfold maxLen at hn
 have hb0 : Below w.heap.size w (w.alloc (.cells #[.int .i64 x.1, .int .u32 x.2, .int .u32 v.d0, .int .u32 v.d1, .int .u32 v.d2, .int .u32 v.d3, .int .u32 v.d4, .int .u32 v.d5, .int .u32 v.d6, .int .u32 v.d7, .bool t, .slice A n c] 45)) := (Below.refl _ w).alloc (Nat.le_refl _) _
 have hbt : (w.alloc (.cells #[.int .i64 x.1, .int .u32 x.2, .int .u32 v.d0, .int .u32 v.d1, .int .u32 v.d2, .int .u32 v.d3, .int .u32 v.d4, .int .u32 v.d5, .int .u32 v.d6, .int .u32 v.d7, .bool t, .slice A n c] 45)).heap[w.heap.size]? = some (.cells #[.int .i64 x.1, .int .u32 x.2, .int .u32 v.d0, .int .u32 v.d1, .int .u32 v.d2, .int .u32 v.d3, .int .u32 v.d4, .int .u32 v.d5, .int .u32 v.d6, .int .u32 v.d7, .bool t, .slice A n c] 45 (0, 0)) := jT _ _ rfl
 generalize hWe : (w.alloc (.cells #[.int .i64 x.1, .int .u32 x.2, .int .u32 v.d0, .int .u32 v.d1, .int .u32 v.d2, .int .u32 v.d3, .int .u32 v.d4, .int .u32 v.d5, .int .u32 v.d6, .int .u32 v.d7, .bool t, .slice A n c] 45)) = W at hb0 hbt
 have hz0 := hb0.size
 have hbtH := jH hbt
 have hlen := jH hA.len
 have hAr := jH (fun w' (h : Below w.heap.size w w') => hA.below h)
 have hFr := jH hf
 have cO := jH (chk_any x hx)
 have cV := jH (vcheck_any v)
 have hor := jH (fun g w hg h0 h1 => orE_any g (errI (chk x)) (errI (vchk v)) w hg h0 h1)
 have hvr := jH (fun w' (h : Below w.heap.size w w') => hv.below h hv.lt)
 have hvl := jH (fun h : vchk v = true => vget_le hvw h)
 rw [head_err] at hor
 generalize he0 : (if (chk x && vchk v) = false then (2 : Int) else 0) = e0 at hor
 replace he0 := jH he0
 generalize hr : txErr x v (ps.map Pe.core) = r
 unfold txErr at hr
 rw [List.length_map, hA.len] at hr
 generalize hcs : ps.map Pe.core = cs at hr
 have hcsH := jH hcs
 have hrH := jH hr
 have q0 := jA hbt 0
 have q1 := jA hbt 1
 have q2 := jA hbt 2
 have q3 := jA hbt 3
 have q4 := jA hbt 4
 have q5 := jA hbt 5
 have q6 := jA hbt 6
 have q7 := jA hbt 7
 have q8 := jA hbt 8
 have q9 := jA hbt 9
 have q10 := jA hbt 10
 have q11 := jA hbt 11
 simp at q0 q1 q2 q3 q4 q5 q6 q7 q8 q9 q10 q11
 have hltq := jB hbt
 clear hA hf hx hvw hv hbt hr hcs
 go_enter Tryz.func83, Tryz.ntmps83
 go_wp2_with fail
 go_cut [3] (fun s wx => s = .int .i64 e0 ∧ Below W.heap.size W wx)
 case first =>
  refine jW (fun w' => KQ W.heap.size W w') (fun _ => True) 99 (by kernel_rfl) (kq (Below.refl _ _).drew) trivial ?_
  intro hcl
  have hC : KQ W.heap.size W W.drew := kq (Below.refl _ _).drew
  have hE := trivial
  (refine mT 0 ?_ rfl hcl hC hE ?_ ?_; rotate_left; (· (intro w hSw; (try dsimp only at hSw); go_simp; (try with_reducible rfl))); clear hcl; intro hcl; (try simp only [Act.put, List.getElem_toArray, List.getElem_cons_zero, List.setIfInBounds_toArray, List.set_cons_zero, List.set_cons_succ]))
  (refine mT 1 ?_ rfl hcl hC hE ?_ ?_; rotate_left; (· (intro w hSw; (try dsimp only at hSw); go_simp; (try with_reducible rfl))); clear hcl; intro hcl; (try simp only [Act.put, nA, nB, nC, nD, nE, nF]))
  (refine mT 3 ?_ rfl hcl hC hE ?_ ?_; rotate_left; (· (intro w hSw; (try dsimp only at hSw); go_simp; (try with_reducible rfl))); clear hcl; intro hcl; (try simp only [Act.put, nA, nB, nC, nD, nE, nF]))
  (refine mT 4 ?_ rfl hcl hC hE ?_ ?_; rotate_left; (· (intro w hSw; (try dsimp only at hSw); go_simp; (try with_reducible rfl))); clear hcl; intro hcl; (try simp only [Act.put, nA, nB, nC, nD, nE, nF]))
  refine jK (i := 2) rfl (by kernel_rfl) hcl (fun K hK => ?_)
  go_simp
  refine (cO.out _).mono ?_
  rintro e v1 ⟨rfl, hv1⟩
  have hC' := jP hC (Nat.le_refl _) hv1
  refine hK.out _ _ hC' trivial ?_
  clear hK K
  clear hcl
  intro hcl
  (try simp only [Act.put, nA, nB, nC, nD, nE, nF])
  clear hC
  have hC := hC'
  clear hC'
  refine jK (i := 5) rfl (by kernel_rfl) hcl (fun K hK => ?_)
  go_simp
  refine (cV.out _).mono ?_
  rintro e v2 ⟨rfl, hv2⟩
  have hC' := jP hC (Nat.le_refl _) hv2
  refine hK.out _ _ hC' trivial ?_
  clear hK K
  clear hcl
  intro hcl
  (try simp only [Act.put, nA, nB, nC, nD, nE, nF])
  clear hC
  have hC := hC'
  clear hC'
  refine jK (i := 6) rfl (by kernel_rfl) hcl (fun K hK => ?_)
  go_simp
  have hC3 := kq_alloc hC (Nat.le_refl _) (.cells #[.int .i64 (errI (chk x)), .int .i64 (errI (vchk v))] 40)
  refine hK.out _ _ hC3 trivial ?_
  clear hK K hcl hC
  intro hcl
  have hC := hC3
  (try simp only [Act.put, List.setIfInBounds_toArray, List.set_cons_zero, List.set_cons_succ])
  refine jK (i := 7) rfl (by kernel_rfl) hcl (fun K hK => ?_)
  go_simp
  refine (hor.out _ _ (by simp) (jA (jT _ _ (by simp)) 0) (jA (jT _ _ (by simp)) 1)).mono ?_
  rintro e v3 ⟨rfl, rfl⟩
  refine hK.out _ _ hC trivial ?_
  clear hK K
  clear hcl
  intro hcl
  (try simp only [Act.put, nA, nB, nC, nD, nE, nF])
  (refine mT 8 ?_ rfl hcl hC hE ?_ ?_; rotate_left; (· (intro w hSw; (try dsimp only at hSw); go_simp; (try with_reducible rfl))); clear hcl; intro hcl; (try simp only [Act.put, nA, nB, nC, nD, nE, nF]))
  refine wpM_done (by kernel_rfl) ?_
  clear hcl
  try simp only [List.getElem_toArray, List.getElem_cons_zero, List.getElem_cons_succ, List.setIfInBounds_toArray, List.set_cons_zero, List.set_cons_succ]
  go_wp2_with fail
  go_meet
  exact ⟨rfl, hC.1⟩
 case rest =>
  obtain ⟨rfl, hb1⟩ := hcut
  obtain ⟨w1, hw1⟩ : ∃ w1, w1 = wc := ⟨_, rfl⟩
  obtain rfl := hw1
  have hG1 := hb0.trans (hb1.mono hz0)
  clear q0 q1 q2 q3 q4 q5 q6 q7 q8 q9 q10 q11 hltq cO cV hor
  have hbt1 := jD hbtH.out hb1
  have q0 := jA hbt1 0
  have q1 := jA hbt1 1
  have q2 := jA hbt1 2
  have q3 := jA hbt1 3
  have q4 := jA hbt1 4
  have q5 := jA hbt1 5
  have q6 := jA hbt1 6
  have q7 := jA hbt1 7
  have q8 := jA hbt1 8
  have q9 := jA hbt1 9
  have q10 := jA hbt1 10
  have q11 := jA hbt1 11
  simp at q0 q1 q2 q3 q4 q5 q6 q7 q8 q9 q10 q11
  have hltq := jB hbt1
  cases hck : (chk x && vchk v) with
  | false =>
   have hT : Hid (2 = r) := jH (by have := hrH.out; rw [hck, if_pos rfl] at this; exact this)
   obtain rfl : 2 = e0 := by have := he0.out; rw [hck, if_pos rfl] at this; exact this
   clear hck he0
   go_wp2
   go_ret
   exact ⟨jJ hT.out, hG1⟩
  | true =>
  obtain rfl : 0 = e0 := by have := he0.out; rw [hck, if_neg (by decide)] at this; exact this
  have hr2 : Hid ((if v.get x.1 + 1 ≠ x.2 then 17 else if 16 < n then 8 else partsErr x (-1) cs) = r) := jH (by have := hrH.out; rw [hck, if_neg (by decide)] at this; exact this)
  rw [Bool.and_eq_true] at hck
  obtain ⟨hch, hvc⟩ := hck
  have hvl2 := hvl.out hvc
  simp only [chk, decide_eq_true_eq] at hch
  obtain ⟨o, s⟩ := x
  dsimp only at *
  obtain ⟨i1, i2, i3, i4⟩ := hch
  obtain ⟨k, rfl⟩ : ∃ k : Nat, o = (k : Int) := ⟨o.toNat, by omega⟩
  have hk0 : (0 : Int) ≤ (k : Int) := by omega
  have hk8 : (k : Int) < 8 := by omega
  have hk9 : (k : Int) ≤ 7 := by omega
  have hvk := hvl2 k
  have hcell : w1.cell? ⟨w.heap.size, 2 + k, none⟩ = some (.int .u32 (v.get k)) := by
   rw [jA hbt1]
   obtain rfl | rfl | rfl | rfl | rfl | rfl | rfl | rfl : k = 0 ∨ k = 1 ∨ k = 2 ∨ k = 3 ∨ k = 4 ∨ k = 5 ∨ k = 6 ∨ k = 7 := by omega
   all_goals simp [Vm.get]
  have hwr : IntKind.u32.wrap (v.get k + 1) = v.get k + 1 := IntWalk.u32_in _ (by omega)
  have hget : Hid (v.get ((k : Nat) : Int) = v.get k) := jH rfl
  have hq0 : KQ w1.heap.size w1 w1 := kq (Below.refl _ _)
  clear hrH hvl hvl2 hvc hbt1
  by_cases hne : v.get k + 1 = s
  case neg =>
   have hT : Hid (17 = r) := jH (by have := hr2.out; rw [if_pos hne] at this; exact this)
   have hneb : (v.get k + 1 != s) = true := by simpa using hne
   clear hne hget
   generalize v.get k = z at *
   go_wp2_with fail
   go_region_held3 (fun w' => KQ w1.heap.size w1 w') (first
    | with_reducible exact jP (by assumption) (by simp) (by assumption)
    | with_reducible exact yB (by assumption) (by simp) (by assumption) (by simp [Value.ownBlock])
    | ((with_reducible refine kq ?_); (repeat (first | (with_reducible exact Below.refl _ _) | (with_reducible refine Below.drew ?_) | (with_reducible refine Below.alloc ?_ (by simp) _) | (with_reducible refine Below.setCell ?_ (by simp) _) | (with_reducible exact (by assumption : KQ _ _ _).1))); done)) (first | (go_at_call 0; skip))
   go_wp2
   go_ret
   exact ⟨jJ hT.out, hG1.drew⟩
  have hneb : (v.get k + 1 != s) = false := by simpa using hne
  have hr3 : Hid ((if 16 < n then 8 else partsErr ((k : Int), s) (-1) cs) = r) := jH (by have := hr2.out; rw [if_neg (by simpa using hne)] at this; exact this)
  clear hne hget hr2
  generalize v.get k = z at *
  go_wp2_with fail
  go_region_held3 (fun w' => KQ w1.heap.size w1 w') (first
   | with_reducible exact jP (by assumption) (by simp) (by assumption)
   | with_reducible exact yB (by assumption) (by simp) (by assumption) (by simp [Value.ownBlock])
   | ((with_reducible refine kq ?_); (repeat (first | (with_reducible exact Below.refl _ _) | (with_reducible refine Below.drew ?_) | (with_reducible refine Below.alloc ?_ (by simp) _) | (with_reducible refine Below.setCell ?_ (by simp) _) | (with_reducible exact (by assumption : KQ _ _ _).1))); done)) (first | (go_at_call 0; skip))
  clear hvk hcell hwr hneb hq0 q0 q1 q2 q3 q4 q5 q6 q7 q8 q9 q10 hk0 hk8 hk9 i1 i2 i3 i4
  have hb1d := hb1.drew
  have hG1d := hG1.drew
  by_cases h16 : 16 < n
  ·
   have hT : Hid (8 = r) := jH (by have := hr3.out; rw [if_pos h16] at this; exact this)
   have hd : decide ((16 : Int) < (n : Int)) = true := decide_eq_true (by omega)
   clear h16
   go_wp2
   go_ret
   exact ⟨jJ hT.out, hG1d⟩
  have hd : decide ((16 : Int) < (n : Int)) = false := decide_eq_false (by omega)
  have hr4 : Hid (partsErr ((k : Int), s) (-1) cs = r) := jH (by have := hr3.out; rw [if_neg h16] at this; exact this)
  clear hr3
  go_wp2_with fail
  clear q11 hltq
  go_loopg [4, 37] (n + 1) (fun g l0 i wr => ∃ (m : Nat) (last : Int), m ≤ n ∧ g = n + 1 - m ∧ l0 = .int .i64 last ∧ i = .int .i64 (m : Int) ∧ partsErr ((k : Int), s) last (cs.drop m) = r ∧ Below W.heap.size W wr)
  case atStart => exact ⟨0, -1, Nat.zero_le _, rfl, rfl, rfl, hr4.out, hb1d⟩
  case round =>
   clear hb1d hG1d hb1 hG1
   obtain ⟨m, last, hm, rfl, rfl, rfl, hsuf, hbr⟩ := hrel
   have hGr := hb0.trans (hbr.mono hz0)
   have hz := hGr.size
   have hbtr := jD hbtH.out hbr
   have hltq := jB hbtr
   have q0 := jA hbtr 0
   have q1 := jA hbtr 1
   simp at q0 q1
   clear hbtr
   have hsufH := jH hsuf
   clear hsuf
   by_cases hlt : m < n
   ·
    have hAw := hAr.out wr hGr
    obtain ⟨bA, oA, p, rfl, hbA, hp, hcp⟩ := hAw.1.at_ hlt
    have p0 := hcp 0 _ rfl
    have p1 := hcp 1 _ rfl
    have p2 := hcp 2 _ rfl
    have p3 := hcp 3 _ rfl
    have p4 := hcp 4 _ rfl
    have p5 := hcp 5 _ rfl
    have p6 := hcp 6 _ rfl
    have p7 := hcp 7 _ rfl
    have p8 := hcp 8 _ rfl
    have p9 := hcp 9 _ rfl
    rw [Nat.add_zero] at p0
    clear hcp
    have hbA2 : bA < wr.heap.size := by omega
    have hlti : (m : Int) < (n : Int) := by omega
    have hpm := List.mem_of_getElem? hp
    have hdr : cs.drop m = p.core :: cs.drop (m + 1) := by
     have hml : m < cs.length := by rw [← hcsH.out, List.length_map, hlen.out]; exact hlt
     rw [List.drop_eq_getElem_cons hml]
     congr 1
     have : cs[m]? = some p.core := by rw [← hcsH.out, List.getElem?_map, hp]; rfl
     rw [List.getElem?_eq_getElem hml] at this
     injection this
    have hst : partsErr ((k : Int), s) last (p.core :: cs.drop (m + 1)) = r := by rw [← hdr]; exact hsufH.out
    rw [partsErr] at hst
    obtain ⟨wb, hwb⟩ : ∃ wb, wr.alloc (.cells #[.string (bs p.key), .int .i64 p.e.act, .string (bs p.e.name), .int .i64 p.e.val, .int .i64 p.e.tag.1.1, .int .u32 p.e.tag.1.2, .int .i64 p.e.tag.2, .int .u32 p.e.st.1, .int .i64 p.e.st.2, .slice p.A p.l p.c] 159) = wb := ⟨_, rfl⟩
    have hvb : Below wr.heap.size wr wb := by rw [← hwb]; exact (Below.refl _ wr).alloc (Nat.le_refl _) _
    have hbx : wb.heap[wr.heap.size]? = some (.cells #[.string (bs p.key), .int .i64 p.e.act, .string (bs p.e.name), .int .i64 p.e.val, .int .i64 p.e.tag.1.1, .int .u32 p.e.tag.1.2, .int .i64 p.e.tag.2, .int .u32 p.e.st.1, .int .i64 p.e.st.2, .slice p.A p.l p.c] 159 (0, 0)) := by rw [← hwb]; exact jT _ _ rfl
    have hGb := hGr.trans (hvb.mono hz)
    have hWb := hbr.trans (hvb.mono hbr.size)
    have cP := jH (ppart_any p ((k : Int), s) last wb ((hFr.out p hpm).below hGb) (hvr.out wb hGb))
    have hbxH := jH hbx
    have hltx := jB hbx
    have x0 := jA hbx 0
    have x1 := jA hbx 1
    have x2 := jA hbx 2
    have x3 := jA hbx 3
    have x4 := jA hbx 4
    have x5 := jA hbx 5
    have x6 := jA hbx 6
    have x7 := jA hbx 7
    have x8 := jA hbx 8
    have x9 := jA hbx 9
    simp at x0 x1 x2 x3 x4 x5 x6 x7 x8 x9
    have hbtb := jD hbtH.out hWb
    have hltb := jB hbtb
    have y0 := jA hbtb 0
    have y1 := jA hbtb 1
    simp at y0 y1
    have hcore : p.core.2.tag.2 = p.e.tag.2 := rfl
    rw [hcore] at hst
    generalize partErr ((k : Int), s) last p.core = pe at cP hst
    have hstH := jH hst
    clear hst hp hpm hdr hbx hbtb hAw hcore
    go_wp2_with fail
    refine cP.out.mono ?_
    rintro e w2 ⟨rfl, hb2⟩
    have hG2 := hGb.trans (hb2.mono hGb.size)
    have hW2 := hWb.trans (hb2.mono hWb.size)
    by_cases hpe : pe = 0
    case neg =>
     have hT : Hid (pe = r) := jH (by have := hstH.out; rw [if_pos hpe] at this; exact this)
     have hpb : (pe != 0) = true := by simpa using hpe
     clear hpe
     go_wp2
     go_ret
     exact ⟨jJ hT.out, hG2⟩
    subst hpe
    have hT : Hid (partsErr ((k : Int), s) p.e.tag.2 (cs.drop (m + 1)) = r) := jH (by have := hstH.out; rw [if_neg (by simp)] at this; exact this)
    have hx2 := jD hbxH.out hb2
    clear x0 x1 x2 x3 x4 x5 x6 x7 x8 x9 y0 y1 hltx hltb q0 q1 hltq p0 p1 p2 p3 p4 p5 p6 p7 p8 p9
    have hltx := jB hx2
    have x6 := jA hx2 6
    simp at x6
    clear hx2
    go_wp2
    go_roundg (n + 1 - (m + 1))
    case measure => omega
    case rel => exact ⟨m + 1, p.e.tag.2, by omega, rfl, rfl, by go_num, hT.out, hW2⟩
   ·
    obtain rfl : m = n := by omega
    have hnli : ¬ (m : Int) < (m : Int) := by omega
    have hT : Hid (0 = r) := jH (by
     have := hsufH.out
     rw [List.drop_of_length_le (by rw [← hcsH.out, List.length_map, hlen.out]; exact Nat.le_refl _)] at this
     exact this)
    go_wp2
    go_ret
    exact ⟨jJ hT.out, hGr⟩
end Go.Proofs.YtfhandglpjnonaaGreatDoor
