/- The statement TxTells, walked. -/
import Derived.Test.YtpolplmniaoikaaGreatDoorN09
import Derived.Test.YtpolplmniaoikaaGreatDoorM40
import Derived.Test.YtpolplmniaoikaaGreatDoorM46
import Derived.Test.YtpolplmniaoikaaGreatDoorFt
import Derived.Test.YtpolplmniaoikaaGreatDoorFv
namespace Go.Proofs.YtpolplmniaoikaaGreatDoor
open Go.RowKit

theorem leavePs_map (ps : List Pe) (xs : List (List UInt8)) (q : Bool) : (ps.filter fun p => wantK xs p.key == q).map Pe.core = leavePs (ps.map Pe.core) xs q := by
  unfold leavePs
  rw [List.filter_map]
  rfl
theorem leavePs_sub (ps : List Pv) (xs : List (List UInt8)) (q : Bool) : ∀ p ∈ leavePs ps xs q, p ∈ ps := fun _ hp => (List.mem_filter.1 hp).1
theorem leavePs_len (ps : List Pv) (xs : List (List UInt8)) (q : Bool) : (leavePs ps xs q).length ≤ ps.length := List.length_filter_le _ _
theorem sameTv_self (a : Tv) : sameTv a a = true := sameTv_iff.2 rfl
/-- Parts of the same values fit as well. -/
theorem fit_of {w : World} {n : Nat} {A : Option Addr} {ps qs : List Pe} {a b : Nat} (hr : RdE w w.heap.size A n qs) (hc : qs.map Pe.core = ps.map Pe.core)
    (hp : ∀ p ∈ ps, p.e.wf ∧ p.key.length ≤ maxLen ∧ p.e.name.length ≤ maxLen ∧ p.l ≤ maxLen) (ho : okPs a b (ps.map Pe.core)) (hb : b ≤ 100000) : ∀ q ∈ qs, q.Fit w := fun q hq => by
  have hm : q.core ∈ ps.map Pe.core := by rw [← hc]; exact List.mem_map.2 ⟨q, hq, rfl⟩
  obtain ⟨p, hpm, he⟩ := List.mem_map.1 hm
  obtain ⟨h1, h2, h3, -⟩ := hp p hpm
  have e1 : q.key = p.key := (congrArg Prod.fst he).symm
  have e2 : q.e = p.e := (congrArg Prod.snd he).symm
  exact ⟨hr.2 q hq, e2 ▸ h1, e1 ▸ h2, e2 ▸ h3, Nat.le_trans (okPs.le (by rw [hc]; exact ho) hr q hq) hb⟩
set_option maxRecDepth 100000 in
set_option maxHeartbeats 8000000 in
theorem txtells_any (x : Im) (v : Vm) (t : Bool) (T : Option Addr) (l k : Nat) (ps : List Pe) (y : Im) (A : Option Addr) (n c : Nat) (xs : List (List UInt8)) (w : World)
    (hT : RdE w w.heap.size T l ps) (hA : RdS w w.heap.size A n xs) (hl : l ≤ maxLen) (hn : n ≤ maxLen) (hx : x.wf) (hvw : v.wf) (hy : y.wf) (hpw : ∀ p ∈ ps, p.e.wf ∧ p.key.length ≤ maxLen ∧ p.e.name.length ≤ maxLen ∧ p.l ≤ maxLen) (hv : VarM w) :
    Calls Tryz.prog 4 #[.agg #[.int .i64 x.1, .int .u32 x.2, .int .u32 v.d0, .int .u32 v.d1, .int .u32 v.d2, .int .u32 v.d3, .int .u32 v.d4, .int .u32 v.d5, .int .u32 v.d6, .int .u32 v.d7, .bool t, .slice T l k], .agg #[.int .i64 y.1, .int .u32 y.2], .slice A n c] w fun e w' => e = .returned (.bool true) ∧ Below w.heap.size w w' := by
  have hb0 : Below w.heap.size w ((w.alloc (.cells #[.int .i64 x.1, .int .u32 x.2, .int .u32 v.d0, .int .u32 v.d1, .int .u32 v.d2, .int .u32 v.d3, .int .u32 v.d4, .int .u32 v.d5, .int .u32 v.d6, .int .u32 v.d7, .bool t, .slice T l k] 29)).alloc (.cells #[.int .i64 y.1, .int .u32 y.2] 24)) := ((Below.refl _ w).alloc (Nat.le_refl _) _).alloc (by simp) _
  have hbt : ((w.alloc (.cells #[.int .i64 x.1, .int .u32 x.2, .int .u32 v.d0, .int .u32 v.d1, .int .u32 v.d2, .int .u32 v.d3, .int .u32 v.d4, .int .u32 v.d5, .int .u32 v.d6, .int .u32 v.d7, .bool t, .slice T l k] 29)).alloc (.cells #[.int .i64 y.1, .int .u32 y.2] 24)).heap[w.heap.size]? = some (.cells #[.int .i64 x.1, .int .u32 x.2, .int .u32 v.d0, .int .u32 v.d1, .int .u32 v.d2, .int .u32 v.d3, .int .u32 v.d4, .int .u32 v.d5, .int .u32 v.d6, .int .u32 v.d7, .bool t, .slice T l k] 29 (0, 0)) := blk_below (heap_at w _ rfl) ((Below.refl _ _).alloc (Nat.le_refl _) _)
  have hbi : ((w.alloc (.cells #[.int .i64 x.1, .int .u32 x.2, .int .u32 v.d0, .int .u32 v.d1, .int .u32 v.d2, .int .u32 v.d3, .int .u32 v.d4, .int .u32 v.d5, .int .u32 v.d6, .int .u32 v.d7, .bool t, .slice T l k] 29)).alloc (.cells #[.int .i64 y.1, .int .u32 y.2] 24)).heap[w.heap.size + 1]? = some (.cells #[.int .i64 y.1, .int .u32 y.2] 24 (0, 0)) := heap_at _ _ (by simp)
  generalize hWe : ((w.alloc (.cells #[.int .i64 x.1, .int .u32 x.2, .int .u32 v.d0, .int .u32 v.d1, .int .u32 v.d2, .int .u32 v.d3, .int .u32 v.d4, .int .u32 v.d5, .int .u32 v.d6, .int .u32 v.d7, .bool t, .slice T l k] 29)).alloc (.cells #[.int .i64 y.1, .int .u32 y.2] 24)) = W at hb0 hbt hbi
  have hz0 := hb0.size
  have hbtH := Lib.hid hbt
  have hcells := Lib.hid (fun w' (h : Below W.heap.size W w') => And.intro (blk_below hbt h) (blk_below hbi h))
  have c1 := Lib.hid (fun w' (h : Below w.heap.size w w') => fgreat15_any (.int .i64 x.1) (.int .u32 x.2) (.int .u32 v.d0) (.int .u32 v.d1) (.int .u32 v.d2) (.int .u32 v.d3) (.int .u32 v.d4) (.int .u32 v.d5) (.int .u32 v.d6) (.int .u32 v.d7) (.bool t) T l k ps w' ((hT.below h).more h.size).1 hl)
  cases hg : fgr15 ps with
  | true =>
    rw [hg] at c1
    have q0 := blk_cell hbt 0
    have q1 := blk_cell hbt 1
    have q2 := blk_cell hbt 2
    have q3 := blk_cell hbt 3
    have q4 := blk_cell hbt 4
    have q5 := blk_cell hbt 5
    have q6 := blk_cell hbt 6
    have q7 := blk_cell hbt 7
    have q8 := blk_cell hbt 8
    have q9 := blk_cell hbt 9
    have q10 := blk_cell hbt 10
    have q11 := blk_cell hbt 11
    simp at q0 q1 q2 q3 q4 q5 q6 q7 q8 q9 q10 q11
    have hltt := blk_lt hbt
    clear hg hbt hbi hT hA hpw
    go_enter Tryz.func4, Tryz.ntmps4
    go_wp2_with fail
    refine (c1.out W hb0).mono ?_
    rintro e w1 ⟨rfl, hv1⟩
    have hG := hb0.trans (hv1.mono hz0)
    clear hltt q0 q1 q2 q3 q4 q5 q6 q7 q8 q9 q10 q11
    go_wp2
    go_ret
    exact ⟨rfl, hG⟩
  | false =>
  rw [hg] at c1
  obtain ⟨hl30, hok⟩ := fgr15_no hT hg
  by_cases hkl : 30 < n
  · have hd : decide ((30 : Int) < (n : Int)) = true := decide_eq_true (by omega)
    have q0 := blk_cell hbt 0
    have q1 := blk_cell hbt 1
    have q2 := blk_cell hbt 2
    have q3 := blk_cell hbt 3
    have q4 := blk_cell hbt 4
    have q5 := blk_cell hbt 5
    have q6 := blk_cell hbt 6
    have q7 := blk_cell hbt 7
    have q8 := blk_cell hbt 8
    have q9 := blk_cell hbt 9
    have q10 := blk_cell hbt 10
    have q11 := blk_cell hbt 11
    simp at q0 q1 q2 q3 q4 q5 q6 q7 q8 q9 q10 q11
    have hltt := blk_lt hbt
    clear hkl hg hbt hbi hT hA hpw
    go_enter Tryz.func4, Tryz.ntmps4
    go_wp2_with fail
    refine (c1.out W hb0).mono ?_
    rintro e w1 ⟨rfl, hv1⟩
    have hG := hb0.trans (hv1.mono hz0)
    clear hltt q0 q1 q2 q3 q4 q5 q6 q7 q8 q9 q10 q11
    go_wp2
    go_ret
    exact ⟨rfl, hG⟩
  have hd : decide ((30 : Int) < (n : Int)) = false := decide_eq_false (by omega)
  have hvr := Lib.hid (fun w' (h : Below w.heap.size w w') => hv.below h hv.lt)
  have hAr := Lib.hid (fun w' (h : Below w.heap.size w w') => (hA.below h).more h.size)
  have hTr := Lib.hid (fun w' (h : Below w.heap.size w w') => (hT.below h).more h.size)
  have cTo := Lib.hid (fun w' (h : Below w.heap.size w w') => txto_any x v t T l k ps w' (hTr.out w' h) (by omega) (fun p hp => Nat.le_trans (hok.le hT p hp) (by omega)))
  have dC := Lib.hid (fun w' (h : Below w.heap.size w w') => rtxcheck_any x v t T l k ps w' (hTr.out w' h) hl (fit_of (hTr.out w' h) rfl hpw hok (by omega)) hx hvw)
  have dK := Lib.hid (fun w' (h : Below w.heap.size w w') => rtxkeys_any x v t T l k ps w' (hTr.out w' h) (by omega))
  have dT := Lib.hid (fun w' (h : Below w.heap.size w w') => rtxtime_any x v t T l k ps w' (hTr.out w' h) hl)
  have dS := Lib.hid (fun w' => rtxsees_any x v t T l k y w' hy)
  have dL := Lib.hid (fun w' (h : Below w.heap.size w w') => rleave_any x v t T l k ps A n c xs true w' (hTr.out w' h) (by omega) (hAr.out w' h) hn)
  have hfit := Lib.hid (fun w' A' qs (hr : RdE w' w'.heap.size A' l qs) (hc : qs.map Pe.core = ps.map Pe.core) => fit_of hr hc hpw hok (by omega))
  have hokH := Lib.hid hok
  have hop := Lib.hid (leavePs_map ps xs true)
  have hos := Lib.hid (leavePs_sub (ps.map Pe.core) xs true)
  have hol : Hid ((leavePs (ps.map Pe.core) xs true).length ≤ l) := Lib.hid (by rw [← hT.len]; exact Nat.le_trans (leavePs_len _ _ _) (by rw [List.length_map]; exact Nat.le_refl _))
  have hlE : Hid (∀ p ∈ ps, p.l ≤ 100) := Lib.hid (fun p hp => hok.le hT p hp)
  have q0 := blk_cell hbt 0
  have q1 := blk_cell hbt 1
  have q2 := blk_cell hbt 2
  have q3 := blk_cell hbt 3
  have q4 := blk_cell hbt 4
  have q5 := blk_cell hbt 5
  have q6 := blk_cell hbt 6
  have q7 := blk_cell hbt 7
  have q8 := blk_cell hbt 8
  have q9 := blk_cell hbt 9
  have q10 := blk_cell hbt 10
  have q11 := blk_cell hbt 11
  simp at q0 q1 q2 q3 q4 q5 q6 q7 q8 q9 q10 q11
  have hltt := blk_lt hbt
  clear hkl hg hbt hbi hT hA hpw hv hok
  go_enter Tryz.func4, Tryz.ntmps4
  go_wp2_with fail
  refine (c1.out W hb0).mono ?_
  rintro e w1 ⟨rfl, hv1⟩
  have hb1 := hb0.trans (hv1.mono hz0)
  clear hltt q0 q1 q2 q3 q4 q5 q6 q7 q8 q9 q10 q11 c1
  obtain ⟨hbt1, -⟩ := hcells.out w1 hv1
  have q0 := blk_cell hbt1 0
  have q1 := blk_cell hbt1 1
  have q2 := blk_cell hbt1 2
  have q3 := blk_cell hbt1 3
  have q4 := blk_cell hbt1 4
  have q5 := blk_cell hbt1 5
  have q6 := blk_cell hbt1 6
  have q7 := blk_cell hbt1 7
  have q8 := blk_cell hbt1 8
  have q9 := blk_cell hbt1 9
  have q10 := blk_cell hbt1 10
  have q11 := blk_cell hbt1 11
  simp at q0 q1 q2 q3 q4 q5 q6 q7 q8 q9 q10 q11
  have hltt := blk_lt hbt1
  clear hbt1
  go_wp2_with fail
  refine (cTo.out w1 hb1).mono ?_
  rintro e w2 ⟨A3, c3, qs, rfl, o3, hq3, hv2⟩
  have hb2 := hb1.trans (hv2.mono hb1.size)
  have hW2 := hv1.trans (hv2.mono hv1.size)
  clear hltt q0 q1 q2 q3 q4 q5 q6 q7 q8 q9 q10 q11 cTo
  have hbr2 := Lib.hid (fun w' (h : Below w2.heap.size w2 w') => hb2.trans (h.mono hb2.size))
  have hx3 := Lib.hid (fun w' (h : Below w2.heap.size w2 w') => (o3.below h).rd)
  have cC := Lib.hid (fun w' (h : Below w2.heap.size w2 w') => txcheck_any x v t A3 l c3 qs w' (hx3.out w' h) hl (hfit.out w' A3 qs (hx3.out w' h) hq3) hx hvw (hvr.out w' (hbr2.out w' h)))
  have cK := Lib.hid (fun w' (h : Below w2.heap.size w2 w') => txkeys_any x v t A3 l c3 qs w' (hx3.out w' h) (by omega))
  have cT := Lib.hid (fun w' (h : Below w2.heap.size w2 w') => txtime_any x v t A3 l c3 qs w' (hx3.out w' h) hl)
  have cS := Lib.hid (fun w' => txsees_any x v t A3 l c3 y w' hy)
  have cF := Lib.hid (fun w' (h : Below w2.heap.size w2 w') => txfrom_any x v t A3 l c3 qs w' (hx3.out w' h) (by omega))
  have cL := Lib.hid (fun w' (h : Below w2.heap.size w2 w') => wonly_any x v t A3 l c3 qs A n c xs true w' (hx3.out w' h) (by omega) (fun p hp => Nat.le_trans (okPs.le (by rw [hq3]; exact hokH.out) (hx3.out w' h) p hp) (by omega)) (hAr.out w' (hbr2.out w' h)) hn)
  rw [hq3] at cC cK cT cL
  have hq3H := Lib.hid hq3
  clear hq3 o3 hv1 hv2 hb1 hb2
  generalize txErr x v (ps.map Pe.core) = te at *
  generalize timeT (ps.map Pe.core) = tm at *
  generalize hke : keysT (ps.map Pe.core) = ke at *
  clear hke
  generalize seesT x v y = se at *
  generalize leaveT t (ps.map Pe.core) xs true = tt at *
  generalize hoe : leavePs (ps.map Pe.core) xs true = op at *
  have hoe := Lib.hid hoe
  obtain ⟨hbt2, hbi2⟩ := hcells.out w2 hW2
  have hba : Below w2.heap.size w2 (w2.alloc (.cells #[.int .i64 x.1, .int .u32 x.2, .int .u32 v.d0, .int .u32 v.d1, .int .u32 v.d2, .int .u32 v.d3, .int .u32 v.d4, .int .u32 v.d5, .int .u32 v.d6, .int .u32 v.d7, .bool t, .slice A3 l c3] 36)) := (Below.refl _ w2).alloc (Nat.le_refl _) _
  have hbx : (w2.alloc (.cells #[.int .i64 x.1, .int .u32 x.2, .int .u32 v.d0, .int .u32 v.d1, .int .u32 v.d2, .int .u32 v.d3, .int .u32 v.d4, .int .u32 v.d5, .int .u32 v.d6, .int .u32 v.d7, .bool t, .slice A3 l c3] 36)).heap[w2.heap.size]? = some (.cells #[.int .i64 x.1, .int .u32 x.2, .int .u32 v.d0, .int .u32 v.d1, .int .u32 v.d2, .int .u32 v.d3, .int .u32 v.d4, .int .u32 v.d5, .int .u32 v.d6, .int .u32 v.d7, .bool t, .slice A3 l c3] 36 (0, 0)) := heap_at _ _ rfl
  have hbtX := blk_below hbt2 hba
  have hbiX := blk_below hbi2 hba
  clear hbt2 hbi2 hW2
  go_upto_region 4 with (fail)
  generalize (w2.alloc (.cells #[.int .i64 x.1, .int .u32 x.2, .int .u32 v.d0, .int .u32 v.d1, .int .u32 v.d2, .int .u32 v.d3, .int .u32 v.d4, .int .u32 v.d5, .int .u32 v.d6, .int .u32 v.d7, .bool t, .slice A3 l c3] 36)) = X at *
  have q0 := blk_cell hbtX 0
  have q1 := blk_cell hbtX 1
  have q2 := blk_cell hbtX 2
  have q3 := blk_cell hbtX 3
  have q4 := blk_cell hbtX 4
  have q5 := blk_cell hbtX 5
  have q6 := blk_cell hbtX 6
  have q7 := blk_cell hbtX 7
  have q8 := blk_cell hbtX 8
  have q9 := blk_cell hbtX 9
  have q10 := blk_cell hbtX 10
  have q11 := blk_cell hbtX 11
  simp at q0 q1 q2 q3 q4 q5 q6 q7 q8 q9 q10 q11
  have s0 := blk_cell hbx 0
  have s1 := blk_cell hbx 1
  have s2 := blk_cell hbx 2
  have s3 := blk_cell hbx 3
  have s4 := blk_cell hbx 4
  have s5 := blk_cell hbx 5
  have s6 := blk_cell hbx 6
  have s7 := blk_cell hbx 7
  have s8 := blk_cell hbx 8
  have s9 := blk_cell hbx 9
  have s10 := blk_cell hbx 10
  have s11 := blk_cell hbx 11
  simp at s0 s1 s2 s3 s4 s5 s6 s7 s8 s9 s10 s11
  have r0 := blk_cell hbiX 0
  have r1 := blk_cell hbiX 1
  simp at r0 r1
  have hlt1 := blk_lt hbtX
  have hlt2 := blk_lt hbx
  have hlt3 := blk_lt hbiX
  clear hbtX hbx hbiX
  have hXr := Lib.hid (fun w' (h : Below X.heap.size X w') => hba.trans (h.mono hba.size))
  have hz2 := hba.size
  clear hba
  refine wp_region_M (fun w' => KQ X.heap.size X w') (fun _ => True) 99 (by kernel_rfl) (kq (Below.refl _ _).drew) trivial ?_
  intro hcl
  have hC : KQ X.heap.size X X.drew := kq (Below.refl _ _).drew
  have hE := trivial
  (refine wpM_take (i := 0) (v := ?_) rfl (by kernel_rfl) (by kernel_rfl) (by kernel_rfl) (by decide) (fun _ _ _ h => h) hcl hC (fun _ => hE) (Or.inl ⟨by rfl, ?_⟩) ?_; rotate_left; (· (intro w hSw; (try dsimp only at hSw); go_simp; (try with_reducible rfl))); clear hcl; intro hcl; (try simp only [Act.put, List.getElem_toArray, List.getElem_cons_zero, List.setIfInBounds_toArray, List.set_cons_zero, List.set_cons_succ]))
  (refine wpM_take (i := 2) (v := ?_) rfl (by kernel_rfl) (by kernel_rfl) (by kernel_rfl) (by decide) (fun _ _ _ h => h) hcl hC (fun _ => hE) (Or.inl ⟨by rfl, ?_⟩) ?_; rotate_left; (· (intro w hSw; (try dsimp only at hSw); go_simp; (try with_reducible rfl))); clear hcl; intro hcl; (try simp only [Act.put, List.getElem_toArray, List.getElem_cons_zero, List.getElem_cons_succ, List.setIfInBounds_toArray, List.set_cons_zero, List.set_cons_succ]))
  refine wpM_only (i := 1) rfl (by kernel_rfl) hcl (fun K hK => ?_)
  go_simp
  refine (cC.out _ (hXr.out _ hC.1)).mono ?_
  rintro e v1 ⟨rfl, hv1⟩
  have hC' := kq_call hC (Nat.le_refl _) hv1
  refine hK.out _ _ hC' trivial ?_
  clear hK K
  clear hcl
  intro hcl
  (try simp only [Act.put, List.getElem_toArray, List.getElem_cons_zero, List.getElem_cons_succ, List.setIfInBounds_toArray, List.set_cons_zero, List.set_cons_succ])
  clear hC
  have hC := hC'
  clear hC'
  refine wpM_only (i := 3) rfl (by kernel_rfl) hcl (fun K hK => ?_)
  go_simp
  refine (dC.out _ (hbr2.out _ (hXr.out _ hC.1))).mono ?_
  rintro e v2 ⟨rfl, hv2⟩
  have hC' := kq_call hC (Nat.le_refl _) hv2
  refine hK.out _ _ hC' trivial ?_
  clear hK K
  clear hcl
  intro hcl
  (try simp only [Act.put, List.getElem_toArray, List.getElem_cons_zero, List.getElem_cons_succ, List.setIfInBounds_toArray, List.set_cons_zero, List.set_cons_succ])
  clear hC
  have hC := hC'
  clear hC'
  (refine wpM_take (i := 4) (v := ?_) rfl (by kernel_rfl) (by kernel_rfl) (by kernel_rfl) (by decide) (fun _ _ _ h => h) hcl hC (fun _ => hE) (Or.inl ⟨by rfl, ?_⟩) ?_; rotate_left; (· (intro w hSw; (try dsimp only at hSw); go_simp; (try with_reducible rfl))); clear hcl; intro hcl; (try simp only [Act.put, List.getElem_toArray, List.getElem_cons_zero, List.getElem_cons_succ, List.setIfInBounds_toArray, List.set_cons_zero, List.set_cons_succ]))
  (refine wpM_take (i := 5) (v := ?_) rfl (by kernel_rfl) (by kernel_rfl) (by kernel_rfl) (by decide) (fun _ _ _ h => h) hcl hC (fun _ => hE) (Or.inl ⟨by rfl, ?_⟩) ?_; rotate_left; (· (intro w hSw; (try dsimp only at hSw); go_simp; (try with_reducible rfl))); clear hcl; intro hcl; (try simp only [Act.put, List.getElem_toArray, List.getElem_cons_zero, List.getElem_cons_succ, List.setIfInBounds_toArray, List.set_cons_zero, List.set_cons_succ]))
  (refine wpM_take (i := 6) (v := ?_) rfl (by kernel_rfl) (by kernel_rfl) (by kernel_rfl) (by decide) (fun _ _ _ h => h) hcl hC (fun _ => hE) (Or.inl ⟨by rfl, ?_⟩) ?_; rotate_left; (· (intro w hSw; (try dsimp only at hSw); go_simp; (try with_reducible rfl))); clear hcl; intro hcl; (try simp only [Act.put, List.getElem_toArray, List.getElem_cons_zero, List.getElem_cons_succ, List.setIfInBounds_toArray, List.set_cons_zero, List.set_cons_succ]))
  (refine wpM_take (i := 8) (v := ?_) rfl (by kernel_rfl) (by kernel_rfl) (by kernel_rfl) (by decide) (fun _ _ _ h => h) hcl hC (fun _ => hE) (Or.inl ⟨by rfl, ?_⟩) ?_; rotate_left; (· (intro w hSw; (try dsimp only at hSw); go_simp; (try with_reducible rfl))); clear hcl; intro hcl; (try simp only [Act.put, List.getElem_toArray, List.getElem_cons_zero, List.getElem_cons_succ, List.setIfInBounds_toArray, List.set_cons_zero, List.set_cons_succ]))
  refine wpM_only (i := 7) rfl (by kernel_rfl) hcl (fun K hK => ?_)
  go_simp
  refine (cK.out _ (hXr.out _ hC.1)).mono ?_
  rintro e v3 ⟨A4, n4, c4, rfl, o4, hv3⟩
  have hC' := kq_call hC (Nat.le_refl _) hv3
  refine hK.out _ _ hC' trivial ?_
  clear hK K
  clear hcl
  intro hcl
  (try simp only [Act.put, List.getElem_toArray, List.getElem_cons_zero, List.getElem_cons_succ, List.setIfInBounds_toArray, List.set_cons_zero, List.set_cons_succ])
  clear hC
  have hC := hC'
  clear hC'
  refine wpM_only (i := 9) rfl (by kernel_rfl) hcl (fun K hK => ?_)
  go_simp
  refine (dK.out _ (hbr2.out _ (hXr.out _ hC.1))).mono ?_
  rintro e v4 ⟨A5, n5, c5, rfl, o5, hv4⟩
  have hC' := kq_call hC (Nat.le_refl _) hv4
  refine hK.out _ _ hC' trivial ?_
  clear hK K
  clear hcl
  intro hcl
  (try simp only [Act.put, List.getElem_toArray, List.getElem_cons_zero, List.getElem_cons_succ, List.setIfInBounds_toArray, List.set_cons_zero, List.set_cons_succ])
  clear hC
  have hC := hC'
  clear hC'
  refine wpM_only (i := 10) rfl (by kernel_rfl) hcl (fun K hK => ?_)
  go_simp
  refine (sameW_any A4 A5 n4 n5 c4 c5 ke ke _ (o4.below hv4).rd.1 o5.rd.1 (Nat.le_trans o4.rd.2.2.1 o4.rd.2.2.2) (Nat.le_trans o5.rd.2.2.1 o5.rd.2.2.2)).mono ?_
  rintro e v5 ⟨rfl, hv5⟩
  rw [decide_eq_true (rfl : ke = ke)]
  have hC' := kq_call hC (Nat.le_refl _) hv5
  refine hK.out _ _ hC' trivial ?_
  clear hK K
  clear hcl
  intro hcl
  (try simp only [Act.put, List.getElem_toArray, List.getElem_cons_zero, List.getElem_cons_succ, List.setIfInBounds_toArray, List.set_cons_zero, List.set_cons_succ])
  clear hC
  have hC := hC'
  clear hC'
  clear o4 o5 hv4 hv3 hv2 hv1
  (refine wpM_take (i := 11) (v := ?_) rfl (by kernel_rfl) (by kernel_rfl) (by kernel_rfl) (by decide) (fun _ _ _ h => h) hcl hC (fun _ => hE) (Or.inl ⟨by rfl, ?_⟩) ?_; rotate_left; (· (intro w hSw; (try dsimp only at hSw); go_simp; (try with_reducible rfl))); clear hcl; intro hcl; (try simp only [Act.put, List.getElem_toArray, List.getElem_cons_zero, List.getElem_cons_succ, List.setIfInBounds_toArray, List.set_cons_zero, List.set_cons_succ]))
  (refine wpM_take (i := 12) (v := ?_) rfl (by kernel_rfl) (by kernel_rfl) (by kernel_rfl) (by decide) (fun _ _ _ h => h) hcl hC (fun _ => hE) (Or.inl ⟨by rfl, ?_⟩) ?_; rotate_left; (· (intro w hSw; (try dsimp only at hSw); go_simp; (try with_reducible rfl))); clear hcl; intro hcl; (try simp only [Act.put, List.getElem_toArray, List.getElem_cons_zero, List.getElem_cons_succ, List.setIfInBounds_toArray, List.set_cons_zero, List.set_cons_succ]))
  (refine wpM_take (i := 13) (v := ?_) rfl (by kernel_rfl) (by kernel_rfl) (by kernel_rfl) (by decide) (fun _ _ _ h => h) hcl hC (fun _ => hE) (Or.inl ⟨by rfl, ?_⟩) ?_; rotate_left; (· (intro w hSw; (try dsimp only at hSw); go_simp; (try with_reducible rfl))); clear hcl; intro hcl; (try simp only [Act.put, List.getElem_toArray, List.getElem_cons_zero, List.getElem_cons_succ, List.setIfInBounds_toArray, List.set_cons_zero, List.set_cons_succ]))
  (refine wpM_take (i := 15) (v := ?_) rfl (by kernel_rfl) (by kernel_rfl) (by kernel_rfl) (by decide) (fun _ _ _ h => h) hcl hC (fun _ => hE) (Or.inl ⟨by rfl, ?_⟩) ?_; rotate_left; (· (intro w hSw; (try dsimp only at hSw); go_simp; (try with_reducible rfl))); clear hcl; intro hcl; (try simp only [Act.put, List.getElem_toArray, List.getElem_cons_zero, List.getElem_cons_succ, List.setIfInBounds_toArray, List.set_cons_zero, List.set_cons_succ]))
  refine wpM_only (i := 14) rfl (by kernel_rfl) hcl (fun K hK => ?_)
  go_simp
  refine (cT.out _ (hXr.out _ hC.1)).mono ?_
  rintro e v6 ⟨rfl, hv6⟩
  have hC' := kq_call hC (Nat.le_refl _) hv6
  refine hK.out _ _ hC' trivial ?_
  clear hK K
  clear hcl
  intro hcl
  (try simp only [Act.put, List.getElem_toArray, List.getElem_cons_zero, List.getElem_cons_succ, List.setIfInBounds_toArray, List.set_cons_zero, List.set_cons_succ])
  clear hC
  have hC := hC'
  clear hC'
  refine wpM_only (i := 16) rfl (by kernel_rfl) hcl (fun K hK => ?_)
  go_simp
  refine (dT.out _ (hbr2.out _ (hXr.out _ hC.1))).mono ?_
  rintro e v7 ⟨rfl, hv7⟩
  have hC' := kq_call hC (Nat.le_refl _) hv7
  refine hK.out _ _ hC' trivial ?_
  clear hK K
  clear hcl
  intro hcl
  (try simp only [Act.put, List.getElem_toArray, List.getElem_cons_zero, List.getElem_cons_succ, List.setIfInBounds_toArray, List.set_cons_zero, List.set_cons_succ])
  clear hC
  have hC := hC'
  clear hC'
  (refine wpM_take (i := 17) (v := ?_) rfl (by kernel_rfl) (by kernel_rfl) (by kernel_rfl) (by decide) (fun _ _ _ h => h) hcl hC (fun _ => hE) (Or.inl ⟨by rfl, ?_⟩) ?_; rotate_left; (· (intro w hSw; (try dsimp only at hSw); go_simp; (try with_reducible rfl))); clear hcl; intro hcl; (try simp only [Act.put, List.getElem_toArray, List.getElem_cons_zero, List.getElem_cons_succ, List.setIfInBounds_toArray, List.set_cons_zero, List.set_cons_succ]))
  (refine wpM_take (i := 18) (v := ?_) rfl (by kernel_rfl) (by kernel_rfl) (by kernel_rfl) (by decide) (fun _ _ _ h => h) hcl hC (fun _ => hE) (Or.inl ⟨by rfl, ?_⟩) ?_; rotate_left; (· (intro w hSw; (try dsimp only at hSw); go_simp; (try with_reducible rfl))); clear hcl; intro hcl; (try simp only [Act.put, List.getElem_toArray, List.getElem_cons_zero, List.getElem_cons_succ, List.setIfInBounds_toArray, List.set_cons_zero, List.set_cons_succ]))
  (refine wpM_take (i := 19) (v := ?_) rfl (by kernel_rfl) (by kernel_rfl) (by kernel_rfl) (by decide) (fun _ _ _ h => h) hcl hC (fun _ => hE) (Or.inl ⟨by rfl, ?_⟩) ?_; rotate_left; (· (intro w hSw; (try dsimp only at hSw); go_simp; (try with_reducible rfl))); clear hcl; intro hcl; (try simp only [Act.put, List.getElem_toArray, List.getElem_cons_zero, List.getElem_cons_succ, List.setIfInBounds_toArray, List.set_cons_zero, List.set_cons_succ]))
  (refine wpM_take (i := 20) (v := ?_) rfl (by kernel_rfl) (by kernel_rfl) (by kernel_rfl) (by decide) (fun _ _ _ h => h) hcl hC (fun _ => hE) (Or.inl ⟨by rfl, ?_⟩) ?_; rotate_left; (· (intro w hSw; (try dsimp only at hSw); go_simp; (try with_reducible rfl))); clear hcl; intro hcl; (try simp only [Act.put, List.getElem_toArray, List.getElem_cons_zero, List.getElem_cons_succ, List.setIfInBounds_toArray, List.set_cons_zero, List.set_cons_succ]))
  (refine wpM_take (i := 21) (v := ?_) rfl (by kernel_rfl) (by kernel_rfl) (by kernel_rfl) (by decide) (fun _ _ _ h => h) hcl hC (fun _ => hE) (Or.inl ⟨by rfl, ?_⟩) ?_; rotate_left; (· (intro w hSw; (try dsimp only at hSw); go_simp; (try with_reducible rfl))); clear hcl; intro hcl; (try simp only [Act.put, List.getElem_toArray, List.getElem_cons_zero, List.getElem_cons_succ, List.setIfInBounds_toArray, List.set_cons_zero, List.set_cons_succ]))
  (refine wpM_take (i := 23) (v := ?_) rfl (by kernel_rfl) (by kernel_rfl) (by kernel_rfl) (by decide) (fun _ _ _ h => h) hcl hC (fun _ => hE) (Or.inl ⟨by rfl, ?_⟩) ?_; rotate_left; (· (intro w hSw; (try dsimp only at hSw); go_simp; (try with_reducible rfl))); clear hcl; intro hcl; (try simp only [Act.put, List.getElem_toArray, List.getElem_cons_zero, List.getElem_cons_succ, List.setIfInBounds_toArray, List.set_cons_zero, List.set_cons_succ]))
  (refine wpM_take (i := 24) (v := ?_) rfl (by kernel_rfl) (by kernel_rfl) (by kernel_rfl) (by decide) (fun _ _ _ h => h) hcl hC (fun _ => hE) (Or.inl ⟨by rfl, ?_⟩) ?_; rotate_left; (· (intro w hSw; (try dsimp only at hSw); go_simp; (try with_reducible rfl))); clear hcl; intro hcl; (try simp only [Act.put, List.getElem_toArray, List.getElem_cons_zero, List.getElem_cons_succ, List.setIfInBounds_toArray, List.set_cons_zero, List.set_cons_succ]))
  refine wpM_only (i := 22) rfl (by kernel_rfl) hcl (fun K hK => ?_)
  go_simp
  refine (cS.out _).mono ?_
  rintro e v8 ⟨rfl, hv8⟩
  have hC' := kq_call hC (Nat.le_refl _) hv8
  refine hK.out _ _ hC' trivial ?_
  clear hK K
  clear hcl
  intro hcl
  (try simp only [Act.put, List.getElem_toArray, List.getElem_cons_zero, List.getElem_cons_succ, List.setIfInBounds_toArray, List.set_cons_zero, List.set_cons_succ])
  clear hC
  have hC := hC'
  clear hC'
  refine wpM_only (i := 25) rfl (by kernel_rfl) hcl (fun K hK => ?_)
  go_simp
  refine (dS.out _).mono ?_
  rintro e v9 ⟨rfl, hv9⟩
  have hC' := kq_call hC (Nat.le_refl _) hv9
  refine hK.out _ _ hC' trivial ?_
  clear hK K
  clear hcl
  intro hcl
  (try simp only [Act.put, List.getElem_toArray, List.getElem_cons_zero, List.getElem_cons_succ, List.setIfInBounds_toArray, List.set_cons_zero, List.set_cons_succ])
  clear hC
  have hC := hC'
  clear hC'
  (refine wpM_take (i := 26) (v := ?_) rfl (by kernel_rfl) (by kernel_rfl) (by kernel_rfl) (by decide) (fun _ _ _ h => h) hcl hC (fun _ => hE) (Or.inl ⟨by rfl, ?_⟩) ?_; rotate_left; (· (intro w hSw; (try dsimp only at hSw); go_simp; (try with_reducible rfl))); clear hcl; intro hcl; (try simp only [Act.put, List.getElem_toArray, List.getElem_cons_zero, List.getElem_cons_succ, List.setIfInBounds_toArray, List.set_cons_zero, List.set_cons_succ]))
  (refine wpM_take (i := 27) (v := ?_) rfl (by kernel_rfl) (by kernel_rfl) (by kernel_rfl) (by decide) (fun _ _ _ h => h) hcl hC (fun _ => hE) (Or.inl ⟨by rfl, ?_⟩) ?_; rotate_left; (· (intro w hSw; (try dsimp only at hSw); go_simp; (try with_reducible rfl))); clear hcl; intro hcl; (try simp only [Act.put, List.getElem_toArray, List.getElem_cons_zero, List.getElem_cons_succ, List.setIfInBounds_toArray, List.set_cons_zero, List.set_cons_succ]))
  (refine wpM_take (i := 28) (v := ?_) rfl (by kernel_rfl) (by kernel_rfl) (by kernel_rfl) (by decide) (fun _ _ _ h => h) hcl hC (fun _ => hE) (Or.inl ⟨by rfl, ?_⟩) ?_; rotate_left; (· (intro w hSw; (try dsimp only at hSw); go_simp; (try with_reducible rfl))); clear hcl; intro hcl; (try simp only [Act.put, List.getElem_toArray, List.getElem_cons_zero, List.getElem_cons_succ, List.setIfInBounds_toArray, List.set_cons_zero, List.set_cons_succ]))
  (refine wpM_take (i := 29) (v := ?_) rfl (by kernel_rfl) (by kernel_rfl) (by kernel_rfl) (by decide) (fun _ _ _ h => h) hcl hC (fun _ => hE) (Or.inl ⟨by rfl, ?_⟩) ?_; rotate_left; (· (intro w hSw; (try dsimp only at hSw); go_simp; (try with_reducible rfl))); clear hcl; intro hcl; (try simp only [Act.put, List.getElem_toArray, List.getElem_cons_zero, List.getElem_cons_succ, List.setIfInBounds_toArray, List.set_cons_zero, List.set_cons_succ]))
  (refine wpM_take (i := 30) (v := ?_) rfl (by kernel_rfl) (by kernel_rfl) (by kernel_rfl) (by decide) (fun _ _ _ h => h) hcl hC (fun _ => hE) (Or.inl ⟨by rfl, ?_⟩) ?_; rotate_left; (· (intro w hSw; (try dsimp only at hSw); go_simp; (try with_reducible rfl))); clear hcl; intro hcl; (try simp only [Act.put, List.getElem_toArray, List.getElem_cons_zero, List.getElem_cons_succ, List.setIfInBounds_toArray, List.set_cons_zero, List.set_cons_succ]))
  (refine wpM_take (i := 33) (v := ?_) rfl (by kernel_rfl) (by kernel_rfl) (by kernel_rfl) (by decide) (fun _ _ _ h => h) hcl hC (fun _ => hE) (Or.inl ⟨by rfl, ?_⟩) ?_; rotate_left; (· (intro w hSw; (try dsimp only at hSw); go_simp; (try with_reducible rfl))); clear hcl; intro hcl; (try simp only [Act.put, List.getElem_toArray, List.getElem_cons_zero, List.getElem_cons_succ, List.setIfInBounds_toArray, List.set_cons_zero, List.set_cons_succ]))
  (refine wpM_take (i := 34) (v := ?_) rfl (by kernel_rfl) (by kernel_rfl) (by kernel_rfl) (by decide) (fun _ _ _ h => h) hcl hC (fun _ => hE) (Or.inl ⟨by rfl, ?_⟩) ?_; rotate_left; (· (intro w hSw; (try dsimp only at hSw); go_simp; (try with_reducible rfl))); clear hcl; intro hcl; (try simp only [Act.put, List.getElem_toArray, List.getElem_cons_zero, List.getElem_cons_succ, List.setIfInBounds_toArray, List.set_cons_zero, List.set_cons_succ]))
  refine wpM_only (i := 31) rfl (by kernel_rfl) hcl (fun K hK => ?_)
  go_simp
  refine (cL.out _ (hXr.out _ hC.1)).mono ?_
  rintro e u1 ⟨A6, n6, c6, qs6, rfl, o6, hq6, hu1⟩
  have hn6 : n6 ≤ 30 := by have h1 := o6.len; have h2 := congrArg List.length hq6; rw [List.length_map] at h2; have := hol.out; omega
  have hC' := kq_call hC (Nat.le_refl _) hu1
  refine hK.out _ _ hC' trivial ?_
  clear hK K
  clear hcl
  intro hcl
  (try simp only [Act.put, List.getElem_toArray, List.getElem_cons_zero, List.getElem_cons_succ, List.setIfInBounds_toArray, List.set_cons_zero, List.set_cons_succ])
  clear hC
  have hC := hC'
  clear hC'
  refine wpM_only (i := 32) rfl (by kernel_rfl) hcl (fun K hK => ?_)
  go_simp
  refine (txfrom_any x v tt A6 n6 c6 qs6 u1 o6.rd (by omega)).mono ?_
  rintro e u2 ⟨A7, c7, rfl, o7, hu2⟩
  have hC' := kq_call hC (Nat.le_refl _) hu2
  refine hK.out _ _ hC' trivial ?_
  clear hK K
  clear hcl
  intro hcl
  (try simp only [Act.put, List.getElem_toArray, List.getElem_cons_zero, List.getElem_cons_succ, List.setIfInBounds_toArray, List.set_cons_zero, List.set_cons_succ])
  clear hC
  have hC := hC'
  clear hC'
  refine wpM_only (i := 35) rfl (by kernel_rfl) hcl (fun K hK => ?_)
  go_simp
  refine (dL.out _ (hbr2.out _ (hXr.out _ hC.1))).mono ?_
  rintro e u3 ⟨A8, n8, c8, rfl, o8, hu3⟩
  have hC' := kq_call hC (Nat.le_refl _) hu3
  refine hK.out _ _ hC' trivial ?_
  clear hK K
  clear hcl
  intro hcl
  (try simp only [Act.put, List.getElem_toArray, List.getElem_cons_zero, List.getElem_cons_succ, List.setIfInBounds_toArray, List.set_cons_zero, List.set_cons_succ])
  clear hC
  have hC := hC'
  clear hC'
  have hok6 : okPs 500 100 (qs6.map Pe.core) := by rw [hq6, ← hoe.out]; exact hokH.out.sub (leavePs_sub _ _ _)
  have r7 : RdE u3 u3.heap.size A7 n6 qs6 := by
    have hb := hu2.trans (hu3.mono hu2.size)
    exact ⟨(o7.below hu3).rd.1, fun q hq => ((o6.rd.2 q hq).below hb).more hb.size⟩
  have r8 : RdE u3 u3.heap.size A8 n8 (ps.filter fun p => wantK xs p.key == true) := ⟨o8.rd.1, fun q hq => (hTr.out u3 (hbr2.out _ (hXr.out _ hC.1))).2 q (List.mem_filter.1 hq).1⟩
  have hq8 : (ps.filter fun p => wantK xs p.key == true).map Pe.core = op := by rw [leavePs_map, hoe.out]
  have hok8 : okPs 500 100 ((ps.filter fun p => wantK xs p.key == true).map Pe.core) := by rw [leavePs_map]; exact hokH.out.sub (leavePs_sub _ _ _)
  have hn8 : n8 ≤ 30 := by have h1 := r8.len; have h2 := congrArg List.length hq8; rw [List.length_map] at h2; have := hol.out; omega
  refine wpM_only (i := 36) rfl (by kernel_rfl) hcl (fun K hK => ?_)
  go_simp
  refine (txsame_any x v tt A7 n6 c7 qs6 x v tt A8 n8 c8 (ps.filter fun p => wantK xs p.key == true) u3 r7 r8 (by simp [maxLen]; omega) (by simp [maxLen]; omega) (fun p hp => Nat.le_trans (hok6.le r7 p hp) (by decide)) (fun p hp => Nat.le_trans (hok8.le r8 p hp) (by decide))).mono ?_
  rintro e u4 ⟨rfl, hu4⟩
  rw [show sameTv ⟨x, v, tt, qs6.map Pe.core⟩ ⟨x, v, tt, (ps.filter fun p => wantK xs p.key == true).map Pe.core⟩ = true by rw [hq6, hq8]; exact sameTv_self _]
  have hC' := kq_call hC (Nat.le_refl _) hu4
  refine hK.out _ _ hC' trivial ?_
  clear hK K
  clear hcl
  intro hcl
  (try simp only [Act.put, List.getElem_toArray, List.getElem_cons_zero, List.getElem_cons_succ, List.setIfInBounds_toArray, List.set_cons_zero, List.set_cons_succ])
  clear hC
  have hC := hC'
  clear hC'
  clear r7 r8 o6 o7 o8 hok6 hok8 hq6 hq8 hu1 hu2 hu3
  (refine wpM_take (i := 37) (v := ?_) rfl (by kernel_rfl) (by kernel_rfl) (by kernel_rfl) (by decide) (fun _ _ _ h => h) hcl hC (fun _ => hE) (Or.inl ⟨by rfl, ?_⟩) ?_; rotate_left; (· (intro w hSw; (try dsimp only at hSw); go_simp; (try with_reducible rfl))); clear hcl; intro hcl; (try simp only [Act.put, List.getElem_toArray, List.getElem_cons_zero, List.getElem_cons_succ, List.setIfInBounds_toArray, List.set_cons_zero, List.set_cons_succ]))
  (refine wpM_take (i := 38) (v := ?_) rfl (by kernel_rfl) (by kernel_rfl) (by kernel_rfl) (by decide) (fun _ _ _ h => h) hcl hC (fun _ => hE) (Or.inl ⟨by rfl, ?_⟩) ?_; rotate_left; (· (intro w hSw; (try dsimp only at hSw); go_simp; (try with_reducible rfl))); clear hcl; intro hcl; (try simp only [Act.put, List.getElem_toArray, List.getElem_cons_zero, List.getElem_cons_succ, List.setIfInBounds_toArray, List.set_cons_zero, List.set_cons_succ]))
  (refine wpM_take (i := 39) (v := ?_) rfl (by kernel_rfl) (by kernel_rfl) (by kernel_rfl) (by decide) (fun _ _ _ h => h) hcl hC (fun _ => hE) (Or.inl ⟨by rfl, ?_⟩) ?_; rotate_left; (· (intro w hSw; (try dsimp only at hSw); go_simp; (try with_reducible rfl))); clear hcl; intro hcl; (try simp only [Act.put, List.getElem_toArray, List.getElem_cons_zero, List.getElem_cons_succ, List.setIfInBounds_toArray, List.set_cons_zero, List.set_cons_succ]))
  (refine wpM_take (i := 41) (v := ?_) rfl (by kernel_rfl) (by kernel_rfl) (by kernel_rfl) (by decide) (fun _ _ _ h => h) hcl hC (fun _ => hE) (Or.inl ⟨by rfl, ?_⟩) ?_; rotate_left; (· (intro w hSw; (try dsimp only at hSw); go_simp; (try with_reducible rfl))); clear hcl; intro hcl; (try simp only [Act.put, List.getElem_toArray, List.getElem_cons_zero, List.getElem_cons_succ, List.setIfInBounds_toArray, List.set_cons_zero, List.set_cons_succ]))
  refine wpM_only (i := 40) rfl (by kernel_rfl) hcl (fun K hK => ?_)
  go_simp
  refine (cF.out _ (hXr.out _ hC.1)).mono ?_
  rintro e u5 ⟨A9, c9, rfl, o9, hu5⟩
  have hC' := kq_call hC (Nat.le_refl _) hu5
  refine hK.out _ _ hC' trivial ?_
  clear hK K
  clear hcl
  intro hcl
  (try simp only [Act.put, List.getElem_toArray, List.getElem_cons_zero, List.getElem_cons_succ, List.setIfInBounds_toArray, List.set_cons_zero, List.set_cons_succ])
  clear hC
  have hC := hC'
  clear hC'
  have r9 : RdE u5 u5.heap.size A9 l qs := ⟨o9.rd.1, (hx3.out u5 (hXr.out _ hC.1)).2⟩
  have hok9 : okPs 500 100 (qs.map Pe.core) := by rw [hq3H.out]; exact hokH.out
  have rT := hTr.out u5 (hbr2.out _ (hXr.out _ hC.1))
  refine wpM_only (i := 42) rfl (by kernel_rfl) hcl (fun K hK => ?_)
  go_simp
  refine (txsame_any x v t A9 l c9 qs x v t T l k ps u5 r9 rT hl hl (fun p hp => Nat.le_trans (hok9.le r9 p hp) (by decide)) (fun p hp => Nat.le_trans (hlE.out p hp) (by decide))).mono ?_
  rintro e u6 ⟨rfl, hu6⟩
  rw [show sameTv ⟨x, v, t, qs.map Pe.core⟩ ⟨x, v, t, ps.map Pe.core⟩ = true by rw [hq3H.out]; exact sameTv_self _]
  have hC' := kq_call hC (Nat.le_refl _) hu6
  refine hK.out _ _ hC' trivial ?_
  clear hK K
  clear hcl
  intro hcl
  (try simp only [Act.put, List.getElem_toArray, List.getElem_cons_zero, List.getElem_cons_succ, List.setIfInBounds_toArray, List.set_cons_zero, List.set_cons_succ])
  clear hC
  have hC := hC'
  clear hC'
  (refine wpM_take (i := 43) (v := ?_) rfl (by kernel_rfl) (by kernel_rfl) (by kernel_rfl) (by decide) (fun _ _ _ h => h) hcl hC (fun _ => hE) (Or.inl ⟨by rfl, ?_⟩) ?_; rotate_left; (· (intro w hSw; (try dsimp only at hSw); go_simp; (try with_reducible rfl))); clear hcl; intro hcl; (try simp only [Act.put, List.getElem_toArray, List.getElem_cons_zero, List.getElem_cons_succ, List.setIfInBounds_toArray, List.set_cons_zero, List.set_cons_succ]))
  (refine wpM_take (i := 44) (v := ?_) rfl (by kernel_rfl) (by kernel_rfl) (by kernel_rfl) (by decide) (fun _ _ _ h => h) hcl hC (fun _ => hE) (Or.inl ⟨by rfl, ?_⟩) ?_; rotate_left; (· (intro w hSw; (try dsimp only at hSw); go_simp; (try with_reducible rfl))); clear hcl; intro hcl; (try simp only [Act.put, List.getElem_toArray, List.getElem_cons_zero, List.getElem_cons_succ, List.setIfInBounds_toArray, List.set_cons_zero, List.set_cons_succ]))
  refine wpM_done (by kernel_rfl) ?_
  clear hcl
  try simp only [List.getElem_toArray, List.getElem_cons_zero, List.getElem_cons_succ, List.setIfInBounds_toArray, List.set_cons_zero, List.set_cons_succ]
  have hG := hbr2.out _ (hXr.out _ hC.1)
  go_wp2
  go_ret
  exact ⟨rfl, hG⟩
end Go.Proofs.YtpolplmniaoikaaGreatDoor
