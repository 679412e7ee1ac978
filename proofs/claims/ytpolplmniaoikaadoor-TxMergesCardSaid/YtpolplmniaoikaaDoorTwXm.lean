/- The statement TxMerges, walked. -/
import Derived.Test.YtpolplmniaoikaaDoorN44
import Derived.Test.YtpolplmniaoikaaDoorMu
import Derived.Test.YtpolplmniaoikaaDoorM41
namespace Go.Proofs.YtpolplmniaoikaaDoor
open Go.RowKit

theorem mergeT_len (a b : Tv) : (mergeT a b).1.parts.length ≤ 16 := by
  unfold mergeT
  split
  · exact Nat.zero_le _
  split
  · exact Nat.zero_le _
  split
  · exact Nat.zero_le _
  split
  · exact Nat.zero_le _
  · split
    · exact Nat.zero_le _
    · rename_i h; exact Nat.le_of_not_lt h
set_option maxRecDepth 100000 in
set_option maxHeartbeats 8000000 in
theorem txmerges_any (x : Im) (v : Vm) (t : Bool) (T : Option Addr) (n k0 : Nat) (ps : List Pe) (y : Im) (u : Vm) (r : Bool) (B : Option Addr) (m k1 : Nat) (qs : List Pe) (w : World)
    (hT : RdE w w.heap.size T n ps) (hn : n ≤ maxLen) (hx : x.wf) (hvw : v.wf) (hpw : ∀ p ∈ ps, p.e.wf ∧ p.key.length ≤ maxLen ∧ p.e.name.length ≤ maxLen ∧ p.l ≤ maxLen)
    (hB : RdE w w.heap.size B m qs) (hm : m ≤ maxLen) (hy : y.wf) (huw : u.wf) (hqw : ∀ p ∈ qs, p.e.wf ∧ p.key.length ≤ maxLen ∧ p.e.name.length ≤ maxLen ∧ p.l ≤ maxLen) (hv : VarM w) :
    Calls Tryd.prog 3 #[.agg #[.int .i64 x.1, .int .u32 x.2, .int .u32 v.d0, .int .u32 v.d1, .int .u32 v.d2, .int .u32 v.d3, .int .u32 v.d4, .int .u32 v.d5, .int .u32 v.d6, .int .u32 v.d7, .bool t, .slice T n k0], .agg #[.int .i64 y.1, .int .u32 y.2, .int .u32 u.d0, .int .u32 u.d1, .int .u32 u.d2, .int .u32 u.d3, .int .u32 u.d4, .int .u32 u.d5, .int .u32 u.d6, .int .u32 u.d7, .bool r, .slice B m k1]] w fun e w' => e = .returned (.bool true) ∧ Below w.heap.size w w' := by
  have hb0 : Below w.heap.size w ((w.alloc (.cells #[.int .i64 x.1, .int .u32 x.2, .int .u32 v.d0, .int .u32 v.d1, .int .u32 v.d2, .int .u32 v.d3, .int .u32 v.d4, .int .u32 v.d5, .int .u32 v.d6, .int .u32 v.d7, .bool t, .slice T n k0] 29)).alloc (.cells #[.int .i64 y.1, .int .u32 y.2, .int .u32 u.d0, .int .u32 u.d1, .int .u32 u.d2, .int .u32 u.d3, .int .u32 u.d4, .int .u32 u.d5, .int .u32 u.d6, .int .u32 u.d7, .bool r, .slice B m k1] 29)) := ((Below.refl _ w).alloc (Nat.le_refl _) _).alloc (by simp) _
  have hbt : ((w.alloc (.cells #[.int .i64 x.1, .int .u32 x.2, .int .u32 v.d0, .int .u32 v.d1, .int .u32 v.d2, .int .u32 v.d3, .int .u32 v.d4, .int .u32 v.d5, .int .u32 v.d6, .int .u32 v.d7, .bool t, .slice T n k0] 29)).alloc (.cells #[.int .i64 y.1, .int .u32 y.2, .int .u32 u.d0, .int .u32 u.d1, .int .u32 u.d2, .int .u32 u.d3, .int .u32 u.d4, .int .u32 u.d5, .int .u32 u.d6, .int .u32 u.d7, .bool r, .slice B m k1] 29)).heap[w.heap.size]? = some (.cells #[.int .i64 x.1, .int .u32 x.2, .int .u32 v.d0, .int .u32 v.d1, .int .u32 v.d2, .int .u32 v.d3, .int .u32 v.d4, .int .u32 v.d5, .int .u32 v.d6, .int .u32 v.d7, .bool t, .slice T n k0] 29 (0, 0)) := heap_old _ (by simp) (heap_at _ _ rfl)
  have hbs : ((w.alloc (.cells #[.int .i64 x.1, .int .u32 x.2, .int .u32 v.d0, .int .u32 v.d1, .int .u32 v.d2, .int .u32 v.d3, .int .u32 v.d4, .int .u32 v.d5, .int .u32 v.d6, .int .u32 v.d7, .bool t, .slice T n k0] 29)).alloc (.cells #[.int .i64 y.1, .int .u32 y.2, .int .u32 u.d0, .int .u32 u.d1, .int .u32 u.d2, .int .u32 u.d3, .int .u32 u.d4, .int .u32 u.d5, .int .u32 u.d6, .int .u32 u.d7, .bool r, .slice B m k1] 29)).heap[w.heap.size + 1]? = some (.cells #[.int .i64 y.1, .int .u32 y.2, .int .u32 u.d0, .int .u32 u.d1, .int .u32 u.d2, .int .u32 u.d3, .int .u32 u.d4, .int .u32 u.d5, .int .u32 u.d6, .int .u32 u.d7, .bool r, .slice B m k1] 29 (0, 0)) := heap_at _ _ (by simp)
  generalize hWe : ((w.alloc (.cells #[.int .i64 x.1, .int .u32 x.2, .int .u32 v.d0, .int .u32 v.d1, .int .u32 v.d2, .int .u32 v.d3, .int .u32 v.d4, .int .u32 v.d5, .int .u32 v.d6, .int .u32 v.d7, .bool t, .slice T n k0] 29)).alloc (.cells #[.int .i64 y.1, .int .u32 y.2, .int .u32 u.d0, .int .u32 u.d1, .int .u32 u.d2, .int .u32 u.d3, .int .u32 u.d4, .int .u32 u.d5, .int .u32 u.d6, .int .u32 u.d7, .bool r, .slice B m k1] 29)) = W at hb0 hbt hbs
  have hz0 := hb0.size
  have hcells := Lib.hid (fun w' (h : Below W.heap.size W w') => (⟨blk_below hbt h, blk_below hbs h⟩ : _ ∧ _))
  have hvr := Lib.hid (fun w' (h : Below w.heap.size w w') => hv.below h hv.lt)
  have c1 := Lib.hid (fun w' (h : Below w.heap.size w w') => fgreat15_any (.int .i64 x.1) (.int .u32 x.2) (.int .u32 v.d0) (.int .u32 v.d1) (.int .u32 v.d2) (.int .u32 v.d3) (.int .u32 v.d4) (.int .u32 v.d5) (.int .u32 v.d6) (.int .u32 v.d7) (.bool t) T n k0 ps w' ((hT.below h).more h.size).1 hn)
  have c2 := Lib.hid (fun w' (h : Below w.heap.size w w') => fgreat15_any (.int .i64 y.1) (.int .u32 y.2) (.int .u32 u.d0) (.int .u32 u.d1) (.int .u32 u.d2) (.int .u32 u.d3) (.int .u32 u.d4) (.int .u32 u.d5) (.int .u32 u.d6) (.int .u32 u.d7) (.bool r) B m k1 qs w' ((hB.below h).more h.size).1 hm)
  have hltt := blk_lt hbt
  have hlts := blk_lt hbs
  have q0 := blk_cell hbt 0
  have q1 := blk_cell hbt 1
  have q2 := blk_cell hbt 2
  have q3 := blk_cell hbt 3
  have q4 := blk_cell hbt 4
  have q5 := blk_cell hbt 5
  have q6 := blk_cell hbt 6
  have q7 := blk_cell hbt 7
  have q8 := blk_cell hbt 8
  have q9 := blk_cell hbt 9
  have q10 := blk_cell hbt 10
  have q11 := blk_cell hbt 11
  simp at q0 q1 q2 q3 q4 q5 q6 q7 q8 q9 q10 q11
  cases hg : fgr15 ps with
  | true =>
    rw [hg] at c1
    clear hg hbt hbs hT hpw hB hqw hlts
    go_enter Tryd.func3, Tryd.ntmps3
    go_wp2_with fail
    refine (c1.out W hb0).mono ?_
    rintro e w1 ⟨rfl, hv1⟩
    have hG := hb0.trans (hv1.mono hz0)
    go_wp2
    go_ret
    exact ⟨rfl, hG⟩
  | false =>
  rw [hg] at c1
  cases hg2 : fgr15 qs with
  | true =>
    rw [hg2] at c2
    clear hg hg2 hbt hbs hT hpw hB hqw
    go_enter Tryd.func3, Tryd.ntmps3
    go_wp2_with fail
    refine (c1.out W hb0).mono ?_
    rintro e w1 ⟨rfl, hv1⟩
    have hb1 := hb0.trans (hv1.mono hz0)
    have hbs1 := (hcells.out w1 hv1).2
    have z0 := blk_cell hbs1 0
    have z1 := blk_cell hbs1 1
    have z2 := blk_cell hbs1 2
    have z3 := blk_cell hbs1 3
    have z4 := blk_cell hbs1 4
    have z5 := blk_cell hbs1 5
    have z6 := blk_cell hbs1 6
    have z7 := blk_cell hbs1 7
    have z8 := blk_cell hbs1 8
    have z9 := blk_cell hbs1 9
    have z10 := blk_cell hbs1 10
    have z11 := blk_cell hbs1 11
    simp at z0 z1 z2 z3 z4 z5 z6 z7 z8 z9 z10 z11
    have hlts := blk_lt hbs1
    clear hbs1
    go_wp2_with fail
    refine (c2.out w1 hb1).mono ?_
    rintro e w2 ⟨rfl, hv2⟩
    have hG := hb1.trans (hv2.mono hb1.size)
    go_wp2
    go_ret
    exact ⟨rfl, hG⟩
  | false =>
  rw [hg2] at c2
  obtain ⟨hl30, hok⟩ := fgr15_no hT hg
  obtain ⟨hl31, hok2⟩ := fgr15_no hB hg2
  have hTr := Lib.hid (fun w' (h : Below w.heap.size w w') => (hT.below h).more h.size)
  have hBr := Lib.hid (fun w' (h : Below w.heap.size w w') => (hB.below h).more h.size)
  have cTo := Lib.hid (fun w' (h : Below w.heap.size w w') => txto_any x v t T n k0 ps w' (hTr.out w' h) (by omega) (fun p hp => Nat.le_trans (hok.le hT p hp) (by omega)))
  have cTo2 := Lib.hid (fun w' (h : Below w.heap.size w w') => txto_any y u r B m k1 qs w' (hBr.out w' h) (by omega) (fun p hp => Nat.le_trans (hok2.le hB p hp) (by omega)))
  obtain ⟨M, hM⟩ : ∃ M, mergeT ⟨x, v, t, ps.map Pe.core⟩ ⟨y, u, r, qs.map Pe.core⟩ = M := ⟨_, rfl⟩
  have hft := Lib.hid (fun w' A' n' qs' (hr : RdE w' w'.heap.size A' n' qs') (hc : qs'.map Pe.core = ps.map Pe.core) => (fit_of hr hc hpw hok (by omega) : ∀ q ∈ qs', q.Fit w'))
  have hft2 := Lib.hid (fun w' A' n' qs' (hr : RdE w' w'.heap.size A' n' qs') (hc : qs'.map Pe.core = qs.map Pe.core) => (fit_of hr hc hqw hok2 (by omega) : ∀ q ∈ qs', q.Fit w'))
  have cR := Lib.hid (fun w' (h : Below w.heap.size w w') => rtxmerge_any x v t T n k0 ps y u r B m k1 qs w' (hTr.out w' h) (by omega) (hft.out w' T n ps (hTr.out w' h) rfl) hx hvw (hBr.out w' h) (by omega) (hft2.out w' B m qs (hBr.out w' h) rfl) hy huw M hM)
  have hMH := Lib.hid hM
  have hml : M.1.parts.length ≤ 16 := by rw [← hM]; exact mergeT_len _ _
  obtain ⟨⟨mx, mv, mt, mp⟩, me⟩ := M
  clear hg hg2 hbs hT hpw hB hqw hM
  go_enter Tryd.func3, Tryd.ntmps3
  go_wp2_with fail
  refine (c1.out W hb0).mono ?_
  rintro e w1 ⟨rfl, hv1⟩
  have hb1 := hb0.trans (hv1.mono hz0)
  have hbs1 := (hcells.out w1 hv1).2
  clear hlts
  have z0 := blk_cell hbs1 0
  have z1 := blk_cell hbs1 1
  have z2 := blk_cell hbs1 2
  have z3 := blk_cell hbs1 3
  have z4 := blk_cell hbs1 4
  have z5 := blk_cell hbs1 5
  have z6 := blk_cell hbs1 6
  have z7 := blk_cell hbs1 7
  have z8 := blk_cell hbs1 8
  have z9 := blk_cell hbs1 9
  have z10 := blk_cell hbs1 10
  have z11 := blk_cell hbs1 11
  simp at z0 z1 z2 z3 z4 z5 z6 z7 z8 z9 z10 z11
  have hlts := blk_lt hbs1
  clear hbs1
  go_wp2_with fail
  refine (c2.out w1 hb1).mono ?_
  rintro e u0 ⟨rfl, hv2⟩
  have hbu0 := hb1.trans (hv2.mono hb1.size)
  have hWu := hv1.trans (hv2.mono hv1.size)
  clear hltt hlts q0 q1 q2 q3 q4 q5 q6 q7 q8 q9 q10 q11 z0 z1 z2 z3 z4 z5 z6 z7 z8 z9 z10 z11 hv1 hv2 hb1 c1 c2 hbt
  obtain ⟨hbtu, hbsu⟩ := hcells.out u0 hWu
  have q0 := blk_cell hbtu 0
  have q1 := blk_cell hbtu 1
  have q2 := blk_cell hbtu 2
  have q3 := blk_cell hbtu 3
  have q4 := blk_cell hbtu 4
  have q5 := blk_cell hbtu 5
  have q6 := blk_cell hbtu 6
  have q7 := blk_cell hbtu 7
  have q8 := blk_cell hbtu 8
  have q9 := blk_cell hbtu 9
  have q10 := blk_cell hbtu 10
  have q11 := blk_cell hbtu 11
  simp at q0 q1 q2 q3 q4 q5 q6 q7 q8 q9 q10 q11
  have z0 := blk_cell hbsu 0
  have z1 := blk_cell hbsu 1
  have z2 := blk_cell hbsu 2
  have z3 := blk_cell hbsu 3
  have z4 := blk_cell hbsu 4
  have z5 := blk_cell hbsu 5
  have z6 := blk_cell hbsu 6
  have z7 := blk_cell hbsu 7
  have z8 := blk_cell hbsu 8
  have z9 := blk_cell hbsu 9
  have z10 := blk_cell hbsu 10
  have z11 := blk_cell hbsu 11
  simp at z0 z1 z2 z3 z4 z5 z6 z7 z8 z9 z10 z11
  have hltt := blk_lt hbtu
  have hlts := blk_lt hbsu
  clear hbtu hbsu
  have hzu := hbu0.size
  have cA := Lib.hid (fun w' (h : KQ u0.heap.size u0 w') => cTo.out w' (hbu0.trans (h.1.mono hbu0.size)))
  have cB := Lib.hid (fun w' (h : KQ u0.heap.size u0 w') => cTo2.out w' (hbu0.trans (h.1.mono hbu0.size)))
  have cM := Lib.hid (fun A3 c3 qs3 A4 c4 qs4 w' (h : KQ u0.heap.size u0 w') (h3 : RdE w' w'.heap.size A3 n qs3) (e3 : qs3.map Pe.core = ps.map Pe.core) (h4 : RdE w' w'.heap.size A4 m qs4) (e4 : qs4.map Pe.core = qs.map Pe.core) =>
    txmerge_any x v t A3 n c3 qs3 y u r A4 m c4 qs4 w' h3 (by unfold maxLen; omega) (hft.out w' A3 n qs3 h3 e3) hx hvw h4 (by unfold maxLen; omega) (hft2.out w' A4 m qs4 h4 e4) hy huw (hvr.out w' (hbu0.trans (h.1.mono hbu0.size))) (⟨mx, mv, mt, mp⟩, me) (by rw [e3, e4]; exact hMH.out))
  go_upto_region 3 with (fail)
  go_cut [5, 6] (fun s5 s6 wx => ∃ g9 A5 n5 c5 rs5, s5 = .pointer (some ⟨g9, 0, none⟩) ∧ s6 = .int .i64 me ∧ wx.heap[g9]? = some (.cells #[.int .i64 mx.1, .int .u32 mx.2, .int .u32 mv.d0, .int .u32 mv.d1, .int .u32 mv.d2, .int .u32 mv.d3, .int .u32 mv.d4, .int .u32 mv.d5, .int .u32 mv.d6, .int .u32 mv.d7, .bool mt, .slice A5 n5 c5] 33 (0, 0)) ∧ OwE 69 wx u0.heap.size A5 n5 c5 rs5 ∧ rs5.map Pe.core = mp ∧ Below u0.heap.size u0 wx)
  case first =>
    refine wp_region_M (fun w' => KQ u0.heap.size u0 w') (fun _ => True) 99 (by kernel_rfl) (kq (Below.refl _ _).drew) trivial ?_
    intro hcl
    have hC : KQ u0.heap.size u0 u0.drew := kq (Below.refl _ _).drew
    have hE := trivial
    (refine wpM_take (i := 0) (v := ?_) rfl (by kernel_rfl) (by kernel_rfl) (by kernel_rfl) (by decide) (fun _ _ _ h => h) hcl hC (fun _ => hE) (Or.inl ⟨by rfl, ?_⟩) ?_; rotate_left; (· (intro w hSw; (try dsimp only at hSw); go_simp; (try with_reducible rfl))); clear hcl; intro hcl; (try simp only [Act.put, List.getElem_toArray, List.getElem_cons_zero, List.setIfInBounds_toArray, List.set_cons_zero, List.set_cons_succ]))
    (refine wpM_take (i := 2) (v := ?_) rfl (by kernel_rfl) (by kernel_rfl) (by kernel_rfl) (by decide) (fun _ _ _ h => h) hcl hC (fun _ => hE) (Or.inl ⟨by rfl, ?_⟩) ?_; rotate_left; (· (intro w hSw; (try dsimp only at hSw); go_simp; (try with_reducible rfl))); clear hcl; intro hcl; (try simp only [Act.put, List.getElem_toArray, List.getElem_cons_zero, List.getElem_cons_succ, List.setIfInBounds_toArray, List.set_cons_zero, List.set_cons_succ]))
    refine wpM_two (i := 1) (j := 8) rfl rfl (by kernel_rfl) hcl (fun K hK => ?_) (fun K hK => ?_)
    · go_simp
      refine (cA.out _ hC).mono ?_
      rintro e v3 ⟨A3, c3, qs3, rfl, o3, hq3, hb3⟩
      (try replace hx := blk_below hx hb3)
      have hC' := kq_call hC (Nat.le_refl _) hb3
      refine hK.out _ _ hC' trivial ?_
      clear hK K
      clear hcl
      intro hcl
      (try simp only [Act.put, List.getElem_toArray, List.getElem_cons_zero, List.getElem_cons_succ, List.setIfInBounds_toArray, List.set_cons_zero, List.set_cons_succ])
      clear hC
      have hC := hC'
      clear hC'
      refine wpM_two (i := 3) (j := 8) rfl rfl (by kernel_rfl) hcl (fun K hK => ?_) (fun K hK => ?_)
      · go_simp
        refine (cB.out _ hC).mono ?_
        rintro e v4 ⟨A4, c4, qs4, rfl, o4, hq4, hb4⟩
        replace o3 := o3.below hb4
        (try replace hx := blk_below hx hb4)
        have hC' := kq_call hC (Nat.le_refl _) hb4
        refine hK.out _ _ hC' trivial ?_
        clear hK K
        clear hcl
        intro hcl
        (try simp only [Act.put, List.getElem_toArray, List.getElem_cons_zero, List.getElem_cons_succ, List.setIfInBounds_toArray, List.set_cons_zero, List.set_cons_succ])
        clear hC
        have hC := hC'
        clear hC'
        have hzv4 := hC.1.size
        refine wpM_two (i := 4) (j := 8) rfl rfl (by kernel_rfl) hcl (fun K hK => ?_) (fun K hK => ?_)
        · go_simp
          refine (cM.out _ _ _ _ _ _ _ hC o3.rd hq3 o4.rd hq4).mono ?_
          rintro e v5 ⟨A5, n5, c5, rs5, rfl, o5, hr5, hb5⟩
          (try have hgo := blk_lt hx)
          (try replace hx := blk_below hx hb5)
          have hC' := kq_call hC (Nat.le_refl _) hb5
          refine hK.out _ _ hC' trivial ?_
          clear hK K
          clear hcl
          intro hcl
          (try simp only)
          clear hC
          have hC := hC'
          clear hC'
          (refine wpM_take (i := 5) (v := ?_) rfl (by kernel_rfl) (by kernel_rfl) (by kernel_rfl) (by decide) (fun _ _ _ h => h) hcl hC (fun _ => hE) (Or.inl ⟨by rfl, ?_⟩) ?_; rotate_left; (· (intro w hSw; (try dsimp only at hSw); go_simp; (try with_reducible rfl))); clear hcl; intro hcl; (try simp only [Act.put, List.getElem_toArray, List.getElem_cons_zero, List.getElem_cons_succ, List.setIfInBounds_toArray, List.set_cons_zero, List.set_cons_succ]))
          (refine wpM_take (i := 6) (v := ?_) rfl (by kernel_rfl) (by kernel_rfl) (by kernel_rfl) (by decide) (fun _ _ _ h => h) hcl hC (fun _ => hE) (Or.inl ⟨by rfl, ?_⟩) ?_; rotate_left; (· (intro w hSw; (try dsimp only at hSw); go_simp; (try with_reducible rfl))); clear hcl; intro hcl; (try simp only [Act.put, List.getElem_toArray, List.getElem_cons_zero, List.getElem_cons_succ, List.setIfInBounds_toArray, List.set_cons_zero, List.set_cons_succ]))
          (refine wpM_take (i := 7) (v := ?_) rfl (by kernel_rfl) (by kernel_rfl) (by kernel_rfl) (by decide) (fun _ _ _ h => h) hcl hC (fun _ => hE) (Or.inl ⟨by rfl, ?_⟩) ?_; rotate_left; (· (intro w hSw; (try dsimp only at hSw); go_simp; (try with_reducible rfl))); clear hcl; intro hcl; (try simp only [Act.put, List.getElem_toArray, List.getElem_cons_zero, List.getElem_cons_succ, List.setIfInBounds_toArray, List.set_cons_zero, List.set_cons_succ]))
          have hC5 := hC
          have hCA : KQ u0.heap.size u0 (v5.alloc (.cells #[.int .i64 0, .int .u32 0, .int .u32 0, .int .u32 0, .int .u32 0, .int .u32 0, .int .u32 0, .int .u32 0, .int .u32 0, .int .u32 0, .bool false, .slice none 0 0] 33)) := kq (hC.1.alloc hC.1.size _)
          have hx : (v5.alloc (.cells #[.int .i64 0, .int .u32 0, .int .u32 0, .int .u32 0, .int .u32 0, .int .u32 0, .int .u32 0, .int .u32 0, .int .u32 0, .int .u32 0, .bool false, .slice none 0 0] 33)).heap[v5.heap.size]? = some (.cells #[.int .i64 0, .int .u32 0, .int .u32 0, .int .u32 0, .int .u32 0, .int .u32 0, .int .u32 0, .int .u32 0, .int .u32 0, .int .u32 0, .bool false, .slice none 0 0] 33 (0, 0)) := heap_at _ _ rfl
          refine wpM_only (i := 8) rfl (by kernel_rfl) hcl (fun K hK => ?_)
          go_simp
          refine hK.out _ _ hCA trivial ?_
          clear hK K
          clear hcl
          intro hcl
          (try simp only [Act.put, List.getElem_toArray, List.getElem_cons_zero, List.getElem_cons_succ, List.setIfInBounds_toArray, List.set_cons_zero, List.set_cons_succ])
          clear hC
          have hC := hCA
          clear hCA
          have hlx := blk_lt hx
          have hfx := blk_frozen hx
          have x0 := blk_cell hx 0
          have x1 := blk_cell hx 1
          have x2 := blk_cell hx 2
          have x3 := blk_cell hx 3
          have x4 := blk_cell hx 4
          have x5 := blk_cell hx 5
          have x6 := blk_cell hx 6
          have x7 := blk_cell hx 7
          have x8 := blk_cell hx 8
          have x9 := blk_cell hx 9
          have x10 := blk_cell hx 10
          have x11 := blk_cell hx 11
          simp at x0 x1 x2 x3 x4 x5 x6 x7 x8 x9 x10 x11
          have hC3 : KQ u0.heap.size u0 (v5.alloc (.cells #[.int .i64 mx.1, .int .u32 mx.2, .int .u32 mv.d0, .int .u32 mv.d1, .int .u32 mv.d2, .int .u32 mv.d3, .int .u32 mv.d4, .int .u32 mv.d5, .int .u32 mv.d6, .int .u32 mv.d7, .bool mt, .slice A5 n5 c5] 33)) := kq (hC5.1.alloc hC5.1.size _)
          refine wpM_only (i := 9) rfl (by kernel_rfl) hcl (fun K hK => ?_)
          go_simp
          refine hK.out _ _ hC3 trivial ?_
          clear hK K
          clear hcl
          intro hcl
          (try simp only [Act.put, List.getElem_toArray, List.getElem_cons_zero, List.getElem_cons_succ, List.setIfInBounds_toArray, List.set_cons_zero, List.set_cons_succ])
          clear hC
          have hC := hC3
          (refine wpM_take (i := 10) (v := ?_) rfl (by kernel_rfl) (by kernel_rfl) (by kernel_rfl) (by decide) (fun _ _ _ h => h) hcl hC (fun _ => hE) (Or.inl ⟨by rfl, ?_⟩) ?_; rotate_left; (· (intro w hSw; (try dsimp only at hSw); go_simp; (try with_reducible rfl))); clear hcl; intro hcl; (try simp only [Act.put, List.getElem_toArray, List.getElem_cons_zero, List.getElem_cons_succ, List.setIfInBounds_toArray, List.set_cons_zero, List.set_cons_succ]))
          refine wpM_done (by kernel_rfl) ?_
          clear hcl
          try simp only [List.getElem_toArray, List.getElem_cons_zero, List.getElem_cons_succ, List.setIfInBounds_toArray, List.set_cons_zero, List.set_cons_succ]
          go_wp2_with fail
          go_meet
          have hO3 := o5.below ((Below.refl v5.heap.size v5).alloc (Nat.le_refl _) (.cells #[.int .i64 mx.1, .int .u32 mx.2, .int .u32 mv.d0, .int .u32 mv.d1, .int .u32 mv.d2, .int .u32 mv.d3, .int .u32 mv.d4, .int .u32 mv.d5, .int .u32 mv.d6, .int .u32 mv.d7, .bool mt, .slice A5 n5 c5] 33))
          exact ⟨_, A5, n5, c5, rs5, rfl, rfl, heap_at _ _ rfl, ⟨hO3.1.base (by have := hC5.1.size; omega), fun q hq => (hO3.2 q hq).base (by omega)⟩, hr5, hC3.1⟩
        · go_simp
          have hC3 : KQ u0.heap.size u0 (v4.alloc (.cells #[.int .i64 0, .int .u32 0, .int .u32 0, .int .u32 0, .int .u32 0, .int .u32 0, .int .u32 0, .int .u32 0, .int .u32 0, .int .u32 0, .bool false, .slice none 0 0] 33)) := kq ((Below.refl _ _).trans (by first | exact (hC.1.alloc hC.1.size _) | exact ((Below.refl _ _).alloc (Nat.le_refl _) _).drew))
          have hx : (v4.alloc (.cells #[.int .i64 0, .int .u32 0, .int .u32 0, .int .u32 0, .int .u32 0, .int .u32 0, .int .u32 0, .int .u32 0, .int .u32 0, .int .u32 0, .bool false, .slice none 0 0] 33)).heap[v4.heap.size]? = some (.cells #[.int .i64 0, .int .u32 0, .int .u32 0, .int .u32 0, .int .u32 0, .int .u32 0, .int .u32 0, .int .u32 0, .int .u32 0, .int .u32 0, .bool false, .slice none 0 0] 33 (0, 0)) := (by first | exact heap_at _ _ rfl | exact heap_drew (heap_at _ _ rfl))
          have hbA : Below v4.heap.size v4 (v4.alloc (.cells #[.int .i64 0, .int .u32 0, .int .u32 0, .int .u32 0, .int .u32 0, .int .u32 0, .int .u32 0, .int .u32 0, .int .u32 0, .int .u32 0, .bool false, .slice none 0 0] 33)) := (by first | exact (Below.refl _ _).alloc (Nat.le_refl _) _ | exact ((Below.refl _ _).alloc (Nat.le_refl _) _).drew)
          have hzg : u0.heap.size ≤ v4.heap.size := (by first | exact Nat.le_refl _ | exact hC.1.size)
          (try replace o3 := o3.below hbA)
          (try replace o4 := o4.below hbA)
          refine hK.out _ _ hC3 trivial ?_
          clear hK K
          clear hcl
          intro hcl
          (try simp only [Act.put, List.getElem_toArray, List.getElem_cons_zero, List.getElem_cons_succ, List.setIfInBounds_toArray, List.set_cons_zero, List.set_cons_succ])
          clear hC
          have hC := hC3
          clear hC3
          refine wpM_only (i := 4) rfl (by kernel_rfl) hcl (fun K hK => ?_)
          go_simp
          refine (cM.out _ _ _ _ _ _ _ hC o3.rd hq3 o4.rd hq4).mono ?_
          rintro e v5 ⟨A5, n5, c5, rs5, rfl, o5, hr5, hb5⟩
          (try have hgo := blk_lt hx)
          (try replace hx := blk_below hx hb5)
          have hC' := kq_call hC (Nat.le_refl _) hb5
          refine hK.out _ _ hC' trivial ?_
          clear hK K
          clear hcl
          intro hcl
          (try simp only)
          clear hC
          have hC := hC'
          clear hC'
          (refine wpM_take (i := 5) (v := ?_) rfl (by kernel_rfl) (by kernel_rfl) (by kernel_rfl) (by decide) (fun _ _ _ h => h) hcl hC (fun _ => hE) (Or.inl ⟨by rfl, ?_⟩) ?_; rotate_left; (· (intro w hSw; (try dsimp only at hSw); go_simp; (try with_reducible rfl))); clear hcl; intro hcl; (try simp only [Act.put, List.getElem_toArray, List.getElem_cons_zero, List.getElem_cons_succ, List.setIfInBounds_toArray, List.set_cons_zero, List.set_cons_succ]))
          (refine wpM_take (i := 6) (v := ?_) rfl (by kernel_rfl) (by kernel_rfl) (by kernel_rfl) (by decide) (fun _ _ _ h => h) hcl hC (fun _ => hE) (Or.inl ⟨by rfl, ?_⟩) ?_; rotate_left; (· (intro w hSw; (try dsimp only at hSw); go_simp; (try with_reducible rfl))); clear hcl; intro hcl; (try simp only [Act.put, List.getElem_toArray, List.getElem_cons_zero, List.getElem_cons_succ, List.setIfInBounds_toArray, List.set_cons_zero, List.set_cons_succ]))
          (refine wpM_take (i := 7) (v := ?_) rfl (by kernel_rfl) (by kernel_rfl) (by kernel_rfl) (by decide) (fun _ _ _ h => h) hcl hC (fun _ => hE) (Or.inl ⟨by rfl, ?_⟩) ?_; rotate_left; (· (intro w hSw; (try dsimp only at hSw); go_simp; (try with_reducible rfl))); clear hcl; intro hcl; (try simp only [Act.put, List.getElem_toArray, List.getElem_cons_zero, List.getElem_cons_succ, List.setIfInBounds_toArray, List.set_cons_zero, List.set_cons_succ]))
          have hlx := blk_lt hx
          have hfx := blk_frozen hx
          have hzC := hC.1.size
          have x0 := blk_cell hx 0
          have x1 := blk_cell hx 1
          have x2 := blk_cell hx 2
          have x3 := blk_cell hx 3
          have x4 := blk_cell hx 4
          have x5 := blk_cell hx 5
          have x6 := blk_cell hx 6
          have x7 := blk_cell hx 7
          have x8 := blk_cell hx 8
          have x9 := blk_cell hx 9
          have x10 := blk_cell hx 10
          have x11 := blk_cell hx 11
          simp at x0 x1 x2 x3 x4 x5 x6 x7 x8 x9 x10 x11
          have hgu : u0.heap.size ≤ v4.heap.size := (by first | exact Nat.le_refl _ | exact hzg)
          have hC3 : KQ u0.heap.size u0 _ := kq (set12_keep (g := v4.heap.size) hC.1 hgu (.int .i64 mx.1) (.int .u32 mx.2) (.int .u32 mv.d0) (.int .u32 mv.d1) (.int .u32 mv.d2) (.int .u32 mv.d3) (.int .u32 mv.d4) (.int .u32 mv.d5) (.int .u32 mv.d6) (.int .u32 mv.d7) (.bool mt) (.slice A5 n5 c5))
          have hS3 := heap12 hx (.int .i64 mx.1) (.int .u32 mx.2) (.int .u32 mv.d0) (.int .u32 mv.d1) (.int .u32 mv.d2) (.int .u32 mv.d3) (.int .u32 mv.d4) (.int .u32 mv.d5) (.int .u32 mv.d6) (.int .u32 mv.d7) (.bool mt) (.slice A5 n5 c5)
          have hO3 := set12_own (g := v4.heap.size) o5 (by first | exact hgo | exact blk_lt hx0) (.int .i64 mx.1) (.int .u32 mx.2) (.int .u32 mv.d0) (.int .u32 mv.d1) (.int .u32 mv.d2) (.int .u32 mv.d3) (.int .u32 mv.d4) (.int .u32 mv.d5) (.int .u32 mv.d6) (.int .u32 mv.d7) (.bool mt) (.slice A5 n5 c5)
          refine wpM_only (i := 9) rfl (by kernel_rfl) hcl (fun K hK => ?_)
          go_simp
          refine hK.out _ _ hC3 trivial ?_
          clear hK K
          clear hcl
          intro hcl
          (try simp only [Act.put, List.getElem_toArray, List.getElem_cons_zero, List.getElem_cons_succ, List.setIfInBounds_toArray, List.set_cons_zero, List.set_cons_succ])
          clear hC
          have hC := hC3
          (refine wpM_take (i := 10) (v := ?_) rfl (by kernel_rfl) (by kernel_rfl) (by kernel_rfl) (by decide) (fun _ _ _ h => h) hcl hC (fun _ => hE) (Or.inl ⟨by rfl, ?_⟩) ?_; rotate_left; (· (intro w hSw; (try dsimp only at hSw); go_simp; (try with_reducible rfl))); clear hcl; intro hcl; (try simp only [Act.put, List.getElem_toArray, List.getElem_cons_zero, List.getElem_cons_succ, List.setIfInBounds_toArray, List.set_cons_zero, List.set_cons_succ]))
          refine wpM_done (by kernel_rfl) ?_
          clear hcl
          try simp only [List.getElem_toArray, List.getElem_cons_zero, List.getElem_cons_succ, List.setIfInBounds_toArray, List.set_cons_zero, List.set_cons_succ]
          go_wp2_with fail
          go_meet
          exact ⟨_, A5, n5, c5, rs5, rfl, rfl, hS3, ⟨hO3.1.base (by have := hC.1.size; omega), fun q hq => (hO3.2 q hq).base (by omega)⟩, hr5, hC3.1⟩
      · go_simp
        have hC3 : KQ u0.heap.size u0 (v3.alloc (.cells #[.int .i64 0, .int .u32 0, .int .u32 0, .int .u32 0, .int .u32 0, .int .u32 0, .int .u32 0, .int .u32 0, .int .u32 0, .int .u32 0, .bool false, .slice none 0 0] 33)) := kq ((Below.refl _ _).trans (by first | exact (hC.1.alloc hC.1.size _) | exact ((Below.refl _ _).alloc (Nat.le_refl _) _).drew))
        have hx : (v3.alloc (.cells #[.int .i64 0, .int .u32 0, .int .u32 0, .int .u32 0, .int .u32 0, .int .u32 0, .int .u32 0, .int .u32 0, .int .u32 0, .int .u32 0, .bool false, .slice none 0 0] 33)).heap[v3.heap.size]? = some (.cells #[.int .i64 0, .int .u32 0, .int .u32 0, .int .u32 0, .int .u32 0, .int .u32 0, .int .u32 0, .int .u32 0, .int .u32 0, .int .u32 0, .bool false, .slice none 0 0] 33 (0, 0)) := (by first | exact heap_at _ _ rfl | exact heap_drew (heap_at _ _ rfl))
        have hbA : Below v3.heap.size v3 (v3.alloc (.cells #[.int .i64 0, .int .u32 0, .int .u32 0, .int .u32 0, .int .u32 0, .int .u32 0, .int .u32 0, .int .u32 0, .int .u32 0, .int .u32 0, .bool false, .slice none 0 0] 33)) := (by first | exact (Below.refl _ _).alloc (Nat.le_refl _) _ | exact ((Below.refl _ _).alloc (Nat.le_refl _) _).drew)
        have hzg : u0.heap.size ≤ v3.heap.size := (by first | exact Nat.le_refl _ | exact hC.1.size)
        (try replace o3 := o3.below hbA)
        (try replace o4 := o4.below hbA)
        refine hK.out _ _ hC3 trivial ?_
        clear hK K
        clear hcl
        intro hcl
        (try simp only [Act.put, List.getElem_toArray, List.getElem_cons_zero, List.getElem_cons_succ, List.setIfInBounds_toArray, List.set_cons_zero, List.set_cons_succ])
        clear hC
        have hC := hC3
        clear hC3
        refine wpM_only (i := 3) rfl (by kernel_rfl) hcl (fun K hK => ?_)
        go_simp
        refine (cB.out _ hC).mono ?_
        rintro e v4 ⟨A4, c4, qs4, rfl, o4, hq4, hb4⟩
        replace o3 := o3.below hb4
        (try replace hx := blk_below hx hb4)
        have hC' := kq_call hC (Nat.le_refl _) hb4
        refine hK.out _ _ hC' trivial ?_
        clear hK K
        clear hcl
        intro hcl
        (try simp only [Act.put, List.getElem_toArray, List.getElem_cons_zero, List.getElem_cons_succ, List.setIfInBounds_toArray, List.set_cons_zero, List.set_cons_succ])
        clear hC
        have hC := hC'
        clear hC'
        have hzv4 := hC.1.size
        refine wpM_only (i := 4) rfl (by kernel_rfl) hcl (fun K hK => ?_)
        go_simp
        refine (cM.out _ _ _ _ _ _ _ hC o3.rd hq3 o4.rd hq4).mono ?_
        rintro e v5 ⟨A5, n5, c5, rs5, rfl, o5, hr5, hb5⟩
        (try have hgo := blk_lt hx)
        (try replace hx := blk_below hx hb5)
        have hC' := kq_call hC (Nat.le_refl _) hb5
        refine hK.out _ _ hC' trivial ?_
        clear hK K
        clear hcl
        intro hcl
        (try simp only)
        clear hC
        have hC := hC'
        clear hC'
        (refine wpM_take (i := 5) (v := ?_) rfl (by kernel_rfl) (by kernel_rfl) (by kernel_rfl) (by decide) (fun _ _ _ h => h) hcl hC (fun _ => hE) (Or.inl ⟨by rfl, ?_⟩) ?_; rotate_left; (· (intro w hSw; (try dsimp only at hSw); go_simp; (try with_reducible rfl))); clear hcl; intro hcl; (try simp only [Act.put, List.getElem_toArray, List.getElem_cons_zero, List.getElem_cons_succ, List.setIfInBounds_toArray, List.set_cons_zero, List.set_cons_succ]))
        (refine wpM_take (i := 6) (v := ?_) rfl (by kernel_rfl) (by kernel_rfl) (by kernel_rfl) (by decide) (fun _ _ _ h => h) hcl hC (fun _ => hE) (Or.inl ⟨by rfl, ?_⟩) ?_; rotate_left; (· (intro w hSw; (try dsimp only at hSw); go_simp; (try with_reducible rfl))); clear hcl; intro hcl; (try simp only [Act.put, List.getElem_toArray, List.getElem_cons_zero, List.getElem_cons_succ, List.setIfInBounds_toArray, List.set_cons_zero, List.set_cons_succ]))
        (refine wpM_take (i := 7) (v := ?_) rfl (by kernel_rfl) (by kernel_rfl) (by kernel_rfl) (by decide) (fun _ _ _ h => h) hcl hC (fun _ => hE) (Or.inl ⟨by rfl, ?_⟩) ?_; rotate_left; (· (intro w hSw; (try dsimp only at hSw); go_simp; (try with_reducible rfl))); clear hcl; intro hcl; (try simp only [Act.put, List.getElem_toArray, List.getElem_cons_zero, List.getElem_cons_succ, List.setIfInBounds_toArray, List.set_cons_zero, List.set_cons_succ]))
        have hlx := blk_lt hx
        have hfx := blk_frozen hx
        have hzC := hC.1.size
        have x0 := blk_cell hx 0
        have x1 := blk_cell hx 1
        have x2 := blk_cell hx 2
        have x3 := blk_cell hx 3
        have x4 := blk_cell hx 4
        have x5 := blk_cell hx 5
        have x6 := blk_cell hx 6
        have x7 := blk_cell hx 7
        have x8 := blk_cell hx 8
        have x9 := blk_cell hx 9
        have x10 := blk_cell hx 10
        have x11 := blk_cell hx 11
        simp at x0 x1 x2 x3 x4 x5 x6 x7 x8 x9 x10 x11
        have hgu : u0.heap.size ≤ v3.heap.size := (by first | exact Nat.le_refl _ | exact hzg)
        have hC3 : KQ u0.heap.size u0 _ := kq (set12_keep (g := v3.heap.size) hC.1 hgu (.int .i64 mx.1) (.int .u32 mx.2) (.int .u32 mv.d0) (.int .u32 mv.d1) (.int .u32 mv.d2) (.int .u32 mv.d3) (.int .u32 mv.d4) (.int .u32 mv.d5) (.int .u32 mv.d6) (.int .u32 mv.d7) (.bool mt) (.slice A5 n5 c5))
        have hS3 := heap12 hx (.int .i64 mx.1) (.int .u32 mx.2) (.int .u32 mv.d0) (.int .u32 mv.d1) (.int .u32 mv.d2) (.int .u32 mv.d3) (.int .u32 mv.d4) (.int .u32 mv.d5) (.int .u32 mv.d6) (.int .u32 mv.d7) (.bool mt) (.slice A5 n5 c5)
        have hO3 := set12_own (g := v3.heap.size) o5 (by first | exact hgo | exact blk_lt hx0) (.int .i64 mx.1) (.int .u32 mx.2) (.int .u32 mv.d0) (.int .u32 mv.d1) (.int .u32 mv.d2) (.int .u32 mv.d3) (.int .u32 mv.d4) (.int .u32 mv.d5) (.int .u32 mv.d6) (.int .u32 mv.d7) (.bool mt) (.slice A5 n5 c5)
        refine wpM_only (i := 9) rfl (by kernel_rfl) hcl (fun K hK => ?_)
        go_simp
        refine hK.out _ _ hC3 trivial ?_
        clear hK K
        clear hcl
        intro hcl
        (try simp only [Act.put, List.getElem_toArray, List.getElem_cons_zero, List.getElem_cons_succ, List.setIfInBounds_toArray, List.set_cons_zero, List.set_cons_succ])
        clear hC
        have hC := hC3
        (refine wpM_take (i := 10) (v := ?_) rfl (by kernel_rfl) (by kernel_rfl) (by kernel_rfl) (by decide) (fun _ _ _ h => h) hcl hC (fun _ => hE) (Or.inl ⟨by rfl, ?_⟩) ?_; rotate_left; (· (intro w hSw; (try dsimp only at hSw); go_simp; (try with_reducible rfl))); clear hcl; intro hcl; (try simp only [Act.put, List.getElem_toArray, List.getElem_cons_zero, List.getElem_cons_succ, List.setIfInBounds_toArray, List.set_cons_zero, List.set_cons_succ]))
        refine wpM_done (by kernel_rfl) ?_
        clear hcl
        try simp only [List.getElem_toArray, List.getElem_cons_zero, List.getElem_cons_succ, List.setIfInBounds_toArray, List.set_cons_zero, List.set_cons_succ]
        go_wp2_with fail
        go_meet
        exact ⟨_, A5, n5, c5, rs5, rfl, rfl, hS3, ⟨hO3.1.base (by have := hC.1.size; omega), fun q hq => (hO3.2 q hq).base (by omega)⟩, hr5, hC3.1⟩
    · go_simp
      have hC3 : KQ u0.heap.size u0 (u0.alloc (.cells #[.int .i64 0, .int .u32 0, .int .u32 0, .int .u32 0, .int .u32 0, .int .u32 0, .int .u32 0, .int .u32 0, .int .u32 0, .int .u32 0, .bool false, .slice none 0 0] 33)).drew := kq ((Below.refl _ _).trans (by first | exact (hC.1.alloc hC.1.size _) | exact ((Below.refl _ _).alloc (Nat.le_refl _) _).drew))
      have hx : (u0.alloc (.cells #[.int .i64 0, .int .u32 0, .int .u32 0, .int .u32 0, .int .u32 0, .int .u32 0, .int .u32 0, .int .u32 0, .int .u32 0, .int .u32 0, .bool false, .slice none 0 0] 33)).drew.heap[u0.heap.size]? = some (.cells #[.int .i64 0, .int .u32 0, .int .u32 0, .int .u32 0, .int .u32 0, .int .u32 0, .int .u32 0, .int .u32 0, .int .u32 0, .int .u32 0, .bool false, .slice none 0 0] 33 (0, 0)) := (by first | exact heap_at _ _ rfl | exact heap_drew (heap_at _ _ rfl))
      have hbA : Below u0.heap.size u0 (u0.alloc (.cells #[.int .i64 0, .int .u32 0, .int .u32 0, .int .u32 0, .int .u32 0, .int .u32 0, .int .u32 0, .int .u32 0, .int .u32 0, .int .u32 0, .bool false, .slice none 0 0] 33)).drew := (by first | exact (Below.refl _ _).alloc (Nat.le_refl _) _ | exact ((Below.refl _ _).alloc (Nat.le_refl _) _).drew)
      have hzg : u0.heap.size ≤ u0.heap.size := (by first | exact Nat.le_refl _ | exact hC.1.size)
      (try replace o3 := o3.below hbA)
      (try replace o4 := o4.below hbA)
      refine hK.out _ _ hC3 trivial ?_
      clear hK K
      clear hcl
      intro hcl
      (try simp only [Act.put, List.getElem_toArray, List.getElem_cons_zero, List.getElem_cons_succ, List.setIfInBounds_toArray, List.set_cons_zero, List.set_cons_succ])
      clear hC
      have hC := hC3
      clear hC3
      refine wpM_only (i := 1) rfl (by kernel_rfl) hcl (fun K hK => ?_)
      go_simp
      refine (cA.out _ hC).mono ?_
      rintro e v3 ⟨A3, c3, qs3, rfl, o3, hq3, hb3⟩
      (try replace hx := blk_below hx hb3)
      have hC' := kq_call hC (Nat.le_refl _) hb3
      refine hK.out _ _ hC' trivial ?_
      clear hK K
      clear hcl
      intro hcl
      (try simp only [Act.put, List.getElem_toArray, List.getElem_cons_zero, List.getElem_cons_succ, List.setIfInBounds_toArray, List.set_cons_zero, List.set_cons_succ])
      clear hC
      have hC := hC'
      clear hC'
      refine wpM_only (i := 3) rfl (by kernel_rfl) hcl (fun K hK => ?_)
      go_simp
      refine (cB.out _ hC).mono ?_
      rintro e v4 ⟨A4, c4, qs4, rfl, o4, hq4, hb4⟩
      replace o3 := o3.below hb4
      (try replace hx := blk_below hx hb4)
      have hC' := kq_call hC (Nat.le_refl _) hb4
      refine hK.out _ _ hC' trivial ?_
      clear hK K
      clear hcl
      intro hcl
      (try simp only [Act.put, List.getElem_toArray, List.getElem_cons_zero, List.getElem_cons_succ, List.setIfInBounds_toArray, List.set_cons_zero, List.set_cons_succ])
      clear hC
      have hC := hC'
      clear hC'
      have hzv4 := hC.1.size
      refine wpM_only (i := 4) rfl (by kernel_rfl) hcl (fun K hK => ?_)
      go_simp
      refine (cM.out _ _ _ _ _ _ _ hC o3.rd hq3 o4.rd hq4).mono ?_
      rintro e v5 ⟨A5, n5, c5, rs5, rfl, o5, hr5, hb5⟩
      (try have hgo := blk_lt hx)
      (try replace hx := blk_below hx hb5)
      have hC' := kq_call hC (Nat.le_refl _) hb5
      refine hK.out _ _ hC' trivial ?_
      clear hK K
      clear hcl
      intro hcl
      (try simp only)
      clear hC
      have hC := hC'
      clear hC'
      (refine wpM_take (i := 5) (v := ?_) rfl (by kernel_rfl) (by kernel_rfl) (by kernel_rfl) (by decide) (fun _ _ _ h => h) hcl hC (fun _ => hE) (Or.inl ⟨by rfl, ?_⟩) ?_; rotate_left; (· (intro w hSw; (try dsimp only at hSw); go_simp; (try with_reducible rfl))); clear hcl; intro hcl; (try simp only [Act.put, List.getElem_toArray, List.getElem_cons_zero, List.getElem_cons_succ, List.setIfInBounds_toArray, List.set_cons_zero, List.set_cons_succ]))
      (refine wpM_take (i := 6) (v := ?_) rfl (by kernel_rfl) (by kernel_rfl) (by kernel_rfl) (by decide) (fun _ _ _ h => h) hcl hC (fun _ => hE) (Or.inl ⟨by rfl, ?_⟩) ?_; rotate_left; (· (intro w hSw; (try dsimp only at hSw); go_simp; (try with_reducible rfl))); clear hcl; intro hcl; (try simp only [Act.put, List.getElem_toArray, List.getElem_cons_zero, List.getElem_cons_succ, List.setIfInBounds_toArray, List.set_cons_zero, List.set_cons_succ]))
      (refine wpM_take (i := 7) (v := ?_) rfl (by kernel_rfl) (by kernel_rfl) (by kernel_rfl) (by decide) (fun _ _ _ h => h) hcl hC (fun _ => hE) (Or.inl ⟨by rfl, ?_⟩) ?_; rotate_left; (· (intro w hSw; (try dsimp only at hSw); go_simp; (try with_reducible rfl))); clear hcl; intro hcl; (try simp only [Act.put, List.getElem_toArray, List.getElem_cons_zero, List.getElem_cons_succ, List.setIfInBounds_toArray, List.set_cons_zero, List.set_cons_succ]))
      have hlx := blk_lt hx
      have hfx := blk_frozen hx
      have hzC := hC.1.size
      have x0 := blk_cell hx 0
      have x1 := blk_cell hx 1
      have x2 := blk_cell hx 2
      have x3 := blk_cell hx 3
      have x4 := blk_cell hx 4
      have x5 := blk_cell hx 5
      have x6 := blk_cell hx 6
      have x7 := blk_cell hx 7
      have x8 := blk_cell hx 8
      have x9 := blk_cell hx 9
      have x10 := blk_cell hx 10
      have x11 := blk_cell hx 11
      simp at x0 x1 x2 x3 x4 x5 x6 x7 x8 x9 x10 x11
      have hgu : u0.heap.size ≤ u0.heap.size := (by first | exact Nat.le_refl _ | exact hzg)
      have hC3 : KQ u0.heap.size u0 _ := kq (set12_keep (g := u0.heap.size) hC.1 hgu (.int .i64 mx.1) (.int .u32 mx.2) (.int .u32 mv.d0) (.int .u32 mv.d1) (.int .u32 mv.d2) (.int .u32 mv.d3) (.int .u32 mv.d4) (.int .u32 mv.d5) (.int .u32 mv.d6) (.int .u32 mv.d7) (.bool mt) (.slice A5 n5 c5))
      have hS3 := heap12 hx (.int .i64 mx.1) (.int .u32 mx.2) (.int .u32 mv.d0) (.int .u32 mv.d1) (.int .u32 mv.d2) (.int .u32 mv.d3) (.int .u32 mv.d4) (.int .u32 mv.d5) (.int .u32 mv.d6) (.int .u32 mv.d7) (.bool mt) (.slice A5 n5 c5)
      have hO3 := set12_own (g := u0.heap.size) o5 (by first | exact hgo | exact blk_lt hx0) (.int .i64 mx.1) (.int .u32 mx.2) (.int .u32 mv.d0) (.int .u32 mv.d1) (.int .u32 mv.d2) (.int .u32 mv.d3) (.int .u32 mv.d4) (.int .u32 mv.d5) (.int .u32 mv.d6) (.int .u32 mv.d7) (.bool mt) (.slice A5 n5 c5)
      refine wpM_only (i := 9) rfl (by kernel_rfl) hcl (fun K hK => ?_)
      go_simp
      refine hK.out _ _ hC3 trivial ?_
      clear hK K
      clear hcl
      intro hcl
      (try simp only [Act.put, List.getElem_toArray, List.getElem_cons_zero, List.getElem_cons_succ, List.setIfInBounds_toArray, List.set_cons_zero, List.set_cons_succ])
      clear hC
      have hC := hC3
      (refine wpM_take (i := 10) (v := ?_) rfl (by kernel_rfl) (by kernel_rfl) (by kernel_rfl) (by decide) (fun _ _ _ h => h) hcl hC (fun _ => hE) (Or.inl ⟨by rfl, ?_⟩) ?_; rotate_left; (· (intro w hSw; (try dsimp only at hSw); go_simp; (try with_reducible rfl))); clear hcl; intro hcl; (try simp only [Act.put, List.getElem_toArray, List.getElem_cons_zero, List.getElem_cons_succ, List.setIfInBounds_toArray, List.set_cons_zero, List.set_cons_succ]))
      refine wpM_done (by kernel_rfl) ?_
      clear hcl
      try simp only [List.getElem_toArray, List.getElem_cons_zero, List.getElem_cons_succ, List.setIfInBounds_toArray, List.set_cons_zero, List.set_cons_succ]
      go_wp2_with fail
      go_meet
      exact ⟨_, A5, n5, c5, rs5, rfl, rfl, hS3, ⟨hO3.1.base (by have := hC.1.size; omega), fun q hq => (hO3.2 q hq).base (by omega)⟩, hr5, hC3.1⟩
  case rest =>
  obtain ⟨g9, A5, n5, c5, rs5, rfl, rfl, h9, o5, hr5, hbu1⟩ := hcut
  obtain ⟨u1, hu1⟩ : ∃ u1, u1 = wc := ⟨_, rfl⟩
  obtain rfl := hu1
  have hW1 : Below W.heap.size W u1 := hWu.trans (hbu1.mono hWu.size)
  have hb1u : Below w.heap.size w u1 := hbu0.trans (hbu1.mono hbu0.size)
  clear hltt hlts q0 q1 q2 q3 q4 q5 q6 q7 q8 q9 q10 q11 z0 z1 z2 z3 z4 z5 z6 z7 z8 z9 z10 z11 cA cB cM cTo cTo2
  obtain ⟨hbtu, hbsu⟩ := hcells.out u1 hW1
  have q0 := blk_cell hbtu 0
  have q1 := blk_cell hbtu 1
  have q2 := blk_cell hbtu 2
  have q3 := blk_cell hbtu 3
  have q4 := blk_cell hbtu 4
  have q5 := blk_cell hbtu 5
  have q6 := blk_cell hbtu 6
  have q7 := blk_cell hbtu 7
  have q8 := blk_cell hbtu 8
  have q9 := blk_cell hbtu 9
  have q10 := blk_cell hbtu 10
  have q11 := blk_cell hbtu 11
  simp at q0 q1 q2 q3 q4 q5 q6 q7 q8 q9 q10 q11
  have z0 := blk_cell hbsu 0
  have z1 := blk_cell hbsu 1
  have z2 := blk_cell hbsu 2
  have z3 := blk_cell hbsu 3
  have z4 := blk_cell hbsu 4
  have z5 := blk_cell hbsu 5
  have z6 := blk_cell hbsu 6
  have z7 := blk_cell hbsu 7
  have z8 := blk_cell hbsu 8
  have z9 := blk_cell hbsu 9
  have z10 := blk_cell hbsu 10
  have z11 := blk_cell hbsu 11
  simp at z0 z1 z2 z3 z4 z5 z6 z7 z8 z9 z10 z11
  have hltt := blk_lt hbtu
  have hlts := blk_lt hbsu
  clear hbtu hbsu
  go_wp2_with fail
  refine (cR.out u1 hb1u).mono ?_
  rintro e u2 ⟨A6, n6, c6, rs6, rfl, o6, hr6, hl6, hn6, hv2⟩
  dsimp only at hr6
  obtain ⟨u3, hu3⟩ : ∃ u3, u2.alloc (.cells #[.int .i64 mx.1, .int .u32 mx.2, .int .u32 mv.d0, .int .u32 mv.d1, .int .u32 mv.d2, .int .u32 mv.d3, .int .u32 mv.d4, .int .u32 mv.d5, .int .u32 mv.d6, .int .u32 mv.d7, .bool mt, .slice A6 n6 c6] 29) = u3 := ⟨_, rfl⟩
  have hbu : Below u2.heap.size u2 u3 := by rw [← hu3]; exact (Below.refl _ u2).alloc (Nat.le_refl _) _
  have h8 : u3.heap[u2.heap.size]? = some (.cells #[.int .i64 mx.1, .int .u32 mx.2, .int .u32 mv.d0, .int .u32 mv.d1, .int .u32 mv.d2, .int .u32 mv.d3, .int .u32 mv.d4, .int .u32 mv.d5, .int .u32 mv.d6, .int .u32 mv.d7, .bool mt, .slice A6 n6 c6] 29 (0, 0)) := by rw [← hu3]; exact heap_at _ _ rfl
  have hb13 : Below u1.heap.size u1 u3 := hv2.trans (hbu.mono hv2.size)
  have hb3u : Below w.heap.size w u3 := hb1u.trans (hb13.mono hb1u.size)
  have o5' := o5.below hb13
  have o6' : RdE u3 u3.heap.size A6 n6 rs6 := (o6.below hbu).more hbu.size
  have h9' := blk_below h9 hb13
  have hl5 : ∀ q ∈ rs5, q.l ≤ maxLen := fun q hq => Nat.le_trans (o5.2 q hq).rd.2.2.1 (o5.2 q hq).rd.2.2.2
  have hl6' : ∀ q ∈ rs6, q.l ≤ maxLen := fun q hq => Nat.le_trans (hl6 q hq) (by decide)
  have hn5 : n5 ≤ 16 := by
    have e1 := congrArg List.length hr5
    have e2 := o5.len
    rw [List.length_map] at e1
    (try dsimp only at hml)
    omega
  have cF : Hid (∀ w', KQ u3.heap.size u3 w' → Calls Tryd.prog 9 #[.agg #[.int .i64 mx.1, .int .u32 mx.2, .int .u32 mv.d0, .int .u32 mv.d1, .int .u32 mv.d2, .int .u32 mv.d3, .int .u32 mv.d4, .int .u32 mv.d5, .int .u32 mv.d6, .int .u32 mv.d7, .bool mt, .slice A5 n5 c5]] w' fun e w'' => ∃ A' c', e = .returned (.agg #[.int .i64 mx.1, .int .u32 mx.2, .int .u32 mv.d0, .int .u32 mv.d1, .int .u32 mv.d2, .int .u32 mv.d3, .int .u32 mv.d4, .int .u32 mv.d5, .int .u32 mv.d6, .int .u32 mv.d7, .bool mt, .slice A' n5 c']) ∧ RdE w'' w''.heap.size A' n5 rs5 ∧ Below w'.heap.size w' w'') := Lib.hid (fun w' h =>
    (txfrom_any mx mv mt A5 n5 c5 rs5 w' (o5'.below h.1).rd (by omega)).mono (fun e w'' ⟨A', c', he, ho', hb⟩ => ⟨A', c', he, ⟨ho'.rd.1, ((o5'.below h.1).below hb).rd.2⟩, hb⟩))
  have cS := Lib.hid (fun A' c' w' (h : KQ u3.heap.size u3 w') (hr : RdE w' w'.heap.size A' n5 rs5) => (by
    have h1 := txsame_any mx mv mt A' n5 c' rs5 mx mv mt A6 n6 c6 rs6 w' hr ((o6'.below h.1).more h.1.size) (by unfold maxLen; omega) (by unfold maxLen; omega) hl5 hl6'
    rw [show sameTv ⟨mx, mv, mt, rs5.map Pe.core⟩ ⟨mx, mv, mt, rs6.map Pe.core⟩ = true from sameTv_iff.2 (by rw [hr5, hr6])] at h1
    exact h1 : Calls Tryd.prog 8 #[.agg #[.int .i64 mx.1, .int .u32 mx.2, .int .u32 mv.d0, .int .u32 mv.d1, .int .u32 mv.d2, .int .u32 mv.d3, .int .u32 mv.d4, .int .u32 mv.d5, .int .u32 mv.d6, .int .u32 mv.d7, .bool mt, .slice A' n5 c'], .agg #[.int .i64 mx.1, .int .u32 mx.2, .int .u32 mv.d0, .int .u32 mv.d1, .int .u32 mv.d2, .int .u32 mv.d3, .int .u32 mv.d4, .int .u32 mv.d5, .int .u32 mv.d6, .int .u32 mv.d7, .bool mt, .slice A6 n6 c6]] w' fun e w'' => e = .returned (.bool true) ∧ Below w'.heap.size w' w''))
  have hmm : (me == me) = true := by simp
  go_upto_region 5 with (fail)
  clear hltt hlts q0 q1 q2 q3 q4 q5 q6 q7 q8 q9 q10 q11 z0 z1 z2 z3 z4 z5 z6 z7 z8 z9 z10 z11 hu3 h9 o5 o6 hv2
  have yl := blk_lt h9'
  have y0 := blk_cell h9' 0
  have y1 := blk_cell h9' 1
  have y2 := blk_cell h9' 2
  have y3 := blk_cell h9' 3
  have y4 := blk_cell h9' 4
  have y5 := blk_cell h9' 5
  have y6 := blk_cell h9' 6
  have y7 := blk_cell h9' 7
  have y8 := blk_cell h9' 8
  have y9 := blk_cell h9' 9
  have y10 := blk_cell h9' 10
  have y11 := blk_cell h9' 11
  simp at y0 y1 y2 y3 y4 y5 y6 y7 y8 y9 y10 y11
  have al := blk_lt h8
  have a0 := blk_cell h8 0
  have a1 := blk_cell h8 1
  have a2 := blk_cell h8 2
  have a3 := blk_cell h8 3
  have a4 := blk_cell h8 4
  have a5 := blk_cell h8 5
  have a6 := blk_cell h8 6
  have a7 := blk_cell h8 7
  have a8 := blk_cell h8 8
  have a9 := blk_cell h8 9
  have a10 := blk_cell h8 10
  have a11 := blk_cell h8 11
  simp at a0 a1 a2 a3 a4 a5 a6 a7 a8 a9 a10 a11
  refine wp_region_M (fun w' => KQ u3.heap.size u3 w') (fun _ => True) 99 (by kernel_rfl) (kq (Below.refl _ _).drew) trivial ?_
  intro hcl
  have hC : KQ u3.heap.size u3 u3.drew := kq (Below.refl _ _).drew
  have hE := trivial
  (refine wpM_take (i := 0) (v := ?_) rfl (by kernel_rfl) (by kernel_rfl) (by kernel_rfl) (by decide) (fun _ _ _ h => h) hcl hC (fun _ => hE) (Or.inl ⟨by rfl, ?_⟩) ?_; rotate_left; (· (intro w hSw; (try dsimp only at hSw); go_simp; (try with_reducible rfl))); clear hcl; intro hcl; (try simp only [Act.put, List.getElem_toArray, List.getElem_cons_zero, List.setIfInBounds_toArray, List.set_cons_zero, List.set_cons_succ]))
  (refine wpM_take (i := 2) (v := ?_) rfl (by kernel_rfl) (by kernel_rfl) (by kernel_rfl) (by decide) (fun _ _ _ h => h) hcl hC (fun _ => hE) (Or.inl ⟨by rfl, ?_⟩) ?_; rotate_left; (· (intro w hSw; (try dsimp only at hSw); go_simp; (try with_reducible rfl))); clear hcl; intro hcl; (try simp only [Act.put, List.getElem_toArray, List.getElem_cons_zero, List.getElem_cons_succ, List.setIfInBounds_toArray, List.set_cons_zero, List.set_cons_succ]))
  refine wpM_only (i := 1) rfl (by kernel_rfl) hcl (fun K hK => ?_)
  go_simp
  refine (cF.out _ hC).mono ?_
  rintro e v5 ⟨A10, c10, rfl, r10, hv5⟩
  have hC' := kq_call hC (Nat.le_refl _) hv5
  refine hK.out _ _ hC' trivial ?_
  clear hK K
  clear hcl
  intro hcl
  (try simp only [Act.put, List.getElem_toArray, List.getElem_cons_zero, List.getElem_cons_succ, List.setIfInBounds_toArray, List.set_cons_zero, List.set_cons_succ])
  clear hC
  have hC := hC'
  clear hC'
  refine wpM_only (i := 3) rfl (by kernel_rfl) hcl (fun K hK => ?_)
  go_simp
  refine (cS.out A10 c10 _ hC r10).mono ?_
  rintro e v6 ⟨rfl, hv6⟩
  have hC' := kq_call hC (Nat.le_refl _) hv6
  refine hK.out _ _ hC' trivial ?_
  clear hK K
  clear hcl
  intro hcl
  (try simp only [Act.put, List.getElem_toArray, List.getElem_cons_zero, List.getElem_cons_succ, List.setIfInBounds_toArray, List.set_cons_zero, List.set_cons_succ])
  clear hC
  have hC := hC'
  clear hC'
  (refine wpM_take (i := 4) (v := ?_) rfl (by kernel_rfl) (by kernel_rfl) (by kernel_rfl) (by decide) (fun _ _ _ h => h) hcl hC (fun _ => hE) (Or.inl ⟨by rfl, ?_⟩) ?_; rotate_left; (· (intro w hSw; (try dsimp only at hSw); go_simp; (try with_reducible rfl))); clear hcl; intro hcl; (try simp only [Act.put, List.getElem_toArray, List.getElem_cons_zero, List.getElem_cons_succ, List.setIfInBounds_toArray, List.set_cons_zero, List.set_cons_succ]))
  (refine wpM_take (i := 5) (v := ?_) rfl (by kernel_rfl) (by kernel_rfl) (by kernel_rfl) (by decide) (fun _ _ _ h => h) hcl hC (fun _ => hE) (Or.inl ⟨by rfl, ?_⟩) ?_; rotate_left; (· (intro w hSw; (try dsimp only at hSw); go_simp; (try with_reducible rfl))); clear hcl; intro hcl; (try simp only [Act.put, List.getElem_toArray, List.getElem_cons_zero, List.getElem_cons_succ, List.setIfInBounds_toArray, List.set_cons_zero, List.set_cons_succ]))
  (refine wpM_take (i := 6) (v := ?_) rfl (by kernel_rfl) (by kernel_rfl) (by kernel_rfl) (by decide) (fun _ _ _ h => h) hcl hC (fun _ => hE) (Or.inl ⟨by rfl, ?_⟩) ?_; rotate_left; (· (intro w hSw; (try dsimp only at hSw); go_simp; (try with_reducible rfl))); clear hcl; intro hcl; (try simp only [Act.put, List.getElem_toArray, List.getElem_cons_zero, List.getElem_cons_succ, List.setIfInBounds_toArray, List.set_cons_zero, List.set_cons_succ]))
  (refine wpM_take (i := 7) (v := ?_) rfl (by kernel_rfl) (by kernel_rfl) (by kernel_rfl) (by decide) (fun _ _ _ h => h) hcl hC (fun _ => hE) (Or.inl ⟨by rfl, ?_⟩) ?_; rotate_left; (· (intro w hSw; (try dsimp only at hSw); go_simp; (try with_reducible rfl))); clear hcl; intro hcl; (try simp only [Act.put, List.getElem_toArray, List.getElem_cons_zero, List.getElem_cons_succ, List.setIfInBounds_toArray, List.set_cons_zero, List.set_cons_succ]))
  (refine wpM_take (i := 8) (v := ?_) rfl (by kernel_rfl) (by kernel_rfl) (by kernel_rfl) (by decide) (fun _ _ _ h => h) hcl hC (fun _ => hE) (Or.inl ⟨by rfl, ?_⟩) ?_; rotate_left; (· (intro w hSw; (try dsimp only at hSw); go_simp; (try with_reducible rfl))); clear hcl; intro hcl; (try simp only [Act.put, List.getElem_toArray, List.getElem_cons_zero, List.getElem_cons_succ, List.setIfInBounds_toArray, List.set_cons_zero, List.set_cons_succ]))
  (refine wpM_take (i := 9) (v := ?_) rfl (by kernel_rfl) (by kernel_rfl) (by kernel_rfl) (by decide) (fun _ _ _ h => h) hcl hC (fun _ => hE) (Or.inl ⟨by rfl, ?_⟩) ?_; rotate_left; (· (intro w hSw; (try dsimp only at hSw); go_simp; (try with_reducible rfl))); clear hcl; intro hcl; (try simp only [Act.put, List.getElem_toArray, List.getElem_cons_zero, List.getElem_cons_succ, List.setIfInBounds_toArray, List.set_cons_zero, List.set_cons_succ]))
  refine wpM_done (by kernel_rfl) ?_
  clear hcl
  try simp only [List.getElem_toArray, List.getElem_cons_zero, List.getElem_cons_succ, List.setIfInBounds_toArray, List.set_cons_zero, List.set_cons_succ]
  have hG := hb3u.trans (hC.1.mono hb3u.size)
  go_wp2
  go_ret
  exact ⟨rfl, hG⟩
end Go.Proofs.YtpolplmniaoikaaDoor
