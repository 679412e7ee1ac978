/- The statement TreeTwo, walked. -/
import Derived.Test.YtelipindcacphaaDoorHn
import Derived.Test.YtelipindcacphaaDoorHk
import Derived.Test.YtelipindcacphaaDoorFj
import Derived.Test.YtelipindcacphaaDoorM40
namespace Go.Proofs.YtelipindcacphaaDoor
open Go.RowKit

theorem onlyPs_sub (ps : List Pv) (xs : List (List UInt8)) : ∀ q ∈ onlyPs ps xs, q ∈ ps := fun _ hq => (List.mem_filter.1 hq).1
theorem onlyPs_map (ps : List Pe) (xs : List (List UInt8)) : (ps.filter fun p => hasW xs p.key).map Pe.core = onlyPs (ps.map Pe.core) xs := by
  unfold onlyPs
  rw [List.filter_map]
  rfl
theorem sameTv_refl (a : Tv) : sameTv a a = true := sameTv_iff.2 rfl
set_option maxRecDepth 100000 in
set_option maxHeartbeats 8000000 in
theorem treetwo_any (A : Option Addr) (n c : Nat) (xs : List (List UInt8)) (B : Option Addr) (m d : Nat) (ys : List (List UInt8)) (pf : List UInt8) (x : Im) (v : Vm) (t : Bool) (T : Option Addr) (l k : Nat) (ps : List Pe) (w : World)
    (hA : RdS w w.heap.size A n xs) (hB : RdS w w.heap.size B m ys) (hT : RdE w w.heap.size T l ps) (hn : n ≤ maxLen) (hm : m ≤ maxLen) (hl : l ≤ maxLen) (hx : ∀ x ∈ xs, x.length ≤ maxLen) (hy : ∀ x ∈ ys, x.length ≤ maxLen) (hpf : pf.length ≤ maxLen) (hv : VarM w) :
    Calls Tryd.prog 3 #[.slice A n c, .slice B m d, .string (bs pf), .agg #[.int .i64 x.1, .int .u32 x.2, .int .u32 v.d0, .int .u32 v.d1, .int .u32 v.d2, .int .u32 v.d3, .int .u32 v.d4, .int .u32 v.d5, .int .u32 v.d6, .int .u32 v.d7, .bool t, .slice T l k]] w fun e w' => e = .returned (.bool true) ∧ Below w.heap.size w w' := by
  have hb0 : Below w.heap.size w (w.alloc (.cells #[.int .i64 x.1, .int .u32 x.2, .int .u32 v.d0, .int .u32 v.d1, .int .u32 v.d2, .int .u32 v.d3, .int .u32 v.d4, .int .u32 v.d5, .int .u32 v.d6, .int .u32 v.d7, .bool t, .slice T l k] 30)) := (Below.refl _ w).alloc (Nat.le_refl _) _
  have hbt : (w.alloc (.cells #[.int .i64 x.1, .int .u32 x.2, .int .u32 v.d0, .int .u32 v.d1, .int .u32 v.d2, .int .u32 v.d3, .int .u32 v.d4, .int .u32 v.d5, .int .u32 v.d6, .int .u32 v.d7, .bool t, .slice T l k] 30)).heap[w.heap.size]? = some (.cells #[.int .i64 x.1, .int .u32 x.2, .int .u32 v.d0, .int .u32 v.d1, .int .u32 v.d2, .int .u32 v.d3, .int .u32 v.d4, .int .u32 v.d5, .int .u32 v.d6, .int .u32 v.d7, .bool t, .slice T l k] 30 (0, 0)) := heap_at _ _ rfl
  generalize hWe : (w.alloc (.cells #[.int .i64 x.1, .int .u32 x.2, .int .u32 v.d0, .int .u32 v.d1, .int .u32 v.d2, .int .u32 v.d3, .int .u32 v.d4, .int .u32 v.d5, .int .u32 v.d6, .int .u32 v.d7, .bool t, .slice T l k] 30)) = W at hb0 hbt
  have hz0 := hb0.size
  have hbtH := Lib.hid hbt
  have c1 := Lib.hid (fun w' (h : Below w.heap.size w w') => greatW_any A n c xs w' ((hA.below h).more h.size) hn hx)
  have c2 := Lib.hid (fun w' (h : Below w.heap.size w w') => greatW_any B m d ys w' ((hB.below h).more h.size) hm hy)
  have c3 := Lib.hid (fun w' (h : Below w.heap.size w w') => fgreat15_any (.int .i64 x.1) (.int .u32 x.2) (.int .u32 v.d0) (.int .u32 v.d1) (.int .u32 v.d2) (.int .u32 v.d3) (.int .u32 v.d4) (.int .u32 v.d5) (.int .u32 v.d6) (.int .u32 v.d7) (.bool t) T l k ps w' ((hT.below h).more h.size).1 hl)
  cases hg : grW xs with
  | true =>
    rw [hg] at c1
    clear c2 c3 hg hbt
    go_enter Tryd.func3, Tryd.ntmps3
    go_wp2_with fail
    refine (c1.out W hb0).mono ?_
    rintro e w1 ⟨rfl, hv1⟩
    have hG := hb0.trans (hv1.mono hz0)
    go_wp2
    go_ret
    exact ⟨rfl, hG⟩
  | false =>
  rw [hg] at c1
  obtain ⟨hxs, hxl⟩ := grW_no hg
  rw [hA.len] at hxl
  cases hg2 : grW ys with
  | true =>
    rw [hg2] at c2
    clear hg hg2 c3 hbt
    go_enter Tryd.func3, Tryd.ntmps3
    go_wp2_with fail
    refine (c1.out W hb0).mono ?_
    rintro e w1 ⟨rfl, hv1⟩
    have hb1 := hb0.trans (hv1.mono hz0)
    go_wp2_with fail
    refine (c2.out w1 hb1).mono ?_
    rintro e w2 ⟨rfl, hv2⟩
    have hb2 := hb1.trans (hv2.mono hb1.size)
    go_wp2
    go_ret
    exact ⟨rfl, hb2⟩
  | false =>
  rw [hg2] at c2
  obtain ⟨hys, hyl⟩ := grW_no hg2
  rw [hB.len] at hyl
  have zk := bs_size pf
  unfold maxLen at hpf
  by_cases hkl : 300 < pf.length
  · have hd : decide ((300 : Int) < (((bs pf).size : Nat) : Int)) = true := decide_eq_true (by omega)
    clear hkl zk hg hg2 c3 hbt
    go_enter Tryd.func3, Tryd.ntmps3
    go_wp2_with fail
    refine (c1.out W hb0).mono ?_
    rintro e w1 ⟨rfl, hv1⟩
    have hb1 := hb0.trans (hv1.mono hz0)
    go_wp2_with fail
    refine (c2.out w1 hb1).mono ?_
    rintro e w2 ⟨rfl, hv2⟩
    have hb2 := hb1.trans (hv2.mono hb1.size)
    go_wp2
    go_ret
    exact ⟨rfl, hb2⟩
  have hd : decide ((300 : Int) < (((bs pf).size : Nat) : Int)) = false := decide_eq_false (by omega)
  have hcells := Lib.hid (fun w' (h : Below W.heap.size W w') => blk_below hbt h)
  cases hg3 : fgr15 ps with
  | true =>
    rw [hg3] at c3
    clear hkl zk hg hg2 hg3 hbt
    go_enter Tryd.func3, Tryd.ntmps3
    go_wp2_with fail
    refine (c1.out W hb0).mono ?_
    rintro e w1 ⟨rfl, hv1⟩
    have hb1 := hb0.trans (hv1.mono hz0)
    go_wp2_with fail
    refine (c2.out w1 hb1).mono ?_
    rintro e w2 ⟨rfl, hv2⟩
    have hb2 := hb1.trans (hv2.mono hb1.size)
    have hbt2 := hcells.out w2 (hv1.trans (hv2.mono hv1.size))
    have hltt := blk_lt hbt2
    have q0 := blk_cell hbt2 0
    have q1 := blk_cell hbt2 1
    have q2 := blk_cell hbt2 2
    have q3 := blk_cell hbt2 3
    have q4 := blk_cell hbt2 4
    have q5 := blk_cell hbt2 5
    have q6 := blk_cell hbt2 6
    have q7 := blk_cell hbt2 7
    have q8 := blk_cell hbt2 8
    have q9 := blk_cell hbt2 9
    have q10 := blk_cell hbt2 10
    have q11 := blk_cell hbt2 11
    simp at q0 q1 q2 q3 q4 q5 q6 q7 q8 q9 q10 q11
    clear hbt2
    go_wp2_with fail
    refine (c3.out w2 hb2).mono ?_
    rintro e w3 ⟨rfl, hv3⟩
    have hb3 := hb2.trans (hv3.mono hb2.size)
    go_wp2
    go_ret
    exact ⟨rfl, hb3⟩
  | false =>
  rw [hg3] at c3
  obtain ⟨hl30, hok⟩ := fgr15_no hT hg3
  have hvr := Lib.hid (fun w' (h : Below w.heap.size w w') => hv.below h hv.lt)
  have hAr := Lib.hid (fun w' (h : Below w.heap.size w w') => (hA.below h).more h.size)
  have hBr := Lib.hid (fun w' (h : Below w.heap.size w w') => (hB.below h).more h.size)
  have hTr := Lib.hid (fun w' (h : Below w.heap.size w w') => (hT.below h).more h.size)
  have cO := Lib.hid (fun w' (h : Below w.heap.size w w') => ownW_any A n c xs w' (hAr.out w' h) (by omega))
  have cOy := Lib.hid (fun w' (h : Below w.heap.size w w') => ownW_any B m d ys w' (hBr.out w' h) (by omega))
  have cJ := Lib.hid (fun A' c' B' d' w' (h : Below w.heap.size w w') (h1 : RdS w' w'.heap.size A' n xs) (h2 : RdS w' w'.heap.size B' m ys) => tjoin_any A' n c' xs B' m d' ys w' h1 h2 (by omega) (by omega) hxs hys (hvr.out w' h))
  have cRJ := Lib.hid (fun w' (h : Below w.heap.size w w') => rjoinW_any A n c xs B m d ys w' (hAr.out w' h) (hBr.out w' h) (by omega) (by omega) hxs hys)
  have cM := Lib.hid (fun A' c' w' (h : Below w.heap.size w w') (h1 : RdS w' w'.heap.size A' n xs) => tminus_any A' n c' xs pf w' h1 (by omega) hxs (by omega) (hvr.out w' h))
  have cRM := Lib.hid (fun w' (h : Below w.heap.size w w') => rminusW_any A n c xs pf w' (hAr.out w' h) (by omega) hxs (by omega))
  have cTo := Lib.hid (fun w' (h : Below w.heap.size w w') => txto_any x v t T l k ps w' (hTr.out w' h) (by omega) (fun p hp => Nat.le_trans (hok.le hT p hp) (by omega)))
  have cOn := Lib.hid (fun A' n' c' qs B' d' w' (h1 : RdE w' w'.heap.size A' n' qs) (hn' : n' ≤ 1000) (hc : qs.map Pe.core = ps.map Pe.core) (h2 : RdS w' w'.heap.size B' n xs) => (by
    have h := tonly_any x v t A' n' c' qs B' n d' xs w' h1 hn' (fun p hp => Nat.le_trans (okPs.le (by rw [hc]; exact hok) h1 p hp) (by omega)) (fun p hp => by have := (okPs.pe (ps := qs) (by rw [hc]; exact hok) p hp).1; unfold maxLen; omega) h2 (by simp [maxLen]; omega) hxs.mid
    rw [hc] at h
    exact h : Calls Tryd.prog 14 #[.agg #[.int .i64 x.1, .int .u32 x.2, .int .u32 v.d0, .int .u32 v.d1, .int .u32 v.d2, .int .u32 v.d3, .int .u32 v.d4, .int .u32 v.d5, .int .u32 v.d6, .int .u32 v.d7, .bool t, .slice A' n' c'], .slice B' n d'] w'
      fun e w'' => ∃ A'' n'' c'' qs', e = .returned (.agg #[.int .i64 x.1, .int .u32 x.2, .int .u32 v.d0, .int .u32 v.d1, .int .u32 v.d2, .int .u32 v.d3, .int .u32 v.d4, .int .u32 v.d5, .int .u32 v.d6, .int .u32 v.d7, .bool (onlyT t (ps.map Pe.core) xs), .slice A'' n'' c'']) ∧ OwE 82 w'' w'.heap.size A'' n'' c'' qs' ∧ qs'.map Pe.core = onlyPs (ps.map Pe.core) xs ∧ Below w'.heap.size w' w''))
  have cRO := Lib.hid (fun w' (h : Below w.heap.size w w') => rtonly_any x v t T l k ps A n c xs w' (hTr.out w' h) (by omega) (fun p hp => by have := (hok.pe p hp).1; unfold maxLen; omega) (hAr.out w' h) hn hx)
  have hokH := Lib.hid hok
  have hop := Lib.hid (onlyPs_map ps xs)
  have hos := Lib.hid (onlyPs_sub (ps.map Pe.core) xs)
  have hol : Hid ((onlyPs (ps.map Pe.core) xs).length ≤ l) := Lib.hid (by rw [← hT.len]; unfold onlyPs; exact Nat.le_trans (List.length_filter_le _ _) (by rw [List.length_map]; exact Nat.le_refl _))
  have hlpH := Lib.hid hT.len
  clear hg hg2 hg3 hkl zk hA hB hT hv hx hy hxs hys hpf hok hl hbt
  generalize joinWE xs ys = je at *
  generalize joinW xs ys = jw at *
  generalize minusWE xs pf = me at *
  generalize minusW xs pf = mw at *
  generalize onlyT t (ps.map Pe.core) xs = tt at *
  generalize hoe : onlyPs (ps.map Pe.core) xs = op at *
  have hoe := Lib.hid hoe
  go_enter Tryd.func3, Tryd.ntmps3
  go_wp2_with fail
  refine (c1.out W hb0).mono ?_
  rintro e w1 ⟨rfl, hv1⟩
  have hb1 := hb0.trans (hv1.mono hz0)
  go_wp2_with fail
  refine (c2.out w1 hb1).mono ?_
  rintro e w2 ⟨rfl, hv2⟩
  have hb2 := hb1.trans (hv2.mono hb1.size)
  have hW2 := hv1.trans (hv2.mono hv1.size)
  have hbt2 := hcells.out w2 hW2
  have hltt := blk_lt hbt2
  have q0 := blk_cell hbt2 0
  have q1 := blk_cell hbt2 1
  have q2 := blk_cell hbt2 2
  have q3 := blk_cell hbt2 3
  have q4 := blk_cell hbt2 4
  have q5 := blk_cell hbt2 5
  have q6 := blk_cell hbt2 6
  have q7 := blk_cell hbt2 7
  have q8 := blk_cell hbt2 8
  have q9 := blk_cell hbt2 9
  have q10 := blk_cell hbt2 10
  have q11 := blk_cell hbt2 11
  simp at q0 q1 q2 q3 q4 q5 q6 q7 q8 q9 q10 q11
  clear hbt2
  go_wp2_with fail
  refine (c3.out w2 hb2).mono ?_
  rintro e w3 ⟨rfl, hv3⟩
  have hb3 := hb2.trans (hv3.mono hb2.size)
  have hW3 := hW2.trans (hv3.mono hW2.size)
  clear hltt q0 q1 q2 q3 q4 q5 q6 q7 q8 q9 q10 q11 c1 c2 c3 hv1 hv2 hv3 hb1 hb2 hW2
  go_wp2_with fail
  refine (cO.out w3 hb3).mono ?_
  rintro e w4 ⟨M, mc, rfl, oM, hv4⟩
  have hb4 := hb3.trans (hv4.mono hb3.size)
  have hW4 := hW3.trans (hv4.mono hW3.size)
  go_wp2_with fail
  refine (cOy.out w4 hb4).mono ?_
  rintro e w5 ⟨O, oc, rfl, oO, hv5⟩
  have hb5 := hb4.trans (hv5.mono hb4.size)
  have hW5 := hW4.trans (hv5.mono hW4.size)
  have oM5 := oM.below hv5
  go_wp2_with fail
  refine (cJ.out M mc O oc w5 hb5 oM5.rd.1 oO.rd.1).mono ?_
  rintro e w6 ⟨XA, xn, xc, rfl, gX, hv6⟩
  have hb6 := hb5.trans (hv6.mono hb5.size)
  have hW6 := hW5.trans (hv6.mono hW5.size)
  have x6 := Lib.hid gX.1
  have hxn := gX.2
  clear oM oM5 oO gX hv4 hv5 hv6 hb3 hb4 hb5 hW3 hW4 hW5 cOy cJ
  go_wp2_with fail
  refine (cRJ.out w6 hb6).mono ?_
  rintro e w7 ⟨YA, yn, yc, rfl, gY, hv7⟩
  have hb7 := hb6.trans (hv7.mono hb6.size)
  have hW7 := hW6.trans (hv7.mono hW6.size)
  have x7 := Lib.hid ((x6.out.below hv7).more hv7.size)
  clear x6
  have y7 := Lib.hid gY.1
  have hyn := gY.2
  clear gY hv7 hb6 hW6 cRJ
  go_wp2_with fail
  refine (cO.out w7 hb7).mono ?_
  rintro e w8 ⟨M, mc, rfl, oM, hv8⟩
  have hb8 := hb7.trans (hv8.mono hb7.size)
  have hW8 := hW7.trans (hv8.mono hW7.size)
  have x8 := Lib.hid ((x7.out.below hv8).more hv8.size)
  clear x7
  have y8 := Lib.hid ((y7.out.below hv8).more hv8.size)
  clear y7
  clear hv8 hb7 hW7
  go_wp2_with fail
  refine (cM.out M mc w8 hb8 oM.rd.1).mono ?_
  rintro e w9 ⟨ZA, zn, zc, rfl, gZ, hv9⟩
  have hb9 := hb8.trans (hv9.mono hb8.size)
  have hW9 := hW8.trans (hv9.mono hW8.size)
  have x9 := Lib.hid ((x8.out.below hv9).more hv9.size)
  clear x8
  have y9 := Lib.hid ((y8.out.below hv9).more hv9.size)
  clear y8
  have z9 := Lib.hid gZ.1
  have hzn := gZ.2
  clear oM gZ hv9 hb8 hW8 cM
  go_wp2_with fail
  refine (cRM.out w9 hb9).mono ?_
  rintro e w10 ⟨VA, vn, vc, rfl, gV, hv10⟩
  have hb10 := hb9.trans (hv10.mono hb9.size)
  have hW10 := hW9.trans (hv10.mono hW9.size)
  have x10 := Lib.hid ((x9.out.below hv10).more hv10.size)
  clear x9
  have y10 := Lib.hid ((y9.out.below hv10).more hv10.size)
  clear y9
  have z10 := Lib.hid ((z9.out.below hv10).more hv10.size)
  clear z9
  have u10 := Lib.hid gV.1
  have hvn := gV.2
  clear gV hv10 hb9 hW9 cRM
  have hbt10 := hcells.out w10 hW10
  have hltt := blk_lt hbt10
  have q0 := blk_cell hbt10 0
  have q1 := blk_cell hbt10 1
  have q2 := blk_cell hbt10 2
  have q3 := blk_cell hbt10 3
  have q4 := blk_cell hbt10 4
  have q5 := blk_cell hbt10 5
  have q6 := blk_cell hbt10 6
  have q7 := blk_cell hbt10 7
  have q8 := blk_cell hbt10 8
  have q9 := blk_cell hbt10 9
  have q10 := blk_cell hbt10 10
  have q11 := blk_cell hbt10 11
  simp at q0 q1 q2 q3 q4 q5 q6 q7 q8 q9 q10 q11
  clear hbt10
  have xr := Lib.hid (fun w' (h : Below w10.heap.size w10 w') => (x10.out.below h).more h.size)
  have yr := Lib.hid (fun w' (h : Below w10.heap.size w10 w') => (y10.out.below h).more h.size)
  have zr := Lib.hid (fun w' (h : Below w10.heap.size w10 w') => (z10.out.below h).more h.size)
  have ur := Lib.hid (fun w' (h : Below w10.heap.size w10 w') => (u10.out.below h).more h.size)
  have hbr := Lib.hid (fun w' (h : Below w10.heap.size w10 w') => hb10.trans (h.mono hb10.size))
  have hz10 := hb10.size
  clear x10 y10 z10 u10
  go_upto_region 7 with (fail)
  refine wp_region_M (fun w' => KQ w10.heap.size w10 w') (fun _ => True) 99 (by kernel_rfl) (kq (Below.refl _ _).drew) trivial ?_
  intro hcl
  have hC : KQ w10.heap.size w10 w10.drew := kq (Below.refl _ _).drew
  have hE := trivial
  (refine wpM_take (i := 0) (v := ?_) rfl (by kernel_rfl) (by kernel_rfl) (by kernel_rfl) (by decide) (fun _ _ _ h => h) hcl hC (fun _ => hE) (Or.inl ⟨by rfl, ?_⟩) ?_; rotate_left; (· (intro w hSw; (try dsimp only at hSw); go_simp; (try with_reducible rfl))); clear hcl; intro hcl; (try simp only [Act.put, List.getElem_toArray, List.getElem_cons_zero, List.setIfInBounds_toArray, List.set_cons_zero, List.set_cons_succ]))
  (refine wpM_take (i := 1) (v := ?_) rfl (by kernel_rfl) (by kernel_rfl) (by kernel_rfl) (by decide) (fun _ _ _ h => h) hcl hC (fun _ => hE) (Or.inl ⟨by rfl, ?_⟩) ?_; rotate_left; (· (intro w hSw; (try dsimp only at hSw); go_simp; (try with_reducible rfl))); clear hcl; intro hcl; (try simp only [Act.put, List.getElem_toArray, List.getElem_cons_zero, List.getElem_cons_succ, List.setIfInBounds_toArray, List.set_cons_zero, List.set_cons_succ]))
  refine wpM_only (i := 2) rfl (by kernel_rfl) hcl (fun K hK => ?_)
  go_simp
  refine (sameW_any XA YA xn yn xc yc jw jw _ (xr.out _ hC.1) (yr.out _ hC.1) (by simp [maxLen]; omega) (by simp [maxLen]; omega)).mono ?_
  rintro e v1 ⟨rfl, hv1⟩
  rw [decide_eq_true (rfl : jw = jw)]
  have hC' := kq_call hC (Nat.le_refl _) hv1
  refine hK.out _ _ hC' trivial ?_
  clear hK K
  clear hcl
  intro hcl
  (try simp only [Act.put, List.getElem_toArray, List.getElem_cons_zero, List.getElem_cons_succ, List.setIfInBounds_toArray, List.set_cons_zero, List.set_cons_succ])
  clear hC
  have hC := hC'
  clear hC'
  (refine wpM_take (i := 3) (v := ?_) rfl (by kernel_rfl) (by kernel_rfl) (by kernel_rfl) (by decide) (fun _ _ _ h => h) hcl hC (fun _ => hE) (Or.inl ⟨by rfl, ?_⟩) ?_; rotate_left; (· (intro w hSw; (try dsimp only at hSw); go_simp; (try with_reducible rfl))); clear hcl; intro hcl; (try simp only [Act.put, List.getElem_toArray, List.getElem_cons_zero, List.getElem_cons_succ, List.setIfInBounds_toArray, List.set_cons_zero, List.set_cons_succ]))
  (refine wpM_take (i := 4) (v := ?_) rfl (by kernel_rfl) (by kernel_rfl) (by kernel_rfl) (by decide) (fun _ _ _ h => h) hcl hC (fun _ => hE) (Or.inl ⟨by rfl, ?_⟩) ?_; rotate_left; (· (intro w hSw; (try dsimp only at hSw); go_simp; (try with_reducible rfl))); clear hcl; intro hcl; (try simp only [Act.put, List.getElem_toArray, List.getElem_cons_zero, List.getElem_cons_succ, List.setIfInBounds_toArray, List.set_cons_zero, List.set_cons_succ]))
  (refine wpM_take (i := 5) (v := ?_) rfl (by kernel_rfl) (by kernel_rfl) (by kernel_rfl) (by decide) (fun _ _ _ h => h) hcl hC (fun _ => hE) (Or.inl ⟨by rfl, ?_⟩) ?_; rotate_left; (· (intro w hSw; (try dsimp only at hSw); go_simp; (try with_reducible rfl))); clear hcl; intro hcl; (try simp only [Act.put, List.getElem_toArray, List.getElem_cons_zero, List.getElem_cons_succ, List.setIfInBounds_toArray, List.set_cons_zero, List.set_cons_succ]))
  (refine wpM_take (i := 6) (v := ?_) rfl (by kernel_rfl) (by kernel_rfl) (by kernel_rfl) (by decide) (fun _ _ _ h => h) hcl hC (fun _ => hE) (Or.inl ⟨by rfl, ?_⟩) ?_; rotate_left; (· (intro w hSw; (try dsimp only at hSw); go_simp; (try with_reducible rfl))); clear hcl; intro hcl; (try simp only [Act.put, List.getElem_toArray, List.getElem_cons_zero, List.getElem_cons_succ, List.setIfInBounds_toArray, List.set_cons_zero, List.set_cons_succ]))
  (refine wpM_take (i := 7) (v := ?_) rfl (by kernel_rfl) (by kernel_rfl) (by kernel_rfl) (by decide) (fun _ _ _ h => h) hcl hC (fun _ => hE) (Or.inl ⟨by rfl, ?_⟩) ?_; rotate_left; (· (intro w hSw; (try dsimp only at hSw); go_simp; (try with_reducible rfl))); clear hcl; intro hcl; (try simp only [Act.put, List.getElem_toArray, List.getElem_cons_zero, List.getElem_cons_succ, List.setIfInBounds_toArray, List.set_cons_zero, List.set_cons_succ]))
  (refine wpM_take (i := 8) (v := ?_) rfl (by kernel_rfl) (by kernel_rfl) (by kernel_rfl) (by decide) (fun _ _ _ h => h) hcl hC (fun _ => hE) (Or.inl ⟨by rfl, ?_⟩) ?_; rotate_left; (· (intro w hSw; (try dsimp only at hSw); go_simp; (try with_reducible rfl))); clear hcl; intro hcl; (try simp only [Act.put, List.getElem_toArray, List.getElem_cons_zero, List.getElem_cons_succ, List.setIfInBounds_toArray, List.set_cons_zero, List.set_cons_succ]))
  (refine wpM_take (i := 9) (v := ?_) rfl (by kernel_rfl) (by kernel_rfl) (by kernel_rfl) (by decide) (fun _ _ _ h => h) hcl hC (fun _ => hE) (Or.inl ⟨by rfl, ?_⟩) ?_; rotate_left; (· (intro w hSw; (try dsimp only at hSw); go_simp; (try with_reducible rfl))); clear hcl; intro hcl; (try simp only [Act.put, List.getElem_toArray, List.getElem_cons_zero, List.getElem_cons_succ, List.setIfInBounds_toArray, List.set_cons_zero, List.set_cons_succ]))
  (refine wpM_take (i := 10) (v := ?_) rfl (by kernel_rfl) (by kernel_rfl) (by kernel_rfl) (by decide) (fun _ _ _ h => h) hcl hC (fun _ => hE) (Or.inl ⟨by rfl, ?_⟩) ?_; rotate_left; (· (intro w hSw; (try dsimp only at hSw); go_simp; (try with_reducible rfl))); clear hcl; intro hcl; (try simp only [Act.put, List.getElem_toArray, List.getElem_cons_zero, List.getElem_cons_succ, List.setIfInBounds_toArray, List.set_cons_zero, List.set_cons_succ]))
  refine wpM_only (i := 11) rfl (by kernel_rfl) hcl (fun K hK => ?_)
  go_simp
  refine (sameW_any ZA VA zn vn zc vc mw mw _ (zr.out _ hC.1) (ur.out _ hC.1) (by simp [maxLen]; omega) (by simp [maxLen]; omega)).mono ?_
  rintro e v2 ⟨rfl, hv2⟩
  rw [decide_eq_true (rfl : mw = mw)]
  have hC' := kq_call hC (Nat.le_refl _) hv2
  refine hK.out _ _ hC' trivial ?_
  clear hK K
  clear hcl
  intro hcl
  (try simp only [Act.put, List.getElem_toArray, List.getElem_cons_zero, List.getElem_cons_succ, List.setIfInBounds_toArray, List.set_cons_zero, List.set_cons_succ])
  clear hC
  have hC := hC'
  clear hC'
  (refine wpM_take (i := 12) (v := ?_) rfl (by kernel_rfl) (by kernel_rfl) (by kernel_rfl) (by decide) (fun _ _ _ h => h) hcl hC (fun _ => hE) (Or.inl ⟨by rfl, ?_⟩) ?_; rotate_left; (· (intro w hSw; (try dsimp only at hSw); go_simp; (try with_reducible rfl))); clear hcl; intro hcl; (try simp only [Act.put, List.getElem_toArray, List.getElem_cons_zero, List.getElem_cons_succ, List.setIfInBounds_toArray, List.set_cons_zero, List.set_cons_succ]))
  (refine wpM_take (i := 13) (v := ?_) rfl (by kernel_rfl) (by kernel_rfl) (by kernel_rfl) (by decide) (fun _ _ _ h => h) hcl hC (fun _ => hE) (Or.inl ⟨by rfl, ?_⟩) ?_; rotate_left; (· (intro w hSw; (try dsimp only at hSw); go_simp; (try with_reducible rfl))); clear hcl; intro hcl; (try simp only [Act.put, List.getElem_toArray, List.getElem_cons_zero, List.getElem_cons_succ, List.setIfInBounds_toArray, List.set_cons_zero, List.set_cons_succ]))
  (refine wpM_take (i := 14) (v := ?_) rfl (by kernel_rfl) (by kernel_rfl) (by kernel_rfl) (by decide) (fun _ _ _ h => h) hcl hC (fun _ => hE) (Or.inl ⟨by rfl, ?_⟩) ?_; rotate_left; (· (intro w hSw; (try dsimp only at hSw); go_simp; (try with_reducible rfl))); clear hcl; intro hcl; (try simp only [Act.put, List.getElem_toArray, List.getElem_cons_zero, List.getElem_cons_succ, List.setIfInBounds_toArray, List.set_cons_zero, List.set_cons_succ]))
  (refine wpM_take (i := 15) (v := ?_) rfl (by kernel_rfl) (by kernel_rfl) (by kernel_rfl) (by decide) (fun _ _ _ h => h) hcl hC (fun _ => hE) (Or.inl ⟨by rfl, ?_⟩) ?_; rotate_left; (· (intro w hSw; (try dsimp only at hSw); go_simp; (try with_reducible rfl))); clear hcl; intro hcl; (try simp only [Act.put, List.getElem_toArray, List.getElem_cons_zero, List.getElem_cons_succ, List.setIfInBounds_toArray, List.set_cons_zero, List.set_cons_succ]))
  (refine wpM_take (i := 16) (v := ?_) rfl (by kernel_rfl) (by kernel_rfl) (by kernel_rfl) (by decide) (fun _ _ _ h => h) hcl hC (fun _ => hE) (Or.inl ⟨by rfl, ?_⟩) ?_; rotate_left; (· (intro w hSw; (try dsimp only at hSw); go_simp; (try with_reducible rfl))); clear hcl; intro hcl; (try simp only [Act.put, List.getElem_toArray, List.getElem_cons_zero, List.getElem_cons_succ, List.setIfInBounds_toArray, List.set_cons_zero, List.set_cons_succ]))
  (refine wpM_take (i := 17) (v := ?_) rfl (by kernel_rfl) (by kernel_rfl) (by kernel_rfl) (by decide) (fun _ _ _ h => h) hcl hC (fun _ => hE) (Or.inl ⟨by rfl, ?_⟩) ?_; rotate_left; (· (intro w hSw; (try dsimp only at hSw); go_simp; (try with_reducible rfl))); clear hcl; intro hcl; (try simp only [Act.put, List.getElem_toArray, List.getElem_cons_zero, List.getElem_cons_succ, List.setIfInBounds_toArray, List.set_cons_zero, List.set_cons_succ]))
  (refine wpM_take (i := 18) (v := ?_) rfl (by kernel_rfl) (by kernel_rfl) (by kernel_rfl) (by decide) (fun _ _ _ h => h) hcl hC (fun _ => hE) (Or.inl ⟨by rfl, ?_⟩) ?_; rotate_left; (· (intro w hSw; (try dsimp only at hSw); go_simp; (try with_reducible rfl))); clear hcl; intro hcl; (try simp only [Act.put, List.getElem_toArray, List.getElem_cons_zero, List.getElem_cons_succ, List.setIfInBounds_toArray, List.set_cons_zero, List.set_cons_succ]))
  (refine wpM_take (i := 19) (v := ?_) rfl (by kernel_rfl) (by kernel_rfl) (by kernel_rfl) (by decide) (fun _ _ _ h => h) hcl hC (fun _ => hE) (Or.inl ⟨by rfl, ?_⟩) ?_; rotate_left; (· (intro w hSw; (try dsimp only at hSw); go_simp; (try with_reducible rfl))); clear hcl; intro hcl; (try simp only [Act.put, List.getElem_toArray, List.getElem_cons_zero, List.getElem_cons_succ, List.setIfInBounds_toArray, List.set_cons_zero, List.set_cons_succ]))
  (refine wpM_take (i := 21) (v := ?_) rfl (by kernel_rfl) (by kernel_rfl) (by kernel_rfl) (by decide) (fun _ _ _ h => h) hcl hC (fun _ => hE) (Or.inl ⟨by rfl, ?_⟩) ?_; rotate_left; (· (intro w hSw; (try dsimp only at hSw); go_simp; (try with_reducible rfl))); clear hcl; intro hcl; (try simp only [Act.put, List.getElem_toArray, List.getElem_cons_zero, List.getElem_cons_succ, List.setIfInBounds_toArray, List.set_cons_zero, List.set_cons_succ]))
  (refine wpM_take (i := 25) (v := ?_) rfl (by kernel_rfl) (by kernel_rfl) (by kernel_rfl) (by decide) (fun _ _ _ h => h) hcl hC (fun _ => hE) (Or.inl ⟨by rfl, ?_⟩) ?_; rotate_left; (· (intro w hSw; (try dsimp only at hSw); go_simp; (try with_reducible rfl))); clear hcl; intro hcl; (try simp only [Act.put, List.getElem_toArray, List.getElem_cons_zero, List.getElem_cons_succ, List.setIfInBounds_toArray, List.set_cons_zero, List.set_cons_succ]))
  (refine wpM_take (i := 26) (v := ?_) rfl (by kernel_rfl) (by kernel_rfl) (by kernel_rfl) (by decide) (fun _ _ _ h => h) hcl hC (fun _ => hE) (Or.inl ⟨by rfl, ?_⟩) ?_; rotate_left; (· (intro w hSw; (try dsimp only at hSw); go_simp; (try with_reducible rfl))); clear hcl; intro hcl; (try simp only [Act.put, List.getElem_toArray, List.getElem_cons_zero, List.getElem_cons_succ, List.setIfInBounds_toArray, List.set_cons_zero, List.set_cons_succ]))
  refine wpM_only (i := 20) rfl (by kernel_rfl) hcl (fun K hK => ?_)
  go_simp
  refine (cTo.out _ (hbr.out _ hC.1)).mono ?_
  rintro e v3 ⟨A3, c3, qs3, rfl, o3, hq3, hv3⟩
  have hC' := kq_call hC (Nat.le_refl _) hv3
  refine hK.out _ _ hC' trivial ?_
  clear hK K
  clear hcl
  intro hcl
  (try simp only [Act.put, List.getElem_toArray, List.getElem_cons_zero, List.getElem_cons_succ, List.setIfInBounds_toArray, List.set_cons_zero, List.set_cons_succ])
  clear hC
  have hC := hC'
  clear hC'
  refine wpM_only (i := 22) rfl (by kernel_rfl) hcl (fun K hK => ?_)
  go_simp
  refine (cO.out _ (hbr.out _ hC.1)).mono ?_
  rintro e v4 ⟨M4, mc4, rfl, o4, hv4⟩
  have hC' := kq_call hC (Nat.le_refl _) hv4
  refine hK.out _ _ hC' trivial ?_
  clear hK K
  clear hcl
  intro hcl
  (try simp only [Act.put, List.getElem_toArray, List.getElem_cons_zero, List.getElem_cons_succ, List.setIfInBounds_toArray, List.set_cons_zero, List.set_cons_succ])
  clear hC
  have hC := hC'
  clear hC'
  refine wpM_only (i := 23) rfl (by kernel_rfl) hcl (fun K hK => ?_)
  go_simp
  refine (cOn.out A3 l c3 qs3 M4 mc4 v4 (o3.below hv4).rd (by omega) hq3 o4.rd.1).mono ?_
  rintro e v5 ⟨A5, n5, c5, qs5, rfl, o5, hq5, hv5⟩
  have hn5 : n5 ≤ 30 := by have h1 := o5.len; have h2 := congrArg List.length hq5; rw [List.length_map] at h2; have := hol.out; omega
  have hC' := kq_call hC (Nat.le_refl _) hv5
  refine hK.out _ _ hC' trivial ?_
  clear hK K
  clear hcl
  intro hcl
  (try simp only [Act.put, List.getElem_toArray, List.getElem_cons_zero, List.getElem_cons_succ, List.setIfInBounds_toArray, List.set_cons_zero, List.set_cons_succ])
  clear hC
  have hC := hC'
  clear hC'
  refine wpM_only (i := 24) rfl (by kernel_rfl) hcl (fun K hK => ?_)
  go_simp
  refine (txfrom_any x v tt A5 n5 c5 qs5 v5 o5.rd (by omega)).mono ?_
  rintro e v6 ⟨A6, c6, rfl, o6, hv6⟩
  have hC' := kq_call hC (Nat.le_refl _) hv6
  refine hK.out _ _ hC' trivial ?_
  clear hK K
  clear hcl
  intro hcl
  (try simp only [Act.put, List.getElem_toArray, List.getElem_cons_zero, List.getElem_cons_succ, List.setIfInBounds_toArray, List.set_cons_zero, List.set_cons_succ])
  clear hC
  have hC := hC'
  clear hC'
  refine wpM_only (i := 27) rfl (by kernel_rfl) hcl (fun K hK => ?_)
  go_simp
  refine (cRO.out _ (hbr.out _ hC.1)).mono ?_
  rintro e v7 ⟨A7, n7, c7, rfl, o7, hv7⟩
  have hC' := kq_call hC (Nat.le_refl _) hv7
  refine hK.out _ _ hC' trivial ?_
  clear hK K
  clear hcl
  intro hcl
  (try simp only [Act.put, List.getElem_toArray, List.getElem_cons_zero, List.getElem_cons_succ, List.setIfInBounds_toArray, List.set_cons_zero, List.set_cons_succ])
  clear hC
  have hC := hC'
  clear hC'
  have hok5 : okPs 500 100 (qs5.map Pe.core) := by rw [hq5]; exact hokH.out.sub hos.out
  have r5 : RdE v7 v7.heap.size A6 n5 qs5 := by
    have hb57 := hv6.trans (hv7.mono hv6.size)
    exact ⟨(o6.below hv7).rd.1, fun q hq => ((o5.rd.2 q hq).below hb57).more hb57.size⟩
  have r7 : RdE v7 v7.heap.size A7 n7 (ps.filter fun p => hasW xs p.key) := ⟨o7.rd.1, fun q hq => (hTr.out v7 (hbr.out _ hC.1)).2 q (List.mem_filter.1 hq).1⟩
  have hok7 : okPs 500 100 ((ps.filter fun p => hasW xs p.key).map Pe.core) := by rw [hop.out]; exact hokH.out.sub hos.out
  have hn7 : n7 ≤ 30 := by have h1 := r7.len; have h2 := congrArg List.length hop.out; rw [List.length_map] at h2; have := hol.out; omega
  refine wpM_only (i := 28) rfl (by kernel_rfl) hcl (fun K hK => ?_)
  go_simp
  refine (txsame_any x v tt A6 n5 c6 qs5 x v tt A7 n7 c7 (ps.filter fun p => hasW xs p.key) v7 r5 r7 (by simp [maxLen]; omega) (by simp [maxLen]; omega) (fun p hp => Nat.le_trans (hok5.le r5 p hp) (by decide)) (fun p hp => Nat.le_trans (hok7.le r7 p hp) (by decide))).mono ?_
  rintro e v8 ⟨rfl, hv8⟩
  rw [show sameTv ⟨x, v, tt, qs5.map Pe.core⟩ ⟨x, v, tt, (ps.filter fun p => hasW xs p.key).map Pe.core⟩ = true by rw [hq5, hop.out]; exact sameTv_refl _]
  have hC' := kq_call hC (Nat.le_refl _) hv8
  refine hK.out _ _ hC' trivial ?_
  clear hK K
  clear hcl
  intro hcl
  (try simp only [Act.put, List.getElem_toArray, List.getElem_cons_zero, List.getElem_cons_succ, List.setIfInBounds_toArray, List.set_cons_zero, List.set_cons_succ])
  clear hC
  have hC := hC'
  clear hC'
  (refine wpM_take (i := 29) (v := ?_) rfl (by kernel_rfl) (by kernel_rfl) (by kernel_rfl) (by decide) (fun _ _ _ h => h) hcl hC (fun _ => hE) (Or.inl ⟨by rfl, ?_⟩) ?_; rotate_left; (· (intro w hSw; (try dsimp only at hSw); go_simp; (try with_reducible rfl))); clear hcl; intro hcl; (try simp only [Act.put, List.getElem_toArray, List.getElem_cons_zero, List.getElem_cons_succ, List.setIfInBounds_toArray, List.set_cons_zero, List.set_cons_succ]))
  (refine wpM_take (i := 30) (v := ?_) rfl (by kernel_rfl) (by kernel_rfl) (by kernel_rfl) (by decide) (fun _ _ _ h => h) hcl hC (fun _ => hE) (Or.inl ⟨by rfl, ?_⟩) ?_; rotate_left; (· (intro w hSw; (try dsimp only at hSw); go_simp; (try with_reducible rfl))); clear hcl; intro hcl; (try simp only [Act.put, List.getElem_toArray, List.getElem_cons_zero, List.getElem_cons_succ, List.setIfInBounds_toArray, List.set_cons_zero, List.set_cons_succ]))
  refine wpM_done (by kernel_rfl) ?_
  clear hcl
  try simp only [List.getElem_toArray, List.getElem_cons_zero, List.getElem_cons_succ, List.setIfInBounds_toArray, List.set_cons_zero, List.set_cons_succ]
  have hG := hbr.out _ hC.1
  go_wp2
  go_ret
  exact ⟨rfl, hG⟩
end Go.Proofs.YtelipindcacphaaDoor
