/- The statement OrmapLast, walked. -/
import Derived.Test.YtadldndmmobpdaaM18
import Derived.Test.YtadldndmmobpdaaM14
import Derived.BigQuiet
namespace Go.Proofs.Ytadldndmmobpdaa
open Go.RowKit

set_option maxRecDepth 100000 in
set_option maxHeartbeats 16000000 in
theorem ormaplast_any (A : Option Addr) (n c : Nat) (xs : List Pm) (B : Option Addr) (m d : Nat) (gs : List Tm) (p : Pm) (o : List UInt8) (w : World) (hA : RdP w w.heap.size A n xs) (hB : RdT w w.heap.size B m gs) (hx : ∀ a ∈ xs, a.wf) (hg : ∀ t ∈ gs, t.wf) (hl : ∀ a ∈ xs, a.2.1.length ≤ maxLen) (hp : p.wf) (hpl : p.2.1.length ≤ maxLen) :
    Calls Try.prog 8 #[.agg #[.slice A n c, .slice B m d], .agg #[.int .i64 p.1.1.1, .int .u32 p.1.1.2, .int .i64 p.1.2, .string (bs p.2.1), .int .i64 p.2.2.1, .int .u32 p.2.2.2.1, .int .i64 p.2.2.2.2], .string (bs o)] w fun r w' => r = .returned (.bool true) ∧ Below w.heap.size w w' := by
  have hW : Below w.heap.size w ((w.alloc (.cells #[.slice A n c, .slice B m d] 52)).alloc (.cells #[.int .i64 p.1.1.1, .int .u32 p.1.1.2, .int .i64 p.1.2, .string (bs p.2.1), .int .i64 p.2.2.1, .int .u32 p.2.2.2.1, .int .i64 p.2.2.2.2] 94)) := ((Below.refl _ w).alloc (Nat.le_refl _) _).alloc (by simp) _
  have hbA : ((w.alloc (.cells #[.slice A n c, .slice B m d] 52)).alloc (.cells #[.int .i64 p.1.1.1, .int .u32 p.1.1.2, .int .i64 p.1.2, .string (bs p.2.1), .int .i64 p.2.2.1, .int .u32 p.2.2.2.1, .int .i64 p.2.2.2.2] 94)).heap[w.heap.size]? = some (.cells #[.slice A n c, .slice B m d] 52 (0, 0)) := heap_old _ (by simp) (heap_at _ _ rfl)
  have hbV : ((w.alloc (.cells #[.slice A n c, .slice B m d] 52)).alloc (.cells #[.int .i64 p.1.1.1, .int .u32 p.1.1.2, .int .i64 p.1.2, .string (bs p.2.1), .int .i64 p.2.2.1, .int .u32 p.2.2.2.1, .int .i64 p.2.2.2.2] 94)).heap[w.heap.size + 1]? = some (.cells #[.int .i64 p.1.1.1, .int .u32 p.1.1.2, .int .i64 p.1.2, .string (bs p.2.1), .int .i64 p.2.2.1, .int .u32 p.2.2.2.1, .int .i64 p.2.2.2.2] 94 (0, 0)) := heap_at _ _ (by simp)
  generalize hWe : ((w.alloc (.cells #[.slice A n c, .slice B m d] 52)).alloc (.cells #[.int .i64 p.1.1.1, .int .u32 p.1.1.2, .int .i64 p.1.2, .string (bs p.2.1), .int .i64 p.2.2.1, .int .u32 p.2.2.2.1, .int .i64 p.2.2.2.2] 94)) = W at hW hbA hbV
  have hAk := Lib.hid hbA
  have hVk := Lib.hid hbV
  have hzW := hW.size
  have cW := Lib.hid mworks_any
  have cGr := Lib.hid (mgreat_any A n c B m d)
  clear hbA hbV
  cases hga : grM n m with
  | true =>
    rw [hga] at cGr
    clear hA hB
    go_enter Try.func8, Try.ntmps8
    go_wp2_with fail
    refine (cW.out _).mono ?_
    rintro r w0 ⟨rfl, hv0⟩
    have hs0 := blk_below hAk.out hv0
    have hltx := blk_lt hs0
    have s0 := blk_cell hs0 0
    have s1 := blk_cell hs0 1
    simp at s0 s1
    go_wp2_with fail
    refine (cGr.out _).mono ?_
    rintro r w1 ⟨rfl, hv1⟩
    have hG := hW.trans ((hv0.trans (hv1.mono hv0.size)).mono hzW)
    go_wp2
    go_ret
    exact ⟨rfl, hG⟩
  | false =>
    rw [hga] at cGr
    have hnm : n ≤ 100 ∧ m ≤ 200 := by unfold grM at hga; rw [decide_eq_false_iff_not] at hga; omega
    obtain ⟨hn, hm⟩ := hnm
    clear hga
    have hxl := hA.len
    have hgl := hB.len
    have hkS : OkM (xs, gs) 100 200 := ⟨hx, hg, hl, by dsimp only; omega, by dsimp only; omega⟩
    have cT := Lib.hid (fun w' (h : Below W.heap.size W w') => mto_any A n c xs B m d gs w' ((hA.below (hW.trans (h.mono hzW))).more (hW.trans (h.mono hzW)).size) ((hB.below (hW.trans (h.mono hzW))).more (hW.trans (h.mono hzW)).size) (by omega) (by omega))
    have cK := Lib.hid (fun A' c' B' d' w' (h1 : RdP w' w'.heap.size A' n xs) (h2 : RdT w' w'.heap.size B' m gs) => mcheck_any A' n c' xs B' m d' gs w' h1 h2 (by simp [maxLen]; omega) (by simp [maxLen]; omega) hx hg hl)
    by_cases her : mErr xs gs = 0
    case neg =>
      have hnb : (mErr xs gs != 0) = true := by simpa using her
      generalize mErr xs gs = er at cK hnb her
      clear hA hB hkS her
      go_enter Try.func8, Try.ntmps8
      go_wp2_with fail
      refine (cW.out _).mono ?_
      rintro r w0 ⟨rfl, hv0⟩
      have hs0 := blk_below hAk.out hv0
      have hltx := blk_lt hs0
      have s0 := blk_cell hs0 0
      have s1 := blk_cell hs0 1
      simp at s0 s1
      go_wp2_with fail
      refine (cGr.out _).mono ?_
      rintro r w1 ⟨rfl, hv1⟩
      have hv01 := hv0.trans (hv1.mono hv0.size)
      have hs1 := blk_below hAk.out hv01
      clear s0 s1 hltx hs0
      have hltx := blk_lt hs1
      have s0 := blk_cell hs1 0
      have s1 := blk_cell hs1 1
      simp at s0 s1
      go_wp2_with fail
      refine (cT.out _ hv01).mono ?_
      rintro r w2 ⟨A0, c0, B0, d0, rfl, o0, p0, hv2⟩
      have hv02 := hv01.trans (hv2.mono hv01.size)
      go_wp2_with fail
      refine (cK.out A0 c0 B0 d0 w2 o0.rdP p0.rdT).mono ?_
      rintro r w3 ⟨rfl, hv3⟩
      have hG3w : Below W.heap.size W w3 := hv02.trans (hv3.mono hv02.size)
      have hG3 := hW.trans (hG3w.mono hzW)
      clear s0 s1 hltx hs1 o0 p0 hv0 hv1 hv2 hv3 hv01 hv02
      have hvv3 := blk_below hVk.out hG3w
      have a0 := blk_cell hvv3 0
      have a1 := blk_cell hvv3 1
      have a2 := blk_cell hvv3 2
      have a3 := blk_cell hvv3 3
      have a4 := blk_cell hvv3 4
      have a5 := blk_cell hvv3 5
      have a6 := blk_cell hvv3 6
      simp at a0 a1 a2 a3 a4 a5 a6
      have hlta := blk_lt hvv3
      go_wp2
      go_ret
      exact ⟨rfl, hG3⟩
    rw [her] at cK
    by_cases hol : 100 < o.length
    · have hd2 : decide ((100 : Int) < (((bs o).size : Nat) : Int)) = true := decide_eq_true (by rw [bs_size]; omega)
      clear hA hB hkS
      go_enter Try.func8, Try.ntmps8
      go_wp2_with fail
      refine (cW.out _).mono ?_
      rintro r w0 ⟨rfl, hv0⟩
      have hs0 := blk_below hAk.out hv0
      have hltx := blk_lt hs0
      have s0 := blk_cell hs0 0
      have s1 := blk_cell hs0 1
      simp at s0 s1
      go_wp2_with fail
      refine (cGr.out _).mono ?_
      rintro r w1 ⟨rfl, hv1⟩
      have hv01 := hv0.trans (hv1.mono hv0.size)
      have hs1 := blk_below hAk.out hv01
      clear s0 s1 hltx hs0
      have hltx := blk_lt hs1
      have s0 := blk_cell hs1 0
      have s1 := blk_cell hs1 1
      simp at s0 s1
      go_wp2_with fail
      refine (cT.out _ hv01).mono ?_
      rintro r w2 ⟨A0, c0, B0, d0, rfl, o0, p0, hv2⟩
      have hv02 := hv01.trans (hv2.mono hv01.size)
      go_wp2_with fail
      refine (cK.out A0 c0 B0 d0 w2 o0.rdP p0.rdT).mono ?_
      rintro r w3 ⟨rfl, hv3⟩
      have hG3w : Below W.heap.size W w3 := hv02.trans (hv3.mono hv02.size)
      have hG3 := hW.trans (hG3w.mono hzW)
      clear s0 s1 hltx hs1 o0 p0 hv0 hv1 hv2 hv3 hv01 hv02
      have hvv3 := blk_below hVk.out hG3w
      have a0 := blk_cell hvv3 0
      have a1 := blk_cell hvv3 1
      have a2 := blk_cell hvv3 2
      have a3 := blk_cell hvv3 3
      have a4 := blk_cell hvv3 4
      have a5 := blk_cell hvv3 5
      have a6 := blk_cell hvv3 6
      simp at a0 a1 a2 a3 a4 a5 a6
      have hlta := blk_lt hvv3
      go_wp2
      go_ret
      exact ⟨rfl, hG3⟩
    have hd2 : decide ((100 : Int) < (((bs o).size : Nat) : Int)) = false := decide_eq_false (by rw [bs_size]; omega)
    clear hol
    by_cases hfl : 100 < p.2.1.length
    · have hd3 : decide ((100 : Int) < (((bs p.2.1).size : Nat) : Int)) = true := decide_eq_true (by rw [bs_size]; omega)
      clear hA hB hkS
      go_enter Try.func8, Try.ntmps8
      go_wp2_with fail
      refine (cW.out _).mono ?_
      rintro r w0 ⟨rfl, hv0⟩
      have hs0 := blk_below hAk.out hv0
      have hltx := blk_lt hs0
      have s0 := blk_cell hs0 0
      have s1 := blk_cell hs0 1
      simp at s0 s1
      go_wp2_with fail
      refine (cGr.out _).mono ?_
      rintro r w1 ⟨rfl, hv1⟩
      have hv01 := hv0.trans (hv1.mono hv0.size)
      have hs1 := blk_below hAk.out hv01
      clear s0 s1 hltx hs0
      have hltx := blk_lt hs1
      have s0 := blk_cell hs1 0
      have s1 := blk_cell hs1 1
      simp at s0 s1
      go_wp2_with fail
      refine (cT.out _ hv01).mono ?_
      rintro r w2 ⟨A0, c0, B0, d0, rfl, o0, p0, hv2⟩
      have hv02 := hv01.trans (hv2.mono hv01.size)
      go_wp2_with fail
      refine (cK.out A0 c0 B0 d0 w2 o0.rdP p0.rdT).mono ?_
      rintro r w3 ⟨rfl, hv3⟩
      have hG3w : Below W.heap.size W w3 := hv02.trans (hv3.mono hv02.size)
      have hG3 := hW.trans (hG3w.mono hzW)
      clear s0 s1 hltx hs1 o0 p0 hv0 hv1 hv2 hv3 hv01 hv02
      have hvv3 := blk_below hVk.out hG3w
      have a0 := blk_cell hvv3 0
      have a1 := blk_cell hvv3 1
      have a2 := blk_cell hvv3 2
      have a3 := blk_cell hvv3 3
      have a4 := blk_cell hvv3 4
      have a5 := blk_cell hvv3 5
      have a6 := blk_cell hvv3 6
      simp at a0 a1 a2 a3 a4 a5 a6
      have hlta := blk_lt hvv3
      go_wp2
      go_ret
      exact ⟨rfl, hG3⟩
    have hd3 : decide ((100 : Int) < (((bs p.2.1).size : Nat) : Int)) = false := decide_eq_false (by rw [bs_size]; omega)
    clear hfl
    -- the law on plain maps
    obtain ⟨Y, hY⟩ : ∃ Y, Y = putM xs gs p := ⟨_, rfl⟩
    obtain ⟨S, hS⟩ : ∃ S, S = tagsM Y.1.1 Y.1.2 p.2.1 := ⟨_, rfl⟩
    obtain ⟨Z, hZ⟩ : ∃ Z, Z = dropM Y.1.1 Y.1.2 S := ⟨_, rfl⟩
    have hlawH := Lib.hid (fun hy0 => last_law (o := o) her (by rw [hxl]; exact hn) (by rw [hgl]; exact hm) hY hy0 (hZ.trans (by rw [hS])))
    have hkY : OkM Y.1 101 200 := hY ▸ hkS.put hp hpl
    have hSw : ∀ u ∈ S, u.wf := fun u hu => by
      rw [hS] at hu
      unfold tagsM at hu
      split at hu
      · cases hu
      · obtain ⟨a, ha, rfl⟩ := List.mem_map.1 hu
        exact (hkY.wx a (List.mem_filter.1 ha).1).1
    have hSl : S.length ≤ 101 := by
      rw [hS]
      exact Nat.le_trans tagsM_len hkY.lx
    have hkZ : OkM Z.1 101 301 := hZ ▸ OkM.drop (xs := Y.1.1) (gs := Y.1.2) hkY hSw hSl
    have cA := Lib.hid (fun A' c' B' d' w' (h1 : RdP w' w'.heap.size A' n xs) (h2 : RdT w' w'.heap.size B' m gs) => hY ▸ hkS.putC (by omega) (by omega) p hp hpl A' n c' B' m d' w' h1 h2)
    have cGx := Lib.hid (fun A' c' B' d' w' (h1 : RdP w' w'.heap.size A' n xs) (h2 : RdT w' w'.heap.size B' m gs) => hkS.getC (by omega) (by omega) o A' n c' B' m d' w' h1 h2)
    have cGy := Lib.hid (fun A' n' c' B' m' d' w' h1 h2 => hkY.getC (by omega) (by omega) p.2.1 A' n' c' B' m' d' w' h1 h2)
    have cTg := Lib.hid (fun A' n' c' B' m' d' w' h1 h2 => hS ▸ hkY.tagsC (by omega) (by omega) p.2.1 A' n' c' B' m' d' w' h1 h2)
    have cD := Lib.hid (fun A' n' c' B' m' d' C' k f' w' h1 h2 h3 => hZ ▸ hkY.dropC (by omega) (by omega) S hSw (by omega) A' n' c' B' m' d' C' k f' w' h1 h2 h3)
    have cGz := Lib.hid (fun A' n' c' B' m' d' w' h1 h2 => hkZ.getC (by omega) (by omega) p.2.1 A' n' c' B' m' d' w' h1 h2)
    have cGo := Lib.hid (fun A' n' c' B' m' d' w' h1 h2 => hkZ.getC (by omega) (by omega) o A' n' c' B' m' d' w' h1 h2)
    have hAr := Lib.hid (fun w' (h : Below w.heap.size w w') => hA.below h)
    have hBr := Lib.hid (fun w' (h : Below w.heap.size w w') => hB.below h)
    have hxlH := Lib.hid hxl
    have hglH := Lib.hid hgl
    generalize hGX : getM xs gs o = GX at cGx hlawH
    generalize hGO : getM Z.1.1 Z.1.2 o = GO at cGo hlawH
    generalize hGZ : getM Z.1.1 Z.1.2 p.2.1 = GZ at cGz hlawH
    generalize hGV : getM Y.1.1 Y.1.2 p.2.1 = GV at cGy hlawH
    clear hA hB hkS hkY hkZ hS hY hZ hSw hSl hx hg hl hxl hgl her hp hpl hGX hGO hGZ hGV
    go_enter Try.func8, Try.ntmps8
    go_wp2_with fail
    refine (cW.out _).mono ?_
    rintro r w0 ⟨rfl, hv0⟩
    have hs0 := blk_below hAk.out hv0
    have hltx := blk_lt hs0
    have s0 := blk_cell hs0 0
    have s1 := blk_cell hs0 1
    simp at s0 s1
    go_wp2_with fail
    refine (cGr.out _).mono ?_
    rintro r w1 ⟨rfl, hv1⟩
    have hv01 := hv0.trans (hv1.mono hv0.size)
    have hs1 := blk_below hAk.out hv01
    clear s0 s1 hltx hs0
    have hltx := blk_lt hs1
    have s0 := blk_cell hs1 0
    have s1 := blk_cell hs1 1
    simp at s0 s1
    go_wp2_with fail
    refine (cT.out _ hv01).mono ?_
    rintro r w2 ⟨A0, c0, B0, d0, rfl, o0, p0, hv2⟩
    have hv02 := hv01.trans (hv2.mono hv01.size)
    go_wp2_with fail
    refine (cK.out A0 c0 B0 d0 w2 o0.rdP p0.rdT).mono ?_
    rintro r w3 ⟨rfl, hv3⟩
    have hG3w : Below W.heap.size W w3 := hv02.trans (hv3.mono hv02.size)
    have hG3 := hW.trans (hG3w.mono hzW)
    clear s0 s1 hltx hs1 o0 p0 hv0 hv1 hv2 hv3 hv01 hv02
    have hvv3 := blk_below hVk.out hG3w
    have a0 := blk_cell hvv3 0
    have a1 := blk_cell hvv3 1
    have a2 := blk_cell hvv3 2
    have a3 := blk_cell hvv3 3
    have a4 := blk_cell hvv3 4
    have a5 := blk_cell hvv3 5
    have a6 := blk_cell hvv3 6
    simp at a0 a1 a2 a3 a4 a5 a6
    have hlta := blk_lt hvv3
    have hs3 := blk_below hAk.out hG3w
    clear cW cGr cK hG3
    have hltx := blk_lt hs3
    have s0 := blk_cell hs3 0
    have s1 := blk_cell hs3 1
    simp at s0 s1
    go_wp2_with fail
    refine (cT.out _ hG3w).mono ?_
    rintro r w4 ⟨A1, c1, B1, d1, rfl, o1, p1, hb1⟩
    go_upto_region 6 with (fail)
    obtain ⟨w5, hwn⟩ : ∃ w9, w4.alloc (.cells #[.slice A1 n c1, .slice B1 m d1] 56) = w9 := ⟨_, rfl⟩
    have hbX : w5.heap[w4.heap.size]? = some (.cells #[.slice A1 n c1, .slice B1 m d1] 56 (0, 0)) := by rw [← hwn]; exact heap_at _ _ rfl
    have hb45 : Below w4.heap.size w4 w5 := by rw [← hwn]; exact (Below.refl _ w4).alloc (Nat.le_refl _) _
    rw [hwn]
    clear hwn
    have hG5 : Below W.heap.size W w5 := hG3w.trans ((hb1.trans (hb45.mono hb1.size)).mono hG3w.size)
    have hX := Lib.hid (And.intro (o1.below hb45).rdP (p1.below hb45).rdT)
    have hbXH := Lib.hid hbX
    clear s0 s1 hltx a0 a1 a2 a3 a4 a5 a6 hlta o1 p1 hb1 hb45 cT hs3 hvv3 hd2 hd3
    have hltx := blk_lt hbX
    have s0 := blk_cell hbX 0
    have s1 := blk_cell hbX 1
    simp at s0 s1
    have hvv5 := blk_below hVk.out hG5
    have a0 := blk_cell hvv5 0
    have a1 := blk_cell hvv5 1
    have a2 := blk_cell hvv5 2
    have a3 := blk_cell hvv5 3
    have a4 := blk_cell hvv5 4
    have a5 := blk_cell hvv5 5
    have a6 := blk_cell hvv5 6
    simp at a0 a1 a2 a3 a4 a5 a6
    have hlta := blk_lt hvv5
    clear hbX hvv5
    have cPd := Lib.hid (fun w' (hh : KQ w5.heap.size w5 w') => cA.out A1 c1 B1 d1 w' ((hX.out.1.below hh.1).more hh.1.size) ((hX.out.2.below hh.1).more hh.1.size))
    have cU := Lib.hid (put_any p)
    go_upto_region 6 with (fail)
    go_cut [8, 9] (fun sa sb wx => ∃ g A' n' c' B' m' d', sa = .pointer (some ⟨g, 0, none⟩) ∧ w5.heap.size ≤ g ∧ sb = .int .i64 Y.2 ∧ wx.heap[g]? = some (.cells #[.slice A' n' c', .slice B' m' d'] 56 (0, 0)) ∧ RdP wx wx.heap.size A' n' Y.1.1 ∧ RdT wx wx.heap.size B' m' Y.1.2 ∧ n' ≤ 5000 ∧ m' ≤ 9000 ∧ Below w5.heap.size w5 wx)
    case first =>
      have hq0 : KQ w5.heap.size w5 w5 := kq (Below.refl _ _)
      go_region_held3 (fun w' => KQ w5.heap.size w5 w') (first
      | with_reducible exact kq_call (by assumption) (by simp) (by assumption)
      | with_reducible exact kq_grown (by assumption) (by simp) (by assumption) (by simp [Value.ownBlock])
      | ((repeat (first | (with_reducible refine kq_set ?_ (by first | (simp; done) | (simp; omega) | omega) _) | (with_reducible refine kq_alloc ?_ (by first | exact Nat.le_refl _ | (simp; done) | (simp; omega)) _))); (with_reducible assumption))
      | ((with_reducible refine kq ?_); (repeat (first | (with_reducible exact Below.refl _ _) | (with_reducible refine Below.drew ?_) | (with_reducible refine Below.alloc ?_ (by simp) _) | (with_reducible refine Below.setCell ?_ (by simp) _) | (with_reducible exact (by assumption : KQ _ _ _).1))); done))
        (first
          | (go_at_call 47
             refine (cU.out _).mono ?_
             rintro e v1 ⟨rfl, hv1⟩
             have hz1 := hv1.size
             (try simp at hz1)
             have hq1 : KQ w5.heap.size w5 v1 := kq_call (by first | with_reducible assumption | exact kq_drew (Below.refl _ _) | exact kq_drew ((Below.refl _ _).alloc (Nat.le_refl _) _) | exact kq (((Below.refl _ _).drew).alloc (by simp) _)) (Nat.le_refl _) hv1
             (try (have hx1 : v1.heap[w5.heap.size]? = some (.cells #[.slice none 0 0, .slice none 0 0] 56 (0, 0)) := (hv1.block _ (by simp; done)).trans (by first | exact heap_drew (heap_at _ _ rfl) | exact heap_at _ _ rfl)))
            )
          | (go_at_call 46
             (with_reducible refine (cPd.out _ (by first | with_reducible assumption | exact kq_alloc (by with_reducible assumption) (Nat.le_refl _) _ | fail : KQ w5.heap.size w5 _)).mono ?_)
             rintro e v5 ⟨A5, n5, c5, B5, m5, d5, rfl, hY1, hY2, hn5, hm5, _, _, _, _, hb5⟩
             have hz5 := hb5.size
             (try simp at hz5)
             have hq5 : KQ w5.heap.size w5 v5 := kq_call (by first | with_reducible assumption | exact kq_alloc (by with_reducible assumption) (Nat.le_refl _) _ | exact kq_alloc (kq_alloc (by with_reducible assumption) (Nat.le_refl _) _) (Nat.le_refl _) _ | fail) (Nat.le_refl _) hb5
             (first
               | (have hx5 : v5.heap[w5.heap.size]? = some (.cells #[.slice none 0 0, .slice none 0 0] 56 (0, 0)) := (hb5.block _ (by first | exact blk_lt hx1 | (have h9 := blk_lt hx1; simp only [World.size_alloc]; omega) | fail)).trans (by first | exact hx1 | exact heap_old _ (blk_lt hx1) hx1 | fail)
                  have hfx := blk_frozen hx5
                  have hlx := blk_lt hx5
                  have x0 := blk_cell hx5 0
                  have x1 := blk_cell hx5 1
                  simp at x0 x1)
               | (have hx5 : v5.heap[v1.heap.size]? = some (.cells #[.slice none 0 0, .slice none 0 0] 56 (0, 0)) := (hb5.block _ (by first | (simp only [World.size_alloc]; omega) | fail)).trans (by first | exact heap_at _ _ rfl | exact heap_old _ (by first | (simp only [World.size_alloc]; omega) | fail) (heap_at _ _ rfl) | fail)
                  have hfx := blk_frozen hx5
                  have hlx := blk_lt hx5
                  have x0 := blk_cell hx5 0
                  have x1 := blk_cell hx5 1
                  simp at x0 x1)
               | (have hx5 : v5.heap[v1.heap.size + 1]? = some (.cells #[.slice none 0 0, .slice none 0 0] 56 (0, 0)) := (hb5.block _ (by first | (simp only [World.size_alloc]; omega) | fail)).trans (by first | exact heap_at _ _ (by first | (simp only [World.size_alloc]; done) | fail) | fail)
                  have hfx := blk_frozen hx5
                  have hlx := blk_lt hx5
                  have x0 := blk_cell hx5 0
                  have x1 := blk_cell hx5 1
                  simp at x0 x1)
               | skip)
            )
          | fail "no arm")
      all_goals
      (have hYH := Lib.hid (And.intro hY1 hY2)
       have hk5 : Below w5.heap.size w5 v5 := hq5.1
       have hk5H := Lib.hid hk5
       have hzk := hk5.size
       go_wp2_with fail
       go_meet
       first
         | (have hb3 : Below v5.heap.size v5 (v5.alloc (.cells #[.slice A5 n5 c5, .slice B5 m5 d5] 56)) := (Below.refl _ v5).alloc (Nat.le_refl _) _
            exact ⟨v5.heap.size, A5, n5, c5, B5, m5, d5, rfl, hzk, rfl, heap_at _ _ rfl, (hYH.out.1.below hb3).more hb3.size, (hYH.out.2.below hb3).more hb3.size, hn5, hm5, hk5H.out.trans (hb3.mono hzk)⟩)
         | (have ha3 := (hYH.out.1.set_other hx5 0 (.slice A5 n5 c5)).set_other (blk_set hx5 0 (.slice A5 n5 c5)) 1 (.slice B5 m5 d5)
            have hb3 := (hYH.out.2.set_other hx5 0 (.slice A5 n5 c5)).set_other (blk_set hx5 0 (.slice A5 n5 c5)) 1 (.slice B5 m5 d5)
            have hx3 := blk_set (blk_set hx5 0 (.slice A5 n5 c5)) 1 (.slice B5 m5 d5)
            exact ⟨_, A5, n5, c5, B5, m5, d5, rfl, by omega, rfl, hx3, by rw [World.size_setCell, World.size_setCell]; exact ha3, by rw [World.size_setCell, World.size_setCell]; exact hb3, hn5, hm5, (hk5H.out.setCell (by dsimp only; omega) _).setCell (by dsimp only; omega) _⟩))
    obtain ⟨g6, A2, n2, c2, B2, m2, d2, rfl, hg6, rfl, hbY, hY1, hY2, _, _, hB6⟩ := hcut
    obtain ⟨w6, hw6⟩ : ∃ w6, w6 = wc := ⟨_, rfl⟩
    obtain rfl := hw6
    have hG6 : Below W.heap.size W w6 := hG5.trans (hB6.mono hG5.size)
    have hz6 := hB6.size
    have hX6 := Lib.hid (And.intro ((hX.out.1.below hB6).more hz6) ((hX.out.2.below hB6).more hz6))
    have hbX6 := Lib.hid (blk_below hbXH.out hB6)
    have hY6 := Lib.hid (And.intro hY1 hY2)
    have hbY6 := Lib.hid hbY
    clear s0 s1 hltx a0 a1 a2 a3 a4 a5 a6 hlta cPd cU cA hX hbXH hY1 hY2 hbY hB6
    by_cases hy0 : Y.2 = 0
    case neg =>
      have hyn : (Y.2 != 0) = true := by simpa using hy0
      have hfin := hW.trans (hG6.mono hzW)
      clear hy0
      go_wp2
      go_ret
      exact ⟨rfl, hfin⟩
    rw [hy0]
    obtain ⟨hL1, hZ0, hZf, hLo⟩ := hlawH.out hy0
    have hL1H := Lib.hid hL1
    have hZ0H := Lib.hid hZ0
    have hZfH := Lib.hid hZf
    have hLoH := Lib.hid hLo
    clear hlawH hy0 hL1 hZ0 hZf hLo
    go_wp2_with fail
    go_loopg [10, 11, 12] (n + 1) (fun g kn la i wr => ∃ (j : Nat) (bk bl : Bool), j ≤ n ∧ g = n + 1 - j ∧ kn = .bool bk ∧ la = .bool bl ∧ i = .int .i64 (j : Int) ∧ ((xs.take j).any fun a => decide (a.1 = p.1)) = bk ∧ ((xs.take j).all fun a => decide (a.2.1 ≠ p.2.1 ∨ a.2.2.2.1 < p.2.2.2.1)) = bl ∧ Below w6.heap.size w6 wr)
    case atStart => exact ⟨0, false, true, Nat.zero_le _, rfl, rfl, rfl, rfl, rfl, rfl, Below.refl _ _⟩
    case round =>
      obtain ⟨j, bk, bl, hj, rfl, rfl, rfl, rfl, hbk, hbl, hbr⟩ := hrel
      have hz := hbr.size
      have hGr : Below W.heap.size W wr := hG6.trans (hbr.mono hG6.size)
      have hGw := hW.trans (hGr.mono hzW)
      have hsr := blk_below hAk.out hGr
      have hltx := blk_lt hsr
      have s0 := blk_cell hsr 0
      have s1 := blk_cell hsr 1
      simp at s0 s1
      clear hsr
      by_cases hlt : j < n
      · obtain ⟨bA, oA, u, rfl, hbA, hq, hcp⟩ := (hAr.out wr hGw).at_ hlt
        as_aux_lemma =>
        have p0 := hcp 0 _ rfl
        have p1 := hcp 1 _ rfl
        have p2 := hcp 2 _ rfl
        have p3 := hcp 3 _ rfl
        have p4 := hcp 4 _ rfl
        have p5 := hcp 5 _ rfl
        have p6 := hcp 6 _ rfl
        rw [Nat.add_zero] at p0
        have hvr := blk_below hVk.out hGr
        have a0 := blk_cell hvr 0
        have a1 := blk_cell hvr 1
        have a2 := blk_cell hvr 2
        have a3 := blk_cell hvr 3
        have a4 := blk_cell hvr 4
        have a5 := blk_cell hvr 5
        have a6 := blk_cell hvr 6
        simp at a0 a1 a2 a3 a4 a5 a6
        have hlta := blk_lt hvr
        have hlti : (j : Int) < (n : Int) := by omega
        have hbA1 : bA < w.heap.size := hbA
        have hbA2 : bA < wr.heap.size := by have := hGw.size; omega
        have hk1 := Lib.hid (show ((xs.take (j + 1)).any fun a => decide (a.1 = p.1)) = (bk || decide (u.1 = p.1)) from by rw [← hbk, List.take_add_one, hq]; simp)
        have hl1 := Lib.hid (show ((xs.take (j + 1)).all fun a => decide (a.2.1 ≠ p.2.1 ∨ a.2.2.2.1 < p.2.2.2.1)) = (bl && decide (u.2.1 ≠ p.2.1 ∨ u.2.2.2.1 < p.2.2.2.1)) from by rw [← hbl, List.take_add_one, hq, List.all_append]; simp)
        have hcpH := Lib.hid hcp
        clear hcp hvr hq hbk hbl
        go_upto_region 14 with (fail)
        go_cut [10] (fun sa wx => sa = .bool (bk || decide (u.1 = p.1)) ∧ Below wr.heap.size wr wx)
        case first =>
          have hbr0 : Below wr.heap.size wr wr := Below.refl _ _
          cases bk with
          | true =>
            have hT : Hid (true = (true || decide (u.1 = p.1))) := Lib.hid rfl
            go_quiet (fail)
            go_wp2_with fail
            go_meet
            exact ⟨by rw [← hT.out], hbr0.trans ⟨rfl, rfl, rfl, Nat.le_refl _, fun _ _ => rfl⟩⟩
          | false =>
            by_cases he : u.1 = p.1
            · have hT : Hid (true = (false || decide (u.1 = p.1))) := Lib.hid (by rw [decide_eq_true he]; rfl)
              have h1 : u.1.1.1 = p.1.1.1 := by rw [he]
              have h2 : u.1.1.2 = p.1.1.2 := by rw [he]
              have h3 : u.1.2 = p.1.2 := by rw [he]
              rw [h1] at p0
              rw [h2] at p1
              rw [h3] at p2
              clear he h1 h2 h3
              go_quiet (fail)
              go_wp2_with fail
              go_meet
              exact ⟨by rw [← hT.out], hbr0.trans ⟨rfl, rfl, rfl, Nat.le_refl _, fun _ _ => rfl⟩⟩
            · have hT : Hid (false = (false || decide (u.1 = p.1))) := Lib.hid (by rw [decide_eq_false he]; rfl)
              have hne : ¬ (u.1.1.1 = p.1.1.1 ∧ u.1.1.2 = p.1.1.2 ∧ u.1.2 = p.1.2) := fun h => he (Prod.ext (Prod.ext h.1 h.2.1) h.2.2)
              clear he
              by_cases h1 : u.1.1.1 = p.1.1.1
              · by_cases h2 : u.1.1.2 = p.1.1.2
                · have h3 : ¬ u.1.2 = p.1.2 := fun e => hne ⟨h1, h2, e⟩
                  clear hne
                  go_quiet (fail)
                  go_wp2_with fail
                  go_meet
                  exact ⟨by rw [← hT.out], hbr0.trans ⟨rfl, rfl, rfl, Nat.le_refl _, fun _ _ => rfl⟩⟩
                · clear hne
                  go_quiet (fail)
                  go_wp2_with fail
                  go_meet
                  exact ⟨by rw [← hT.out], hbr0.trans ⟨rfl, rfl, rfl, Nat.le_refl _, fun _ _ => rfl⟩⟩
              · clear hne
                go_quiet (fail)
                go_wp2_with fail
                go_meet
                exact ⟨by rw [← hT.out], hbr0.trans ⟨rfl, rfl, rfl, Nat.le_refl _, fun _ _ => rfl⟩⟩
        obtain ⟨rfl, hB14⟩ := hcut
        obtain ⟨w14, hw14⟩ : ∃ w14, w14 = wc := ⟨_, rfl⟩
        obtain rfl := hw14
        have hG14 : Below W.heap.size W w14 := hGr.trans (hB14.mono hGr.size)
        have hbr14 : Below w6.heap.size w6 w14 := hbr.trans (hB14.mono hz)
        clear p0 p1 p2 p3 p4 p5 p6 a0 a1 a2 a3 a4 a5 a6 hlta s0 s1 hltx
        have p0 := ((kq hB14).2 _ _ hbA2).trans (hcpH.out 0 _ rfl)
        have p1 := ((kq hB14).2 _ _ hbA2).trans (hcpH.out 1 _ rfl)
        have p2 := ((kq hB14).2 _ _ hbA2).trans (hcpH.out 2 _ rfl)
        have p3 := ((kq hB14).2 _ _ hbA2).trans (hcpH.out 3 _ rfl)
        have p4 := ((kq hB14).2 _ _ hbA2).trans (hcpH.out 4 _ rfl)
        have p5 := ((kq hB14).2 _ _ hbA2).trans (hcpH.out 5 _ rfl)
        have p6 := ((kq hB14).2 _ _ hbA2).trans (hcpH.out 6 _ rfl)
        rw [Nat.add_zero] at p0
        have hvr := blk_below hVk.out hG14
        have a0 := blk_cell hvr 0
        have a1 := blk_cell hvr 1
        have a2 := blk_cell hvr 2
        have a3 := blk_cell hvr 3
        have a4 := blk_cell hvr 4
        have a5 := blk_cell hvr 5
        have a6 := blk_cell hvr 6
        simp at a0 a1 a2 a3 a4 a5 a6
        have hlta := blk_lt hvr
        have hsr := blk_below hAk.out hG14
        have hltx := blk_lt hsr
        have s0 := blk_cell hsr 0
        have s1 := blk_cell hsr 1
        simp at s0 s1
        have hbA3 : bA < w14.heap.size := by have := hB14.size; omega
        clear hvr hsr hB14 hbA2
        generalize (bk || decide (u.1 = p.1)) = bk2 at hk1
        cases bl with
        | false =>
          have hT : Hid (false = (false && decide (u.2.1 ≠ p.2.1 ∨ u.2.2.2.1 < p.2.2.2.1))) := Lib.hid rfl
          go_wp2
          go_quiet (fail)
          go_wp2
          go_roundg (n + 1 - (j + 1))
          case measure => omega
          case rel => exact ⟨j + 1, bk2, false, by omega, by omega, rfl, rfl, by go_num, hk1.out, by rw [hl1.out, ← hT.out], hbr14.trans ⟨rfl, rfl, rfl, Nat.le_refl _, fun _ _ => rfl⟩⟩
        | true =>
          by_cases hf : u.2.1 = p.2.1
          · have hqb : ((bs u.2.1).toList == (bs p.2.1).toList) = true := by rw [hf]; simp
            by_cases ht : u.2.2.2.1 < p.2.2.2.1
            · have hT : Hid (true = (true && decide (u.2.1 ≠ p.2.1 ∨ u.2.2.2.1 < p.2.2.2.1))) := Lib.hid (by rw [decide_eq_true (.inr ht)]; rfl)
              clear hf
              go_wp2
              go_quiet (fail)
              go_wp2
              go_roundg (n + 1 - (j + 1))
              case measure => omega
              case rel => exact ⟨j + 1, bk2, true, by omega, by omega, rfl, rfl, by go_num, hk1.out, by rw [hl1.out, ← hT.out], hbr14.trans ⟨rfl, rfl, rfl, Nat.le_refl _, fun _ _ => rfl⟩⟩
            · have hT : Hid (false = (true && decide (u.2.1 ≠ p.2.1 ∨ u.2.2.2.1 < p.2.2.2.1))) := Lib.hid (by rw [decide_eq_false (by simp only [not_or]; exact ⟨fun h => h hf, ht⟩)]; rfl)
              have hdt : decide (u.2.2.2.1 < p.2.2.2.1) = false := decide_eq_false ht
              clear hf ht
              go_wp2
              go_quiet (fail)
              go_wp2
              go_roundg (n + 1 - (j + 1))
              case measure => omega
              case rel => exact ⟨j + 1, bk2, false, by omega, by omega, rfl, rfl, by go_num, hk1.out, by rw [hl1.out, ← hT.out], hbr14.trans ⟨rfl, rfl, rfl, Nat.le_refl _, fun _ _ => rfl⟩⟩
          · have hqb : ((bs u.2.1).toList == (bs p.2.1).toList) = false := by rw [bs_empty, bs_empty, beq_eq_false_iff_ne]; exact hf
            have hT : Hid (true = (true && decide (u.2.1 ≠ p.2.1 ∨ u.2.2.2.1 < p.2.2.2.1))) := Lib.hid (by rw [decide_eq_true (.inl hf)]; rfl)
            clear hf
            go_wp2
            go_quiet (fail)
            go_wp2
            go_roundg (n + 1 - (j + 1))
            case measure => omega
            case rel => exact ⟨j + 1, bk2, true, by omega, by omega, rfl, rfl, by go_num, hk1.out, by rw [hl1.out, ← hT.out], hbr14.trans ⟨rfl, rfl, rfl, Nat.le_refl _, fun _ _ => rfl⟩⟩
      · obtain rfl : j = n := by omega
        as_aux_lemma =>
        have hnli : ¬ (j : Int) < (j : Int) := by omega
        rw [List.take_of_length_le (by have := hxlH.out; omega)] at hbk hbl
        have hbkH := Lib.hid hbk
        have hblH := Lib.hid hbl
        clear hbk hbl
        obtain ⟨wA, hwA⟩ : ∃ wA, wA = wr := ⟨_, rfl⟩
        subst hwA
        have hXA := Lib.hid (And.intro ((hX6.out.1.below hbr).more hz) ((hX6.out.2.below hbr).more hz))
        have hYA := Lib.hid (And.intro ((hY6.out.1.below hbr).more hz) ((hY6.out.2.below hbr).more hz))
        have hbXA := Lib.hid (blk_below hbX6.out hbr)
        have hbYA := Lib.hid (blk_below hbY6.out hbr)
        clear hX6 hY6 hbX6 hbY6 hbr hGw hz hz6
        go_wp2_with fail
        clear s0 s1 hltx
        go_loopg [10, 13] (m + 1) (fun g kn i wr => ∃ (j : Nat) (bj : Bool), j ≤ m ∧ g = m + 1 - j ∧ kn = .bool bj ∧ i = .int .i64 (j : Int) ∧ (bk || (gs.take j).any fun t => decide (t = p.1)) = bj ∧ Below wA.heap.size wA wr)
        case atStart => exact ⟨0, bk, Nat.zero_le _, rfl, rfl, rfl, by simp, Below.refl _ _⟩
        case round =>
          obtain ⟨j, bj, hj, rfl, rfl, rfl, hbj, hbr⟩ := hrel
          have hz := hbr.size
          have hGs : Below W.heap.size W wr := hGr.trans (hbr.mono hGr.size)
          have hGw := hW.trans (hGs.mono hzW)
          have hsr := blk_below hAk.out hGs
          have hltx := blk_lt hsr
          have s0 := blk_cell hsr 0
          have s1 := blk_cell hsr 1
          simp at s0 s1
          have hvr := blk_below hVk.out hGs
          have a0 := blk_cell hvr 0
          have a1 := blk_cell hvr 1
          have a2 := blk_cell hvr 2
          have a3 := blk_cell hvr 3
          have a4 := blk_cell hvr 4
          have a5 := blk_cell hvr 5
          have a6 := blk_cell hvr 6
          simp at a0 a1 a2 a3 a4 a5 a6
          have hlta := blk_lt hvr
          clear hsr hvr
          by_cases hlt : j < m
          · obtain ⟨bA, oA, u, rfl, hbA, hq, hcp⟩ := (hBr.out wr hGw).at_ hlt
            as_aux_lemma =>
            have p0 := hcp 0 _ rfl
            have p1 := hcp 1 _ rfl
            have p2 := hcp 2 _ rfl
            rw [Nat.add_zero] at p0
            have hlti : (j : Int) < (m : Int) := by omega
            have hbA1 : bA < w.heap.size := hbA
            have hbA2 : bA < wr.heap.size := by have := hGw.size; omega
            have hst := Lib.hid (show (bk || (gs.take (j + 1)).any fun t => decide (t = p.1)) = (bj || decide (u = p.1)) from by rw [← hbj, List.take_add_one, hq]; simp [Bool.or_assoc])
            clear hcp hq hbj
            cases bj with
            | true =>
              have hT : Hid ((bk || (gs.take (j + 1)).any fun t => decide (t = p.1)) = true) := Lib.hid (by rw [hst.out]; rfl)
              go_wp2
              go_quiet (fail)
              go_wp2
              go_roundg (m + 1 - (j + 1))
              case measure => omega
              case rel => exact ⟨j + 1, true, by omega, by omega, rfl, by go_num, hT.out, hbr.trans ⟨rfl, rfl, rfl, Nat.le_refl _, fun _ _ => rfl⟩⟩
            | false =>
              by_cases he : u = p.1
              · have hT : Hid ((bk || (gs.take (j + 1)).any fun t => decide (t = p.1)) = true) := Lib.hid (by rw [hst.out, decide_eq_true he]; rfl)
                subst he
                go_wp2
                go_quiet (fail)
                go_wp2
                go_roundg (m + 1 - (j + 1))
                case measure => omega
                case rel => exact ⟨j + 1, true, by omega, by omega, rfl, by go_num, hT.out, hbr.trans ⟨rfl, rfl, rfl, Nat.le_refl _, fun _ _ => rfl⟩⟩
              · have hT : Hid ((bk || (gs.take (j + 1)).any fun t => decide (t = p.1)) = false) := Lib.hid (by rw [hst.out, decide_eq_false he]; rfl)
                have hne : ¬ (u.1.1 = p.1.1.1 ∧ u.1.2 = p.1.1.2 ∧ u.2 = p.1.2) := fun h => he (Prod.ext (Prod.ext h.1 h.2.1) h.2.2)
                clear he
                by_cases h1 : u.1.1 = p.1.1.1
                · by_cases h2 : u.1.2 = p.1.1.2
                  · have h3 : ¬ u.2 = p.1.2 := fun e => hne ⟨h1, h2, e⟩
                    clear hne
                    go_wp2
                    go_quiet (fail)
                    go_wp2
                    go_roundg (m + 1 - (j + 1))
                    case measure => omega
                    case rel => exact ⟨j + 1, false, by omega, by omega, rfl, by go_num, hT.out, hbr.trans ⟨rfl, rfl, rfl, Nat.le_refl _, fun _ _ => rfl⟩⟩
                  · clear hne
                    go_wp2
                    go_quiet (fail)
                    go_wp2
                    go_roundg (m + 1 - (j + 1))
                    case measure => omega
                    case rel => exact ⟨j + 1, false, by omega, by omega, rfl, by go_num, hT.out, hbr.trans ⟨rfl, rfl, rfl, Nat.le_refl _, fun _ _ => rfl⟩⟩
                · clear hne
                  go_wp2
                  go_quiet (fail)
                  go_wp2
                  go_roundg (m + 1 - (j + 1))
                  case measure => omega
                  case rel => exact ⟨j + 1, false, by omega, by omega, rfl, by go_num, hT.out, hbr.trans ⟨rfl, rfl, rfl, Nat.le_refl _, fun _ _ => rfl⟩⟩
          · obtain rfl : j = m := by omega
            as_aux_lemma =>
            have hnli : ¬ (j : Int) < (j : Int) := by omega
            rw [List.take_of_length_le (by have := hglH.out; omega)] at hbj
            have hVH : Hid (bj = false → bl = true → GV = (p.2.2.1, true)) := Lib.hid (fun h1 h2 => by
              rw [← hbj, Bool.or_eq_false_iff] at h1
              refine hL1H.out (fun hm => ?_) (fun hm => ?_) (fun a ha => ?_)
              · obtain ⟨a, ha, hat⟩ := List.mem_map.1 hm
                exact absurd (decide_eq_true hat) (List.any_eq_false.1 (hbkH.out.trans h1.1) a ha)
              · exact absurd (decide_eq_true rfl) (List.any_eq_false.1 h1.2 _ hm)
              · exact of_decide_eq_true (List.all_eq_true.1 (hblH.out.trans h2) a ha))
            clear hbj hbkH hblH hL1H
            obtain ⟨wB, hwB⟩ : ∃ wB, wB = wr := ⟨_, rfl⟩
            subst hwB
            have hXB := Lib.hid (And.intro ((hXA.out.1.below hbr).more hz) ((hXA.out.2.below hbr).more hz))
            have hYB := Lib.hid (And.intro ((hYA.out.1.below hbr).more hz) ((hYA.out.2.below hbr).more hz))
            have hbXB := Lib.hid (blk_below hbXA.out hbr)
            have hbYB := Lib.hid (blk_below hbYA.out hbr)
            clear hXA hYA hbXA hbYA hbr hGw hGr hz
            have hbYr := hbYB.out
            have hlty := blk_lt hbYr
            have y0 := blk_cell hbYr 0
            have y1 := blk_cell hbYr 1
            simp at y0 y1
            clear hbYr
            go_wp2_with fail
            refine (cGy.out A2 n2 c2 B2 m2 d2 wB hYB.out.1 hYB.out.2).mono ?_
            rintro r w20 ⟨rfl, hv20⟩
            have hG20 : Below W.heap.size W w20 := hGs.trans (hv20.mono hGs.size)
            have hz20 := hv20.size
            have hX20 := Lib.hid (And.intro ((hXB.out.1.below hv20).more hz20) ((hXB.out.2.below hv20).more hz20))
            have hY20 := Lib.hid (And.intro ((hYB.out.1.below hv20).more hz20) ((hYB.out.2.below hv20).more hz20))
            have hbX20 := Lib.hid (blk_below hbXB.out hv20)
            have hbY20 := Lib.hid (blk_below hbYB.out hv20)
            clear hXB hYB hbXB hbYB hv20 hGs y0 y1 hlty a0 a1 a2 a3 a4 a5 a6 hlta s0 s1 hltx cGy
            have hv20 := blk_below hVk.out hG20
            have a0 := blk_cell hv20 0
            have a1 := blk_cell hv20 1
            have a2 := blk_cell hv20 2
            have a3 := blk_cell hv20 3
            have a4 := blk_cell hv20 4
            have a5 := blk_cell hv20 5
            have a6 := blk_cell hv20 6
            simp at a0 a1 a2 a3 a4 a5 a6
            have hlta := blk_lt hv20
            clear hv20
            obtain ⟨V1, V2⟩ := GV
            go_upto_region 21 with (fail)
            go_cut [139] (fun sa wx => sa = .bool false ∧ Below w20.heap.size w20 wx)
            case first =>
              cases bj with
              | true =>
                go_wp2_with fail
                go_meet
                exact ⟨rfl, Below.refl _ _⟩
              | false =>
                cases bl with
                | false =>
                  go_wp2_with fail
                  go_meet
                  exact ⟨rfl, Below.refl _ _⟩
                | true =>
                  obtain ⟨rfl, rfl⟩ := Prod.mk.inj (hVH.out rfl rfl)
                  go_wp2_with fail
                  go_meet
                  exact ⟨rfl, Below.refl _ _⟩
            obtain ⟨rfl, hB21⟩ := hcut
            obtain ⟨w21, hw21⟩ : ∃ w21, w21 = wc := ⟨_, rfl⟩
            obtain rfl := hw21
            have hG21 : Below W.heap.size W w21 := hG20.trans (hB21.mono hG20.size)
            have hz21 := hB21.size
            have hX21 := Lib.hid (And.intro ((hX20.out.1.below hB21).more hz21) ((hX20.out.2.below hB21).more hz21))
            have hY21 := Lib.hid (And.intro ((hY20.out.1.below hB21).more hz21) ((hY20.out.2.below hB21).more hz21))
            have hbX21 := Lib.hid (blk_below hbX20.out hB21)
            have hbY21 := Lib.hid (blk_below hbY20.out hB21)
            clear hX20 hY20 hbX20 hbY20 hB21 hG20 a0 a1 a2 a3 a4 a5 a6 hlta hVH
            have hv21 := blk_below hVk.out hG21
            have a0 := blk_cell hv21 0
            have a1 := blk_cell hv21 1
            have a2 := blk_cell hv21 2
            have a3 := blk_cell hv21 3
            have a4 := blk_cell hv21 4
            have a5 := blk_cell hv21 5
            have a6 := blk_cell hv21 6
            simp at a0 a1 a2 a3 a4 a5 a6
            have hlta := blk_lt hv21
            have hbYr := hbY21.out
            have hlty := blk_lt hbYr
            have y0 := blk_cell hbYr 0
            have y1 := blk_cell hbYr 1
            simp at y0 y1
            clear hv21 hbYr
            have cTg2 := Lib.hid (fun w' (hh : KQ w21.heap.size w21 w') => cTg.out A2 n2 c2 B2 m2 d2 w' ((hY21.out.1.below hh.1).more hh.1.size) ((hY21.out.2.below hh.1).more hh.1.size))
            have cD2 := Lib.hid (fun C' k f' w' (hh : KQ w21.heap.size w21 w') (h3 : RdT w' w'.heap.size C' k S) => cD.out A2 n2 c2 B2 m2 d2 C' k f' w' ((hY21.out.1.below hh.1).more hh.1.size) ((hY21.out.2.below hh.1).more hh.1.size) h3)
            clear cTg cD
            go_upto_region 23 with (fail)
            go_cut [16, 17] (fun sa sb wx => ∃ g A' n' c' B' m' d', sa = .pointer (some ⟨g, 0, none⟩) ∧ w21.heap.size ≤ g ∧ sb = .int .i64 Z.2 ∧ wx.heap[g]? = some (.cells #[.slice A' n' c', .slice B' m' d'] 56 (0, 0)) ∧ RdP wx wx.heap.size A' n' Z.1.1 ∧ RdT wx wx.heap.size B' m' Z.1.2 ∧ n' ≤ 5000 ∧ m' ≤ 9000 ∧ Below w21.heap.size w21 wx)
            case first =>
              have hq0 : KQ w21.heap.size w21 w21 := kq (Below.refl _ _)
              go_region_held3 (fun w' => KQ w21.heap.size w21 w') (first
      | with_reducible exact kq_call (by assumption) (by simp) (by assumption)
      | with_reducible exact kq_grown (by assumption) (by simp) (by assumption) (by simp [Value.ownBlock])
      | ((repeat (first | (with_reducible refine kq_set ?_ (by first | (simp; done) | (simp; omega) | omega) _) | (with_reducible refine kq_alloc ?_ (by first | exact Nat.le_refl _ | (simp; done) | (simp; omega)) _))); (with_reducible assumption))
      | ((with_reducible refine kq ?_); (repeat (first | (with_reducible exact Below.refl _ _) | (with_reducible refine Below.drew ?_) | (with_reducible refine Below.alloc ?_ (by simp) _) | (with_reducible refine Below.setCell ?_ (by simp) _) | (with_reducible exact (by assumption : KQ _ _ _).1))); done))
                (first
                  | (go_at_call 32
                     (with_reducible refine (cTg2.out _ (by first | with_reducible assumption | exact kq_drew (Below.refl _ _) | exact kq_drew ((Below.refl _ _).alloc (Nat.le_refl _) _) | exact kq (((Below.refl _ _).drew).alloc (by simp) _) | fail : KQ w21.heap.size w21 _)).mono ?_)
                     rintro e v1 ⟨T1, k1, f1, rfl, oS, hv1⟩
                     have hz1 := hv1.size
                     (try simp at hz1)
                     have hq1 : KQ w21.heap.size w21 v1 := kq_call (by first | with_reducible assumption | exact kq_drew (Below.refl _ _) | exact kq_drew ((Below.refl _ _).alloc (Nat.le_refl _) _) | exact kq (((Below.refl _ _).drew).alloc (by simp) _)) (Nat.le_refl _) hv1
                     (try (have hx1 : v1.heap[w21.heap.size]? = some (.cells #[.slice none 0 0, .slice none 0 0] 56 (0, 0)) := (hv1.block _ (by simp; done)).trans (by first | exact heap_drew (heap_at _ _ rfl) | exact heap_at _ _ rfl)))
                    )
                  | (go_at_call 49
                     (with_reducible refine (cD2.out T1 k1 f1 _ (by first | with_reducible assumption | exact kq_alloc (by with_reducible assumption) (Nat.le_refl _) _ | fail : KQ w21.heap.size w21 _) (by first | exact oS.rdT | exact (oS.below ((Below.refl _ _).alloc (Nat.le_refl _) _)).rdT | fail)).mono ?_)
                     rintro e v5 ⟨A5, n5, c5, B5, m5, d5, rfl, hY1, hY2, hn5, hm5, _, _, _, _, hb5⟩
                     have hz5 := hb5.size
                     (try simp at hz5)
                     have hq5 : KQ w21.heap.size w21 v5 := kq_call (by first | with_reducible assumption | exact kq_alloc (by with_reducible assumption) (Nat.le_refl _) _ | exact kq_alloc (kq_alloc (by with_reducible assumption) (Nat.le_refl _) _) (Nat.le_refl _) _ | fail) (Nat.le_refl _) hb5
                     (first
                       | (have hx5 : v5.heap[w21.heap.size]? = some (.cells #[.slice none 0 0, .slice none 0 0] 56 (0, 0)) := (hb5.block _ (by first | exact blk_lt hx1 | (have h9 := blk_lt hx1; simp only [World.size_alloc]; omega) | fail)).trans (by first | exact hx1 | exact heap_old _ (blk_lt hx1) hx1 | fail)
                          have hfx := blk_frozen hx5
                          have hlx := blk_lt hx5
                          have x0 := blk_cell hx5 0
                          have x1 := blk_cell hx5 1
                          simp at x0 x1)
                       | (have hx5 : v5.heap[v1.heap.size]? = some (.cells #[.slice none 0 0, .slice none 0 0] 56 (0, 0)) := (hb5.block _ (by first | (simp only [World.size_alloc]; omega) | fail)).trans (by first | exact heap_at _ _ rfl | exact heap_old _ (by first | (simp only [World.size_alloc]; omega) | fail) (heap_at _ _ rfl) | fail)
                          have hfx := blk_frozen hx5
                          have hlx := blk_lt hx5
                          have x0 := blk_cell hx5 0
                          have x1 := blk_cell hx5 1
                          simp at x0 x1)
                       | (have hx5 : v5.heap[v1.heap.size + 1]? = some (.cells #[.slice none 0 0, .slice none 0 0] 56 (0, 0)) := (hb5.block _ (by first | (simp only [World.size_alloc]; omega) | fail)).trans (by first | exact heap_at _ _ (by first | (simp only [World.size_alloc]; done) | fail) | fail)
                          have hfx := blk_frozen hx5
                          have hlx := blk_lt hx5
                          have x0 := blk_cell hx5 0
                          have x1 := blk_cell hx5 1
                          simp at x0 x1)
                       | skip)
                    )
                  | fail "no arm")
              all_goals
              (have hYH := Lib.hid (And.intro hY1 hY2)
               have hk5 : Below w21.heap.size w21 v5 := hq5.1
               have hk5H := Lib.hid hk5
               have hzk := hk5.size
               go_wp2_with fail
               go_meet
               first
                 | (have hb3 : Below v5.heap.size v5 (v5.alloc (.cells #[.slice A5 n5 c5, .slice B5 m5 d5] 56)) := (Below.refl _ v5).alloc (Nat.le_refl _) _
                    exact ⟨v5.heap.size, A5, n5, c5, B5, m5, d5, rfl, hzk, rfl, heap_at _ _ rfl, (hYH.out.1.below hb3).more hb3.size, (hYH.out.2.below hb3).more hb3.size, hn5, hm5, hk5H.out.trans (hb3.mono hzk)⟩)
                 | (have ha3 := (hYH.out.1.set_other hx5 0 (.slice A5 n5 c5)).set_other (blk_set hx5 0 (.slice A5 n5 c5)) 1 (.slice B5 m5 d5)
                    have hb3 := (hYH.out.2.set_other hx5 0 (.slice A5 n5 c5)).set_other (blk_set hx5 0 (.slice A5 n5 c5)) 1 (.slice B5 m5 d5)
                    have hx3 := blk_set (blk_set hx5 0 (.slice A5 n5 c5)) 1 (.slice B5 m5 d5)
                    exact ⟨_, A5, n5, c5, B5, m5, d5, rfl, by omega, rfl, hx3, by rw [World.size_setCell, World.size_setCell]; exact ha3, by rw [World.size_setCell, World.size_setCell]; exact hb3, hn5, hm5, (hk5H.out.setCell (by dsimp only; omega) _).setCell (by dsimp only; omega) _⟩))
            obtain ⟨g16, A7, n7, c7, B7, m7, d7, rfl, hg16, rfl, hbZ, hZ1, hZ2, _, _, hB23⟩ := hcut
            obtain ⟨w23, hw23⟩ : ∃ w23, w23 = wc := ⟨_, rfl⟩
            obtain rfl := hw23
            have hG23 : Below W.heap.size W w23 := hG21.trans (hB23.mono hG21.size)
            have hz23 := hB23.size
            have hX23 := Lib.hid (And.intro ((hX21.out.1.below hB23).more hz23) ((hX21.out.2.below hB23).more hz23))
            have hbX23 := Lib.hid (blk_below hbX21.out hB23)
            have hZ23 := Lib.hid (And.intro hZ1 hZ2)
            have hbZ23 := Lib.hid hbZ
            clear hX21 hY21 hbX21 hbY21 hB23 hG21 a0 a1 a2 a3 a4 a5 a6 hlta y0 y1 hlty cTg2 cD2 hZ1 hZ2
            rw [hZ0H.out]
            have hltz := blk_lt hbZ
            have z0 := blk_cell hbZ 0
            have z1 := blk_cell hbZ 1
            simp at z0 z1
            have hv23 := blk_below hVk.out hG23
            have a0 := blk_cell hv23 0
            have a1 := blk_cell hv23 1
            have a2 := blk_cell hv23 2
            have a3 := blk_cell hv23 3
            have a4 := blk_cell hv23 4
            have a5 := blk_cell hv23 5
            have a6 := blk_cell hv23 6
            simp at a0 a1 a2 a3 a4 a5 a6
            have hlta := blk_lt hv23
            clear hbZ hv23
            obtain ⟨Z1, Z2⟩ := GZ
            obtain rfl : Z2 = false := hZfH.out
            go_wp2_with fail
            refine (cGz.out A7 n7 c7 B7 m7 d7 w23 hZ23.out.1 hZ23.out.2).mono ?_
            rintro r w24 ⟨rfl, hv24⟩
            have hz24 := hv24.size
            have hG24 : Below W.heap.size W w24 := hG23.trans (hv24.mono hG23.size)
            have hX24 := (And.intro ((hX23.out.1.below hv24).more hz24) ((hX23.out.2.below hv24).more hz24))
            have hZ24 := Lib.hid (And.intro ((hZ23.out.1.below hv24).more hz24) ((hZ23.out.2.below hv24).more hz24))
            have hbX24 := blk_below hbX23.out hv24
            have hbZ24 := Lib.hid (blk_below hbZ23.out hv24)
            have hX24H := Lib.hid hX24
            clear hX23 hbX23 hZ23 hbZ23 hG23 hv24 a0 a1 a2 a3 a4 a5 a6 hlta z0 z1 hltz cGz hX24
            have hltx := blk_lt hbX24
            have s0 := blk_cell hbX24 0
            have s1 := blk_cell hbX24 1
            simp at s0 s1
            clear hbX24
            go_wp2_with fail
            refine (cGx.out A1 c1 B1 d1 w24 hX24H.out.1 hX24H.out.2).mono ?_
            rintro r w25 ⟨rfl, hv25⟩
            have hz25 := hv25.size
            have hG25 : Below W.heap.size W w25 := hG24.trans (hv25.mono hG24.size)
            have hZ25 := Lib.hid (And.intro ((hZ24.out.1.below hv25).more hz25) ((hZ24.out.2.below hv25).more hz25))
            have hbZ25 := blk_below hbZ24.out hv25
            clear s0 s1 hltx hX24H hZ24 hbZ24 hG24 hv25 cGx
            have hltx := blk_lt hbZ25
            have s0 := blk_cell hbZ25 0
            have s1 := blk_cell hbZ25 1
            simp at s0 s1
            clear hbZ25
            go_wp2_with fail
            refine (cGo.out A7 n7 c7 B7 m7 d7 w25 hZ25.out.1 hZ25.out.2).mono ?_
            rintro r w26 ⟨rfl, hv26⟩
            have hG26 : Below W.heap.size W w26 := hG25.trans (hv26.mono hG25.size)
            have hfin := hW.trans (hG26.mono hzW)
            clear s0 s1 hltx hZ25 hG25 hv26 cGo
            have hv26 := blk_below hVk.out hG26
            have a0 := blk_cell hv26 0
            have a1 := blk_cell hv26 1
            have a2 := blk_cell hv26 2
            have a3 := blk_cell hv26 3
            have a4 := blk_cell hv26 4
            have a5 := blk_cell hv26 5
            have a6 := blk_cell hv26 6
            simp at a0 a1 a2 a3 a4 a5 a6
            have hlta := blk_lt hv26
            clear hv26
            by_cases hoe : o = p.2.1
            · have hqb : ((bs o).toList == (bs p.2.1).toList) = true := by rw [hoe]; simp
              clear hoe
              go_wp2
              go_ret
              exact ⟨rfl, hfin⟩
            · have hqb : ((bs o).toList == (bs p.2.1).toList) = false := by rw [bs_empty, bs_empty, beq_eq_false_iff_ne]; exact hoe
              obtain rfl : GX = GO := hLoH.out hoe
              obtain ⟨X1, X2⟩ := GX
              have hbb : (X2 == X2) = true := by cases X2 <;> rfl
              clear hoe
              go_wp2
              go_ret
              exact ⟨rfl, hfin⟩
end Go.Proofs.Ytadldndmmobpdaa
