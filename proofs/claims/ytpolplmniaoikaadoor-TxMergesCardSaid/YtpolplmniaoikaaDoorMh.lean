/- slices.SortStableFunc at parts: the merge, whole. -/
import Derived.Test.YtpolplmniaoikaaDoorMg
namespace Go.Proofs.YtpolplmniaoikaaDoor
open Go.RowKit

set_option maxRecDepth 100000 in
set_option maxHeartbeats 4000000 in
theorem symm2_any (base g n c a m b : Nat) (hbm : b = m + 1) (hma : a + 1 < m) (ps : List Pe) (w : World) (_hB : base ≤ w.heap.size) (hown : Ow w base 69 10 (.slice (some ⟨g, 0, none⟩) n c) (ps.map Pe.enc)) (hn : n ≤ 1000) (hb : b ≤ n) (hs : So Pe.num a m ps) :
    Calls Tryd.prog 43 #[.slice (some ⟨g, 0, none⟩) n c, .int .i64 (a : Int), .int .i64 (m : Int), .int .i64 (b : Int), .func (.func 15) #[] #[]] w
      (fun e w' => e = .returned (.tuple #[]) ∧ ∃ ys : List Pe, Mv a b ps ys ∧ So Pe.num a b ys ∧ Ow w' base 69 10 (.slice (some ⟨g, 0, none⟩) n c) (ys.map Pe.enc) ∧ w.grownBy w' (some g)) := by
  have hl : ps.length = n := by simpa using hown.rd.2.1
  obtain ⟨dd, hdd⟩ : ∃ dd : Int, (m : Int) - (a : Int) = dd := ⟨_, rfl⟩
  have hd1 : ¬ dd = 1 := by omega
  have hbmw : (b : Int) - (m : Int) = 1 := by omega
  obtain ⟨y, hy⟩ : ∃ y, ps[m]? = some y := ⟨_, List.getElem?_eq_getElem (by omega)⟩
  obtain ⟨g', he, _, hgl, hgf, hgc⟩ := hown.addr (by omega)
  injection he with he
  injection he with he
  subst he
  have hcx := hgc (m) y.enc (by rw [List.getElem?_map, hy]; rfl)
  have q0 := hcx 0 _ rfl
  have q1 := hcx 1 _ rfl
  have q2 := hcx 2 _ rfl
  have q3 := hcx 3 _ rfl
  have q4 := hcx 4 _ rfl
  have q5 := hcx 5 _ rfl
  have q6 := hcx 6 _ rfl
  have q7 := hcx 7 _ rfl
  have q8 := hcx 8 _ rfl
  have q9 := hcx 9 _ rfl
  rw [Nat.add_zero] at q0
  clear hcx
  clear hgc hgf
  have hownH := Lib.hid hown
  have hyH := Lib.hid hy
  have hsH := Lib.hid hs
  have hbmH := Lib.hid hbm
  clear hown hy hs
  have hmn : m < n := by omega
  have hddH := Lib.hid hdd
  go_enter Tryd.func43, Tryd.ntmps43
  go_wp2_with fail
  clear hdd hbm
  go_loopg [14, 15] (m - a + 1) (fun gg u v wr => ∃ p r : Nat, a ≤ p ∧ p ≤ r ∧ r ≤ m ∧ gg = r - p + 1 ∧ u = .int .i64 (p : Int) ∧ v = .int .i64 (r : Int) ∧ (∀ k x, a ≤ k → k < p → ps[k]? = some x → x.num ≤ y.num) ∧ (∀ k x, r ≤ k → k < m → ps[k]? = some x → y.num < x.num) ∧ Below w.heap.size w wr)
  case atStart => exact ⟨a, m, Nat.le_refl _, by omega, Nat.le_refl _, rfl, rfl, rfl, fun k x h1 h2 => by omega, fun k x h1 h2 => by omega, Below.refl _ _⟩
  case round =>
    obtain ⟨p, r, hap, hpr, hrm, rfl, rfl, rfl, hlo, hhi, hbr⟩ := hrel
    have hloH := Lib.hid hlo
    have hhiH := Lib.hid hhi
    clear hlo hhi
    have hz := hbr.size
    by_cases hlt : p < r
    · obtain ⟨h, hh⟩ : ∃ h : Nat, h = (p + r) / 2 := ⟨_, rfl⟩
      have hph : p ≤ h := by omega
      have hhq : h < r := by omega
      have hlti : (p : Int) < (r : Int) := by omega
      have hmid : ((p : Int) + (r : Int)) / 2 = (h : Int) := by omega
      clear hh
      have hownr := hownH.out.below hbr
      obtain ⟨x, hx⟩ : ∃ x, ps[h]? = some x := ⟨_, List.getElem?_eq_getElem (by omega)⟩
      have hglo := hgl
      obtain ⟨g', he, _, hgl, hgf, hgc⟩ := hownr.addr (by omega)
      injection he with he
      injection he with he
      subst he
      have hcx := hgc (h) x.enc (by rw [List.getElem?_map, hx]; rfl)
      have p0 := hcx 0 _ rfl
      have p1 := hcx 1 _ rfl
      have p2 := hcx 2 _ rfl
      have p3 := hcx 3 _ rfl
      have p4 := hcx 4 _ rfl
      have p5 := hcx 5 _ rfl
      have p6 := hcx 6 _ rfl
      have p7 := hcx 7 _ rfl
      have p8 := hcx 8 _ rfl
      have p9 := hcx 9 _ rfl
      rw [Nat.add_zero] at p0
      clear hcx
      have r0 := (hbr.cell (p := ⟨g, _, none⟩) hglo).trans q0
      have r1 := (hbr.cell (p := ⟨g, _, none⟩) hglo).trans q1
      have r2 := (hbr.cell (p := ⟨g, _, none⟩) hglo).trans q2
      have r3 := (hbr.cell (p := ⟨g, _, none⟩) hglo).trans q3
      have r4 := (hbr.cell (p := ⟨g, _, none⟩) hglo).trans q4
      have r5 := (hbr.cell (p := ⟨g, _, none⟩) hglo).trans q5
      have r6 := (hbr.cell (p := ⟨g, _, none⟩) hglo).trans q6
      have r7 := (hbr.cell (p := ⟨g, _, none⟩) hglo).trans q7
      have r8 := (hbr.cell (p := ⟨g, _, none⟩) hglo).trans q8
      have r9 := (hbr.cell (p := ⟨g, _, none⟩) hglo).trans q9
      clear hgc hgf
      have hhn : h < n := by omega
      have hcm := mcmp_any y x
      have hord := Lib.hid (ordI_neg (a := y.num) (b := x.num))
      have hxH := Lib.hid hx
      clear hx hownr
      generalize ordI y.num x.num = z at hcm hord
      have hcm := Lib.hid hcm
      have hq0 : KQ wr.heap.size wr wr := kq (Below.refl _ _)
      by_cases hzn : z < 0
      · have hlt2 := hord.out.1 hzn
        clear q0 q1 q2 q3 q4 q5 q6 q7 q8 q9
        go_wp2_with fail
        go_region_held3 (fun w' => KQ wr.heap.size wr w') (first
      | with_reducible exact kq_call (by assumption) (by simp) (by assumption)
      | with_reducible exact kq_alloc (by with_reducible assumption) (Nat.le_refl _) _
      | with_reducible exact kq_alloc (kq_drew (by assumption)) (Nat.le_refl _) _
      | ((with_reducible refine kq ?_); (repeat (first | (with_reducible exact Below.refl _ _) | (with_reducible refine Below.drew ?_) | (with_reducible refine Below.alloc ?_ (by simp) _) | (with_reducible refine Below.setCell ?_ (by simp) _) | (with_reducible exact (by assumption : KQ _ _ _).1))); done))
          (first | ((with_reducible refine (hcm.out _).mono ?_); rintro e w1 ⟨rfl, hb1⟩))
        have hF : KQ wr.heap.size wr w1 := by with_reducible assumption
        have hG := hbr.trans (hF.1.mono hz)
        clear hF
        go_wp2
        go_roundg (h - p + 1)
        case measure => omega
        case rel =>
          refine ⟨p, h, hap, by omega, by omega, rfl, rfl, rfl, hloH.out, fun k u h1 h2 hu => ?_, hG⟩
          exact Int.lt_of_lt_of_le hlt2 (hsH.out h k x u (by omega) h1 h2 hxH.out hu)
      · have hge : x.num ≤ y.num := by
          have h9 : ¬ y.num < x.num := fun h => hzn (hord.out.2 h)
          omega
        have hcd : decide (z < 0) = false := by simpa using hzn
        clear q0 q1 q2 q3 q4 q5 q6 q7 q8 q9
        go_wp2_with fail
        go_region_held3 (fun w' => KQ wr.heap.size wr w') (first
      | with_reducible exact kq_call (by assumption) (by simp) (by assumption)
      | with_reducible exact kq_alloc (by with_reducible assumption) (Nat.le_refl _) _
      | with_reducible exact kq_alloc (kq_drew (by assumption)) (Nat.le_refl _) _
      | ((with_reducible refine kq ?_); (repeat (first | (with_reducible exact Below.refl _ _) | (with_reducible refine Below.drew ?_) | (with_reducible refine Below.alloc ?_ (by simp) _) | (with_reducible refine Below.setCell ?_ (by simp) _) | (with_reducible exact (by assumption : KQ _ _ _).1))); done))
          (first | ((with_reducible refine (hcm.out _).mono ?_); rintro e w1 ⟨rfl, hb1⟩))
        have hF : KQ wr.heap.size wr w1 := by with_reducible assumption
        have hG := hbr.trans (hF.1.mono hz)
        clear hF
        go_wp2
        go_roundg (r - (h + 1) + 1)
        case measure => omega
        case rel =>
          refine ⟨h + 1, r, by omega, by omega, hrm, rfl, by go_num, rfl, fun k u h1 h2 hu => ?_, hhiH.out, hG⟩
          exact Int.le_trans (hsH.out k h u x h1 (by omega) (by omega) hu hxH.out) hge
    · obtain rfl : p = r := by omega
      have hnlt : ¬ (p : Int) < (p : Int) := by omega
      have hownr := hownH.out.below hbr
      have hgr := Lib.hid (gr_below hbr (some g))
      have hBr : base ≤ wr.heap.size := by omega
      clear q0 q1 q2 q3 q4 q5 q6 q7 q8 q9
      go_wp2_with fail
      obtain ⟨wo, rfl⟩ : ∃ wo : World, wo = wr := ⟨_, rfl⟩
      go_loopg [17] (m - p + 1) (fun gg u wq => ∃ (k : Nat) (cr : List Pe), p ≤ k ∧ k ≤ m ∧ gg = k - p + 1 ∧ u = .int .i64 (k : Int) ∧ cr.Perm ps ∧ (∀ q, cr[q]? = dnF (fun k => ps[k]?) m k q) ∧ Ow wq base 69 10 (.slice (some ⟨g, 0, none⟩) n c) (cr.map Pe.enc) ∧ wo.grownBy wq (some g))
      case atStart => exact ⟨m, ps, by omega, Nat.le_refl _, rfl, rfl, List.Perm.refl _, fun q => (dnF_zero _ _ _).symm, hownr, World.grownBy.refl _ _⟩
      case round =>
        clear hownr
        obtain ⟨k, cr, hpk, hkm, rfl, rfl, hp, hq, hown, hg⟩ := hrel
        have hpH := Lib.hid hp
        have hqH := Lib.hid hq
        have hgH2 := Lib.hid hg
        have hcl : cr.length = n := by rw [hp.length_eq, hl]
        clear hp hq hg
        by_cases h1 : p < k
        · have h1i : (p : Int) < (k : Int) := by omega
          obtain ⟨j, rfl⟩ : ∃ j, k = j + 1 := ⟨k - 1, by omega⟩
          obtain ⟨x, hx⟩ : ∃ x, cr[j + 1]? = some x := ⟨_, List.getElem?_eq_getElem (by omega)⟩
          obtain ⟨y, hy⟩ : ∃ y, cr[j]? = some y := ⟨_, List.getElem?_eq_getElem (by omega)⟩
          have hir : j + 1 < n := by omega
          have hir2 : j < n := by omega
          obtain ⟨g', he, _, hgl, hgf, hgc⟩ := hown.addr (by omega)
          injection he with he
          injection he with he
          subst he
          have hcx := hgc (j + 1) x.enc (by rw [List.getElem?_map, hx]; rfl)
          have p0 := hcx 0 _ rfl
          have p1 := hcx 1 _ rfl
          have p2 := hcx 2 _ rfl
          have p3 := hcx 3 _ rfl
          have p4 := hcx 4 _ rfl
          have p5 := hcx 5 _ rfl
          have p6 := hcx 6 _ rfl
          have p7 := hcx 7 _ rfl
          have p8 := hcx 8 _ rfl
          have p9 := hcx 9 _ rfl
          rw [Nat.add_zero] at p0
          clear hcx
          have hcx := hgc (j) y.enc (by rw [List.getElem?_map, hy]; rfl)
          have q0 := hcx 0 _ rfl
          have q1 := hcx 1 _ rfl
          have q2 := hcx 2 _ rfl
          have q3 := hcx 3 _ rfl
          have q4 := hcx 4 _ rfl
          have q5 := hcx 5 _ rfl
          have q6 := hcx 6 _ rfl
          have q7 := hcx 7 _ rfl
          have q8 := hcx 8 _ rfl
          have q9 := hcx 9 _ rfl
          rw [Nat.add_zero] at q0
          clear hcx
          have hwr : IntKind.i64.wrap (((j + 1 : Nat) : Int) - 1) = ((j : Nat) : Int) := by rw [IntWalk.i64_in _ (by omega)]; omega
          have hsw := Lib.hid (hown.swapE hir hir2 hx hy)
          have hpS : Hid ((swp cr (j + 1) j).Perm ps) := Lib.hid ((swp_perm _ _ _).trans hpH.out)
          have hqS := Lib.hid (dnF_step (xs := cr) (by omega) (by omega) hqH.out)
          clear hgc hx hy hown
          generalize hi1 : j + 1 = i1 at *
          generalize hi2 : j = i2 at *
          have hne : i1 ≠ i2 := by omega
          go_wp2
          go_region
          have hown2 := hsw.out
          have hg2 : wr.grownBy ((wr.setCells g (i1 * 10) (Pe.enc y)).setCells g (i2 * 10) (Pe.enc x)) (some g) := gr_setCells _ _ (gr_setCells _ _ (World.grownBy.refl _ _))
          simp only [Pe.enc, World.setCells, Nat.add_assoc, Nat.reduceAdd] at hown2 hg2
          have hown2 := Lib.hid hown2
          have hg2 := Lib.hid hg2
          generalize hwn : World.setCell _ _ _ = wn at hown2 hg2 ⊢
          clear hwn
          clear hsw p0 p1 p2 p3 p4 p5 p6 p7 p8 p9 q0 q1 q2 q3 q4 q5 q6 q7 q8 q9
          go_wp2
          go_roundg (i2 - p + 1)
          case measure => omega
          case rel => exact ⟨i2, _, by omega, by omega, rfl, by go_num, hpS.out, hqS.out, hown2.out.below (Below.refl _ _).drew, (hgH2.out.trans hg2.out).trans (gr_below (Below.refl _ _).drew _)⟩
        · obtain rfl : p = k := by omega
          have h1i : ¬ (p : Int) < (p : Int) := by omega
          have hso : Hid (So Pe.num a b cr) := Lib.hid (So.down (p := p) hbmH.out hsH.out hap hkm (fun j u v h1 h2 hu hv => by
              obtain rfl : y = v := Option.some.inj (hyH.out.symm.trans hv)
              exact hloH.out j u h1 h2 hu) (fun j u v h1 h2 hu hv => by
              obtain rfl : y = v := Option.some.inj (hyH.out.symm.trans hv)
              exact Int.le_of_lt (hhiH.out j u h1 h2 hu)) (fun j h1 h2 => by rw [hqH.out]; unfold dnF; rw [if_pos (by omega)]) (by rw [hqH.out]; unfold dnF; rw [if_neg (by omega), if_pos rfl]) (fun j h1 => by rw [hqH.out]; unfold dnF; rw [if_neg (by omega), if_neg (by omega)]))
          have hbb : Hid (m < b) := Lib.hid (by have := hbmH.out; omega)
          go_wp2
          ((try simp only [Exit.inBlock, Exit.then]); refine bodyPost_ret (results_none rfl _ _ _) rfl ?_)
          exact ⟨rfl, cr, Mv.of_dn hpH.out hap hkm hbb.out hqH.out, hso.out, hown, hgr.out.trans hgH2.out⟩
end Go.Proofs.YtpolplmniaoikaaDoor
