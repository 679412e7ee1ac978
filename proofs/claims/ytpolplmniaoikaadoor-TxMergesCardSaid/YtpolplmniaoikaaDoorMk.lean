/- slices.SortStableFunc at parts: the merge, its last way and the whole. -/
import Derived.Test.YtpolplmniaoikaaDoorMj
namespace Go.Proofs.YtpolplmniaoikaaDoor
open Go.RowKit

set_option maxRecDepth 100000 in
set_option maxHeartbeats 8000000 in
theorem symm3b (base g n c : Nat) (hn : n ≤ 1000) (L : Nat) (ih : SyAll base g n c L) (a m b : Nat) (ps : List Pe) (w : World) (hL : b - a ≤ L + 1) (hB : base ≤ w.heap.size) (hown : Ow w base 69 10 (.slice (some ⟨g, 0, none⟩) n c) (ps.map Pe.enc)) (ham : a < m) (hmb : m < b) (hb : b ≤ n) (hs1 : So Pe.num a m ps) (hs2 : So Pe.num m b ps) (hm1 : ¬ m = a + 1) (hb1 : ¬ b = m + 1) (hgt : ¬ (a + b) / 2 < m) :
    Calls Tryd.prog 43 #[.slice (some ⟨g, 0, none⟩) n c, .int .i64 (a : Int), .int .i64 (m : Int), .int .i64 (b : Int), .func (.func 15) #[] #[]] w
      (fun e w' => e = .returned (.tuple #[]) ∧ ∃ ys : List Pe, Mv a b ps ys ∧ So Pe.num a b ys ∧ Ow w' base 69 10 (.slice (some ⟨g, 0, none⟩) n c) (ys.map Pe.enc) ∧ w.grownBy w' (some g)) := by
  have hl : ps.length = n := by simpa using hown.rd.2.1
  obtain ⟨d1, hd1⟩ : ∃ d1 : Int, (m : Int) - (a : Int) = d1 := ⟨_, rfl⟩
  obtain ⟨d2, hd2⟩ : ∃ d2 : Int, (b : Int) - (m : Int) = d2 := ⟨_, rfl⟩
  have hn1 : ¬ d1 = 1 := by omega
  have hn2 : ¬ d2 = 1 := by omega
  have hn1b : (d1 == 1) = false := by simpa using hn1
  have hn2b : (d2 == 1) = false := by simpa using hn2
  obtain ⟨md, hmdE⟩ : ∃ md : Nat, (a + b) / 2 = md := ⟨_, rfl⟩
  rw [hmdE] at hgt
  have hmid : ((a : Int) + (b : Int)) / 2 = (md : Int) := by omega
  have hmd1 : a < md := by omega
  have hmd2 : md < b := by omega
  obtain ⟨N1, hN1⟩ : ∃ N1 : Nat, N1 = md + m := ⟨_, rfl⟩
  obtain ⟨P, hP⟩ : ∃ P : Nat, P = md + m - 1 := ⟨_, rfl⟩
  have hN1i : (md : Int) + (m : Int) = (N1 : Int) := by omega
  have hPi : (N1 : Int) - 1 = (P : Int) := by omega
  have hfin : ∀ s, Cut2 Pe.num ps a m b s → ∀ zs : List Pe, zs.Perm ps → (∀ q, zs[q]? = rotF (fun k => ps[k]?) s m (m + md - s) q) → Mv a b ps zs ∧ So Pe.num a s zs ∧ So Pe.num s md zs ∧ So Pe.num md (m + md - s) zs ∧ So Pe.num (m + md - s) b zs ∧ Le Pe.num a md md b zs := fun s hc zs hp hz => by
    have hh := hc.halves (by omega) hs1 hs2 (zs := zs) (by rw [hmdE]; exact hz)
    rw [hmdE] at hh
    have c1 := hc.lo
    have c2 := hc.le
    have c3 := hc.hi
    have c4 := hc.ge
    rw [hmdE] at c3 c4
    exact ⟨(Mv.of_rot hp c2 c4 hz).mono c1 c3, hh⟩
  have hfin := Lib.hid hfin
  unfold SyAll at ih
  have hih := Lib.hid ih
  have hownH := Lib.hid hown
  have hmdH := Lib.hid hmdE
  have hd1H := Lib.hid hd1
  have hd2H := Lib.hid hd2
  have hNH := Lib.hid hN1
  have hPH := Lib.hid hP
  have hlH := Lib.hid hl
  have hs1H := Lib.hid hs1
  have hs2H := Lib.hid hs2
  clear ih hown hmdE hN1 hP hs1 hs2
  have f2 : a ≤ m := by omega
  have f4 : m ≤ md := by omega
  have f5 : m + md - a ≤ b := by have := hmdH.out; omega
  have fL : a = a ∨ m + md - a = b := .inl rfl
  have fH : m = m ∨ m = m + md - m := .inl rfl
  have hgti : ¬ (md : Int) < (m : Int) := by omega
  go_enter Tryd.func43, Tryd.ntmps43
  go_wp2_with fail
  go_loopg [20, 21] (m - a + 1) (fun gg u v wr => ∃ s r : Nat, a ≤ s ∧ s ≤ r ∧ r ≤ m ∧ gg = r - s + 1 ∧ u = .int .i64 (s : Int) ∧ v = .int .i64 (r : Int) ∧ (s = a ∨ ∀ x y, ps[s - 1]? = some x → ps[m + md - s]? = some y → x.num ≤ y.num) ∧ (r = m ∨ ∀ x y, ps[m + md - r - 1]? = some x → ps[r]? = some y → x.num ≤ y.num) ∧ Below w.heap.size w wr)
  case atStart => exact ⟨a, m, Nat.le_refl _, by omega, Nat.le_refl _, rfl, rfl, rfl, .inl rfl, .inl rfl, Below.refl _ _⟩
  case round =>
    obtain ⟨s, r, hls, hsr, hrh, rfl, rfl, rfl, hL', hR', hbr⟩ := hrel
    have hLH := Lib.hid hL'
    have hRH := Lib.hid hR'
    clear hL' hR'
    have hz := hbr.size
    by_cases hlt : s < r
    · as_aux_lemma =>
      obtain ⟨h, hh⟩ : ∃ h : Nat, h = (s + r) / 2 := ⟨_, rfl⟩
      have hph : s ≤ h := by omega
      have hhq : h < r := by omega
      have hlti : (s : Int) < (r : Int) := by omega
      have hmidh : ((s : Int) + (r : Int)) / 2 = (h : Int) := by omega
      clear hh
      have hNo := hNH.out
      have hPo := hPH.out
      obtain ⟨i1, hi1⟩ : ∃ i1 : Nat, i1 = m + md - h - 1 := ⟨_, rfl⟩
      have hwi : IntKind.i64.wrap ((P : Int) - (h : Int)) = (i1 : Int) := by rw [IntWalk.i64_in _ (by omega)]; omega
      have hi1H := Lib.hid hi1
      have hi1n : i1 < n := by omega
      have hhn : h < n := by omega
      have hownr := hownH.out.below hbr
      obtain ⟨x, hx⟩ : ∃ x, ps[i1]? = some x := ⟨_, List.getElem?_eq_getElem (by omega)⟩
      obtain ⟨y, hy⟩ : ∃ y, ps[h]? = some y := ⟨_, List.getElem?_eq_getElem (by omega)⟩
      obtain ⟨g', he, _, hgl, hgf, hgc⟩ := hownr.addr (by omega)
      injection he with he
      injection he with he
      subst he
      have hcx := hgc (i1) x.enc (by rw [List.getElem?_map, hx]; rfl)
      have p0 := hcx 0 _ rfl
      have p1 := hcx 1 _ rfl
      have p2 := hcx 2 _ rfl
      have p3 := hcx 3 _ rfl
      have p4 := hcx 4 _ rfl
      have p5 := hcx 5 _ rfl
      have p6 := hcx 6 _ rfl
      have p7 := hcx 7 _ rfl
      have p8 := hcx 8 _ rfl
      have p9 := hcx 9 _ rfl
      rw [Nat.add_zero] at p0
      clear hcx
      have hcx := hgc (h) y.enc (by rw [List.getElem?_map, hy]; rfl)
      have q0 := hcx 0 _ rfl
      have q1 := hcx 1 _ rfl
      have q2 := hcx 2 _ rfl
      have q3 := hcx 3 _ rfl
      have q4 := hcx 4 _ rfl
      have q5 := hcx 5 _ rfl
      have q6 := hcx 6 _ rfl
      have q7 := hcx 7 _ rfl
      have q8 := hcx 8 _ rfl
      have q9 := hcx 9 _ rfl
      rw [Nat.add_zero] at q0
      clear hcx
      clear hgc hgf hi1 hNo hPo
      have hcm := mcmp_any x y
      have hord := Lib.hid (ordI_neg (a := x.num) (b := y.num))
      have hxH := Lib.hid hx
      have hyH := Lib.hid hy
      clear hx hy hownr
      generalize ordI x.num y.num = z at hcm hord
      have hcm := Lib.hid hcm
      have hq0 : KQ wr.heap.size wr wr := kq (Below.refl _ _)
      by_cases hzn : z < 0
      · as_aux_lemma =>
        have hlt2 := hord.out.1 hzn
        go_wp2_with fail
        go_region_held3 (fun w' => KQ wr.heap.size wr w') (first
      | with_reducible exact kq_call (by assumption) (by simp) (by assumption)
      | with_reducible exact kq_alloc (by with_reducible assumption) (Nat.le_refl _) _
      | with_reducible exact kq_alloc (kq_drew (by assumption)) (Nat.le_refl _) _
      | ((with_reducible refine kq ?_); (repeat (first | (with_reducible exact Below.refl _ _) | (with_reducible refine Below.drew ?_) | (with_reducible refine Below.alloc ?_ (by simp) _) | (with_reducible refine Below.setCell ?_ (by simp) _) | (with_reducible exact (by assumption : KQ _ _ _).1))); done))
          (first | ((with_reducible refine (hcm.out _).mono ?_); rintro e w1 ⟨rfl, hb1⟩))
        have hF : KQ wr.heap.size wr w1 := by with_reducible assumption
        have hG := hbr.trans (hF.1.mono hz)
        clear hF
        go_wp2
        go_roundg (h - s + 1)
        case measure => omega
        case rel =>
          refine ⟨s, h, hls, by omega, by omega, rfl, rfl, rfl, hLH.out, .inr fun u v hu hv => ?_, hG⟩
          rw [← hi1H.out, hxH.out] at hu
          rw [hyH.out] at hv
          obtain rfl := Option.some.inj hu
          obtain rfl := Option.some.inj hv
          exact Int.le_of_lt hlt2
      · have hge : y.num ≤ x.num := by
          have h9 : ¬ x.num < y.num := fun h => hzn (hord.out.2 h)
          omega
        have hcd : decide (z < 0) = false := by simpa using hzn
        go_wp2_with fail
        go_region_held3 (fun w' => KQ wr.heap.size wr w') (first
      | with_reducible exact kq_call (by assumption) (by simp) (by assumption)
      | with_reducible exact kq_alloc (by with_reducible assumption) (Nat.le_refl _) _
      | with_reducible exact kq_alloc (kq_drew (by assumption)) (Nat.le_refl _) _
      | ((with_reducible refine kq ?_); (repeat (first | (with_reducible exact Below.refl _ _) | (with_reducible refine Below.drew ?_) | (with_reducible refine Below.alloc ?_ (by simp) _) | (with_reducible refine Below.setCell ?_ (by simp) _) | (with_reducible exact (by assumption : KQ _ _ _).1))); done))
          (first | ((with_reducible refine (hcm.out _).mono ?_); rintro e w1 ⟨rfl, hb1⟩))
        have hF : KQ wr.heap.size wr w1 := by with_reducible assumption
        have hG := hbr.trans (hF.1.mono hz)
        clear hF
        go_wp2
        go_roundg (r - (h + 1) + 1)
        case measure => omega
        case rel =>
          refine ⟨h + 1, r, by omega, by omega, hrh, rfl, by go_num, rfl, .inr fun u v hu hv => ?_, hRH.out, hG⟩
          rw [Nat.add_sub_cancel, hyH.out] at hu
          rw [show m + md - (h + 1) = i1 by have := hi1H.out; omega, hxH.out] at hv
          obtain rfl := Option.some.inj hu
          obtain rfl := Option.some.inj hv
          exact hge
    · obtain rfl : s = r := by omega
      as_aux_lemma =>
      have hnlt : ¬ (s : Int) < (s : Int) := by omega
      obtain ⟨E, hE⟩ : ∃ E : Nat, E = m + md - s := ⟨_, rfl⟩
      have hEi : (N1 : Int) - (s : Int) = (E : Int) := by have := hNH.out; omega
      have hcut2 : Cut2 Pe.num ps a m b s := ⟨by omega, by omega, by rw [hmdH.out]; omega, by rw [hmdH.out]; omega, by rw [hmdH.out]; omega, by
          rw [hmdH.out]
          rcases hLH.out with h | h
          · subst h; rcases fL with h | h
            · exact .inl (by first | exact h | rfl)
            · exact .inr (.inl h)
          · exact .inr (.inr h), by
          rw [hmdH.out]
          rcases hRH.out with h | h
          · subst h; rcases fH with h | h
            · exact .inl (by first | exact h | rfl)
            · exact .inr (.inl h)
          · exact .inr (.inr h)⟩
      have hcut2 := Lib.hid hcut2
      have hEH := Lib.hid hE
      have hsE : m ≤ E := by omega
      have hEb : E ≤ b := by omega
      clear hE
      have hownr := Lib.hid (hownH.out.below hbr)
      have hgr := Lib.hid (gr_below hbr (some g))
      have hBr : base ≤ wr.heap.size := Nat.le_trans hB hz
      go_upto_region 39 with (fail)
      go_cut [185] (fun sv wx => sv = .bool (decide (s < m) && decide (m < E)) ∧ wr = wx)
      case first =>
        by_cases h1 : s < m
        · have h1i : ((s : Nat) : Int) < ((m : Nat) : Int) := by omega
          by_cases h2 : m < E
          · have h2i : ((m : Nat) : Int) < ((E : Nat) : Int) := by omega
            have hv := Lib.hid (show (decide (s < m) && decide (m < E)) = true by simp [h1, h2])
            go_wp2_with fail
            all_goals go_meet
            all_goals exact ⟨by rw [hv.out], rfl⟩
          · have h2i : ¬ ((m : Nat) : Int) < ((E : Nat) : Int) := by omega
            have hv := Lib.hid (show (decide (s < m) && decide (m < E)) = false by simp [h2])
            go_wp2_with fail
            all_goals go_meet
            all_goals exact ⟨by rw [hv.out], rfl⟩
        · have h1i : ¬ ((s : Nat) : Int) < ((m : Nat) : Int) := by omega
          have hv := Lib.hid (show (decide (s < m) && decide (m < E)) = false by simp [h1])
          go_wp2_with fail
          all_goals go_meet
          all_goals exact ⟨by rw [hv.out], rfl⟩
      case rest =>
      obtain ⟨rfl, rfl⟩ := hcut
      go_upto_if 185 with (fail)
      go_cut [] (fun wx => ∃ zs : List Pe, zs.Perm ps ∧ (∀ q, zs[q]? = rotF (fun k => ps[k]?) s m E q) ∧ Ow wx base 69 10 (.slice (some ⟨g, 0, none⟩) n c) (zs.map Pe.enc) ∧ w.grownBy wx (some g))
      case first =>
        as_aux_lemma =>
        by_cases h1 : s < m
        · have e1 := decide_eq_true h1
          by_cases h2 : m < E
          · have e2 := decide_eq_true h2
            have cR := Lib.hid (rotate_any base g n c s m E ps (.func (.func 15) #[] #[]) wr hBr hownr.out hn h1 h2 (by omega))
            go_wp2_with fail
            refine cR.out.mono ?_
            rintro e w1 ⟨rfl, zs, z1, z2, z3, z4⟩
            go_wp2
            all_goals go_meet
            exact ⟨zs, z1, z2, z3, hgr.out.trans z4⟩
          · have e2 := decide_eq_false h2
            go_wp2_with fail
            all_goals go_meet
            all_goals exact ⟨ps, List.Perm.refl _, fun q => (rotF_none _ _ _ _ (.inr (by omega)) (by omega) hsE q).symm, hownr.out, hgr.out⟩
        · have e1 := decide_eq_false h1
          go_wp2_with fail
          all_goals go_meet
          all_goals exact ⟨ps, List.Perm.refl _, fun q => (rotF_none _ _ _ _ (.inl (by omega)) (by omega) hsE q).symm, hownr.out, hgr.out⟩
      case rest =>
      obtain ⟨zs, z1, z2, z3, z4⟩ := hcut
      obtain ⟨m1, m2, m3, m4, m5, m6⟩ := hfin.out s hcut2.out zs z1 (by rw [← hEH.out]; exact z2)
      rw [← hEH.out] at m4 m5
      have hB1 : base ≤ wc.heap.size := Nat.le_trans hB z4.size
      have m1 := Lib.hid m1
      have m2 := Lib.hid m2
      have m3 := Lib.hid m3
      have m4 := Lib.hid m4
      have m5 := Lib.hid m5
      have m6 := Lib.hid m6
      have z4 := Lib.hid z4
      have hbmd := hmdH.out
      clear hcut2 hownr hgr z1 z2
      go_upto_region 41 with (fail)
      go_cut [199] (fun sv wx => sv = .bool (decide (a < s) && decide (s < md)) ∧ wc = wx)
      case first =>
        by_cases h1 : a < s
        · have h1i : ((a : Nat) : Int) < ((s : Nat) : Int) := by omega
          by_cases h2 : s < md
          · have h2i : ((s : Nat) : Int) < ((md : Nat) : Int) := by omega
            have hv := Lib.hid (show (decide (a < s) && decide (s < md)) = true by simp [h1, h2])
            go_wp2_with fail
            all_goals go_meet
            all_goals exact ⟨by rw [hv.out], rfl⟩
          · have h2i : ¬ ((s : Nat) : Int) < ((md : Nat) : Int) := by omega
            have hv := Lib.hid (show (decide (a < s) && decide (s < md)) = false by simp [h2])
            go_wp2_with fail
            all_goals go_meet
            all_goals exact ⟨by rw [hv.out], rfl⟩
        · have h1i : ¬ ((a : Nat) : Int) < ((s : Nat) : Int) := by omega
          have hv := Lib.hid (show (decide (a < s) && decide (s < md)) = false by simp [h1])
          go_wp2_with fail
          all_goals go_meet
          all_goals exact ⟨by rw [hv.out], rfl⟩
      case rest =>
      obtain ⟨rfl, rfl⟩ := hcut
      obtain ⟨wx1, hwx1⟩ : ∃ wx1 : World, wx1 = wc := ⟨_, rfl⟩
      go_upto_if 199 with (fail)
      go_cut [] (fun wx => ∃ ys : List Pe, Mv a md zs ys ∧ So Pe.num a md ys ∧ Ow wx base 69 10 (.slice (some ⟨g, 0, none⟩) n c) (ys.map Pe.enc) ∧ wx1.grownBy wx (some g))
      case first =>
        as_aux_lemma =>
        subst hwx1
        by_cases h1 : a < s
        · have e1 := decide_eq_true h1
          by_cases h2 : s < md
          · have e2 := decide_eq_true h2
            have cR := Lib.hid (hih.out a s md zs wx1 (by omega) hB1 z3 h1 h2 (by omega) m2.out m3.out)
            go_wp2_with fail
            refine cR.out.mono ?_
            rintro e w1 ⟨rfl, ys, y1, y2, y3, y4⟩
            go_wp2
            all_goals go_meet
            exact ⟨ys, y1, y2, y3, y4⟩
          · have e2 := decide_eq_false h2
            have hso : Hid (So Pe.num a md zs) := Lib.hid (m2.out.sub (Nat.le_refl _) (by omega))
            go_wp2_with fail
            all_goals go_meet
            all_goals exact ⟨zs, Mv.refl _ _ _, hso.out, z3, World.grownBy.refl _ _⟩
        · have e1 := decide_eq_false h1
          have hso : Hid (So Pe.num a md zs) := Lib.hid (m3.out.sub (by omega) (Nat.le_refl _))
          go_wp2_with fail
          all_goals go_meet
          all_goals exact ⟨zs, Mv.refl _ _ _, hso.out, z3, World.grownBy.refl _ _⟩
      case rest =>
      subst hwx1
      obtain ⟨ys, y1, y2, y3, y4⟩ := hcut
      have n4 : So Pe.num md E ys := m4.out.same (fun k k1 k2 => y1.out k (.inr k1))
      have n5 : So Pe.num E b ys := m5.out.same (fun k k1 k2 => y1.out k (.inr (by omega)))
      have y1 := Lib.hid y1
      have y2 := Lib.hid y2
      have n4 := Lib.hid n4
      have n5 := Lib.hid n5
      have y4 := Lib.hid (z4.out.trans y4)
      have hB2 : base ≤ wc.heap.size := Nat.le_trans hB y4.out.size
      have hend : Hid (∀ us : List Pe, Mv md b ys us → So Pe.num md b us → Mv a b ps us ∧ So Pe.num a b us) := Lib.hid (fun us h1 h2 =>
        ⟨(m1.out.trans (y1.out.mono (Nat.le_refl _) (by omega))).trans (h1.mono (by omega) (Nat.le_refl _)), So.join (y2.out.same (fun k k1 k2 => h1.out k (.inl k2))) h2 (m6.out.moved y1.out h1)⟩)
      by_cases h1 : md < E
      · have h1i : (md : Int) < (E : Int) := by omega
        by_cases h2 : E < b
        · have h2i : (E : Int) < (b : Int) := by omega
          have cR := Lib.hid (hih.out md E b ys wc (by omega) hB2 y3 h1 h2 hb n4.out n5.out)
          go_wp2_with fail
          refine cR.out.mono ?_
          rintro e w1 ⟨rfl, us, u1, u2, u3, u4⟩
          go_wp2
          all_goals go_end0
          all_goals exact ⟨rfl, us, (hend.out us u1 u2).1, (hend.out us u1 u2).2, u3, y4.out.trans u4⟩
        · have h2i : ¬ (E : Int) < (b : Int) := by omega
          have hso : Hid (So Pe.num md b ys) := Lib.hid (n4.out.sub (Nat.le_refl _) (by omega))
          go_wp2_with fail
          all_goals go_end0
          all_goals exact ⟨rfl, ys, (hend.out ys (Mv.refl _ _ _) hso.out).1, (hend.out ys (Mv.refl _ _ _) hso.out).2, y3, y4.out⟩
      · have h1i : ¬ (md : Int) < (E : Int) := by omega
        have hso : Hid (So Pe.num md b ys) := Lib.hid (n5.out.sub (by omega) (Nat.le_refl _))
        go_wp2_with fail
        all_goals go_end0
        all_goals exact ⟨rfl, ys, (hend.out ys (Mv.refl _ _ _) hso.out).1, (hend.out ys (Mv.refl _ _ _) hso.out).2, y3, y4.out⟩
theorem symm_any (base g n c : Nat) (hn : n ≤ 1000) : ∀ L, SyAll base g n c L := by
  intro L
  induction L with
  | zero => intro a m b ps w hL hB hown ham hmb; omega
  | succ L ih =>
    intro a m b ps w hL hB hown ham hmb hb hs1 hs2
    by_cases hm1 : m = a + 1
    · exact symm1_any base g n c a m b hm1 ps w hB hown hn hmb hb hs2
    by_cases hb1 : b = m + 1
    · exact symm2_any base g n c a m b hb1 (by omega) ps w hB hown hn hb hs1
    by_cases hgt : (a + b) / 2 < m
    · exact symm3a base g n c hn L ih a m b ps w hL hB hown ham hmb hb hs1 hs2 hm1 hb1 hgt
    · exact symm3b base g n c hn L ih a m b ps w hL hB hown ham hmb hb hs1 hs2 hm1 hb1 hgt
end Go.Proofs.YtpolplmniaoikaaDoor
