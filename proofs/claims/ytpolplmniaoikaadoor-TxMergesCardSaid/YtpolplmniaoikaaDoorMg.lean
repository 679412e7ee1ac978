/- slices.SortStableFunc at parts: the merge, where one of the two stretches holds one thing. -/
import Derived.Test.YtpolplmniaoikaaDoorMf
namespace Go.Proofs.YtpolplmniaoikaaDoor
open Go.RowKit

/-- One thing moved up from a to k; one moved down from m to k. -/
def upF {α : Type} (f : Nat → Option α) (a k q : Nat) : Option α := if a ≤ q ∧ q < k then f (q + 1) else if q = k then f a else f q
def dnF {α : Type} (f : Nat → Option α) (m k q : Nat) : Option α := if k < q ∧ q ≤ m then f (q - 1) else if q = k then f m else f q
theorem upF_zero {α : Type} (f : Nat → Option α) (a q : Nat) : upF f a a q = f q := by
  unfold upF; rw [if_neg (by omega)]; split
  · rename_i h; rw [h]
  · rfl
theorem dnF_zero {α : Type} (f : Nat → Option α) (m q : Nat) : dnF f m m q = f q := by
  unfold dnF; rw [if_neg (by omega)]; split
  · rename_i h; rw [h]
  · rfl
theorem upF_step {α : Type} {f : Nat → Option α} {xs : List α} {a k : Nat} (ha : a ≤ k) (hk : k + 1 < xs.length) (h : ∀ q, xs[q]? = upF f a k q) (q : Nat) : (swp xs k (k + 1))[q]? = upF f a (k + 1) q := by
  rw [swp_at _ (by omega) (by omega), h, h, h]
  unfold upF
  repeat' split
  all_goals first | omega | rfl | (congr 1; omega)
theorem dnF_step {α : Type} {f : Nat → Option α} {xs : List α} {m k : Nat} (hm : k + 1 ≤ m) (hk : m < xs.length) (h : ∀ q, xs[q]? = dnF f m (k + 1) q) (q : Nat) : (swp xs (k + 1) k)[q]? = dnF f m k q := by
  rw [swp_at _ (by omega) (by omega), h, h, h]
  unfold dnF
  repeat' split
  all_goals first | omega | rfl | (congr 1; omega)
theorem Mv.of_up {α : Type} {xs ys : List α} {a b k : Nat} (hp : ys.Perm xs) (ha : a ≤ k) (hk : k < b) (h : ∀ q, ys[q]? = upF (fun k => xs[k]?) a k q) : Mv a b xs ys :=
  ⟨hp, fun q hq => by rw [h]; unfold upF; rw [if_neg (by omega), if_neg (by omega)], fun q h1 h2 => by
    rw [h]; unfold upF
    split
    · exact ⟨q + 1, by omega, by omega, rfl⟩
    · split
      · exact ⟨a, by omega, by omega, rfl⟩
      · exact ⟨q, h1, h2, rfl⟩⟩
theorem Mv.of_dn {α : Type} {xs ys : List α} {a b m k : Nat} (hp : ys.Perm xs) (ha : a ≤ k) (hk : k ≤ m) (hb : m < b) (h : ∀ q, ys[q]? = dnF (fun k => xs[k]?) m k q) : Mv a b xs ys :=
  ⟨hp, fun q hq => by rw [h]; unfold dnF; rw [if_neg (by omega), if_neg (by omega)], fun q h1 h2 => by
    rw [h]; unfold dnF
    split
    · exact ⟨q - 1, by omega, by omega, rfl⟩
    · split
      · exact ⟨m, by omega, by omega, rfl⟩
      · exact ⟨q, h1, h2, rfl⟩⟩
set_option maxRecDepth 100000 in
set_option maxHeartbeats 4000000 in
theorem symm1_any (base g n c a m b : Nat) (hm : m = a + 1) (ps : List Pe) (w : World) (_hB : base ≤ w.heap.size) (hown : Ow w base 69 10 (.slice (some ⟨g, 0, none⟩) n c) (ps.map Pe.enc)) (hn : n ≤ 1000) (hmb : m < b) (hb : b ≤ n) (hs : So Pe.num m b ps) :
    Calls Tryd.prog 43 #[.slice (some ⟨g, 0, none⟩) n c, .int .i64 (a : Int), .int .i64 (m : Int), .int .i64 (b : Int), .func (.func 15) #[] #[]] w
      (fun e w' => e = .returned (.tuple #[]) ∧ ∃ ys : List Pe, Mv a b ps ys ∧ So Pe.num a b ys ∧ Ow w' base 69 10 (.slice (some ⟨g, 0, none⟩) n c) (ys.map Pe.enc) ∧ w.grownBy w' (some g)) := by
  have hl : ps.length = n := by simpa using hown.rd.2.1
  have hmaw : (m : Int) - (a : Int) = 1 := by omega
  obtain ⟨y, hy⟩ : ∃ y, ps[a]? = some y := ⟨_, List.getElem?_eq_getElem (by omega)⟩
  obtain ⟨g', he, _, hgl, hgf, hgc⟩ := hown.addr (by omega)
  injection he with he
  injection he with he
  subst he
  have hcx := hgc (a) y.enc (by rw [List.getElem?_map, hy]; rfl)
  have q0 := hcx 0 _ rfl
  have q1 := hcx 1 _ rfl
  have q2 := hcx 2 _ rfl
  have q3 := hcx 3 _ rfl
  have q4 := hcx 4 _ rfl
  have q5 := hcx 5 _ rfl
  have q6 := hcx 6 _ rfl
  have q7 := hcx 7 _ rfl
  have q8 := hcx 8 _ rfl
  have q9 := hcx 9 _ rfl
  rw [Nat.add_zero] at q0
  clear hcx
  clear hgc hgf
  have hownH := Lib.hid hown
  have hyH := Lib.hid hy
  have hsH := Lib.hid hs
  clear hown hy hs
  go_enter Tryd.func43, Tryd.ntmps43
  go_wp2_with fail
  go_loopg [10, 11] (b - m + 1) (fun gg u v wr => ∃ p r : Nat, m ≤ p ∧ p ≤ r ∧ r ≤ b ∧ gg = r - p + 1 ∧ u = .int .i64 (p : Int) ∧ v = .int .i64 (r : Int) ∧ (∀ k x, m ≤ k → k < p → ps[k]? = some x → x.num < y.num) ∧ (∀ k x, r ≤ k → k < b → ps[k]? = some x → y.num ≤ x.num) ∧ Below w.heap.size w wr)
  case atStart => exact ⟨m, b, Nat.le_refl _, by omega, Nat.le_refl _, rfl, by (first | rfl | (rw [hm]; go_num) | (simp [hm]; done)), rfl, fun k x h1 h2 => by omega, fun k x h1 h2 => by omega, Below.refl _ _⟩
  case round =>
    obtain ⟨p, r, hmp, hpr, hrb, rfl, rfl, rfl, hlo, hhi, hbr⟩ := hrel
    have hloH := Lib.hid hlo
    have hhiH := Lib.hid hhi
    clear hlo hhi
    have hz := hbr.size
    by_cases hlt : p < r
    · obtain ⟨h, hh⟩ : ∃ h : Nat, h = (p + r) / 2 := ⟨_, rfl⟩
      have hph : p ≤ h := by omega
      have hhq : h < r := by omega
      have hlti : (p : Int) < (r : Int) := by omega
      have hmid : ((p : Int) + (r : Int)) / 2 = (h : Int) := by omega
      clear hh
      have hownr := hownH.out.below hbr
      obtain ⟨x, hx⟩ : ∃ x, ps[h]? = some x := ⟨_, List.getElem?_eq_getElem (by omega)⟩
      have hglo := hgl
      obtain ⟨g', he, _, hgl, hgf, hgc⟩ := hownr.addr (by omega)
      injection he with he
      injection he with he
      subst he
      have hcx := hgc (h) x.enc (by rw [List.getElem?_map, hx]; rfl)
      have p0 := hcx 0 _ rfl
      have p1 := hcx 1 _ rfl
      have p2 := hcx 2 _ rfl
      have p3 := hcx 3 _ rfl
      have p4 := hcx 4 _ rfl
      have p5 := hcx 5 _ rfl
      have p6 := hcx 6 _ rfl
      have p7 := hcx 7 _ rfl
      have p8 := hcx 8 _ rfl
      have p9 := hcx 9 _ rfl
      rw [Nat.add_zero] at p0
      clear hcx
      have r0 := (hbr.cell (p := ⟨g, _, none⟩) hglo).trans q0
      have r1 := (hbr.cell (p := ⟨g, _, none⟩) hglo).trans q1
      have r2 := (hbr.cell (p := ⟨g, _, none⟩) hglo).trans q2
      have r3 := (hbr.cell (p := ⟨g, _, none⟩) hglo).trans q3
      have r4 := (hbr.cell (p := ⟨g, _, none⟩) hglo).trans q4
      have r5 := (hbr.cell (p := ⟨g, _, none⟩) hglo).trans q5
      have r6 := (hbr.cell (p := ⟨g, _, none⟩) hglo).trans q6
      have r7 := (hbr.cell (p := ⟨g, _, none⟩) hglo).trans q7
      have r8 := (hbr.cell (p := ⟨g, _, none⟩) hglo).trans q8
      have r9 := (hbr.cell (p := ⟨g, _, none⟩) hglo).trans q9
      clear hgc hgf
      have hhn : h < n := by omega
      have han : a < n := by omega
      have hcm := mcmp_any x y
      have hord := Lib.hid (ordI_neg (a := x.num) (b := y.num))
      have hxH := Lib.hid hx
      clear hx hownr
      generalize ordI x.num y.num = z at hcm hord
      have hcm := Lib.hid hcm
      have hq0 : KQ wr.heap.size wr wr := kq (Below.refl _ _)
      by_cases hzn : z < 0
      · have hlt2 := hord.out.1 hzn
        clear q0 q1 q2 q3 q4 q5 q6 q7 q8 q9
        go_wp2_with fail
        go_region_held3 (fun w' => KQ wr.heap.size wr w') (first
      | with_reducible exact kq_call (by assumption) (by simp) (by assumption)
      | with_reducible exact kq_alloc (by with_reducible assumption) (Nat.le_refl _) _
      | with_reducible exact kq_alloc (kq_drew (by assumption)) (Nat.le_refl _) _
      | ((with_reducible refine kq ?_); (repeat (first | (with_reducible exact Below.refl _ _) | (with_reducible refine Below.drew ?_) | (with_reducible refine Below.alloc ?_ (by simp) _) | (with_reducible refine Below.setCell ?_ (by simp) _) | (with_reducible exact (by assumption : KQ _ _ _).1))); done))
          (first | ((with_reducible refine (hcm.out _).mono ?_); rintro e w1 ⟨rfl, hb1⟩))
        have hF : KQ wr.heap.size wr w1 := by with_reducible assumption
        have hG := hbr.trans (hF.1.mono hz)
        clear hF
        go_wp2
        go_roundg (r - (h + 1) + 1)
        case measure => omega
        case rel =>
          refine ⟨h + 1, r, by omega, by omega, hrb, rfl, by go_num, rfl, fun k u h1 h2 hu => ?_, hhiH.out, hG⟩
          exact Int.lt_of_le_of_lt (hsH.out k h u x h1 (by omega) (by omega) hu hxH.out) hlt2
      · have hge : y.num ≤ x.num := by
          have h9 : ¬ x.num < y.num := fun h => hzn (hord.out.2 h)
          omega
        have hcd : decide (z < 0) = false := by simpa using hzn
        clear q0 q1 q2 q3 q4 q5 q6 q7 q8 q9
        go_wp2_with fail
        go_region_held3 (fun w' => KQ wr.heap.size wr w') (first
      | with_reducible exact kq_call (by assumption) (by simp) (by assumption)
      | with_reducible exact kq_alloc (by with_reducible assumption) (Nat.le_refl _) _
      | with_reducible exact kq_alloc (kq_drew (by assumption)) (Nat.le_refl _) _
      | ((with_reducible refine kq ?_); (repeat (first | (with_reducible exact Below.refl _ _) | (with_reducible refine Below.drew ?_) | (with_reducible refine Below.alloc ?_ (by simp) _) | (with_reducible refine Below.setCell ?_ (by simp) _) | (with_reducible exact (by assumption : KQ _ _ _).1))); done))
          (first | ((with_reducible refine (hcm.out _).mono ?_); rintro e w1 ⟨rfl, hb1⟩))
        have hF : KQ wr.heap.size wr w1 := by with_reducible assumption
        have hG := hbr.trans (hF.1.mono hz)
        clear hF
        go_wp2
        go_roundg (h - p + 1)
        case measure => omega
        case rel =>
          refine ⟨p, h, hmp, by omega, by omega, rfl, rfl, rfl, hloH.out, fun k u h1 h2 hu => ?_, hG⟩
          exact Int.le_trans hge (hsH.out h k x u (by omega) h1 h2 hxH.out hu)
    · obtain rfl : p = r := by omega
      have hnlt : ¬ (p : Int) < (p : Int) := by omega
      have hownr := hownH.out.below hbr
      have hgr := Lib.hid (gr_below hbr (some g))
      have hBr : base ≤ wr.heap.size := by omega
      clear q0 q1 q2 q3 q4 q5 q6 q7 q8 q9
      go_wp2_with fail
      obtain ⟨wo, rfl⟩ : ∃ wo : World, wo = wr := ⟨_, rfl⟩
      go_loopg [13] (p - a) (fun gg u wq => ∃ (k : Nat) (cr : List Pe), a ≤ k ∧ k + 1 ≤ p ∧ gg = p - k ∧ u = .int .i64 (k : Int) ∧ cr.Perm ps ∧ (∀ q, cr[q]? = upF (fun k => ps[k]?) a k q) ∧ Ow wq base 69 10 (.slice (some ⟨g, 0, none⟩) n c) (cr.map Pe.enc) ∧ wo.grownBy wq (some g))
      case atStart => exact ⟨a, ps, Nat.le_refl _, by omega, rfl, rfl, List.Perm.refl _, fun q => (upF_zero _ _ _).symm, hownr, World.grownBy.refl _ _⟩
      case round =>
        clear hownr
        obtain ⟨k, cr, hak, hkp, rfl, rfl, hp, hq, hown, hg⟩ := hrel
        have hpH := Lib.hid hp
        have hqH := Lib.hid hq
        have hgH2 := Lib.hid hg
        have hcl : cr.length = n := by rw [hp.length_eq, hl]
        clear hp hq hg
        have hwp : (p : Int) - 1 = ((p - 1 : Nat) : Int) := by omega
        by_cases h1 : k + 1 < p
        · have h1i : (k : Int) < ((p - 1 : Nat) : Int) := by omega
          obtain ⟨x, hx⟩ : ∃ x, cr[k]? = some x := ⟨_, List.getElem?_eq_getElem (by omega)⟩
          obtain ⟨y, hy⟩ : ∃ y, cr[k + 1]? = some y := ⟨_, List.getElem?_eq_getElem (by omega)⟩
          have hir : k < n := by omega
          have hir2 : k + 1 < n := by omega
          obtain ⟨g', he, _, hgl, hgf, hgc⟩ := hown.addr (by omega)
          injection he with he
          injection he with he
          subst he
          have hcx := hgc (k) x.enc (by rw [List.getElem?_map, hx]; rfl)
          have p0 := hcx 0 _ rfl
          have p1 := hcx 1 _ rfl
          have p2 := hcx 2 _ rfl
          have p3 := hcx 3 _ rfl
          have p4 := hcx 4 _ rfl
          have p5 := hcx 5 _ rfl
          have p6 := hcx 6 _ rfl
          have p7 := hcx 7 _ rfl
          have p8 := hcx 8 _ rfl
          have p9 := hcx 9 _ rfl
          rw [Nat.add_zero] at p0
          clear hcx
          have hcx := hgc (k + 1) y.enc (by rw [List.getElem?_map, hy]; rfl)
          have q0 := hcx 0 _ rfl
          have q1 := hcx 1 _ rfl
          have q2 := hcx 2 _ rfl
          have q3 := hcx 3 _ rfl
          have q4 := hcx 4 _ rfl
          have q5 := hcx 5 _ rfl
          have q6 := hcx 6 _ rfl
          have q7 := hcx 7 _ rfl
          have q8 := hcx 8 _ rfl
          have q9 := hcx 9 _ rfl
          rw [Nat.add_zero] at q0
          clear hcx
          have hwr : IntKind.i64.wrap ((k : Int) + 1) = ((k + 1 : Nat) : Int) := by rw [IntWalk.i64_in _ (by omega)]; omega
          have hsw := Lib.hid (hown.swapE hir hir2 hx hy)
          have hpS : Hid ((swp cr k (k + 1)).Perm ps) := Lib.hid ((swp_perm _ _ _).trans hpH.out)
          have hqS := Lib.hid (upF_step hak (by omega) hqH.out)
          clear hgc hx hy hown
          generalize hi1 : k = i1 at *
          generalize hi2 : i1 + 1 = i2 at *
          have hne : i1 ≠ i2 := by omega
          go_wp2
          go_region
          have hown2 := hsw.out
          have hg2 : wr.grownBy ((wr.setCells g (i1 * 10) (Pe.enc y)).setCells g (i2 * 10) (Pe.enc x)) (some g) := gr_setCells _ _ (gr_setCells _ _ (World.grownBy.refl _ _))
          simp only [Pe.enc, World.setCells, Nat.add_assoc, Nat.reduceAdd] at hown2 hg2
          have hown2 := Lib.hid hown2
          have hg2 := Lib.hid hg2
          generalize hwn : World.setCell _ _ _ = wn at hown2 hg2 ⊢
          clear hwn
          clear hsw p0 p1 p2 p3 p4 p5 p6 p7 p8 p9 q0 q1 q2 q3 q4 q5 q6 q7 q8 q9
          go_wp2
          go_roundg (p - i2)
          case measure => omega
          case rel => exact ⟨i2, _, by omega, by omega, rfl, by go_num, hpS.out, by rw [← hi2]; rw [← hi2] at hqS; exact hqS.out, hown2.out.below (Below.refl _ _).drew, (hgH2.out.trans hg2.out).trans (gr_below (Below.refl _ _).drew _)⟩
        · obtain rfl : p = k + 1 := by omega
          have h1i : ¬ (k : Int) < ((k + 1 - 1 : Nat) : Int) := by omega
          have hso : Hid (So Pe.num a b cr) := Lib.hid (So.up (p := k + 1) hm hsH.out (by omega) (by omega) (fun j u v h1 h2 hu hv => by
              obtain rfl : y = v := Option.some.inj (hyH.out.symm.trans hv)
              exact Int.le_of_lt (hloH.out j u h1 h2 hu)) (fun j u v h1 h2 hu hv => by
              obtain rfl : y = v := Option.some.inj (hyH.out.symm.trans hv)
              exact hhiH.out j u h1 h2 hu) (fun j h1 h2 => by rw [hqH.out]; unfold upF; rw [if_pos (by omega)]) (by rw [hqH.out]; unfold upF; rw [if_neg (by omega), if_pos (by omega)]) (fun j h1 => by rw [hqH.out]; unfold upF; rw [if_neg (by omega), if_neg (by omega)]))
          go_wp2
          ((try simp only [Exit.inBlock, Exit.then]); refine bodyPost_ret (results_none rfl _ _ _) rfl ?_)
          exact ⟨rfl, cr, Mv.of_up hpH.out hak (by omega) hqH.out, hso.out, hown, hgr.out.trans hgH2.out⟩
end Go.Proofs.YtpolplmniaoikaaDoor
