/- slices.Compact at tags: each run of equal tags, its first one alone. slices.SortFunc at tags. -/
import Derived.Test.YtffnpfponnhddaaGreatN15
import Derived.Test.YtffnpfponnhddaaGreatM1
import Derived.Test.YtffnpfponnhddaaGreatN17
import Derived.Test.YtffnpfponnhddaaGreatN07
namespace Go.Proofs.YtffnpfponnhddaaGreat
open Go.RowKit

set_option maxRecDepth 100000 in
set_option maxHeartbeats 4000000 in
theorem compactT_any (base : Nat) (A : Option Addr) (n c : Nat) (xs : List Tm) (w : World) (hown : Ow w base 45 3 (.slice A n c) (xs.map Tm.enc)) (hn : n ≤ 100000) (_ : base ≤ w.heap.size) :
    Calls Tryz.prog 75 #[.slice A n c] w
      fun e w' => ∃ n', e = .returned (.slice A n' c) ∧ Ow w' base 45 3 (.slice A n' c) ((compactT xs).map Tm.enc) ∧ w.grownBy w' (Value.slice A n c).ownBlock := by
  have hl : xs.length = n := by simpa using hown.rd.2.1
  have hcm : c ≤ maxLen := hown.rd.2.2.2
  have hnc : n ≤ c := hown.rd.2.2.1
  unfold maxLen at hcm
  by_cases h2 : (n : Int) < 2
  · have hcx : compactT xs = xs := by
      match xs, hl with
      | [], _ => rfl
      | [x], _ => rfl
      | x :: y :: r, hl => simp at hl; omega
    rw [hcx]
    go_enter Tryz.func75, Tryz.ntmps75
    go_wp2
    go_ret
    exact ⟨n, rfl, hown, World.grownBy.refl _ _⟩
  · obtain ⟨g, rfl, hgb, hgl, hgf, hgc⟩ := hown.addr (by omega)
    have hlH := Lib.hid hl
    have hgfH := Lib.hid hgf
    have hgcH := Lib.hid hgc
    have hst : Hid (compactT (xs.take 1) = xs.take 1) := Lib.hid (by
      match xs, hl with
      | [], _ => rfl
      | x :: r, _ => rfl)
    clear hl hgf hgc
    have hnH : 2 ≤ n := by omega
    go_enter Tryz.func75, Tryz.ntmps75
    go_wp2
    go_loopg [3] (n + 1 - 1) (fun gh i wr => ∃ (k : Nat), 1 ≤ k ∧ k ≤ n ∧ gh = n + 1 - k ∧ i = .int .i64 k ∧ compactT (xs.take k) = xs.take k ∧ Below w.heap.size w wr)
    case atStart => exact ⟨1, by omega, by omega, rfl, by go_num, hst.out, Below.refl _ _⟩
    case round =>
      obtain ⟨k, hk1, hkn, rfl, rfl, hcp, hbr⟩ := hrel
      have hz := hbr.size
      have hcpH := Lib.hid hcp
      clear hcp
      by_cases hlt : k < n
      · obtain ⟨m, hm⟩ : ∃ m, k = m + 1 := ⟨k - 1, by omega⟩
        have hw : IntKind.i64.wrap ((k : Int) - 1) = (m : Int) := by rw [IntWalk.i64_in _ (by omega)]; omega
        have hmn : m < n := by omega
        obtain ⟨x, hxx⟩ : ∃ x, xs[m]? = some x := ⟨_, List.getElem?_eq_getElem (by rw [hlH.out]; omega)⟩
        obtain ⟨y, hyy⟩ : ∃ y, xs[m + 1]? = some y := ⟨_, List.getElem?_eq_getElem (by rw [hlH.out]; omega)⟩
        have hcx := hgcH.out m x.enc (by rw [List.getElem?_map, hxx]; rfl)
        have hcy := hgcH.out k y.enc (by rw [List.getElem?_map, hm, hyy]; rfl)
        have p0 := (hbr.cell (p := ⟨g, _, none⟩) hgl).trans (hcx 0 _ rfl)
        have p1 := (hbr.cell (p := ⟨g, _, none⟩) hgl).trans (hcx 1 _ rfl)
        have p2 := (hbr.cell (p := ⟨g, _, none⟩) hgl).trans (hcx 2 _ rfl)
        have q0 := (hbr.cell (p := ⟨g, _, none⟩) hgl).trans (hcy 0 _ rfl)
        have q1 := (hbr.cell (p := ⟨g, _, none⟩) hgl).trans (hcy 1 _ rfl)
        have q2 := (hbr.cell (p := ⟨g, _, none⟩) hgl).trans (hcy 2 _ rfl)
        rw [Nat.add_zero] at p0 q0
        clear hcx hcy
        have hgl2 : g < wr.heap.size := by omega
        have hq0 : KQ wr.heap.size wr wr := kq (Below.refl _ _)
        have hstep := Lib.hid (compactT_step hxx hyy)
        have hyk : xs[k]? = some y := by rw [hm]; exact hyy
        have hxxH := Lib.hid hxx
        have hyyH := Lib.hid hyy
        have hykH := Lib.hid hyk
        have hmH := Lib.hid hm
        clear hm hxx hyy hyk
        obtain ⟨⟨x1, x2⟩, x3⟩ := x
        obtain ⟨⟨y1, y2⟩, y3⟩ := y
        dsimp only at p0 p1 p2 q0 q1 q2
        by_cases he : y1 = x1 ∧ y2 = x2 ∧ y3 = x3
        · obtain ⟨rfl, rfl, rfl⟩ := he
          have hin : Hid (xs.take k = compactT (xs.take (k + 1))) := Lib.hid (by
            have h1 := hstep.out
            rw [if_pos rfl, ← hmH.out, hcpH.out] at h1
            rw [show k + 1 = m + 2 by have := hmH.out; omega]
            exact h1.symm)
          have hck : k < c := by omega
          clear hstep
          obtain ⟨d, hd⟩ : ∃ d, n = k + d := ⟨n - k, by omega⟩
          have hd1 : 1 ≤ d := by omega
          have hdH := Lib.hid hd
          have hnk : n - k = d := by omega
          clear hd
          go_wp2
          go_region_held3 (fun w' => KQ wr.heap.size wr w') (first
      | with_reducible exact kq_call (by assumption) (by simp) (by assumption)
      | with_reducible exact kq_grown (by assumption) (by simp) (by assumption) (by simp [Value.ownBlock])
      | ((with_reducible refine kq ?_); (repeat (first | (with_reducible exact Below.refl _ _) | (with_reducible refine Below.drew ?_) | (with_reducible refine Below.alloc ?_ (by simp) _) | (with_reducible refine Below.setCell ?_ (by simp) _) | (with_reducible exact (by assumption : KQ _ _ _).1))); done)) (first | (go_at_call 0; skip))
          go_wp2_with fail
          have hownB := hown.below hbr.drew
          have hgrB : w.grownBy wr.drew (some g) := gr_below hbr.drew _
          obtain ⟨wo, hwo⟩ : ∃ wo, wr = wo := ⟨_, rfl⟩
          subst hwo
          clear p0 p1 p2 q0 q1 q2
          go_loopg [3, 5] d (fun gh i j wr => ∃ (p q : Nat) (L : List Tm), 1 ≤ q ∧ q ≤ d ∧ p + 1 ≤ k + q ∧ gh = d + 1 - q ∧ i = .int .i64 p ∧ j = .int .i64 q ∧ L.length = n ∧ L.take p = compactT (xs.take (k + q)) ∧ L.drop (k + q - 1) = xs.drop (k + q - 1) ∧
            Ow wr base 45 3 (.slice (some ⟨g, 0, none⟩) n c) (L.map Tm.enc) ∧ w.grownBy wr (some g))
          case atStart => exact ⟨k, 1, xs, by omega, by omega, by omega, by omega, by go_num, by go_num, hlH.out, hin.out, rfl, hownB, hgrB⟩
          case round =>
            obtain ⟨p, q, L, hq1, hqd, hpq, rfl, rfl, rfl, hLl, hLt, hLd, hownL, hgr⟩ := hrel
            have hzr := hgr.size
            have hkd : k + d = n := hdH.out.symm
            obtain ⟨g', he, _, hglr, hgfr, hgcr⟩ := hownL.addr (by omega)
            injection he with he
            injection he with he
            subst he
            by_cases hlt2 : q < d
            · obtain ⟨r, hr⟩ : ∃ r, q = r + 1 := ⟨q - 1, by omega⟩
              have hw2 : IntKind.i64.wrap ((q : Int) - 1) = (r : Int) := by rw [IntWalk.i64_in _ (by omega)]; omega
              obtain ⟨u, huu⟩ : ∃ u, xs[k + r]? = some u := ⟨_, List.getElem?_eq_getElem (by rw [hlH.out]; omega)⟩
              obtain ⟨z, hzz⟩ : ∃ z, xs[k + r + 1]? = some z := ⟨_, List.getElem?_eq_getElem (by rw [hlH.out]; omega)⟩
              have hLu : L[k + r]? = some u := by
                have h1 : (L.drop (k + q - 1))[0]? = some u := by rw [hLd, List.getElem?_drop, show k + q - 1 + 0 = k + r by omega]; exact huu
                rw [List.getElem?_drop, show k + q - 1 + 0 = k + r by omega] at h1; exact h1
              have hLz : L[k + r + 1]? = some z := by
                have h1 : (L.drop (k + q - 1))[1]? = some z := by rw [hLd, List.getElem?_drop, show k + q - 1 + 1 = k + r + 1 by omega]; exact hzz
                rw [List.getElem?_drop, show k + q - 1 + 1 = k + r + 1 by omega] at h1; exact h1
              obtain ⟨y', hyy'⟩ : ∃ y', L[p]? = some y' := ⟨_, List.getElem?_eq_getElem (by omega)⟩
              have hcu := hgcr (k + r) u.enc (by rw [List.getElem?_map, hLu]; rfl)
              have hcz := hgcr (k + r + 1) z.enc (by rw [List.getElem?_map, hLz]; rfl)
              have hcy := hgcr p y'.enc (by rw [List.getElem?_map, hyy']; rfl)
              have p0 := hcu 0 _ rfl
              have p1 := hcu 1 _ rfl
              have p2 := hcu 2 _ rfl
              have q0 := hcz 0 _ rfl
              have q1 := hcz 1 _ rfl
              have q2 := hcz 2 _ rfl
              have r0 := hcy 0 _ rfl
              have r1 := hcy 1 _ rfl
              have r2 := hcy 2 _ rfl
              rw [show (k + r) * 3 = k * 3 + r * 3 by omega] at p0 p1 p2
              rw [show (k + r + 1) * 3 = k * 3 + q * 3 by omega] at q0 q1 q2
              rw [Nat.add_zero] at p0 q0 r0
              have hst2 := Lib.hid (compactT_step huu hzz)
              have hdr : Hid (L.drop (k + q) = xs.drop (k + q)) := Lib.hid (by
                have := congrArg (List.drop 1) hLd
                rwa [List.drop_drop, List.drop_drop, show k + q - 1 + 1 = k + q by omega] at this)
              have e1H : Hid (k + r + 2 = k + (q + 1)) := Lib.hid (by omega)
              have e2H : Hid (k + r + 1 = k + q) := Lib.hid (by omega)
              have e3H : Hid (k + (q + 1) - 1 = k + q) := Lib.hid (by omega)
              have hpn : p < n := by omega
              have hLlH := Lib.hid hLl
              have hLtH := Lib.hid hLt
              have hqn : k + q ≤ n := by omega
              have hrd : r < d := by omega
              clear hcu hcz hcy hgcr huu hzz hLu hLz hyy' hLd hLt hLl hr hkd
              have hq0' : KQ wr.heap.size wr wr := kq (Below.refl _ _)
              obtain ⟨⟨u1, u2⟩, u3⟩ := u
              obtain ⟨⟨z1, z2⟩, z3⟩ := z
              dsimp only at p0 p1 p2 q0 q1 q2
              by_cases he2 : z1 = u1 ∧ z2 = u2 ∧ z3 = u3
              · obtain ⟨rfl, rfl, rfl⟩ := he2
                have hT : Hid (L.take p = compactT (xs.take (k + (q + 1)))) := Lib.hid (by
                  have h1 := hst2.out
                  rw [if_pos rfl, e1H.out, e2H.out, ← hLtH.out] at h1
                  exact h1.symm)
                have hG : w.grownBy wr.drew (some g) := hgr.trans (gr_below (Below.refl _ _).drew _)
                have hownD := hownL.below (Below.refl _ wr).drew
                go_wp2
                go_region_held3 (fun w' => KQ wr.heap.size wr w') (first
      | with_reducible exact kq_call (by assumption) (by simp) (by assumption)
      | with_reducible exact kq_grown (by assumption) (by simp) (by assumption) (by simp [Value.ownBlock])
      | ((with_reducible refine kq ?_); (repeat (first | (with_reducible exact Below.refl _ _) | (with_reducible refine Below.drew ?_) | (with_reducible refine Below.alloc ?_ (by simp) _) | (with_reducible refine Below.setCell ?_ (by simp) _) | (with_reducible exact (by assumption : KQ _ _ _).1))); done)) (first | (go_at_call 0; skip))
                go_wp2
                go_roundg (d + 1 - (q + 1))
                case measure => omega
                case rel => exact ⟨p, q + 1, L, by omega, by omega, by omega, rfl, by go_num, by go_num, hLlH.out, hT.out, by rw [e3H.out]; exact hdr.out, hownD, hG⟩
              · have hT : Hid (compactT (xs.take (k + (q + 1))) = L.take p ++ [((z1, z2), z3)]) := Lib.hid (by
                  have h1 := hst2.out
                  rw [if_neg (by rintro h; injection h with h4 h3; injection h4 with h1 h2; exact he2 ⟨h1.symm, h2.symm, h3.symm⟩), e1H.out, e2H.out, ← hLtH.out] at h1
                  exact h1)
                have hgfr2 : ∀ o, wr.drew.frozen? ⟨g, o, none⟩ = false := hgfr
                have hownD := hownL.below (Below.refl _ wr).drew
                have hG : w.grownBy wr.drew (some g) := hgr.trans (gr_below (Below.refl _ _).drew _)
                by_cases hz1 : z1 = u1
                · subst hz1
                  by_cases hz2 : z2 = u2
                  · subst hz2
                    have hz3 : ¬ z3 = u3 := fun h => he2 ⟨rfl, rfl, h⟩
                    clear he2
                    go_wp2
                    go_region_held3 (fun w' => KQ wr.heap.size wr w') (first
      | with_reducible exact kq_call (by assumption) (by simp) (by assumption)
      | with_reducible exact kq_grown (by assumption) (by simp) (by assumption) (by simp [Value.ownBlock])
      | ((with_reducible refine kq ?_); (repeat (first | (with_reducible exact Below.refl _ _) | (with_reducible refine Below.drew ?_) | (with_reducible refine Below.alloc ?_ (by simp) _) | (with_reducible refine Below.setCell ?_ (by simp) _) | (with_reducible exact (by assumption : KQ _ _ _).1))); done)) (first | (go_at_call 0; skip))
                    go_wp2
                    go_roundg (d + 1 - (q + 1))
                    case measure => omega
                    case rel =>
                      refine ⟨p + 1, q + 1, L.set p ((z1, z2), z3), by omega, by omega, by omega, rfl, by go_num, by go_num, by rw [List.length_set]; exact hLlH.out, ?_, ?_, ?_, ?_⟩
                      · rw [hT.out, List.take_add_one, List.getElem?_set_self (by rw [hLlH.out]; omega), List.take_set_of_le (Nat.le_refl _)]; simp
                      · rw [e3H.out, List.drop_set_of_lt (by omega)]; exact hdr.out
                      · rw [List.map_set]; exact (hownL.setL (k := p) (by omega) (vs := [.int .i64 z1, .int .u32 z2, .int .i64 z3]) rfl).below (Below.refl _ _).drew
                      · exact (gr_set (gr_set (gr_set hgr _ _) _ _) _ _).trans (gr_below (Below.refl _ _).drew _)
                  · clear he2
                    go_wp2
                    go_region_held3 (fun w' => KQ wr.heap.size wr w') (first
      | with_reducible exact kq_call (by assumption) (by simp) (by assumption)
      | with_reducible exact kq_grown (by assumption) (by simp) (by assumption) (by simp [Value.ownBlock])
      | ((with_reducible refine kq ?_); (repeat (first | (with_reducible exact Below.refl _ _) | (with_reducible refine Below.drew ?_) | (with_reducible refine Below.alloc ?_ (by simp) _) | (with_reducible refine Below.setCell ?_ (by simp) _) | (with_reducible exact (by assumption : KQ _ _ _).1))); done)) (first | (go_at_call 0; skip))
                    go_wp2
                    go_roundg (d + 1 - (q + 1))
                    case measure => omega
                    case rel =>
                      refine ⟨p + 1, q + 1, L.set p ((z1, z2), z3), by omega, by omega, by omega, rfl, by go_num, by go_num, by rw [List.length_set]; exact hLlH.out, ?_, ?_, ?_, ?_⟩
                      · rw [hT.out, List.take_add_one, List.getElem?_set_self (by rw [hLlH.out]; omega), List.take_set_of_le (Nat.le_refl _)]; simp
                      · rw [e3H.out, List.drop_set_of_lt (by omega)]; exact hdr.out
                      · rw [List.map_set]; exact (hownL.setL (k := p) (by omega) (vs := [.int .i64 z1, .int .u32 z2, .int .i64 z3]) rfl).below (Below.refl _ _).drew
                      · exact (gr_set (gr_set (gr_set hgr _ _) _ _) _ _).trans (gr_below (Below.refl _ _).drew _)
                · clear he2
                  go_wp2
                  go_region_held3 (fun w' => KQ wr.heap.size wr w') (first
      | with_reducible exact kq_call (by assumption) (by simp) (by assumption)
      | with_reducible exact kq_grown (by assumption) (by simp) (by assumption) (by simp [Value.ownBlock])
      | ((with_reducible refine kq ?_); (repeat (first | (with_reducible exact Below.refl _ _) | (with_reducible refine Below.drew ?_) | (with_reducible refine Below.alloc ?_ (by simp) _) | (with_reducible refine Below.setCell ?_ (by simp) _) | (with_reducible exact (by assumption : KQ _ _ _).1))); done)) (first | (go_at_call 0; skip))
                  go_wp2
                  go_roundg (d + 1 - (q + 1))
                  case measure => omega
                  case rel =>
                    refine ⟨p + 1, q + 1, L.set p ((z1, z2), z3), by omega, by omega, by omega, rfl, by go_num, by go_num, by rw [List.length_set]; exact hLlH.out, ?_, ?_, ?_, ?_⟩
                    · rw [hT.out, List.take_add_one, List.getElem?_set_self (by rw [hLlH.out]; omega), List.take_set_of_le (Nat.le_refl _)]; simp
                    · rw [e3H.out, List.drop_set_of_lt (by omega)]; exact hdr.out
                    · rw [List.map_set]; exact (hownL.setL (k := p) (by omega) (vs := [.int .i64 z1, .int .u32 z2, .int .i64 z3]) rfl).below (Below.refl _ _).drew
                    · exact (gr_set (gr_set (gr_set hgr _ _) _ _) _ _).trans (gr_below (Below.refl _ _).drew _)
            · obtain rfl : q = d := by omega
              have hfin : Hid (L.take p = compactT xs) := Lib.hid (by rw [hLt, hkd, List.take_of_length_le (by rw [hlH.out]; exact Nat.le_refl _)])
              have hzv : ∀ w, (zeroValue 45).run Tryz.prog w = .ok (.agg #[.int .i64 0, .int .u32 0, .int .i64 0]) w := fun _ => by kernel_rfl
              obtain ⟨wc, hrun, hown4, hgr4⟩ := run_clear_row (sz := 3) (c' := c - p) (i := p) Tryz.underlying30 hzv (by simp [Value.cells, Value.oneCell']) rfl (by decide) hownL (by omega)
              have hown5 := hown4.front (k := p) (by omega)
              have hpn : p < n := by omega
              have hpc : p < c := by omega
              have hfr : Hid (((L.map Tm.enc).take p ++ List.replicate (n - p) (Value.agg #[.int .i64 0, .int .u32 0, .int .i64 0]).cells.toList).take p = (compactT xs).map Tm.enc) := Lib.hid (by
                rw [List.take_append_of_le_length (by simp; omega), List.take_take, Nat.min_self, ← hfin.out, List.map_take])
              clear hgfr hgcr hown hLt hLd hLl hkd
              go_wp2
              go_ret
              exact ⟨p, rfl, by rw [← hfr.out]; exact hown5, hgr.trans hgr4⟩
        · have hT : Hid (compactT (xs.take (k + 1)) = xs.take (k + 1)) := Lib.hid (by
            have h1 := hstep.out
            rw [if_neg (by rintro h; injection h with h4 h3; injection h4 with h1 h2; exact he ⟨h1.symm, h2.symm, h3.symm⟩), ← hmH.out, hcpH.out] at h1
            rw [show k + 1 = m + 2 by have := hmH.out; omega, h1, show m + 2 = k + 1 by have := hmH.out; omega, List.take_add_one, hykH.out]; rfl)
          have hG := hbr.drew
          by_cases hy1 : y1 = x1
          · subst hy1
            by_cases hy2 : y2 = x2
            · subst hy2
              have hy3 : ¬ y3 = x3 := fun h => he ⟨rfl, rfl, h⟩
              clear he hstep
              go_wp2
              go_region_held3 (fun w' => KQ wr.heap.size wr w') (first
      | with_reducible exact kq_call (by assumption) (by simp) (by assumption)
      | with_reducible exact kq_grown (by assumption) (by simp) (by assumption) (by simp [Value.ownBlock])
      | ((with_reducible refine kq ?_); (repeat (first | (with_reducible exact Below.refl _ _) | (with_reducible refine Below.drew ?_) | (with_reducible refine Below.alloc ?_ (by simp) _) | (with_reducible refine Below.setCell ?_ (by simp) _) | (with_reducible exact (by assumption : KQ _ _ _).1))); done)) (first | (go_at_call 0; skip))
              go_wp2
              go_roundg (n + 1 - (k + 1))
              case measure => omega
              case rel => exact ⟨k + 1, by omega, by omega, rfl, by go_num, hT.out, hG⟩
            · clear he hstep
              go_wp2
              go_region_held3 (fun w' => KQ wr.heap.size wr w') (first
      | with_reducible exact kq_call (by assumption) (by simp) (by assumption)
      | with_reducible exact kq_grown (by assumption) (by simp) (by assumption) (by simp [Value.ownBlock])
      | ((with_reducible refine kq ?_); (repeat (first | (with_reducible exact Below.refl _ _) | (with_reducible refine Below.drew ?_) | (with_reducible refine Below.alloc ?_ (by simp) _) | (with_reducible refine Below.setCell ?_ (by simp) _) | (with_reducible exact (by assumption : KQ _ _ _).1))); done)) (first | (go_at_call 0; skip))
              go_wp2
              go_roundg (n + 1 - (k + 1))
              case measure => omega
              case rel => exact ⟨k + 1, by omega, by omega, rfl, by go_num, hT.out, hG⟩
          · clear he hstep
            go_wp2
            go_region_held3 (fun w' => KQ wr.heap.size wr w') (first
      | with_reducible exact kq_call (by assumption) (by simp) (by assumption)
      | with_reducible exact kq_grown (by assumption) (by simp) (by assumption) (by simp [Value.ownBlock])
      | ((with_reducible refine kq ?_); (repeat (first | (with_reducible exact Below.refl _ _) | (with_reducible refine Below.drew ?_) | (with_reducible refine Below.alloc ?_ (by simp) _) | (with_reducible refine Below.setCell ?_ (by simp) _) | (with_reducible exact (by assumption : KQ _ _ _).1))); done)) (first | (go_at_call 0; skip))
            go_wp2
            go_roundg (n + 1 - (k + 1))
            case measure => omega
            case rel => exact ⟨k + 1, by omega, by omega, rfl, by go_num, hT.out, hG⟩
      · obtain rfl : k = n := by omega
        have hcx : compactT xs = xs := by have := hcpH.out; rwa [List.take_of_length_le (by rw [hlH.out]; exact Nat.le_refl _)] at this
        have hcxH := Lib.hid hcx
        clear hcx
        go_wp2
        go_ret
        exact ⟨k, rfl, by rw [hcxH.out]; exact hown.below hbr, gr_below hbr _⟩
end Go.Proofs.YtffnpfponnhddaaGreat
namespace Go.Proofs.YtffnpfponnhddaaGreat
open Go.RowKit

/-- Below, and no draw is given back. -/
abbrev GB (w w' : World) : Prop := Below w.heap.size w w' ∧ w.drawn ≤ w'.drawn
theorem gb_of {w w' : World} (h : ∃ q os, w' = Sort.grow (w.drewN q) os) : GB w w' := by
  obtain ⟨q, os, rfl⟩ := h
  exact ⟨⟨rfl, rfl, rfl, by simp [Sort.grow], fun k hk => by simp [Sort.grow, Array.getElem?_append, hk]⟩, by simp [Sort.grow, World.drewN]⟩
theorem gb_grow {w w' : World} (h : GB w w') : ∃ q os, w' = Sort.grow (w.drewN q) os := by
  refine ⟨w'.drawn - w.drawn, w'.heap.extract w.heap.size w'.heap.size, ?_⟩
  have hd : w.drawn + (w'.drawn - w.drawn) = w'.drawn := by have := h.2; omega
  have hh : w.heap ++ w'.heap.extract w.heap.size w'.heap.size = w'.heap := by
    apply Array.ext_getElem?
    intro i
    by_cases hi : i < w.heap.size
    · rw [Array.getElem?_append, if_pos hi, h.1.block i hi]
    · rw [Array.getElem?_append, if_neg hi, Array.getElem?_extract]
      have := h.1.size
      by_cases h2 : i < w'.heap.size
      · rw [if_pos (by omega)]
        congr 1
        omega
      · rw [if_neg (by omega)]
        exact (Array.getElem?_eq_none (by omega)).symm
  cases w'
  cases w
  have h1 := h.1.os
  have h2 := h.1.tape
  have h3 := h.1.output
  simp only [Sort.grow, World.drewN] at *
  subst h1 h2 h3
  rw [hh, hd]
abbrev KD (W w : World) : Prop := KQ W.heap.size W w ∧ W.drawn ≤ w.drawn
theorem kd_call {W w w1 : World} (h : KD W w) (hb : GB w w1) : KD W w1 := ⟨kq_call h.1 (Nat.le_refl _) hb.1, Nat.le_trans h.2 hb.2⟩
theorem kd_alloc {W w : World} (h : KD W w) (x : Obj) : KD W (w.alloc x) := ⟨kq_alloc h.1 (Nat.le_refl _) x, h.2⟩
theorem kd_drew {W w : World} (h : KD W w) : KD W w.drew := ⟨kq_drew h.1.1, Nat.le_succ_of_le h.2⟩
theorem kd_refl (W : World) : KD W W := ⟨kq (Below.refl _ _), Nat.le_refl _⟩
set_option maxRecDepth 100000 in
theorem cmp_laysT (x y : Tm) (w : World) :
    Calls Tryz.prog 61 #[.agg #[.int .i64 x.1.1, .int .u32 x.1.2, .int .i64 x.2], .agg #[.int .i64 y.1.1, .int .u32 y.1.2, .int .i64 y.2]] w fun e w' => e = .returned (.int .i64 (cmpT x y)) ∧ ∃ q os, w' = Sort.grow (w.drewN q) os := by
  generalize hr : cmpT x y = r
  unfold cmpT at hr
  have hc1 : ∀ w, Calls Tryz.prog 103 #[.agg #[.int .i64 x.1.1, .int .u32 x.1.2], .agg #[.int .i64 y.1.1, .int .u32 y.1.2]] w (fun e w' => e = .returned (.int .i64 (cmpI x.1 y.1)) ∧ GB w w') := fun w => (cmp_lays x.1 y.1 w).mono (fun _ _ h => ⟨h.1, gb_of h.2⟩)
  have hc2 := ccmp_any x.2 y.2
  have ho := or_any
  generalize cmpI x.1 y.1 = p at *
  generalize ordI x.2 y.2 = q at *
  have hc1 := Lib.hid hc1
  have hc2 := Lib.hid hc2
  have ho := Lib.hid (fun g w h0 h1 h2 => hr ▸ ho g p q w h0 h1 h2)
  clear hr
  have hB0 : GB w ((w.alloc (.cells #[.int .i64 x.1.1, .int .u32 x.1.2, .int .i64 x.2] 45)).alloc (.cells #[.int .i64 y.1.1, .int .u32 y.1.2, .int .i64 y.2] 45)) := ⟨((Below.refl _ w).alloc (Nat.le_refl _) _).alloc (by simp) _, Nat.le_refl _⟩
  have hbx : ((w.alloc (.cells #[.int .i64 x.1.1, .int .u32 x.1.2, .int .i64 x.2] 45)).alloc (.cells #[.int .i64 y.1.1, .int .u32 y.1.2, .int .i64 y.2] 45)).heap[w.heap.size]? = some (.cells #[.int .i64 x.1.1, .int .u32 x.1.2, .int .i64 x.2] 45 (0, 0)) := heap_old _ (by simp) (heap_at _ _ rfl)
  have hby : ((w.alloc (.cells #[.int .i64 x.1.1, .int .u32 x.1.2, .int .i64 x.2] 45)).alloc (.cells #[.int .i64 y.1.1, .int .u32 y.1.2, .int .i64 y.2] 45)).heap[w.heap.size + 1]? = some (.cells #[.int .i64 y.1.1, .int .u32 y.1.2, .int .i64 y.2] 45 (0, 0)) := heap_at _ _ (by simp)
  generalize hW : ((w.alloc (.cells #[.int .i64 x.1.1, .int .u32 x.1.2, .int .i64 x.2] 45)).alloc (.cells #[.int .i64 y.1.1, .int .u32 y.1.2, .int .i64 y.2] 45)) = W at hB0 hbx hby
  have hltx := blk_lt hbx
  have hlty := blk_lt hby
  have p0 := blk_cell hbx 0
  have p1 := blk_cell hbx 1
  have p2 := blk_cell hbx 2
  have q0 := blk_cell hby 0
  have q1 := blk_cell hby 1
  have q2 := blk_cell hby 2
  simp at p0 p1 p2 q0 q1 q2
  clear hbx hby
  go_enter Tryz.func61, Tryz.ntmps61
  go_wp2
  have hq0 : KD W W := kd_refl W
  go_region_held3 (fun w' => KD W w') (first
      | with_reducible assumption
      | with_reducible exact kd_call (by assumption) (by assumption)
      | with_reducible exact kd_alloc (by with_reducible assumption) _
      | with_reducible exact kd_alloc (kd_drew (by assumption)) _
      | with_reducible exact kd_drew (kd_refl _)
      | with_reducible exact kd_drew (by assumption))
    (first
      | (go_at_call 103; refine (hc1.out _).mono ?_; rintro e w1 ⟨rfl, hb1⟩)
      | (go_at_call 104; refine (hc2.out _).mono ?_; rintro e w2 ⟨rfl, rfl⟩)
      | (go_at_call 95; refine (ho.out _ _ (by simp) (blk_cell (heap_at _ _ (by simp)) 0) (blk_cell (heap_at _ _ (by simp)) 1)).mono ?_; rintro e w3 ⟨rfl, rfl⟩))
  go_wp2
  go_ret
  have hF := (by with_reducible assumption : KD W _)
  exact ⟨rfl, gb_grow ⟨hB0.1.trans (hF.1.1.mono hB0.1.size), Nat.le_trans hB0.2 hF.2⟩⟩
theorem ltOf_cmpT (x y : Tm) : ltOf cmpT x y = decide (cmpT x y < 0) := rfl
theorem swo_cmpT : Sort.SWO (ltOf cmpT) where
  irrefl x := by rw [ltOf_cmpT, decide_eq_false_iff_not]; exact ltT_irrefl x
  trans x y z h1 h2 := by
    rw [ltOf_cmpT, decide_eq_true_eq] at *
    exact ltT_trans h1 h2
  ntrans x y z h1 h2 := by
    rw [ltOf_cmpT, decide_eq_false_iff_not] at *
    intro h
    rcases Classical.em (x = y) with rfl | hne
    · exact h2 h
    · have h3 := ltT_total hne h1
      exact h2 (ltT_trans h3 h)
theorem cmp_handsT (g n : Nat) (w : World) : CmpLays Tryz.prog 61 #[] Tm.enc 3 cmpT g 0 n w := by
  intro m os dk _ x y
  exact cmp_laysT x y _

set_option maxRecDepth 100000 in
theorem sortfT_any (base : Nat) (A : Option Addr) (n c : Nat) (xs : List Tm) (w : World) (hown : Ow w base 45 3 (.slice A n c) (xs.map Tm.enc)) (hn : n ≤ 100000) :
    Calls Tryz.prog 74 #[.slice A n c, .func (.func 61) #[] #[]] w
      fun e w' => e = .returned (.tuple #[]) ∧ ∃ ys : List Tm, ys.Pairwise (fun x y => ¬ ltT y x) ∧ (∀ z, z ∈ ys ↔ z ∈ xs) ∧ Ow w' base 45 3 (.slice A n c) (ys.map Tm.enc) ∧ w.grownBy w' (Value.slice A n c).ownBlock := by
  have hl : xs.length = n := by simpa using hown.rd.2.1
  rcases Nat.eq_zero_or_pos n with h0 | hpos
  · subst h0
    obtain rfl := List.eq_nil_of_length_eq_zero hl
    have h := AnyF.slices_SortFunc_none sortTg A c (.func (.func 61) #[] #[]) w
    refine Calls.mono h ?_
    rintro e w' ⟨rfl, hw⟩
    subst hw
    exact ⟨rfl, [], .nil, fun _ => Iff.rfl, hown, World.grownBy.refl _ _⟩
  · obtain ⟨g, rfl, hgb, hgl, _, _⟩ := hown.addr hpos
    have hsz : xs.toArray.size = n := by simpa using hl
    have h := AnyQ.slices_SortFunc sortTg 3 Tryz.isAgg45 Tryz.sizeOf45 Tm.enc (fun _ => rfl) (fun x v hv => by simp [Tm.enc] at hv; rcases hv with rfl | rfl | rfl <;> rfl) cmpT swo_cmpT 61 #[] g 0 c xs.toArray w
      (enters_of Tryz.func61 (by kernel_rfl) rfl) (cmp_handsT g _ w) (holdsK_of (k := 3) (fun _ => rfl) (by decide) hown hpos) hgl (by omega)
    rw [hsz] at h
    refine Calls.mono h ?_
    rintro e w' ⟨rfl, d', m, os, hp, hs, rfl⟩
    obtain ⟨hp1, _, hp3⟩ := hp
    have hd : d'.size = n := hp1.trans hsz
    have hperm : d'.toList.Perm xs := by
      rw [← hd, Array.extract_size] at hp3
      have e2 : xs.toArray.extract 0 d'.size = xs.toArray := by rw [hd, ← hsz, Array.extract_size]
      rw [e2] at hp3
      simpa using hp3
    have hso := sorted_ow (m := m) (enc := Tm.enc) (ys := d'.toList) (fun _ => rfl) (by decide) hown hpos (by simpa using hd) os
    rw [Array.toArray_toList] at hso
    refine ⟨rfl, d'.toList, ?_, fun z => hperm.mem_iff, hso.1, hso.2⟩
    rw [List.pairwise_iff_getElem]
    intro i j hi hj hij
    have hi' : i < d'.size := by simpa using hi
    have hj' : j < d'.size := by simpa using hj
    have := hs i j (Nat.zero_le _) hij (by omega)
    rw [getElem!_pos d' i hi', getElem!_pos d' j hj', ltOf_cmpT, decide_eq_false_iff_not] at this
    simpa [ltT] using this

end Go.Proofs.YtffnpfponnhddaaGreat
