/- slices.Compact at names: each run of equal names, its first one alone. -/
import Derived.Test.YtpfohpfgfdeecaaDtR
import Derived.Test.YtpfohpfgfdeecaaGc
import Derived.Test.YtpfohpfgfdeecaaPdb
namespace Go.Proofs.Ytpfohpfgfdeecaa
open Go.RowKit

set_option maxRecDepth 100000 in
set_option maxHeartbeats 2000000 in
theorem compact_any (base : Nat) (A : Option Addr) (n c : Nat) (xs : List Im) (w : World) (hown : Ow w base 37 2 (.slice A n c) (xs.map Im.enc)) (hn : n ≤ 1100) (_ : base ≤ w.heap.size) :
    Calls Try.prog 28 #[.slice A n c] w
      fun e w' => ∃ n', e = .returned (.slice A n' c) ∧ Ow w' base 37 2 (.slice A n' c) ((compactI xs).map Im.enc) ∧ w.grownBy w' (Value.slice A n c).ownBlock := by
  have hl : xs.length = n := by simpa using hown.rd.2.1
  have hcm : c ≤ maxLen := hown.rd.2.2.2
  have hnc : n ≤ c := hown.rd.2.2.1
  unfold maxLen at hcm
  by_cases h2 : (n : Int) < 2
  · have hcx : compactI xs = xs := by
      match xs, hl with
      | [], _ => rfl
      | [x], _ => rfl
      | x :: y :: r, hl => simp at hl; omega
    rw [hcx]
    go_enter Try.func28, Try.ntmps28
    go_wp2
    go_ret
    exact ⟨n, rfl, hown, World.grownBy.refl _ _⟩
  · obtain ⟨g, rfl, hgb, hgl, hgf, hgc⟩ := hown.addr (by omega)
    have hlH := Lib.hid hl
    have hgfH := Lib.hid hgf
    have hgcH := Lib.hid hgc
    have hst : Hid (compactI (xs.take 1) = xs.take 1) := Lib.hid (by
      match xs, hl with
      | [], _ => rfl
      | x :: r, _ => rfl)
    clear hl hgf hgc
    have hnH : 2 ≤ n := by omega
    go_enter Try.func28, Try.ntmps28
    go_wp2
    go_loopg [3] (n + 1 - 1) (fun gh i wr => ∃ (k : Nat), 1 ≤ k ∧ k ≤ n ∧ gh = n + 1 - k ∧ i = .int .i64 k ∧ compactI (xs.take k) = xs.take k ∧ Below w.heap.size w wr)
    case atStart => exact ⟨1, by omega, by omega, rfl, by go_num, hst.out, Below.refl _ _⟩
    case round =>
      obtain ⟨k, hk1, hkn, rfl, rfl, hcp, hbr⟩ := hrel
      have hz := hbr.size
      have hcpH := Lib.hid hcp
      clear hcp
      by_cases hlt : k < n
      · obtain ⟨m, hm⟩ : ∃ m, k = m + 1 := ⟨k - 1, by omega⟩
        have hw : IntKind.i64.wrap ((k : Int) - 1) = (m : Int) := by rw [IntWalk.i64_in _ (by omega)]; omega
        have hmn : m < n := by omega
        obtain ⟨x, hxx⟩ : ∃ x, xs[m]? = some x := ⟨_, List.getElem?_eq_getElem (by rw [hlH.out]; omega)⟩
        obtain ⟨y, hyy⟩ : ∃ y, xs[m + 1]? = some y := ⟨_, List.getElem?_eq_getElem (by rw [hlH.out]; omega)⟩
        have hcx := hgcH.out m x.enc (by rw [List.getElem?_map, hxx]; rfl)
        have hcy := hgcH.out k y.enc (by rw [List.getElem?_map, hm, hyy]; rfl)
        have p0 := (hbr.cell (p := ⟨g, _, none⟩) hgl).trans (hcx 0 _ rfl)
        have p1 := (hbr.cell (p := ⟨g, _, none⟩) hgl).trans (hcx 1 _ rfl)
        have q0 := (hbr.cell (p := ⟨g, _, none⟩) hgl).trans (hcy 0 _ rfl)
        have q1 := (hbr.cell (p := ⟨g, _, none⟩) hgl).trans (hcy 1 _ rfl)
        rw [Nat.add_zero] at p0 q0
        clear hcx hcy
        have hgl2 : g < wr.heap.size := by omega
        have hq0 : KQ wr.heap.size wr wr := kq (Below.refl _ _)
        have hstep := Lib.hid (compactI_step hxx hyy)
        have hyk : xs[k]? = some y := by rw [hm]; exact hyy
        have hxxH := Lib.hid hxx
        have hyyH := Lib.hid hyy
        have hykH := Lib.hid hyk
        have hmH := Lib.hid hm
        clear hm hxx hyy hyk
        obtain ⟨x1, x2⟩ := x
        obtain ⟨y1, y2⟩ := y
        dsimp only at p0 p1 q0 q1
        by_cases he : y1 = x1 ∧ y2 = x2
        · obtain ⟨rfl, rfl⟩ := he
          have hin : Hid (xs.take k = compactI (xs.take (k + 1))) := Lib.hid (by
            have h1 := hstep.out
            rw [if_pos rfl, ← hmH.out, hcpH.out] at h1
            rw [show k + 1 = m + 2 by have := hmH.out; omega]
            exact h1.symm)
          have hck : k < c := by omega
          clear hstep
          obtain ⟨d, hd⟩ : ∃ d, n = k + d := ⟨n - k, by omega⟩
          have hd1 : 1 ≤ d := by omega
          have hdH := Lib.hid hd
          have hnk : n - k = d := by omega
          clear hd
          go_wp2
          go_region_held3 (fun w' => KQ wr.heap.size wr w') (first
      | with_reducible exact kq_call (by assumption) (by simp) (by assumption)
      | with_reducible exact kq_grown (by assumption) (by simp) (by assumption) (by simp [Value.ownBlock])
      | ((with_reducible refine kq ?_); (repeat (first | (with_reducible exact Below.refl _ _) | (with_reducible refine Below.drew ?_) | (with_reducible refine Below.alloc ?_ (by simp) _) | (with_reducible refine Below.setCell ?_ (by simp) _) | (with_reducible exact (by assumption : KQ _ _ _).1))); done)) (first | (go_at_call 0; skip))
          go_wp2_with fail
          have hownB := hown.below hbr.drew
          have hgrB : w.grownBy wr.drew (some g) := gr_below hbr.drew _
          obtain ⟨wo, hwo⟩ : ∃ wo, wr = wo := ⟨_, rfl⟩
          subst hwo
          clear p0 p1 q0 q1
          go_loopg [3, 5] d (fun gh i j wr => ∃ (p q : Nat) (L : List Im), 1 ≤ q ∧ q ≤ d ∧ p + 1 ≤ k + q ∧ gh = d + 1 - q ∧ i = .int .i64 p ∧ j = .int .i64 q ∧ L.length = n ∧ L.take p = compactI (xs.take (k + q)) ∧ L.drop (k + q - 1) = xs.drop (k + q - 1) ∧
            Ow wr base 37 2 (.slice (some ⟨g, 0, none⟩) n c) (L.map Im.enc) ∧ w.grownBy wr (some g))
          case atStart => exact ⟨k, 1, xs, by omega, by omega, by omega, by omega, by go_num, by go_num, hlH.out, hin.out, rfl, hownB, hgrB⟩
          case round =>
            obtain ⟨p, q, L, hq1, hqd, hpq, rfl, rfl, rfl, hLl, hLt, hLd, hownL, hgr⟩ := hrel
            have hzr := hgr.size
            have hkd : k + d = n := hdH.out.symm
            obtain ⟨g', he, _, hglr, hgfr, hgcr⟩ := hownL.addr (by omega)
            injection he with he
            injection he with he
            subst he
            by_cases hlt2 : q < d
            · obtain ⟨r, hr⟩ : ∃ r, q = r + 1 := ⟨q - 1, by omega⟩
              have hw2 : IntKind.i64.wrap ((q : Int) - 1) = (r : Int) := by rw [IntWalk.i64_in _ (by omega)]; omega
              obtain ⟨u, huu⟩ : ∃ u, xs[k + r]? = some u := ⟨_, List.getElem?_eq_getElem (by rw [hlH.out]; omega)⟩
              obtain ⟨z, hzz⟩ : ∃ z, xs[k + r + 1]? = some z := ⟨_, List.getElem?_eq_getElem (by rw [hlH.out]; omega)⟩
              have hLu : L[k + r]? = some u := by
                have h1 : (L.drop (k + q - 1))[0]? = some u := by rw [hLd, List.getElem?_drop, show k + q - 1 + 0 = k + r by omega]; exact huu
                rw [List.getElem?_drop, show k + q - 1 + 0 = k + r by omega] at h1; exact h1
              have hLz : L[k + r + 1]? = some z := by
                have h1 : (L.drop (k + q - 1))[1]? = some z := by rw [hLd, List.getElem?_drop, show k + q - 1 + 1 = k + r + 1 by omega]; exact hzz
                rw [List.getElem?_drop, show k + q - 1 + 1 = k + r + 1 by omega] at h1; exact h1
              obtain ⟨y', hyy'⟩ : ∃ y', L[p]? = some y' := ⟨_, List.getElem?_eq_getElem (by omega)⟩
              have hcu := hgcr (k + r) u.enc (by rw [List.getElem?_map, hLu]; rfl)
              have hcz := hgcr (k + r + 1) z.enc (by rw [List.getElem?_map, hLz]; rfl)
              have hcy := hgcr p y'.enc (by rw [List.getElem?_map, hyy']; rfl)
              have p0 := hcu 0 _ rfl
              have p1 := hcu 1 _ rfl
              have q0 := hcz 0 _ rfl
              have q1 := hcz 1 _ rfl
              have r0 := hcy 0 _ rfl
              have r1 := hcy 1 _ rfl
              rw [show (k + r) * 2 = k * 2 + r * 2 by omega] at p0 p1
              rw [show (k + r + 1) * 2 = k * 2 + q * 2 by omega] at q0 q1
              rw [Nat.add_zero] at p0 q0 r0
              have hst2 := Lib.hid (compactI_step huu hzz)
              have hdr : Hid (L.drop (k + q) = xs.drop (k + q)) := Lib.hid (by
                have := congrArg (List.drop 1) hLd
                rwa [List.drop_drop, List.drop_drop, show k + q - 1 + 1 = k + q by omega] at this)
              have e1H : Hid (k + r + 2 = k + (q + 1)) := Lib.hid (by omega)
              have e2H : Hid (k + r + 1 = k + q) := Lib.hid (by omega)
              have e3H : Hid (k + (q + 1) - 1 = k + q) := Lib.hid (by omega)
              have hpn : p < n := by omega
              have hLlH := Lib.hid hLl
              have hLtH := Lib.hid hLt
              have hqn : k + q ≤ n := by omega
              have hrd : r < d := by omega
              clear hcu hcz hcy hgcr huu hzz hLu hLz hyy' hLd hLt hLl hr hkd
              have hq0' : KQ wr.heap.size wr wr := kq (Below.refl _ _)
              obtain ⟨u1, u2⟩ := u
              obtain ⟨z1, z2⟩ := z
              dsimp only at p0 p1 q0 q1
              by_cases he2 : z1 = u1 ∧ z2 = u2
              · obtain ⟨rfl, rfl⟩ := he2
                have hT : Hid (L.take p = compactI (xs.take (k + (q + 1)))) := Lib.hid (by
                  have h1 := hst2.out
                  rw [if_pos rfl, e1H.out, e2H.out, ← hLtH.out] at h1
                  exact h1.symm)
                have hG : w.grownBy wr.drew (some g) := hgr.trans (gr_below (Below.refl _ _).drew _)
                have hownD := hownL.below (Below.refl _ wr).drew
                go_wp2
                go_region_held3 (fun w' => KQ wr.heap.size wr w') (first
      | with_reducible exact kq_call (by assumption) (by simp) (by assumption)
      | with_reducible exact kq_grown (by assumption) (by simp) (by assumption) (by simp [Value.ownBlock])
      | ((with_reducible refine kq ?_); (repeat (first | (with_reducible exact Below.refl _ _) | (with_reducible refine Below.drew ?_) | (with_reducible refine Below.alloc ?_ (by simp) _) | (with_reducible refine Below.setCell ?_ (by simp) _) | (with_reducible exact (by assumption : KQ _ _ _).1))); done)) (first | (go_at_call 0; skip))
                go_wp2
                go_roundg (d + 1 - (q + 1))
                case measure => omega
                case rel => exact ⟨p, q + 1, L, by omega, by omega, by omega, rfl, by go_num, by go_num, hLlH.out, hT.out, by rw [e3H.out]; exact hdr.out, hownD, hG⟩
              · have hT : Hid (compactI (xs.take (k + (q + 1))) = L.take p ++ [(z1, z2)]) := Lib.hid (by
                  have h1 := hst2.out
                  rw [if_neg (by simpa [eq_comm] using he2), e1H.out, e2H.out, ← hLtH.out] at h1
                  exact h1)
                have hgfr2 : ∀ o, wr.drew.frozen? ⟨g, o, none⟩ = false := hgfr
                have hownD := hownL.below (Below.refl _ wr).drew
                have hG : w.grownBy wr.drew (some g) := hgr.trans (gr_below (Below.refl _ _).drew _)
                by_cases hz1 : z1 = u1
                · subst hz1
                  have hz2 : ¬ z2 = u2 := fun h => he2 ⟨rfl, h⟩
                  clear he2
                  go_wp2
                  go_region_held3 (fun w' => KQ wr.heap.size wr w') (first
      | with_reducible exact kq_call (by assumption) (by simp) (by assumption)
      | with_reducible exact kq_grown (by assumption) (by simp) (by assumption) (by simp [Value.ownBlock])
      | ((with_reducible refine kq ?_); (repeat (first | (with_reducible exact Below.refl _ _) | (with_reducible refine Below.drew ?_) | (with_reducible refine Below.alloc ?_ (by simp) _) | (with_reducible refine Below.setCell ?_ (by simp) _) | (with_reducible exact (by assumption : KQ _ _ _).1))); done)) (first | (go_at_call 0; skip))
                  go_wp2
                  go_roundg (d + 1 - (q + 1))
                  case measure => omega
                  case rel =>
                    refine ⟨p + 1, q + 1, L.set p (z1, z2), by omega, by omega, by omega, rfl, by go_num, by go_num, by rw [List.length_set]; exact hLlH.out, ?_, ?_, ?_, ?_⟩
                    · rw [hT.out, List.take_add_one, List.getElem?_set_self (by rw [hLlH.out]; omega), List.take_set_of_le (Nat.le_refl _)]; simp
                    · rw [e3H.out, List.drop_set_of_lt (by omega)]; exact hdr.out
                    · rw [List.map_set]; exact (hownL.set2 (by omega) (.int .i64 z1) (.int .u32 z2)).below (Below.refl _ _).drew
                    · exact (gr_set (gr_set hgr _ _) _ _).trans (gr_below (Below.refl _ _).drew _)
                · clear he2
                  go_wp2
                  go_region_held3 (fun w' => KQ wr.heap.size wr w') (first
      | with_reducible exact kq_call (by assumption) (by simp) (by assumption)
      | with_reducible exact kq_grown (by assumption) (by simp) (by assumption) (by simp [Value.ownBlock])
      | ((with_reducible refine kq ?_); (repeat (first | (with_reducible exact Below.refl _ _) | (with_reducible refine Below.drew ?_) | (with_reducible refine Below.alloc ?_ (by simp) _) | (with_reducible refine Below.setCell ?_ (by simp) _) | (with_reducible exact (by assumption : KQ _ _ _).1))); done)) (first | (go_at_call 0; skip))
                  go_wp2
                  go_roundg (d + 1 - (q + 1))
                  case measure => omega
                  case rel =>
                    refine ⟨p + 1, q + 1, L.set p (z1, z2), by omega, by omega, by omega, rfl, by go_num, by go_num, by rw [List.length_set]; exact hLlH.out, ?_, ?_, ?_, ?_⟩
                    · rw [hT.out, List.take_add_one, List.getElem?_set_self (by rw [hLlH.out]; omega), List.take_set_of_le (Nat.le_refl _)]; simp
                    · rw [e3H.out, List.drop_set_of_lt (by omega)]; exact hdr.out
                    · rw [List.map_set]; exact (hownL.set2 (by omega) (.int .i64 z1) (.int .u32 z2)).below (Below.refl _ _).drew
                    · exact (gr_set (gr_set hgr _ _) _ _).trans (gr_below (Below.refl _ _).drew _)
            · obtain rfl : q = d := by omega
              have hfin : Hid (L.take p = compactI xs) := Lib.hid (by rw [hLt, hkd, List.take_of_length_le (by rw [hlH.out]; exact Nat.le_refl _)])
              have hzv : ∀ w, (zeroValue 37).run Try.prog w = .ok (.agg #[.int .i64 0, .int .u32 0]) w := fun _ => by kernel_rfl
              obtain ⟨wc, hrun, hown4, hgr4⟩ := run_clear_row (sz := 2) (c' := c - p) (i := p) Try.underlying25 hzv (by simp [Value.cells, Value.oneCell']) rfl (by decide) hownL (by omega)
              have hown5 := hown4.front (k := p) (by omega)
              have hpn : p < n := by omega
              have hpc : p < c := by omega
              have hfr : Hid (((L.map Im.enc).take p ++ List.replicate (n - p) (Value.agg #[.int .i64 0, .int .u32 0]).cells.toList).take p = (compactI xs).map Im.enc) := Lib.hid (by
                rw [List.take_append_of_le_length (by simp; omega), List.take_take, Nat.min_self, ← hfin.out, List.map_take])
              clear hgfr hgcr hown hLt hLd hLl hkd
              go_wp2
              go_ret
              exact ⟨p, rfl, by rw [← hfr.out]; exact hown5, hgr.trans hgr4⟩
        · have hT : Hid (compactI (xs.take (k + 1)) = xs.take (k + 1)) := Lib.hid (by
            have h1 := hstep.out
            rw [if_neg (by simpa [eq_comm] using he), ← hmH.out, hcpH.out] at h1
            rw [show k + 1 = m + 2 by have := hmH.out; omega, h1, show m + 2 = k + 1 by have := hmH.out; omega, List.take_add_one, hykH.out]; rfl)
          have hG := hbr.drew
          by_cases hy1 : y1 = x1
          · subst hy1
            have hy2 : ¬ y2 = x2 := fun h => he ⟨rfl, h⟩
            clear he hstep
            go_wp2
            go_region_held3 (fun w' => KQ wr.heap.size wr w') (first
      | with_reducible exact kq_call (by assumption) (by simp) (by assumption)
      | with_reducible exact kq_grown (by assumption) (by simp) (by assumption) (by simp [Value.ownBlock])
      | ((with_reducible refine kq ?_); (repeat (first | (with_reducible exact Below.refl _ _) | (with_reducible refine Below.drew ?_) | (with_reducible refine Below.alloc ?_ (by simp) _) | (with_reducible refine Below.setCell ?_ (by simp) _) | (with_reducible exact (by assumption : KQ _ _ _).1))); done)) (first | (go_at_call 0; skip))
            go_wp2
            go_roundg (n + 1 - (k + 1))
            case measure => omega
            case rel => exact ⟨k + 1, by omega, by omega, rfl, by go_num, hT.out, hG⟩
          · clear he hstep
            go_wp2
            go_region_held3 (fun w' => KQ wr.heap.size wr w') (first
      | with_reducible exact kq_call (by assumption) (by simp) (by assumption)
      | with_reducible exact kq_grown (by assumption) (by simp) (by assumption) (by simp [Value.ownBlock])
      | ((with_reducible refine kq ?_); (repeat (first | (with_reducible exact Below.refl _ _) | (with_reducible refine Below.drew ?_) | (with_reducible refine Below.alloc ?_ (by simp) _) | (with_reducible refine Below.setCell ?_ (by simp) _) | (with_reducible exact (by assumption : KQ _ _ _).1))); done)) (first | (go_at_call 0; skip))
            go_wp2
            go_roundg (n + 1 - (k + 1))
            case measure => omega
            case rel => exact ⟨k + 1, by omega, by omega, rfl, by go_num, hT.out, hG⟩
      · obtain rfl : k = n := by omega
        have hcx : compactI xs = xs := by have := hcpH.out; rwa [List.take_of_length_le (by rw [hlH.out]; exact Nat.le_refl _)] at this
        have hcxH := Lib.hid hcx
        clear hcx
        go_wp2
        go_ret
        exact ⟨k, rfl, by rw [hcxH.out]; exact hown.below hbr, gr_below hbr _⟩
end Go.Proofs.Ytpfohpfgfdeecaa
