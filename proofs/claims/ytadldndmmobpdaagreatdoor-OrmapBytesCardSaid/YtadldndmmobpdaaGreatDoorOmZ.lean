/- The document's Read of a map of puts: the next map of a reader. -/
import Derived.Test.YtadldndmmobpdaaGreatDoorOmR
import Derived.Test.YtadldndmmobpdaaGreatDoorOmV
import Derived.Test.YtadldndmmobpdaaGreatDoorOmF
import Derived.Deep.DeepCutAuto
import Derived.Deep.CutBlock
namespace Go.Proofs.YtadldndmmobpdaaGreatDoor
open Go.RowKit

theorem Ow.set_ne {w : World} {base : Nat} {e : TypeId} {sz g : Nat} {v : Value} {xs : List (List Value)} (h : Ow w base e sz v xs) (hne : v.ownBlock ≠ some g) (i : Nat) (u : Value) : Ow (w.setCell ⟨g, i, none⟩ u) base e sz v xs :=
  ⟨h.1, h.2.kept (gr_set (World.grownBy.refl w _) i u) (.inr hne)⟩
set_option maxRecDepth 100000 in
set_option maxHeartbeats 8000000 in
theorem dreadM_any (B : Nat) (S : Rs) (w : World) (h : RdrD w B S) (hS : S.wf) :
    Calls Tryz.prog 12 #[.pointer (some ⟨B, 0, none⟩)] w
      fun r w' => ∃ A n c G m d, r = .returned (.agg #[.slice A n c, .slice G m d]) ∧ Ow w' w.heap.size 70 7 (.slice A n c) ((readSt readP mErr S).1.1.map Pm.enc) ∧ Ow w' w.heap.size 60 3 (.slice G m d) ((readSt readP mErr S).1.2.map Tm.enc) ∧ RdrD w' B (readSt readP mErr S).2 ∧ w.grownBy w' (some B) := by
  have hBlt := h.lt
  have hb0 : Below w.heap.size w ((w.alloc (.cells #[.slice none 0 0, .slice none 0 0] 25)).alloc (.cells #[.slice none 0 0, .slice none 0 0] 25)) := ((Below.refl _ w).alloc (Nat.le_refl _) _).alloc (by simp) _
  have hr0 : ((w.alloc (.cells #[.slice none 0 0, .slice none 0 0] 25)).alloc (.cells #[.slice none 0 0, .slice none 0 0] 25)).heap[w.heap.size]? = some (.cells #[.slice none 0 0, .slice none 0 0] 25 (0, 0)) := heap_old _ (by simp) (heap_at _ _ rfl)
  have ht0 : ((w.alloc (.cells #[.slice none 0 0, .slice none 0 0] 25)).alloc (.cells #[.slice none 0 0, .slice none 0 0] 25)).heap[w.heap.size + 1]? = some (.cells #[.slice none 0 0, .slice none 0 0] 25 (0, 0)) := heap_at _ _ (by simp)
  have hR0 := h.below hb0
  generalize hW : ((w.alloc (.cells #[.slice none 0 0, .slice none 0 0] 25)).alloc (.cells #[.slice none 0 0, .slice none 0 0] 25)) = W at hb0 hr0 ht0 hR0
  have hw1 : (intS 4096 S).2.wf := Rs.wf_next hS _
  have c1 := Lib.hid (dint_any 4096 B (by omega) S W hR0 hS)
  have hle1 := intS_le 4096 S
  obtain ⟨P, Tf, hT⟩ : ∃ P Tf, readSt readP mErr S = (P, Tf) := ⟨_, _, rfl⟩
  rw [hT]
  unfold readSt at hT
  dsimp only at hT
  generalize intS 4096 S = p at *
  obtain ⟨m1, S1⟩ := p
  dsimp only at *
  have hwfA := readN_wf (f := readP) (P := fun a => a.wf ∧ a.2.1.length ≤ 12) (fun S h => readP_wf h) m1 hw1
  obtain ⟨XS, S2, hXS⟩ : ∃ XS S2, readN readP m1 S1 = (XS, S2) := ⟨_, _, rfl⟩
  rw [hXS] at hT hwfA
  dsimp only at hT hwfA
  have hw2 : (intS 4096 S2).2.wf := Rs.wf_next hwfA.1 _
  have c2 := Lib.hid (fun w h => dint_any 4096 B (by omega) S2 w h hwfA.1)
  have hle2 := intS_le 4096 S2
  generalize intS 4096 S2 = q at *
  obtain ⟨m2, S3⟩ := q
  dsimp only at *
  have hwfG := readN_wf (f := readT) (P := Tm.wf) (fun S h => readT_wf h) m2 hw2
  obtain ⟨GS, S4, hGS⟩ : ∃ GS S4, readN readT m2 S3 = (GS, S4) := ⟨_, _, rfl⟩
  rw [hGS] at hT hwfG
  dsimp only at hT hwfG
  have hTH := Lib.hid hT
  have hXH := Lib.hid hXS
  have hGH := Lib.hid hGS
  have hwAH := Lib.hid hwfA
  have hwGH := Lib.hid hwfG
  have hw1H := Lib.hid hw1
  have hw2H := Lib.hid hw2
  have e1 : (0 : Int) ≤ (m1 : Int) := by omega
  have e2 : (0 : Int) ≤ (m2 : Int) := by omega
  have hzW := hb0.size
  have hltT := blk_lt ht0
  clear hT hXS hGS hwfA hwfG hw1 hw2 h hS hR0
  go_enter Tryz.func12, Tryz.ntmps12
  go_wp2_with fail
  refine c1.out.mono ?_
  rintro e w1 ⟨rfl, hR1, hg1⟩
  have hr1 : w1.heap[w.heap.size]? = some (.cells #[.slice none 0 0, .slice none 0 0] 25 (0, 0)) := (hg1.block _ (blk_lt hr0) (by simp; omega)).trans hr0
  have ht1 : w1.heap[w.heap.size + 1]? = some (.cells #[.slice none 0 0, .slice none 0 0] 25 (0, 0)) := (hg1.block _ hltT (by simp; omega)).trans ht0
  have hgw1 : w.grownBy w1 (some B) := (gr_below hb0 _).trans hg1
  clear hg1 hr0 ht0 c1
  go_upto_block 0 with (fail)
  go_cut [5] (fun sk wx => sk = sk ∧ ∃ A' n' c', wx.heap[w.heap.size]? = some (.cells #[.slice none 0 0, .slice none 0 0] 25 (0, 0)) ∧ wx.heap[w.heap.size + 1]? = some (.cells #[.slice A' n' c', .slice none 0 0] 25 (0, 0)) ∧ Ow wx (w.heap.size + 1 + 1) 70 7 (.slice A' n' c') (XS.map Pm.enc) ∧ RdrD wx B S2 ∧ w.grownBy wx (some B))
  case first =>
    go_wp2_with fail
    go_loopg [5] (m1 + 1) (fun g i wr => ∃ (k : Nat) (L : List Pm) (S' : Rs) (A' : Option Addr) (c' : Nat), k ≤ m1 ∧ g = m1 + 1 - k ∧ i = .int .i64 (k : Int) ∧ L.length = k ∧ S'.wf ∧ XS = L ++ (readN readP (m1 - k) S').1 ∧ S2 = (readN readP (m1 - k) S').2 ∧ wr.heap[w.heap.size]? = some (.cells #[.slice none 0 0, .slice none 0 0] 25 (0, 0)) ∧ wr.heap[w.heap.size + 1]? = some (.cells #[.slice A' k c', .slice none 0 0] 25 (0, 0)) ∧ Ow wr (w.heap.size + 1 + 1) 70 7 (.slice A' k c') (L.map Pm.enc) ∧ RdrD wr B S' ∧ w.grownBy wr (some B))
    case atStart => exact ⟨0, [], S1, none, 0, Nat.zero_le _, rfl, rfl, rfl, hw1H.out, by rw [Nat.sub_zero, hXH.out]; rfl, by rw [Nat.sub_zero, hXH.out], hr1, ht1, Ow.nil_ _ _ _ _, hR1, hgw1⟩
    case round =>
      clear hr1 ht1 hR1 hgw1
      obtain ⟨k, L, S', A', c', hk, rfl, rfl, hL, hS', hX1, hX2, hr, ht, hown, hR, hgr⟩ := hrel
      have hlr := blk_lt hr
      have hlt' := blk_lt ht
      have hrH := Lib.hid hr
      have htH := Lib.hid ht
      have hLH := Lib.hid hL
      have hX1H := Lib.hid hX1
      have hX2H := Lib.hid hX2
      have hS'H := Lib.hid hS'
      have hRk := Lib.hid hR
      clear hr ht hL hX1 hX2 hS'
      by_cases hlt : k < m1
      · have hlti : (k : Int) < (m1 : Int) := by omega
        by_cases hf : S'.fe = 0
        · have ct := Lib.hid (fun w h => dtag_any B S' w h hS'H.out)
          have hwt := readT_wf hS'H.out
          obtain ⟨t, Sa, hta⟩ : ∃ t Sa, readT S' = (t, Sa) := ⟨_, _, rfl⟩
          rw [hta] at ct hwt
          have cx := Lib.hid (fun w h => dtext_any 12 B (by omega) Sa w h hwt.1)
          have hwx := textS_wf 12 hwt.1
          obtain ⟨f, Sb, hxa⟩ : ∃ e Sb, textS 12 Sa = (e, Sb) := ⟨_, _, rfl⟩
          rw [hxa] at cx hwx
          have cs := Lib.hid (fun w h => dsig_any B Sb w h hwx)
          have hwz := readZ_wf hwx
          obtain ⟨v, Sc, hza⟩ : ∃ e Sc, readZ Sb = (e, Sc) := ⟨_, _, rfl⟩
          rw [hza] at cs hwz
          have cl := Lib.hid (fun w h => dlread_any B Sc w h hwz)
          have hws := readSt'_wf hwz
          obtain ⟨s, Sd, hsa⟩ : ∃ e Sd, readSt' Sc = (e, Sd) := ⟨_, _, rfl⟩
          rw [hsa] at cl hws
          have hra : readP S' = ((t, (f, (v, s))), Sd) := by unfold readP; simp only [hta, hxa, hza, hsa]
          have hstep := readN_more hf hra (m1 - (k + 1))
          rw [show m1 - (k + 1) + 1 = m1 - k by omega] at hstep
          have hstH := Lib.hid hstep
          have hwxH := Lib.hid hws.1
          clear hta hxa hza hsa hra hstep hwt hwx hwz hws
          have hbz := hR
          unfold RdrD at hbz
          rw [(by assumption : S'.fe = 0)] at hbz
          have hltz := blk_lt hbz
          have z0 := blk_cell hbz 0
          have z1 := blk_cell hbz 1
          have z2 := blk_cell hbz 2
          have z3 := blk_cell hbz 3
          simp at z0 z1 z2 z3
          clear hbz
          clear hf
          go_wp2_with fail
          refine (ct.out _ hRk.out).mono ?_
          rintro e' w2 ⟨rfl, hR2, hg2⟩
          clear ct z0 z1 z2 z3 hltz
          have hr2 : w2.heap[w.heap.size]? = some (.cells #[.slice none 0 0, .slice none 0 0] 25 (0, 0)) := (hg2.block _ hlr (by simp; omega)).trans hrH.out
          have ht2 : w2.heap[w.heap.size + 1]? = some (.cells #[.slice A' k c', .slice none 0 0] 25 (0, 0)) := (hg2.block _ hlt' (by simp; omega)).trans htH.out
          have ho2 : Ow w2 (w.heap.size + 1 + 1) 70 7 (.slice A' k c') (L.map Pm.enc) := hown.keptB hg2 (by omega)
          have hgr2 := hgr.trans hg2
          have hltt2 := blk_lt ht2
          have hltr2 := blk_lt hr2
          have hBl2 := hR2.lt
          have hown2 : A' = none ∨ ∃ g, (Value.slice A' k c').ownBlock = some g ∧ g < w2.heap.size := by
            cases hv : (Value.slice A' k c').ownBlock with
            | none => left; cases A' with | none => rfl | some a => simp [Value.ownBlock] at hv
            | some g => right; exact ⟨g, rfl, (ho2.block g hv).2⟩
          have hvb : Below w2.heap.size w2 (w2.alloc (.cells #[.int .i64 t.1.1, .int .u32 t.1.2, .int .i64 t.2, .string ⟨#[]⟩, .int .i64 0, .int .u32 0, .int .i64 0] 70)) := (Below.refl _ w2).alloc (Nat.le_refl _) _
          clear hown hg2 hgr hRk hrH htH
          go_wp2_with fail
          refine (cx.out _ (hR2.below hvb)).mono ?_
          rintro e' w3 ⟨rfl, hR3, hg3⟩
          have hz3 := hg3.size
          simp only [World.size_alloc] at hz3
          have hr3 : w3.heap[w.heap.size]? = some (.cells #[.slice none 0 0, .slice none 0 0] 25 (0, 0)) := (hg3.block _ (by simp; omega) (by simp; omega)).trans (blk_below hr2 hvb)
          have ht3 : w3.heap[w.heap.size + 1]? = some (.cells #[.slice A' k c', .slice none 0 0] 25 (0, 0)) := (hg3.block _ (by simp; omega) (by simp; omega)).trans (blk_below ht2 hvb)
          have hI3 : w3.heap[w2.heap.size]? = some (.cells #[.int .i64 t.1.1, .int .u32 t.1.2, .int .i64 t.2, .string ⟨#[]⟩, .int .i64 0, .int .u32 0, .int .i64 0] 70 (0, 0)) := (hg3.block _ (by simp) (by simp; omega)).trans (heap_at _ _ rfl)
          have ho3 := (ho2.below hvb).keptB hg3 (by omega)
          have hgr3 := (gr_alloc hgr2 (.cells #[.int .i64 t.1.1, .int .u32 t.1.2, .int .i64 t.2, .string ⟨#[]⟩, .int .i64 0, .int .u32 0, .int .i64 0] 70)).trans hg3
          have hneI : (Value.slice A' k c').ownBlock ≠ some w2.heap.size := by
            rcases hown2 with rfl | ⟨g, hg, hgl⟩
            · simp [Value.ownBlock]
            · rw [hg]; intro e; injection e with e; omega
          have hne1 : w2.heap.size ≠ w.heap.size := by omega
          have hne2 : w2.heap.size ≠ w.heap.size + 1 := by omega
          have hneB1 : w2.heap.size ≠ B := by omega
          have hneB2 : B ≠ w2.heap.size := by omega
          have hlI3 := blk_lt hI3
          have i3 := blk_cell hI3 3
          simp at i3
          have hfI3 := blk_frozen hI3
          have hI3H := Lib.hid hI3
          have hr3H := Lib.hid hr3
          have ht3H := Lib.hid ht3
          clear hr2 ht2 ho2 hgr2 hvb hg3 hI3 hr3 ht3 hR2 cx hown2
          go_wp2_with fail
          refine (cs.out _ (hR3.set hI3H.out trivial (by decide) 3 _)).mono ?_
          rintro e' w4 ⟨rfl, hR4, hg4⟩
          have hz4 := hg4.size
          simp only [World.size_setCell] at hz4
          have hr4 : w4.heap[w.heap.size]? = some (.cells #[.slice none 0 0, .slice none 0 0] 25 (0, 0)) := (hg4.block _ (by simp; omega) (by simp; omega)).trans (heap_set_ne (by dsimp only; omega) hr3H.out)
          have ht4 : w4.heap[w.heap.size + 1]? = some (.cells #[.slice A' k c', .slice none 0 0] 25 (0, 0)) := (hg4.block _ (by simp; omega) (by simp; omega)).trans (heap_set_ne (by dsimp only; omega) ht3H.out)
          have hI4 : w4.heap[w2.heap.size]? = some (.cells #[.int .i64 t.1.1, .int .u32 t.1.2, .int .i64 t.2, .string (bs f), .int .i64 0, .int .u32 0, .int .i64 0] 70 (0, 0)) := (hg4.block _ (by simp; omega) (by simp; omega)).trans (by rw [blk_set hI3H.out]; rfl)
          have ho4 := (ho3.set_ne hneI 3 (.string (bs f))).keptB hg4 (by omega)
          have hgr4 := (gr_set_new hgr3 (by omega) 3 (.string (bs f))).trans hg4
          have hlI4 := blk_lt hI4
          clear i3 hfI3 hlI3
          have i4 := blk_cell hI4 4
          simp at i4
          have hfI4 := blk_frozen hI4
          have hI4H := Lib.hid hI4
          have hr4H := Lib.hid hr4
          have ht4H := Lib.hid ht4
          clear hg4 hI4 hr4 ht4 hR3 cs ho3 hgr3 hI3H hr3H ht3H
          go_wp2_with fail
          refine (cl.out _ (hR4.set hI4H.out trivial (by decide) 4 _)).mono ?_
          rintro e' w5 ⟨rfl, hR5, hg5⟩
          have hz5 := hg5.size
          simp only [World.size_setCell] at hz5
          have hr5 : w5.heap[w.heap.size]? = some (.cells #[.slice none 0 0, .slice none 0 0] 25 (0, 0)) := (hg5.block _ (by simp; omega) (by simp; omega)).trans (heap_set_ne (by dsimp only; omega) hr4H.out)
          have ht5 : w5.heap[w.heap.size + 1]? = some (.cells #[.slice A' k c', .slice none 0 0] 25 (0, 0)) := (hg5.block _ (by simp; omega) (by simp; omega)).trans (heap_set_ne (by dsimp only; omega) ht4H.out)
          have hI5 : w5.heap[w2.heap.size]? = some (.cells #[.int .i64 t.1.1, .int .u32 t.1.2, .int .i64 t.2, .string (bs f), .int .i64 v, .int .u32 0, .int .i64 0] 70 (0, 0)) := (hg5.block _ (by simp; omega) (by simp; omega)).trans (by rw [blk_set hI4H.out]; rfl)
          have ho5 := (ho4.set_ne hneI 4 (.int .i64 v)).keptB hg5 (by omega)
          have hgr5 := (gr_set_new hgr4 (by omega) 4 (.int .i64 v)).trans hg5
          have hlI5 := blk_lt hI5
          clear i4 hfI4 hlI4
          have i5 := blk_cell hI5 5
          have i6 := blk_cell hI5 6
          simp at i5 i6
          have hfI5 := blk_frozen hI5
          obtain ⟨w6, hw6⟩ : ∃ x, (w5.setCell ⟨w2.heap.size, 5, none⟩ (.int .u32 s.1)).setCell ⟨w2.heap.size, 6, none⟩ (.int .i64 s.2) = x := ⟨_, rfl⟩
          have hI6 : w6.heap[w2.heap.size]? = some (.cells #[.int .i64 t.1.1, .int .u32 t.1.2, .int .i64 t.2, .string (bs f), .int .i64 v, .int .u32 s.1, .int .i64 s.2] 70 (0, 0)) := by rw [← hw6, blk_set (blk_set hI5 5 _)]; rfl
          have hr6 : w6.heap[w.heap.size]? = some (.cells #[.slice none 0 0, .slice none 0 0] 25 (0, 0)) := by rw [← hw6]; exact heap_set_ne (by dsimp only; omega) (heap_set_ne (by dsimp only; omega) hr5)
          have ht6 : w6.heap[w.heap.size + 1]? = some (.cells #[.slice A' k c', .slice none 0 0] 25 (0, 0)) := by rw [← hw6]; exact heap_set_ne (by dsimp only; omega) (heap_set_ne (by dsimp only; omega) ht5)
          have ho6 : Ow w6 (w.heap.size + 1 + 1) 70 7 (.slice A' k c') (L.map Pm.enc) := by rw [← hw6]; exact (ho5.set_ne hneI 5 _).set_ne hneI 6 _
          have hR6 : RdrD w6 B Sd := by rw [← hw6]; exact (hR5.set hI5 trivial (by decide) 5 _).set (blk_set hI5 5 _) trivial (by decide) 6 _
          have hgr6 : w.grownBy w6 (some B) := by rw [← hw6]; exact gr_set_new (gr_set_new hgr5 (by omega) 5 _) (by omega) 6 _
          have hI6H := Lib.hid hI6
          have hr6H := Lib.hid hr6
          have ht6H := Lib.hid ht6
          clear hg5 hI5 hr5 ht5 hR4 cl ho4 hgr4 hI4H hr4H ht4H hR5 ho5 hgr5 hI6 hr6 ht6
          go_upto_region 10 with (fail)
          try rw [hw6]
          clear hw6 i5 i6 hfI5 hlI5
          have hlI6 := blk_lt hI6H.out
          have hlt6 := blk_lt ht6H.out
          have j0 := blk_cell hI6H.out 0
          have j1 := blk_cell hI6H.out 1
          have j2 := blk_cell hI6H.out 2
          have j3 := blk_cell hI6H.out 3
          have j4 := blk_cell hI6H.out 4
          have j5 := blk_cell hI6H.out 5
          have j6 := blk_cell hI6H.out 6
          simp at j0 j1 j2 j3 j4 j5 j6
          have o0 := blk_cell ht6H.out 0
          simp at o0
          have hvn : Below w6.heap.size w6 (w6.alloc (.cells #[.int .i64 t.1.1, .int .u32 t.1.2, .int .i64 t.2, .string (bs f), .int .i64 v, .int .u32 s.1, .int .i64 s.2] 70)) := (Below.refl _ w6).alloc (Nat.le_refl _) _
          have htn := Lib.hid (blk_below ht6H.out hvn)
          have hrn := Lib.hid (blk_below hr6H.out hvn)
          have hlen1 : ∀ y ∈ ([[.int .i64 t.1.1, .int .u32 t.1.2, .int .i64 t.2, .string (bs f), .int .i64 v, .int .u32 s.1, .int .i64 s.2]] : List (List Value)), y.length = 7 := by simp
          have hone1 : ∀ y ∈ ([[.int .i64 t.1.1, .int .u32 t.1.2, .int .i64 t.2, .string (bs f), .int .i64 v, .int .u32 s.1, .int .i64 s.2]] : List (List Value)), ∀ v ∈ y, v.oneCell' = true := by simp [Value.oneCell']
          have hlk : Hid ((L.map Pm.enc).length = k) := Lib.hid (by rw [List.length_map]; exact hLH.out)
          have hbk := Lib.hid (ho6.block)
          go_wp2_with (at_builtin; refine wpList_append_rd _ rfl _ _ _ rfl ePutR (base := w.heap.size + 1 + 1) (v := .slice A' k c') (xs := L.map Pm.enc) rfl (ho6.below hvn) rfl (Rd.one' [.int .i64 t.1.1, .int .u32 t.1.2, .int .i64 t.2, .string (bs f), .int .i64 v, .int .u32 s.1, .int .i64 s.2] rfl) hlen1 hone1 (by rw [hlk.out]; unfold maxLen; omega) (by rw [hlk.out]; omega) (by simp; omega) ?_; intro A7 n7 c7 w7 hn7 hown7 hg7 hat7; (obtain rfl : n7 = k + 1 := by rw [hn7, hlk.out]); clear hn7; (have ht7 := (hg7.block _ (blk_lt htn.out) (fun e => by have := (hbk.out _ e.symm).1; omega)).trans htn.out); (have hof7 := blk_frozen ht7); (have hlt7 := blk_lt ht7); (have z0 := blk_cell ht7 0); (simp at z0); (have ht7H := Lib.hid ht7); clear ht7)
          have hr7 := (hg7.block _ (blk_lt hrn.out) (fun e => by have := (hbk.out _ e.symm).1; omega)).trans hrn.out
          have hR7 := (hR6.below hvn).appended (ho6.below hvn) hg7 trivial (by decide)
          have hgw7 := gr_then (gr_alloc hgr6 (.cells #[.int .i64 t.1.1, .int .u32 t.1.2, .int .i64 t.2, .string (bs f), .int .i64 v, .int .u32 s.1, .int .i64 s.2] 70)) hg7 (fun g e => by have := (hbk.out g e).1; omega)
          go_roundg (m1 + 1 - (k + 1))
          case measure => omega
          case rel =>
            refine ⟨k + 1, L ++ [(t, (f, (v, s)))], Sd, A7, c7, by omega, rfl, by go_num, by rw [List.length_append, hLH.out]; rfl, hwxH.out, ?_, ?_, heap_set_ne (by dsimp only; omega) hr7, by rw [blk_set ht7H.out]; rfl, ?_, hR7.set ht7H.out trivial (by decide) 0 _, gr_set_new hgw7 (by omega) 0 _⟩
            · rw [hX1H.out, hstH.out]; simp
            · rw [hX2H.out, hstH.out]
            · rw [List.map_append]; exact hown7.set_blk ht7H.out (by decide) 0 _
        · have hXe : Hid (XS = L ∧ S2 = S') := Lib.hid (by rw [hX1H.out, hX2H.out, readN_bad hf]; simp)
          have hbz := hR
          unfold RdrD at hbz
          have hltz := blk_lt hbz
          have z0 := blk_cell hbz 0
          have z1 := blk_cell hbz 1
          have z2 := blk_cell hbz 2
          have z3 := blk_cell hbz 3
          simp at z0 z1 z2 z3
          have hen : (S'.fe != 0) = true := by rw [bne_iff_ne]; assumption
          clear hbz
          skip
          go_wp2_with fail
          go_meet
          exact ⟨trivial, A', k, c', hrH.out, htH.out, by rw [hXe.out.1]; exact hown, by rw [hXe.out.2]; exact hRk.out, hgr⟩
      · obtain rfl : k = m1 := by omega
        have hnli : ¬ (k : Int) < (k : Int) := by omega
        have hXe : Hid (XS = L ∧ S2 = S') := Lib.hid (by rw [hX1H.out, hX2H.out, Nat.sub_self]; simp [readN])
        go_wp2_with fail
        go_meet
        exact ⟨trivial, A', k, c', hrH.out, htH.out, by rw [hXe.out.1]; exact hown, by rw [hXe.out.2]; exact hRk.out, hgr⟩
  case rest =>
    obtain ⟨_, A1, n1, c1, hrx, htx, hox, hRx, hgx⟩ := hcut
    go_wp2_with fail
    refine (c2.out _ hRx).mono ?_
    rintro e w2 ⟨rfl, hR2, hg2⟩
    have hr2 : w2.heap[w.heap.size]? = some (.cells #[.slice none 0 0, .slice none 0 0] 25 (0, 0)) := (hg2.block _ (blk_lt hrx) (by simp; omega)).trans hrx
    have ht2 : w2.heap[w.heap.size + 1]? = some (.cells #[.slice A1 n1 c1, .slice none 0 0] 25 (0, 0)) := (hg2.block _ (blk_lt htx) (by simp; omega)).trans htx
    have ho2 := hox.keptB hg2 (by omega)
    have hgw2 := hgx.trans hg2
    clear c2 hg2 hgx hox hrx htx hRx hr1 ht1 hR1 hgw1
    go_upto_block 2 with (fail)
    go_cut [7] (fun sk wx => sk = sk ∧ ∃ G' n' c', wx.heap[w.heap.size]? = some (.cells #[.slice none 0 0, .slice none 0 0] 25 (0, 0)) ∧ wx.heap[w.heap.size + 1]? = some (.cells #[.slice A1 n1 c1, .slice G' n' c'] 25 (0, 0)) ∧ Ow wx (w.heap.size + 1 + 1) 70 7 (.slice A1 n1 c1) (XS.map Pm.enc) ∧ Ow wx (w.heap.size + 1 + 1) 60 3 (.slice G' n' c') (GS.map Tm.enc) ∧ RdrD wx B S4 ∧ w.grownBy wx (some B))
    case first =>
      go_wp2_with fail
      go_loopg [7] (m2 + 1) (fun g i wr => ∃ (k : Nat) (L : List Tm) (S' : Rs) (A' : Option Addr) (c' : Nat), k ≤ m2 ∧ g = m2 + 1 - k ∧ i = .int .i64 (k : Int) ∧ L.length = k ∧ S'.wf ∧ GS = L ++ (readN readT (m2 - k) S').1 ∧ S4 = (readN readT (m2 - k) S').2 ∧ wr.heap[w.heap.size]? = some (.cells #[.slice none 0 0, .slice none 0 0] 25 (0, 0)) ∧ wr.heap[w.heap.size + 1]? = some (.cells #[.slice A1 n1 c1, .slice A' k c'] 25 (0, 0)) ∧ Ow wr (w.heap.size + 1 + 1) 70 7 (.slice A1 n1 c1) (XS.map Pm.enc) ∧ Ow wr (w.heap.size + 1 + 1) 60 3 (.slice A' k c') (L.map Tm.enc) ∧ RdrD wr B S' ∧ w.grownBy wr (some B))
      case atStart => exact ⟨0, [], S3, none, 0, Nat.zero_le _, rfl, rfl, rfl, hw2H.out, by rw [Nat.sub_zero, hGH.out]; rfl, by rw [Nat.sub_zero, hGH.out], hr2, ht2, ho2, Ow.nil_ _ _ _ _, hR2, hgw2⟩
      case round =>
        clear hr2 ht2 hR2 hgw2 ho2
        obtain ⟨k, L, S', A', c', hk, rfl, rfl, hL, hS', hX1, hX2, hr, ht, hoX, hown, hR, hgr⟩ := hrel
        have hlr := blk_lt hr
        have hlt' := blk_lt ht
        have hrH := Lib.hid hr
        have htH := Lib.hid ht
        have hLH := Lib.hid hL
        have hX1H := Lib.hid hX1
        have hX2H := Lib.hid hX2
        have hS'H := Lib.hid hS'
        have hRk := Lib.hid hR
        have s0 := blk_cell ht 1
        simp at s0
        clear hr ht hL hX1 hX2 hS'
        by_cases hlt : k < m2
        · have hlti : (k : Int) < (m2 : Int) := by omega
          by_cases hf : S'.fe = 0
          · have ct := Lib.hid (fun w h => dtag_any B S' w h hS'H.out)
            have hwt := readT_wf hS'H.out
            obtain ⟨t, Sb, hta⟩ : ∃ t Sb, readT S' = (t, Sb) := ⟨_, _, rfl⟩
            rw [hta] at ct hwt
            have hstep := readN_more hf hta (m2 - (k + 1))
            rw [show m2 - (k + 1) + 1 = m2 - k by omega] at hstep
            have hstH := Lib.hid hstep
            have hwxH := Lib.hid hwt.1
            clear hta hstep hwt
            have hbz := hR
            unfold RdrD at hbz
            rw [(by assumption : S'.fe = 0)] at hbz
            have hltz := blk_lt hbz
            have z0 := blk_cell hbz 0
            have z1 := blk_cell hbz 1
            have z2 := blk_cell hbz 2
            have z3 := blk_cell hbz 3
            simp at z0 z1 z2 z3
            clear hbz
            skip
            clear hf
            go_upto_region 15 with (fail)
            clear z0 z1 z2 hltz
            have hB2 := hRk.out.lt
            have of0 := blk_frozen htH.out
            refine wp_region_M (fun _ => True) (fun w' => w'.cell? ⟨w.heap.size + 1, 1, none⟩ = some (.slice A' k c')) 7 (by kernel_rfl) trivial s0 ?_
            intro hcl
            have hC := trivial
            have hE : World.cell? (World.drew _) ⟨w.heap.size + 1, 1, none⟩ = some (.slice A' k c') := s0
            (refine wpM_take (i := 0) (v := ?_) rfl (by kernel_rfl) (by kernel_rfl) (by kernel_rfl) (by decide) (fun _ _ _ h => h) hcl hC (fun _ => hE) (Or.inl ⟨by rfl, ?_⟩) ?_; rotate_left; (· (intro w hSw; (try dsimp only at hSw); go_simp; (try with_reducible rfl))); clear hcl; intro hcl; (try simp only [Act.put, List.getElem_toArray, List.getElem_cons_zero, List.getElem_cons_succ, List.setIfInBounds_toArray, List.set_cons_zero, List.set_cons_succ]))
            (refine wpM_take0c (i := 1) (j := 5) (v := ?_) rfl rfl rfl (by kernel_rfl) (by kernel_rfl) (by kernel_rfl) (by kernel_rfl) (by kernel_rfl) (by decide) (fun _ _ _ h => h) hcl hC (fun _ => hE) (Or.inl ⟨by rfl, ?_⟩) ?_; rotate_left; (· (intro w hSw; (try dsimp only at hSw); go_simp; (try with_reducible rfl))); clear hcl; intro hcl; (try simp only [Act.put, List.getElem_toArray, List.getElem_cons_zero, List.getElem_cons_succ, List.setIfInBounds_toArray, List.set_cons_zero, List.set_cons_succ]))
            (refine wpM_take (i := 2) (v := ?_) rfl (by kernel_rfl) (by kernel_rfl) (by kernel_rfl) (by decide) (fun _ _ _ h => h) hcl hC (fun _ => hE) (Or.inl ⟨by rfl, ?_⟩) ?_; rotate_left; (· (intro w hSw; (try dsimp only at hSw); go_simp; (try with_reducible rfl))); clear hcl; intro hcl; (try simp only [Act.put, List.getElem_toArray, List.getElem_cons_zero, List.getElem_cons_succ, List.setIfInBounds_toArray, List.set_cons_zero, List.set_cons_succ]))
            refine wpM_only (i := 3) rfl (by kernel_rfl) hcl (fun K hK => ?_)
            go_simp
            refine (ct.out _ (hRk.out.below (Below.refl _ _).drew)).mono ?_
            rintro e'' v1 ⟨rfl, hRv, hgv⟩
            have hzv : wr.heap.size ≤ v1.heap.size := hgv.size
            have htv : v1.heap[w.heap.size + 1]? = some (.cells #[.slice A1 n1 c1, .slice A' k c'] 25 (0, 0)) := (hgv.block _ (by simp; omega) (by simp; omega)).trans (heap_drew htH.out)
            have hrv : v1.heap[w.heap.size]? = some (.cells #[.slice none 0 0, .slice none 0 0] 25 (0, 0)) := (hgv.block _ (by simp; omega) (by simp; omega)).trans (heap_drew hrH.out)
            have hov := (hown.below (Below.refl _ _).drew).keptB hgv (by omega)
            have hXv := (hoX.below (Below.refl _ _).drew).keptB hgv (by omega)
            have hgv2 := (hgr.trans (gr_below (Below.refl _ _).drew _)).trans hgv
            have hE1 := blk_cell htv 1
            clear hgv hown hoX hgr
            refine hK.out _ _ trivial hE1 ?_
            clear hK K
            clear hcl
            intro hcl
            (try simp only [Act.put, List.getElem_toArray, List.getElem_cons_zero, List.getElem_cons_succ, List.setIfInBounds_toArray, List.set_cons_zero, List.set_cons_succ])
            clear hE
            have hE := hE1
            refine wpM_only (i := 4) rfl (by kernel_rfl) hcl (fun K hK => ?_)
            go_simp
            have hvn : Below v1.heap.size v1 (v1.alloc (.cells #[.int .i64 t.1.1, .int .u32 t.1.2, .int .i64 t.2] 60)) := (Below.refl _ v1).alloc (Nat.le_refl _) _
            have htn := blk_below htv hvn
            have hrn := blk_below hrv hvn
            have hE2 := blk_cell htn 1
            refine hK.out _ _ trivial hE2 ?_
            clear hK K
            clear hcl
            intro hcl
            (try simp only [Act.put, List.getElem_toArray, List.getElem_cons_zero, List.getElem_cons_succ, List.setIfInBounds_toArray, List.set_cons_zero, List.set_cons_succ])
            have hlen1 : ∀ y ∈ ([[.int .i64 t.1.1, .int .u32 t.1.2, .int .i64 t.2]] : List (List Value)), y.length = 3 := by simp
            have hone1 : ∀ y ∈ ([[.int .i64 t.1.1, .int .u32 t.1.2, .int .i64 t.2]] : List (List Value)), ∀ v ∈ y, v.oneCell' = true := by simp [Value.oneCell']
            have hlk : Hid ((L.map Tm.enc).length = k) := Lib.hid (by rw [List.length_map]; exact hLH.out)
            have hlt1 := blk_lt htv
            refine wpM_only (i := 5) rfl (by kernel_rfl) hcl (fun K hK => ?_)
            refine step_append_rd _ rfl _ _ _ rfl eTag (base := w.heap.size + 1 + 1) (v := .slice A' k c') (xs := L.map Tm.enc) rfl (hov.below hvn) rfl (Rd.one' [.int .i64 t.1.1, .int .u32 t.1.2, .int .i64 t.2] rfl) hlen1 hone1 (by rw [hlk.out]; unfold maxLen; omega) (by rw [hlk.out]; omega) (by simp; omega) ?_
            intro A5 n5 c5 v5 hn5 hown5 hg5 hat5
            obtain rfl : n5 = k + 1 := by rw [hn5, hlk.out]
            clear hn5
            have hbk := Lib.hid (hov.block)
            have hz5 := hg5.size
            simp only [World.size_alloc] at hz5
            have ht5 : v5.heap[w.heap.size + 1]? = some (.cells #[.slice A1 n1 c1, .slice A' k c'] 25 (0, 0)) := (hg5.block _ (blk_lt htn) (fun e => by have := (hbk.out _ e.symm).1; omega)).trans htn
            have hr5 : v5.heap[w.heap.size]? = some (.cells #[.slice none 0 0, .slice none 0 0] 25 (0, 0)) := (hg5.block _ (blk_lt hrn) (fun e => by have := (hbk.out _ e.symm).1; omega)).trans hrn
            have hX5 := (hXv.below hvn).other (hov.below hvn) (by decide) hg5
            have hl5 := blk_lt ht5
            have hR5 := (hRv.below hvn).appended (hov.below hvn) hg5 (by decide) (by decide)
            have hgw5 := gr_then (gr_alloc hgv2 (.cells #[.int .i64 t.1.1, .int .u32 t.1.2, .int .i64 t.2] 60)) hg5 (fun g e => by have := (hbk.out g e).1; omega)
            have of5 := blk_frozen ht5
            have hE5 := blk_cell ht5 1
            have hr6 := Lib.hid (heap_set_ne (p := ⟨w.heap.size + 1, 1, none⟩) (u := .slice A5 (k + 1) c5) (by dsimp only; omega) hr5)
            have ht6 : Hid ((v5.setCell ⟨w.heap.size + 1, 1, none⟩ (.slice A5 (k + 1) c5)).heap[w.heap.size + 1]? = some (.cells #[.slice A1 n1 c1, .slice A5 (k + 1) c5] 25 (0, 0))) := Lib.hid (by rw [blk_set ht5]; rfl)
            have ho6 := Lib.hid (hown5.set_blk ht5 (by decide) 1 (.slice A5 (k + 1) c5))
            have hX6 := Lib.hid (hX5.set_blk ht5 (by decide) 1 (.slice A5 (k + 1) c5))
            have hR6 := Lib.hid (hR5.set ht5 (by decide) (by decide) 1 (.slice A5 (k + 1) c5))
            have hg6 := Lib.hid (gr_set_new hgw5 (show w.heap.size ≤ w.heap.size + 1 by omega) 1 (.slice A5 (k + 1) c5))
            clear hr5 hown5 hg5 hR5 hgw5 hov hvn htn hrn htv hrv hRv hgv2 hE1 hE2 hE hat5 hX5 hXv
            refine hK.out _ _ trivial hE5 ?_
            clear hK K
            clear hcl
            intro hcl
            (try simp only [Act.put, List.getElem_toArray, List.getElem_cons_zero, List.getElem_cons_succ, List.setIfInBounds_toArray, List.set_cons_zero, List.set_cons_succ])
            have hE := hE5
            (refine wpM_take (i := 6) (v := ?_) rfl (by kernel_rfl) (by kernel_rfl) (by kernel_rfl) (by decide) (fun _ _ _ h => h) hcl hC (fun _ => hE) (Or.inl ⟨by rfl, ?_⟩) ?_; rotate_left; (· (intro w hSw; (try dsimp only at hSw); go_simp; (try with_reducible rfl))); clear hcl; intro hcl; (try simp only [Act.put, List.getElem_toArray, List.getElem_cons_zero, List.getElem_cons_succ, List.setIfInBounds_toArray, List.set_cons_zero, List.set_cons_succ]))
            have ht5H := Lib.hid ht5
            clear ht5
            refine wpM_last (i := 7) rfl (by kernel_rfl) hcl (by kernel_rfl) (fun K hK => ?_)
            go_simp
            refine hK.out _ _ trivial ?_
            clear hK K hcl
            intro hcl
            refine wpM_done (by kernel_rfl) ?_
            clear hcl hC hE hE5 s0
            try simp only [Act.put, List.getElem_toArray, List.getElem_cons_zero, List.getElem_cons_succ, List.setIfInBounds_toArray, List.set_cons_zero, List.set_cons_succ]
            go_wp2
            go_roundg (m2 + 1 - (k + 1))
            case measure => omega
            case rel =>
              refine ⟨k + 1, L ++ [t], Sb, A5, c5, by omega, rfl, by go_num, by rw [List.length_append, hLH.out]; rfl, hwxH.out, ?_, ?_, hr6.out, ht6.out, hX6.out, ?_, hR6.out, hg6.out⟩
              · rw [hX1H.out, hstH.out]; simp
              · rw [hX2H.out, hstH.out]
              · rw [List.map_append]; exact ho6.out
          · have hXe : Hid (GS = L ∧ S4 = S') := Lib.hid (by rw [hX1H.out, hX2H.out, readN_bad hf]; simp)
            have hbz := hR
            unfold RdrD at hbz
            have hltz := blk_lt hbz
            have z0 := blk_cell hbz 0
            have z1 := blk_cell hbz 1
            have z2 := blk_cell hbz 2
            have z3 := blk_cell hbz 3
            simp at z0 z1 z2 z3
            have hen : (S'.fe != 0) = true := by rw [bne_iff_ne]; assumption
            clear hbz
            skip
            go_wp2_with fail
            go_meet
            exact ⟨trivial, A', k, c', hrH.out, htH.out, hoX, by rw [hXe.out.1]; exact hown, by rw [hXe.out.2]; exact hRk.out, hgr⟩
        · obtain rfl : k = m2 := by omega
          have hnli : ¬ (k : Int) < (k : Int) := by omega
          have hXe : Hid (GS = L ∧ S4 = S') := Lib.hid (by rw [hX1H.out, hX2H.out, Nat.sub_self]; simp [readN])
          go_wp2_with fail
          go_meet
          exact ⟨trivial, A', k, c', hrH.out, htH.out, hoX, by rw [hXe.out.1]; exact hown, by rw [hXe.out.2]; exact hRk.out, hgr⟩
    case rest =>
      obtain ⟨_, G1, n2, c2', hry, hty, hoX, hoG, hRy, hgy⟩ := hcut
      have hBy := hRy.lt
      have hlr := blk_lt hry
      have hlt := blk_lt hty
      have s0 := blk_cell hty 0
      have s1 := blk_cell hty 1
      have r0 := blk_cell hry 0
      have r1 := blk_cell hry 1
      simp at s0 s1 r0 r1
      have hfr := blk_frozen hry
      have hryH := Lib.hid hry
      have htyH := Lib.hid hty
      have hRk := Lib.hid hRy
      have hneB : B ≠ w.heap.size := by omega
      have hneB1 : B ≠ w.heap.size + 1 := by omega
      have hnX : XS.length = n1 := by simpa using hoX.rd.2.1
      have hnG : GS.length = n2 := by simpa using hoG.rd.2.1
      have hx4 := hwAH.out.2.1
      have hg4 := hwGH.out.2.1
      clear hry hty hr2 ht2 hR2 hgw2 ho2
      by_cases hf : S4.fe = 0
      · have ck := rmcheck_any A1 n1 c1 XS G1 n2 c2' GS wc hoX.rd.1 hoG.rd.1 (by first | omega | (simp [maxLen]; omega)) (by first | omega | (simp [maxLen]; omega)) (fun a ha => (hwAH.out.2.2 a ha).1) hwGH.out.2.2 (fun a ha => by have := (hwAH.out.2.2 a ha).2; simp [maxLen]; omega)
        generalize hpe : mErr XS GS = p at ck hTH
        have ck := Lib.hid ck
        have cf := Lib.hid (fun w' h => dfail_any B S4 p w' h)
        by_cases hp : p = 0
        · subst hp
          have hfs : failS S4 0 = S4 := by unfold failS; rw [if_neg (by simp)]
          have hTT := hTH.out
          rw [hfs, if_neg (by simp [hf])] at hTT
          obtain ⟨rfl, rfl⟩ := Prod.mk.inj hTT
          have hfsH := Lib.hid hfs
          clear hTT hTH hfs hpe hnX hnG
          have hbz := hRy
          unfold RdrD at hbz
          rw [(by assumption : S4.fe = 0)] at hbz
          have hltz := blk_lt hbz
          have z0 := blk_cell hbz 0
          have z1 := blk_cell hbz 1
          have z2 := blk_cell hbz 2
          have z3 := blk_cell hbz 3
          simp at z0 z1 z2 z3
          clear hbz
          skip
          go_wp2_with fail
          refine ck.out.mono ?_
          rintro e w3 ⟨rfl, hv3⟩
          have hR3 := hRk.out.below hv3
          clear z0 z1 z2 hltz s0 s1 r0 r1
          go_wp2_with fail
          refine (cf.out _ hR3).mono ?_
          rintro e w4 ⟨rfl, hR4, hg4'⟩
          rw [hfsH.out] at hR4
          have hz3 := hv3.size
          have hr3 := (hg4'.block _ (by omega) (by simp; omega)).trans (blk_below hryH.out hv3)
          have ht3 := (hg4'.block _ (by omega) (by simp; omega)).trans (blk_below htyH.out hv3)
          have oX5 := Lib.hid (fun u v => ((((hoX.below hv3).keptB hg4' (by omega)).set_blk hr3 (by decide) 0 u).set_blk (blk_set hr3 0 u) (by decide) 1 v).base (base' := w.heap.size) (by omega))
          have oG5 := Lib.hid (fun u v => ((((hoG.below hv3).keptB hg4' (by omega)).set_blk hr3 (by decide) 0 u).set_blk (blk_set hr3 0 u) (by decide) 1 v).base (base' := w.heap.size) (by omega))
          have hR5 := Lib.hid (fun u v => (hR4.set hr3 (by decide) (by decide) 0 u).set (blk_set hr3 0 u) (by decide) (by decide) 1 v)
          have hg5 := Lib.hid (fun u v => gr_set_new (gr_set_new ((hgy.trans (gr_below hv3 _)).trans hg4') (Nat.le_refl _) 0 u) (Nat.le_refl _) 1 v)
          have s0 := blk_cell ht3 0
          have s1 := blk_cell ht3 1
          have r0 := blk_cell hr3 0
          have r1 := blk_cell hr3 1
          simp at s0 s1 r0 r1
          have hlr3 := blk_lt hr3
          have hlt3 := blk_lt ht3
          have hfr3 := blk_frozen hr3
          clear hr3 ht3 hg4' hv3
          have hbz := hR4
          unfold RdrD at hbz
          rw [(by assumption : S4.fe = 0)] at hbz
          have hltz := blk_lt hbz
          have z0 := blk_cell hbz 0
          have z1 := blk_cell hbz 1
          have z2 := blk_cell hbz 2
          have z3 := blk_cell hbz 3
          simp at z0 z1 z2 z3
          clear hbz
          skip
          go_wp2
          refine bodyPost_ret (v := .agg #[.slice A1 n1 c1, .slice G1 n2 c2']) (by simp [results, Tryz.results12, go_sem, r0, r1]) rfl ⟨A1, n1, c1, G1, n2, c2', rfl, oX5.out _ _, oG5.out _ _, hR5.out _ _, hg5.out _ _⟩
        · have hfe := failS_fe (S := S4) hp
          have hTT := hTH.out
          rw [if_pos hfe] at hTT
          obtain ⟨rfl, rfl⟩ := Prod.mk.inj hTT
          clear hTT hTH hpe hnX hnG hp
          have hbz := hRy
          unfold RdrD at hbz
          rw [(by assumption : S4.fe = 0)] at hbz
          have hltz := blk_lt hbz
          have z0 := blk_cell hbz 0
          have z1 := blk_cell hbz 1
          have z2 := blk_cell hbz 2
          have z3 := blk_cell hbz 3
          simp at z0 z1 z2 z3
          clear hbz
          skip
          go_wp2_with fail
          refine ck.out.mono ?_
          rintro e w3 ⟨rfl, hv3⟩
          have hR3 := hRk.out.below hv3
          clear z0 z1 z2 hltz s0 s1 r0 r1
          go_wp2_with fail
          refine (cf.out _ hR3).mono ?_
          rintro e w4 ⟨rfl, hR4, hg4'⟩
          have hz3 := hv3.size
          have hr3 := (hg4'.block _ (by omega) (by simp; omega)).trans (blk_below hryH.out hv3)
          have ht3 := (hg4'.block _ (by omega) (by simp; omega)).trans (blk_below htyH.out hv3)
          have oX5 := Lib.hid (fun u v => ((((hoX.below hv3).keptB hg4' (by omega)).set_blk hr3 (by decide) 0 u).set_blk (blk_set hr3 0 u) (by decide) 1 v).base (base' := w.heap.size) (by omega))
          have oG5 := Lib.hid (fun u v => ((((hoG.below hv3).keptB hg4' (by omega)).set_blk hr3 (by decide) 0 u).set_blk (blk_set hr3 0 u) (by decide) 1 v).base (base' := w.heap.size) (by omega))
          have hR5 := Lib.hid (fun u v => (hR4.set hr3 (by decide) (by decide) 0 u).set (blk_set hr3 0 u) (by decide) (by decide) 1 v)
          have hg5 := Lib.hid (fun u v => gr_set_new (gr_set_new ((hgy.trans (gr_below hv3 _)).trans hg4') (Nat.le_refl _) 0 u) (Nat.le_refl _) 1 v)
          have s0 := blk_cell ht3 0
          have s1 := blk_cell ht3 1
          have r0 := blk_cell hr3 0
          have r1 := blk_cell hr3 1
          simp at s0 s1 r0 r1
          have hlr3 := blk_lt hr3
          have hlt3 := blk_lt ht3
          have hfr3 := blk_frozen hr3
          clear hr3 ht3 hg4' hv3
          have hbz := hR4
          unfold RdrD at hbz
          have hltz := blk_lt hbz
          have z0 := blk_cell hbz 0
          have z1 := blk_cell hbz 1
          have z2 := blk_cell hbz 2
          have z3 := blk_cell hbz 3
          simp at z0 z1 z2 z3
          have hen : ((failS S4 p).fe != 0) = true := by rw [bne_iff_ne]; assumption
          clear hbz
          skip
          go_wp2
          refine bodyPost_ret (v := .agg #[.slice none 0 0, .slice none 0 0]) (by simp [results, Tryz.results12, go_sem, r0, r1]) rfl ⟨none, 0, 0, none, 0, 0, rfl, Ow.nil_ _ _ _ _, Ow.nil_ _ _ _ _, hR5.out _ _, hg5.out _ _⟩
      · have hTT := hTH.out
        have hfs : failS S4 (mErr XS GS) = S4 := by unfold failS; rw [if_neg (fun h => hf h.1)]
        rw [hfs, if_pos hf] at hTT
        obtain ⟨rfl, rfl⟩ := Prod.mk.inj hTT
        have hen2 : (S4.fe == 0) = false := by simpa using hf
        clear hTT hTH hfs hnX hnG
        have hR5 := Lib.hid (fun u v => (hRk.out.set hryH.out (by decide) (by decide) 0 u).set (blk_set hryH.out 0 u) (by decide) (by decide) 1 v)
        have hbz := hRy
        unfold RdrD at hbz
        have hltz := blk_lt hbz
        have z0 := blk_cell hbz 0
        have z1 := blk_cell hbz 1
        have z2 := blk_cell hbz 2
        have z3 := blk_cell hbz 3
        simp at z0 z1 z2 z3
        have hen : (S4.fe != 0) = true := by rw [bne_iff_ne]; assumption
        clear hbz
        skip
        go_wp2
        refine bodyPost_ret (v := .agg #[.slice none 0 0, .slice none 0 0]) (by simp [results, Tryz.results12, go_sem, r0, r1]) rfl ⟨none, 0, 0, none, 0, 0, rfl, Ow.nil_ _ _ _ _, Ow.nil_ _ _ _ _, hR5.out _ _, gr_set_new (gr_set_new hgy (Nat.le_refl _) 0 _) (Nat.le_refl _) 1 _⟩
end Go.Proofs.YtadldndmmobpdaaGreatDoor
