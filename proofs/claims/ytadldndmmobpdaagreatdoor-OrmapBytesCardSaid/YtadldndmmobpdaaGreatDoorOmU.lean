/- ormap.Read: the next map of a reader. -/
import Derived.Test.YtadldndmmobpdaaGreatDoorOmK
import Derived.Test.YtadldndmmobpdaaGreatDoorOmV
import Derived.Test.YtadldndmmobpdaaGreatDoorOmF
import Derived.Deep.DeepCutAuto
import Derived.Deep.CutBlock
namespace Go.Proofs.YtadldndmmobpdaaGreatDoor
open Go.RowKit

set_option maxRecDepth 100000 in
set_option maxHeartbeats 8000000 in
theorem preadM_any (B : Nat) (S : Rs) (w : World) (h : RdrP w B S) (hS : S.wf) :
    Calls Tryz.prog 11 #[.pointer (some ⟨B, 0, none⟩)] w
      fun r w' => ∃ A n c G m d, r = .returned (.agg #[.slice A n c, .slice G m d]) ∧ Ow w' w.heap.size 64 7 (.slice A n c) ((readSt readP mErr S).1.1.map Pm.enc) ∧ Ow w' w.heap.size 60 3 (.slice G m d) ((readSt readP mErr S).1.2.map Tm.enc) ∧ RdrP w' B (readSt readP mErr S).2 ∧ w.grownBy w' (some B) := by
  have hBlt := h.lt
  have hb0 : Below w.heap.size w ((w.alloc (.cells #[.slice none 0 0, .slice none 0 0] 32)).alloc (.cells #[.slice none 0 0, .slice none 0 0] 32)) := ((Below.refl _ w).alloc (Nat.le_refl _) _).alloc (by simp) _
  have hr0 : ((w.alloc (.cells #[.slice none 0 0, .slice none 0 0] 32)).alloc (.cells #[.slice none 0 0, .slice none 0 0] 32)).heap[w.heap.size]? = some (.cells #[.slice none 0 0, .slice none 0 0] 32 (0, 0)) := heap_old _ (by simp) (heap_at _ _ rfl)
  have ht0 : ((w.alloc (.cells #[.slice none 0 0, .slice none 0 0] 32)).alloc (.cells #[.slice none 0 0, .slice none 0 0] 32)).heap[w.heap.size + 1]? = some (.cells #[.slice none 0 0, .slice none 0 0] 32 (0, 0)) := heap_at _ _ (by simp)
  have hR0 := h.below hb0
  generalize hW : ((w.alloc (.cells #[.slice none 0 0, .slice none 0 0] 32)).alloc (.cells #[.slice none 0 0, .slice none 0 0] 32)) = W at hb0 hr0 ht0 hR0
  have hw1 : (intS 4096 S).2.wf := Rs.wf_next hS _
  have c1 := Lib.hid (pint_any 4096 B (by omega) S W hR0 hS)
  have hle1 := intS_le 4096 S
  obtain ⟨P, Tf, hT⟩ : ∃ P Tf, readSt readP mErr S = (P, Tf) := ⟨_, _, rfl⟩
  rw [hT]
  unfold readSt at hT
  dsimp only at hT
  generalize intS 4096 S = p at *
  obtain ⟨m1, S1⟩ := p
  dsimp only at *
  have hwfA := readN_wf (f := readP) (P := fun a => a.wf ∧ a.2.1.length ≤ 12) (fun S h => readP_wf h) m1 hw1
  obtain ⟨XS, S2, hXS⟩ : ∃ XS S2, readN readP m1 S1 = (XS, S2) := ⟨_, _, rfl⟩
  rw [hXS] at hT hwfA
  dsimp only at hT hwfA
  have hw2 : (intS 4096 S2).2.wf := Rs.wf_next hwfA.1 _
  have c2 := Lib.hid (fun w h => pint_any 4096 B (by omega) S2 w h hwfA.1)
  have hle2 := intS_le 4096 S2
  generalize intS 4096 S2 = q at *
  obtain ⟨m2, S3⟩ := q
  dsimp only at *
  have hwfG := readN_wf (f := readT) (P := Tm.wf) (fun S h => readT_wf h) m2 hw2
  obtain ⟨GS, S4, hGS⟩ : ∃ GS S4, readN readT m2 S3 = (GS, S4) := ⟨_, _, rfl⟩
  rw [hGS] at hT hwfG
  dsimp only at hT hwfG
  have hTH := Lib.hid hT
  have hXH := Lib.hid hXS
  have hGH := Lib.hid hGS
  have hwAH := Lib.hid hwfA
  have hwGH := Lib.hid hwfG
  have hw1H := Lib.hid hw1
  have hw2H := Lib.hid hw2
  have e1 : (0 : Int) ≤ (m1 : Int) := by omega
  have e2 : (0 : Int) ≤ (m2 : Int) := by omega
  have hzW := hb0.size
  have hltT := blk_lt ht0
  clear hT hXS hGS hwfA hwfG hw1 hw2 h hS hR0
  go_enter Tryz.func11, Tryz.ntmps11
  go_wp2_with fail
  refine c1.out.mono ?_
  rintro e w1 ⟨rfl, hR1, hg1⟩
  have hr1 : w1.heap[w.heap.size]? = some (.cells #[.slice none 0 0, .slice none 0 0] 32 (0, 0)) := (hg1.block _ (blk_lt hr0) (by simp; omega)).trans hr0
  have ht1 : w1.heap[w.heap.size + 1]? = some (.cells #[.slice none 0 0, .slice none 0 0] 32 (0, 0)) := (hg1.block _ hltT (by simp; omega)).trans ht0
  have hgw1 : w.grownBy w1 (some B) := (gr_below hb0 _).trans hg1
  clear hg1 hr0 ht0 c1
  go_upto_block 0 with (fail)
  go_cut [4] (fun sk wx => sk = sk ∧ ∃ A' n' c', wx.heap[w.heap.size]? = some (.cells #[.slice none 0 0, .slice none 0 0] 32 (0, 0)) ∧ wx.heap[w.heap.size + 1]? = some (.cells #[.slice A' n' c', .slice none 0 0] 32 (0, 0)) ∧ Ow wx (w.heap.size + 1 + 1) 64 7 (.slice A' n' c') (XS.map Pm.enc) ∧ RdrP wx B S2 ∧ w.grownBy wx (some B))
  case first =>
    go_wp2_with fail
    go_loopg [4] (m1 + 1) (fun g i wr => ∃ (k d : Nat) (L : List Pm) (S' : Rs) (A' : Option Addr) (c' : Nat), k + d = m1 ∧ g = d + 1 ∧ i = .int .i64 (d : Int) ∧ L.length = k ∧ S'.wf ∧ XS = L ++ (readN readP d S').1 ∧ S2 = (readN readP d S').2 ∧ wr.heap[w.heap.size]? = some (.cells #[.slice none 0 0, .slice none 0 0] 32 (0, 0)) ∧ wr.heap[w.heap.size + 1]? = some (.cells #[.slice A' k c', .slice none 0 0] 32 (0, 0)) ∧ Ow wr (w.heap.size + 1 + 1) 64 7 (.slice A' k c') (L.map Pm.enc) ∧ RdrP wr B S' ∧ w.grownBy wr (some B))
    case atStart => exact ⟨0, m1, [], S1, none, 0, by omega, rfl, rfl, rfl, hw1H.out, by rw [hXH.out]; rfl, by rw [hXH.out], hr1, ht1, Ow.nil_ _ _ _ _, hR1, hgw1⟩
    case round =>
      clear hr1 ht1 hR1 hgw1
      obtain ⟨k, d, L, S', A', c', hk, rfl, rfl, hL, hS', hX1, hX2, hr, ht, hown, hR, hgr⟩ := hrel
      have hlr := blk_lt hr
      have hlt' := blk_lt ht
      have hrH := Lib.hid hr
      have htH := Lib.hid ht
      have hLH := Lib.hid hL
      have hX1H := Lib.hid hX1
      have hX2H := Lib.hid hX2
      have hS'H := Lib.hid hS'
      have hRk := Lib.hid hR
      have s0 := blk_cell ht 0
      simp at s0
      have hkb : k ≤ 4096 := by omega
      have hdb : (d : Int) ≤ 4096 := by omega
      have hkH := Lib.hid hk
      clear hr ht hL hX1 hX2 hS' hk
      by_cases hlt : 0 < d
      · have hlti : (0 : Int) < (d : Int) := by omega
        by_cases hf : S'.fe = 0
        · have ct := Lib.hid (fun w h => pput_any B S' w h hS'H.out)
          have hwt := readP_wf hS'H.out
          obtain ⟨t, Sb, hta⟩ : ∃ t Sb, readP S' = (t, Sb) := ⟨_, _, rfl⟩
          rw [hta] at ct hwt
          have hstep := readN_more hf hta (d - 1)
          rw [show d - 1 + 1 = d by omega] at hstep
          have hstH := Lib.hid hstep
          have hwxH := Lib.hid hwt.1
          clear hta hstep hwt
          obtain ⟨ev, hbz, hez⟩ := hR
          obtain ⟨_, rfl⟩ := hez.resolve_right (fun h9 => absurd (by assumption) h9.1)
          have hltz := blk_lt hbz
          have z0 := blk_cell hbz 0
          have z1 := blk_cell hbz 1
          have z2 := blk_cell hbz 2
          simp at z0 z1 z2
          clear hbz hez
          go_wp2_with fail
          refine (perr_any _ _ _ hltz z2).mono ?_
          rintro e w' ⟨rfl, rfl⟩
          clear hf
          go_upto_region 5 with (fail)
          clear z0 z1 z2 hltz
          have hB2 := hRk.out.lt
          have of0 := blk_frozen htH.out
          refine wp_region_M (fun _ => True) (fun w' => w'.cell? ⟨w.heap.size + 1, 0, none⟩ = some (.slice A' k c')) 7 (by kernel_rfl) trivial s0 ?_
          intro hcl
          have hC := trivial
          have hE : World.cell? (World.drew _) ⟨w.heap.size + 1, 0, none⟩ = some (.slice A' k c') := s0
          (refine wpM_take (i := 0) (v := ?_) rfl (by kernel_rfl) (by kernel_rfl) (by kernel_rfl) (by decide) (fun _ _ _ h => h) hcl hC (fun _ => hE) (Or.inl ⟨by rfl, ?_⟩) ?_; rotate_left; (· (intro w hSw; (try dsimp only at hSw); go_simp; (try with_reducible rfl))); clear hcl; intro hcl; (try simp only [Act.put, List.getElem_toArray, List.getElem_cons_zero, List.getElem_cons_succ, List.setIfInBounds_toArray, List.set_cons_zero, List.set_cons_succ]))
          (refine wpM_take0c (i := 1) (j := 5) (v := ?_) rfl rfl rfl (by kernel_rfl) (by kernel_rfl) (by kernel_rfl) (by kernel_rfl) (by kernel_rfl) (by decide) (fun _ _ _ h => h) hcl hC (fun _ => hE) (Or.inl ⟨by rfl, ?_⟩) ?_; rotate_left; (· (intro w hSw; (try dsimp only at hSw); go_simp; (try with_reducible rfl))); clear hcl; intro hcl; (try simp only [Act.put, List.getElem_toArray, List.getElem_cons_zero, List.getElem_cons_succ, List.setIfInBounds_toArray, List.set_cons_zero, List.set_cons_succ]))
          (refine wpM_take (i := 2) (v := ?_) rfl (by kernel_rfl) (by kernel_rfl) (by kernel_rfl) (by decide) (fun _ _ _ h => h) hcl hC (fun _ => hE) (Or.inl ⟨by rfl, ?_⟩) ?_; rotate_left; (· (intro w hSw; (try dsimp only at hSw); go_simp; (try with_reducible rfl))); clear hcl; intro hcl; (try simp only [Act.put, List.getElem_toArray, List.getElem_cons_zero, List.getElem_cons_succ, List.setIfInBounds_toArray, List.set_cons_zero, List.set_cons_succ]))
          refine wpM_only (i := 3) rfl (by kernel_rfl) hcl (fun K hK => ?_)
          go_simp
          refine (ct.out _ (hRk.out.below (Below.refl _ _).drew)).mono ?_
          rintro e'' v1 ⟨rfl, hRv, hgv⟩
          have hzv : wr.heap.size ≤ v1.heap.size := hgv.size
          have htv : v1.heap[w.heap.size + 1]? = some (.cells #[.slice A' k c', .slice none 0 0] 32 (0, 0)) := (hgv.block _ (by simp; omega) (by simp; omega)).trans (heap_drew htH.out)
          have hrv : v1.heap[w.heap.size]? = some (.cells #[.slice none 0 0, .slice none 0 0] 32 (0, 0)) := (hgv.block _ (by simp; omega) (by simp; omega)).trans (heap_drew hrH.out)
          have hov := (hown.below (Below.refl _ _).drew).keptB hgv (by omega)
          have hgv2 := (hgr.trans (gr_below (Below.refl _ _).drew _)).trans hgv
          have hE1 := blk_cell htv 0
          clear hgv hown hgr
          refine hK.out _ _ trivial hE1 ?_
          clear hK K
          clear hcl
          intro hcl
          (try simp only [Act.put, List.getElem_toArray, List.getElem_cons_zero, List.getElem_cons_succ, List.setIfInBounds_toArray, List.set_cons_zero, List.set_cons_succ])
          clear hE
          have hE := hE1
          refine wpM_only (i := 4) rfl (by kernel_rfl) hcl (fun K hK => ?_)
          go_simp
          have hvn : Below v1.heap.size v1 (v1.alloc (.cells #[.int .i64 t.1.1.1, .int .u32 t.1.1.2, .int .i64 t.1.2, .string (bs t.2.1), .int .i64 t.2.2.1, .int .u32 t.2.2.2.1, .int .i64 t.2.2.2.2] 64)) := (Below.refl _ v1).alloc (Nat.le_refl _) _
          have htn := blk_below htv hvn
          have hrn := blk_below hrv hvn
          have hE2 := blk_cell htn 0
          refine hK.out _ _ trivial hE2 ?_
          clear hK K
          clear hcl
          intro hcl
          (try simp only [Act.put, List.getElem_toArray, List.getElem_cons_zero, List.getElem_cons_succ, List.setIfInBounds_toArray, List.set_cons_zero, List.set_cons_succ])
          have hlen1 : ∀ y ∈ ([[.int .i64 t.1.1.1, .int .u32 t.1.1.2, .int .i64 t.1.2, .string (bs t.2.1), .int .i64 t.2.2.1, .int .u32 t.2.2.2.1, .int .i64 t.2.2.2.2]] : List (List Value)), y.length = 7 := by simp
          have hone1 : ∀ y ∈ ([[.int .i64 t.1.1.1, .int .u32 t.1.1.2, .int .i64 t.1.2, .string (bs t.2.1), .int .i64 t.2.2.1, .int .u32 t.2.2.2.1, .int .i64 t.2.2.2.2]] : List (List Value)), ∀ v ∈ y, v.oneCell' = true := by simp [Value.oneCell']
          have hlk : Hid ((L.map Pm.enc).length = k) := Lib.hid (by rw [List.length_map]; exact hLH.out)
          have hlt1 := blk_lt htv
          refine wpM_only (i := 5) rfl (by kernel_rfl) hcl (fun K hK => ?_)
          refine step_append_rd _ rfl _ _ _ rfl ePutP (base := w.heap.size + 1 + 1) (v := .slice A' k c') (xs := L.map Pm.enc) rfl (hov.below hvn) rfl (Rd.one' [.int .i64 t.1.1.1, .int .u32 t.1.1.2, .int .i64 t.1.2, .string (bs t.2.1), .int .i64 t.2.2.1, .int .u32 t.2.2.2.1, .int .i64 t.2.2.2.2] rfl) hlen1 hone1 (by rw [hlk.out]; unfold maxLen; omega) (by rw [hlk.out]; omega) (by simp; omega) ?_
          intro A5 n5 c5 v5 hn5 hown5 hg5 hat5
          obtain rfl : n5 = k + 1 := by rw [hn5, hlk.out]
          clear hn5
          have hbk := Lib.hid (hov.block)
          have hz5 := hg5.size
          simp only [World.size_alloc] at hz5
          have ht5 : v5.heap[w.heap.size + 1]? = some (.cells #[.slice A' k c', .slice none 0 0] 32 (0, 0)) := (hg5.block _ (blk_lt htn) (fun e => by have := (hbk.out _ e.symm).1; omega)).trans htn
          have hr5 : v5.heap[w.heap.size]? = some (.cells #[.slice none 0 0, .slice none 0 0] 32 (0, 0)) := (hg5.block _ (blk_lt hrn) (fun e => by have := (hbk.out _ e.symm).1; omega)).trans hrn
          have hl5 := blk_lt ht5
          have hR5 := (hRv.below hvn).appended (hov.below hvn) hg5 (by decide) (by decide)
          have hgw5 := gr_then (gr_alloc hgv2 (.cells #[.int .i64 t.1.1.1, .int .u32 t.1.1.2, .int .i64 t.1.2, .string (bs t.2.1), .int .i64 t.2.2.1, .int .u32 t.2.2.2.1, .int .i64 t.2.2.2.2] 64)) hg5 (fun g e => by have := (hbk.out g e).1; omega)
          have of5 := blk_frozen ht5
          have hE5 := blk_cell ht5 0
          have hr6 := Lib.hid (heap_set_ne (p := ⟨w.heap.size + 1, 0, none⟩) (u := .slice A5 (k + 1) c5) (by dsimp only; omega) hr5)
          have ht6 : Hid ((v5.setCell ⟨w.heap.size + 1, 0, none⟩ (.slice A5 (k + 1) c5)).heap[w.heap.size + 1]? = some (.cells #[.slice A5 (k + 1) c5, .slice none 0 0] 32 (0, 0))) := Lib.hid (by rw [blk_set ht5]; rfl)
          have ho6 := Lib.hid (hown5.set_blk ht5 (by decide) 0 (.slice A5 (k + 1) c5))
          have hR6 := Lib.hid (hR5.set ht5 (by decide) (by decide) 0 (.slice A5 (k + 1) c5))
          have hg6 := Lib.hid (gr_set_new hgw5 (show w.heap.size ≤ w.heap.size + 1 by omega) 0 (.slice A5 (k + 1) c5))
          clear hr5 hown5 hg5 hR5 hgw5 hov hvn htn hrn htv hrv hRv hgv2 hE1 hE2 hE hat5
          refine hK.out _ _ trivial hE5 ?_
          clear hK K
          clear hcl
          intro hcl
          (try simp only [Act.put, List.getElem_toArray, List.getElem_cons_zero, List.getElem_cons_succ, List.setIfInBounds_toArray, List.set_cons_zero, List.set_cons_succ])
          have hE := hE5
          (refine wpM_take (i := 6) (v := ?_) rfl (by kernel_rfl) (by kernel_rfl) (by kernel_rfl) (by decide) (fun _ _ _ h => h) hcl hC (fun _ => hE) (Or.inl ⟨by rfl, ?_⟩) ?_; rotate_left; (· (intro w hSw; (try dsimp only at hSw); go_simp; (try with_reducible rfl))); clear hcl; intro hcl; (try simp only [Act.put, List.getElem_toArray, List.getElem_cons_zero, List.getElem_cons_succ, List.setIfInBounds_toArray, List.set_cons_zero, List.set_cons_succ]))
          have ht5H := Lib.hid ht5
          clear ht5
          refine wpM_last (i := 7) rfl (by kernel_rfl) hcl (by kernel_rfl) (fun K hK => ?_)
          go_simp
          refine hK.out _ _ trivial ?_
          clear hK K hcl
          intro hcl
          refine wpM_done (by kernel_rfl) ?_
          clear hcl hC hE hE5 s0
          try simp only [Act.put, List.getElem_toArray, List.getElem_cons_zero, List.getElem_cons_succ, List.setIfInBounds_toArray, List.set_cons_zero, List.set_cons_succ]
          go_wp2
          go_roundg (d - 1 + 1)
          case measure => omega
          case rel =>
            refine ⟨k + 1, d - 1, L ++ [t], Sb, A5, c5, by have := hkH.out; omega, rfl, ?_, by rw [List.length_append, hLH.out]; rfl, hwxH.out, ?_, ?_, hr6.out, ht6.out, ?_, hR6.out, hg6.out⟩
            · rw [show ((d - 1 : Nat) : Int) = (d : Int) - 1 by omega]
            · rw [hX1H.out, hstH.out]; simp
            · rw [hX2H.out, hstH.out]
            · rw [List.map_append]; exact ho6.out
        · have hXe : Hid (XS = L ∧ S2 = S') := Lib.hid (by rw [hX1H.out, hX2H.out, readN_bad hf]; simp)
          obtain ⟨ev, hbz, hez⟩ := hR
          obtain ⟨hne, Fz, rfl, hFz⟩ : S'.fe ≠ 0 ∧ ∃ F, ev = .iface 84 (.pointer (some ⟨F, 0, none⟩)) ∧ _ := hez.resolve_left (fun h9 => absurd h9.1 (by assumption))
          have hltz := blk_lt hbz
          have z0 := blk_cell hbz 0
          have z1 := blk_cell hbz 1
          have z2 := blk_cell hbz 2
          simp at z0 z1 z2
          clear hbz hFz hne hez
          go_wp2_with fail
          refine (perr_any _ _ _ hltz z2).mono ?_
          rintro e w' ⟨rfl, rfl⟩
          go_wp2_with fail
          go_meet
          exact ⟨trivial, A', k, c', hrH.out, htH.out, by rw [hXe.out.1]; exact hown, by rw [hXe.out.2]; exact hRk.out, hgr⟩
      · have hnli : ¬ (0 : Int) < (d : Int) := by omega
        have hXe : Hid (XS = L ∧ S2 = S') := Lib.hid (by rw [hX1H.out, hX2H.out, show d = 0 by omega]; simp [readN])
        go_wp2_with fail
        go_meet
        exact ⟨trivial, A', k, c', hrH.out, htH.out, by rw [hXe.out.1]; exact hown, by rw [hXe.out.2]; exact hRk.out, hgr⟩
  case rest =>
    obtain ⟨_, A1, n1, c1, hrx, htx, hox, hRx, hgx⟩ := hcut
    go_wp2_with fail
    refine (c2.out _ hRx).mono ?_
    rintro e w2 ⟨rfl, hR2, hg2⟩
    have hr2 : w2.heap[w.heap.size]? = some (.cells #[.slice none 0 0, .slice none 0 0] 32 (0, 0)) := (hg2.block _ (blk_lt hrx) (by simp; omega)).trans hrx
    have ht2 : w2.heap[w.heap.size + 1]? = some (.cells #[.slice A1 n1 c1, .slice none 0 0] 32 (0, 0)) := (hg2.block _ (blk_lt htx) (by simp; omega)).trans htx
    have ho2 := hox.keptB hg2 (by omega)
    have hgw2 := hgx.trans hg2
    clear c2 hg2 hgx hox hrx htx hRx hr1 ht1 hR1 hgw1
    go_upto_block 2 with (fail)
    go_cut [5] (fun sk wx => sk = sk ∧ ∃ G' n' c', wx.heap[w.heap.size]? = some (.cells #[.slice none 0 0, .slice none 0 0] 32 (0, 0)) ∧ wx.heap[w.heap.size + 1]? = some (.cells #[.slice A1 n1 c1, .slice G' n' c'] 32 (0, 0)) ∧ Ow wx (w.heap.size + 1 + 1) 64 7 (.slice A1 n1 c1) (XS.map Pm.enc) ∧ Ow wx (w.heap.size + 1 + 1) 60 3 (.slice G' n' c') (GS.map Tm.enc) ∧ RdrP wx B S4 ∧ w.grownBy wx (some B))
    case first =>
      go_wp2_with fail
      go_loopg [5] (m2 + 1) (fun g i wr => ∃ (k d : Nat) (L : List Tm) (S' : Rs) (A' : Option Addr) (c' : Nat), k + d = m2 ∧ g = d + 1 ∧ i = .int .i64 (d : Int) ∧ L.length = k ∧ S'.wf ∧ GS = L ++ (readN readT d S').1 ∧ S4 = (readN readT d S').2 ∧ wr.heap[w.heap.size]? = some (.cells #[.slice none 0 0, .slice none 0 0] 32 (0, 0)) ∧ wr.heap[w.heap.size + 1]? = some (.cells #[.slice A1 n1 c1, .slice A' k c'] 32 (0, 0)) ∧ Ow wr (w.heap.size + 1 + 1) 64 7 (.slice A1 n1 c1) (XS.map Pm.enc) ∧ Ow wr (w.heap.size + 1 + 1) 60 3 (.slice A' k c') (L.map Tm.enc) ∧ RdrP wr B S' ∧ w.grownBy wr (some B))
      case atStart => exact ⟨0, m2, [], S3, none, 0, by omega, rfl, rfl, rfl, hw2H.out, by rw [hGH.out]; rfl, by rw [hGH.out], hr2, ht2, ho2, Ow.nil_ _ _ _ _, hR2, hgw2⟩
      case round =>
        clear hr2 ht2 hR2 hgw2 ho2
        obtain ⟨k, d, L, S', A', c', hk, rfl, rfl, hL, hS', hX1, hX2, hr, ht, hoX, hown, hR, hgr⟩ := hrel
        have hlr := blk_lt hr
        have hlt' := blk_lt ht
        have hrH := Lib.hid hr
        have htH := Lib.hid ht
        have hLH := Lib.hid hL
        have hX1H := Lib.hid hX1
        have hX2H := Lib.hid hX2
        have hS'H := Lib.hid hS'
        have hRk := Lib.hid hR
        have s0 := blk_cell ht 1
        simp at s0
        have hkb : k ≤ 4096 := by omega
        have hdb : (d : Int) ≤ 4096 := by omega
        have hkH := Lib.hid hk
        clear hr ht hL hX1 hX2 hS' hk
        by_cases hlt : 0 < d
        · have hlti : (0 : Int) < (d : Int) := by omega
          by_cases hf : S'.fe = 0
          · have ct := Lib.hid (fun w h => ptag_any B S' w h hS'H.out)
            have hwt := readT_wf hS'H.out
            obtain ⟨t, Sb, hta⟩ : ∃ t Sb, readT S' = (t, Sb) := ⟨_, _, rfl⟩
            rw [hta] at ct hwt
            have hstep := readN_more hf hta (d - 1)
            rw [show d - 1 + 1 = d by omega] at hstep
            have hstH := Lib.hid hstep
            have hwxH := Lib.hid hwt.1
            clear hta hstep hwt
            obtain ⟨ev, hbz, hez⟩ := hR
            obtain ⟨_, rfl⟩ := hez.resolve_right (fun h9 => absurd (by assumption) h9.1)
            have hltz := blk_lt hbz
            have z0 := blk_cell hbz 0
            have z1 := blk_cell hbz 1
            have z2 := blk_cell hbz 2
            simp at z0 z1 z2
            clear hbz hez
            go_wp2_with fail
            refine (perr_any _ _ _ hltz z2).mono ?_
            rintro e w' ⟨rfl, rfl⟩
            clear hf
            go_upto_region 9 with (fail)
            clear z0 z1 z2 hltz
            have hB2 := hRk.out.lt
            have of0 := blk_frozen htH.out
            refine wp_region_M (fun _ => True) (fun w' => w'.cell? ⟨w.heap.size + 1, 1, none⟩ = some (.slice A' k c')) 7 (by kernel_rfl) trivial s0 ?_
            intro hcl
            have hC := trivial
            have hE : World.cell? (World.drew _) ⟨w.heap.size + 1, 1, none⟩ = some (.slice A' k c') := s0
            (refine wpM_take (i := 0) (v := ?_) rfl (by kernel_rfl) (by kernel_rfl) (by kernel_rfl) (by decide) (fun _ _ _ h => h) hcl hC (fun _ => hE) (Or.inl ⟨by rfl, ?_⟩) ?_; rotate_left; (· (intro w hSw; (try dsimp only at hSw); go_simp; (try with_reducible rfl))); clear hcl; intro hcl; (try simp only [Act.put, List.getElem_toArray, List.getElem_cons_zero, List.getElem_cons_succ, List.setIfInBounds_toArray, List.set_cons_zero, List.set_cons_succ]))
            (refine wpM_take0c (i := 1) (j := 5) (v := ?_) rfl rfl rfl (by kernel_rfl) (by kernel_rfl) (by kernel_rfl) (by kernel_rfl) (by kernel_rfl) (by decide) (fun _ _ _ h => h) hcl hC (fun _ => hE) (Or.inl ⟨by rfl, ?_⟩) ?_; rotate_left; (· (intro w hSw; (try dsimp only at hSw); go_simp; (try with_reducible rfl))); clear hcl; intro hcl; (try simp only [Act.put, List.getElem_toArray, List.getElem_cons_zero, List.getElem_cons_succ, List.setIfInBounds_toArray, List.set_cons_zero, List.set_cons_succ]))
            (refine wpM_take (i := 2) (v := ?_) rfl (by kernel_rfl) (by kernel_rfl) (by kernel_rfl) (by decide) (fun _ _ _ h => h) hcl hC (fun _ => hE) (Or.inl ⟨by rfl, ?_⟩) ?_; rotate_left; (· (intro w hSw; (try dsimp only at hSw); go_simp; (try with_reducible rfl))); clear hcl; intro hcl; (try simp only [Act.put, List.getElem_toArray, List.getElem_cons_zero, List.getElem_cons_succ, List.setIfInBounds_toArray, List.set_cons_zero, List.set_cons_succ]))
            refine wpM_only (i := 3) rfl (by kernel_rfl) hcl (fun K hK => ?_)
            go_simp
            refine (ct.out _ (hRk.out.below (Below.refl _ _).drew)).mono ?_
            rintro e'' v1 ⟨rfl, hRv, hgv⟩
            have hzv : wr.heap.size ≤ v1.heap.size := hgv.size
            have htv : v1.heap[w.heap.size + 1]? = some (.cells #[.slice A1 n1 c1, .slice A' k c'] 32 (0, 0)) := (hgv.block _ (by simp; omega) (by simp; omega)).trans (heap_drew htH.out)
            have hrv : v1.heap[w.heap.size]? = some (.cells #[.slice none 0 0, .slice none 0 0] 32 (0, 0)) := (hgv.block _ (by simp; omega) (by simp; omega)).trans (heap_drew hrH.out)
            have hov := (hown.below (Below.refl _ _).drew).keptB hgv (by omega)
            have hXv := (hoX.below (Below.refl _ _).drew).keptB hgv (by omega)
            have hgv2 := (hgr.trans (gr_below (Below.refl _ _).drew _)).trans hgv
            have hE1 := blk_cell htv 1
            clear hgv hown hoX hgr
            refine hK.out _ _ trivial hE1 ?_
            clear hK K
            clear hcl
            intro hcl
            (try simp only [Act.put, List.getElem_toArray, List.getElem_cons_zero, List.getElem_cons_succ, List.setIfInBounds_toArray, List.set_cons_zero, List.set_cons_succ])
            clear hE
            have hE := hE1
            refine wpM_only (i := 4) rfl (by kernel_rfl) hcl (fun K hK => ?_)
            go_simp
            have hvn : Below v1.heap.size v1 (v1.alloc (.cells #[.int .i64 t.1.1, .int .u32 t.1.2, .int .i64 t.2] 60)) := (Below.refl _ v1).alloc (Nat.le_refl _) _
            have htn := blk_below htv hvn
            have hrn := blk_below hrv hvn
            have hE2 := blk_cell htn 1
            refine hK.out _ _ trivial hE2 ?_
            clear hK K
            clear hcl
            intro hcl
            (try simp only [Act.put, List.getElem_toArray, List.getElem_cons_zero, List.getElem_cons_succ, List.setIfInBounds_toArray, List.set_cons_zero, List.set_cons_succ])
            have hlen1 : ∀ y ∈ ([[.int .i64 t.1.1, .int .u32 t.1.2, .int .i64 t.2]] : List (List Value)), y.length = 3 := by simp
            have hone1 : ∀ y ∈ ([[.int .i64 t.1.1, .int .u32 t.1.2, .int .i64 t.2]] : List (List Value)), ∀ v ∈ y, v.oneCell' = true := by simp [Value.oneCell']
            have hlk : Hid ((L.map Tm.enc).length = k) := Lib.hid (by rw [List.length_map]; exact hLH.out)
            have hlt1 := blk_lt htv
            refine wpM_only (i := 5) rfl (by kernel_rfl) hcl (fun K hK => ?_)
            refine step_append_rd _ rfl _ _ _ rfl eTag (base := w.heap.size + 1 + 1) (v := .slice A' k c') (xs := L.map Tm.enc) rfl (hov.below hvn) rfl (Rd.one' [.int .i64 t.1.1, .int .u32 t.1.2, .int .i64 t.2] rfl) hlen1 hone1 (by rw [hlk.out]; unfold maxLen; omega) (by rw [hlk.out]; omega) (by simp; omega) ?_
            intro A5 n5 c5 v5 hn5 hown5 hg5 hat5
            obtain rfl : n5 = k + 1 := by rw [hn5, hlk.out]
            clear hn5
            have hbk := Lib.hid (hov.block)
            have hz5 := hg5.size
            simp only [World.size_alloc] at hz5
            have ht5 : v5.heap[w.heap.size + 1]? = some (.cells #[.slice A1 n1 c1, .slice A' k c'] 32 (0, 0)) := (hg5.block _ (blk_lt htn) (fun e => by have := (hbk.out _ e.symm).1; omega)).trans htn
            have hr5 : v5.heap[w.heap.size]? = some (.cells #[.slice none 0 0, .slice none 0 0] 32 (0, 0)) := (hg5.block _ (blk_lt hrn) (fun e => by have := (hbk.out _ e.symm).1; omega)).trans hrn
            have hX5 := (hXv.below hvn).other (hov.below hvn) (by decide) hg5
            have hl5 := blk_lt ht5
            have hR5 := (hRv.below hvn).appended (hov.below hvn) hg5 (by decide) (by decide)
            have hgw5 := gr_then (gr_alloc hgv2 (.cells #[.int .i64 t.1.1, .int .u32 t.1.2, .int .i64 t.2] 60)) hg5 (fun g e => by have := (hbk.out g e).1; omega)
            have of5 := blk_frozen ht5
            have hE5 := blk_cell ht5 1
            have hr6 := Lib.hid (heap_set_ne (p := ⟨w.heap.size + 1, 1, none⟩) (u := .slice A5 (k + 1) c5) (by dsimp only; omega) hr5)
            have ht6 : Hid ((v5.setCell ⟨w.heap.size + 1, 1, none⟩ (.slice A5 (k + 1) c5)).heap[w.heap.size + 1]? = some (.cells #[.slice A1 n1 c1, .slice A5 (k + 1) c5] 32 (0, 0))) := Lib.hid (by rw [blk_set ht5]; rfl)
            have ho6 := Lib.hid (hown5.set_blk ht5 (by decide) 1 (.slice A5 (k + 1) c5))
            have hX6 := Lib.hid (hX5.set_blk ht5 (by decide) 1 (.slice A5 (k + 1) c5))
            have hR6 := Lib.hid (hR5.set ht5 (by decide) (by decide) 1 (.slice A5 (k + 1) c5))
            have hg6 := Lib.hid (gr_set_new hgw5 (show w.heap.size ≤ w.heap.size + 1 by omega) 1 (.slice A5 (k + 1) c5))
            clear hr5 hown5 hg5 hR5 hgw5 hov hvn htn hrn htv hrv hRv hgv2 hE1 hE2 hE hat5 hX5 hXv
            refine hK.out _ _ trivial hE5 ?_
            clear hK K
            clear hcl
            intro hcl
            (try simp only [Act.put, List.getElem_toArray, List.getElem_cons_zero, List.getElem_cons_succ, List.setIfInBounds_toArray, List.set_cons_zero, List.set_cons_succ])
            have hE := hE5
            (refine wpM_take (i := 6) (v := ?_) rfl (by kernel_rfl) (by kernel_rfl) (by kernel_rfl) (by decide) (fun _ _ _ h => h) hcl hC (fun _ => hE) (Or.inl ⟨by rfl, ?_⟩) ?_; rotate_left; (· (intro w hSw; (try dsimp only at hSw); go_simp; (try with_reducible rfl))); clear hcl; intro hcl; (try simp only [Act.put, List.getElem_toArray, List.getElem_cons_zero, List.getElem_cons_succ, List.setIfInBounds_toArray, List.set_cons_zero, List.set_cons_succ]))
            have ht5H := Lib.hid ht5
            clear ht5
            refine wpM_last (i := 7) rfl (by kernel_rfl) hcl (by kernel_rfl) (fun K hK => ?_)
            go_simp
            refine hK.out _ _ trivial ?_
            clear hK K hcl
            intro hcl
            refine wpM_done (by kernel_rfl) ?_
            clear hcl hC hE hE5 s0
            try simp only [Act.put, List.getElem_toArray, List.getElem_cons_zero, List.getElem_cons_succ, List.setIfInBounds_toArray, List.set_cons_zero, List.set_cons_succ]
            go_wp2
            go_roundg (d - 1 + 1)
            case measure => omega
            case rel =>
              refine ⟨k + 1, d - 1, L ++ [t], Sb, A5, c5, by have := hkH.out; omega, rfl, ?_, by rw [List.length_append, hLH.out]; rfl, hwxH.out, ?_, ?_, hr6.out, ht6.out, hX6.out, ?_, hR6.out, hg6.out⟩
              · rw [show ((d - 1 : Nat) : Int) = (d : Int) - 1 by omega]
              · rw [hX1H.out, hstH.out]; simp
              · rw [hX2H.out, hstH.out]
              · rw [List.map_append]; exact ho6.out
          · have hXe : Hid (GS = L ∧ S4 = S') := Lib.hid (by rw [hX1H.out, hX2H.out, readN_bad hf]; simp)
            obtain ⟨ev, hbz, hez⟩ := hR
            obtain ⟨hne, Fz, rfl, hFz⟩ : S'.fe ≠ 0 ∧ ∃ F, ev = .iface 84 (.pointer (some ⟨F, 0, none⟩)) ∧ _ := hez.resolve_left (fun h9 => absurd h9.1 (by assumption))
            have hltz := blk_lt hbz
            have z0 := blk_cell hbz 0
            have z1 := blk_cell hbz 1
            have z2 := blk_cell hbz 2
            simp at z0 z1 z2
            clear hbz hFz hne hez
            go_wp2_with fail
            refine (perr_any _ _ _ hltz z2).mono ?_
            rintro e w' ⟨rfl, rfl⟩
            go_wp2_with fail
            go_meet
            exact ⟨trivial, A', k, c', hrH.out, htH.out, hoX, by rw [hXe.out.1]; exact hown, by rw [hXe.out.2]; exact hRk.out, hgr⟩
        · have hnli : ¬ (0 : Int) < (d : Int) := by omega
          have hXe : Hid (GS = L ∧ S4 = S') := Lib.hid (by rw [hX1H.out, hX2H.out, show d = 0 by omega]; simp [readN])
          go_wp2_with fail
          go_meet
          exact ⟨trivial, A', k, c', hrH.out, htH.out, hoX, by rw [hXe.out.1]; exact hown, by rw [hXe.out.2]; exact hRk.out, hgr⟩
    case rest =>
      obtain ⟨_, G1, n2, c2', hry, hty, hoX, hoG, hRy, hgy⟩ := hcut
      have hBy := hRy.lt
      have hlr := blk_lt hry
      have hlt := blk_lt hty
      have s0 := blk_cell hty 0
      have s1 := blk_cell hty 1
      have r0 := blk_cell hry 0
      have r1 := blk_cell hry 1
      simp at s0 s1 r0 r1
      have hfr := blk_frozen hry
      have hryH := Lib.hid hry
      have htyH := Lib.hid hty
      have hRk := Lib.hid hRy
      have hneB : B ≠ w.heap.size := by omega
      have hneB1 : B ≠ w.heap.size + 1 := by omega
      have hnX : XS.length = n1 := by simpa using hoX.rd.2.1
      have hnG : GS.length = n2 := by simpa using hoG.rd.2.1
      have hx4 := hwAH.out.2.1
      have hg4 := hwGH.out.2.1
      clear hry hty hr2 ht2 hR2 hgw2 ho2
      by_cases hf : S4.fe = 0
      · have ck := mcheck_any A1 n1 c1 XS G1 n2 c2' GS wc hoX.rd.1 hoG.rd.1 (by first | omega | (simp [maxLen]; omega)) (by first | omega | (simp [maxLen]; omega)) (fun a ha => (hwAH.out.2.2 a ha).1) hwGH.out.2.2 (fun a ha => by have := (hwAH.out.2.2 a ha).2; simp [maxLen]; omega)
        generalize hpe : mErr XS GS = p at ck hTH
        have ck := Lib.hid ck
        have cf := Lib.hid (fun w' h => pfail_any B S4 p w' h)
        by_cases hp : p = 0
        · subst hp
          have hfs : failS S4 0 = S4 := by unfold failS; rw [if_neg (by simp)]
          have hTT := hTH.out
          rw [hfs, if_neg (by simp [hf])] at hTT
          obtain ⟨rfl, rfl⟩ := Prod.mk.inj hTT
          have hfsH := Lib.hid hfs
          clear hTT hTH hfs hpe hnX hnG
          obtain ⟨ev, hbz, hez⟩ := hRy
          obtain ⟨_, rfl⟩ := hez.resolve_right (fun h9 => absurd (by assumption) h9.1)
          have hltz := blk_lt hbz
          have z0 := blk_cell hbz 0
          have z1 := blk_cell hbz 1
          have z2 := blk_cell hbz 2
          simp at z0 z1 z2
          clear hbz hez
          go_wp2_with fail
          refine (perr_any _ _ _ hltz z2).mono ?_
          rintro e w' ⟨rfl, rfl⟩
          go_wp2_with fail
          refine ck.out.mono ?_
          rintro e w3 ⟨rfl, hv3⟩
          have hR3 := hRk.out.below hv3
          clear z0 z1 z2 hltz s0 s1 r0 r1
          go_wp2_with fail
          refine (cf.out _ hR3).mono ?_
          rintro e w4 ⟨rfl, hR4, hg4'⟩
          rw [hfsH.out] at hR4
          have hz3 := hv3.size
          have hr3 := (hg4'.block _ (by omega) (by simp; omega)).trans (blk_below hryH.out hv3)
          have ht3 := (hg4'.block _ (by omega) (by simp; omega)).trans (blk_below htyH.out hv3)
          have oX5 := Lib.hid (fun u v => ((((hoX.below hv3).keptB hg4' (by omega)).set_blk hr3 (by decide) 0 u).set_blk (blk_set hr3 0 u) (by decide) 1 v).base (base' := w.heap.size) (by omega))
          have oG5 := Lib.hid (fun u v => ((((hoG.below hv3).keptB hg4' (by omega)).set_blk hr3 (by decide) 0 u).set_blk (blk_set hr3 0 u) (by decide) 1 v).base (base' := w.heap.size) (by omega))
          have hR5 := Lib.hid (fun u v => (hR4.set hr3 (by decide) (by decide) 0 u).set (blk_set hr3 0 u) (by decide) (by decide) 1 v)
          have hg5 := Lib.hid (fun u v => gr_set_new (gr_set_new ((hgy.trans (gr_below hv3 _)).trans hg4') (Nat.le_refl _) 0 u) (Nat.le_refl _) 1 v)
          have s0 := blk_cell ht3 0
          have s1 := blk_cell ht3 1
          have r0 := blk_cell hr3 0
          have r1 := blk_cell hr3 1
          simp at s0 s1 r0 r1
          have hlr3 := blk_lt hr3
          have hlt3 := blk_lt ht3
          have hfr3 := blk_frozen hr3
          clear hr3 ht3 hg4' hv3
          obtain ⟨ev, hbz, hez⟩ := hR4
          obtain ⟨_, rfl⟩ := hez.resolve_right (fun h9 => absurd (by assumption) h9.1)
          have hltz := blk_lt hbz
          have z0 := blk_cell hbz 0
          have z1 := blk_cell hbz 1
          have z2 := blk_cell hbz 2
          simp at z0 z1 z2
          clear hbz hez
          go_wp2_with fail
          refine (perr_any _ _ _ hltz z2).mono ?_
          rintro e w' ⟨rfl, rfl⟩
          go_wp2
          refine bodyPost_ret (v := .agg #[.slice A1 n1 c1, .slice G1 n2 c2']) (by simp [results, Tryz.results11, go_sem, r0, r1]) rfl ⟨A1, n1, c1, G1, n2, c2', rfl, oX5.out _ _, oG5.out _ _, hR5.out _ _, hg5.out _ _⟩
        · have hfe := failS_fe (S := S4) hp
          have hTT := hTH.out
          rw [if_pos hfe] at hTT
          obtain ⟨rfl, rfl⟩ := Prod.mk.inj hTT
          clear hTT hTH hpe hnX hnG hp
          obtain ⟨ev, hbz, hez⟩ := hRy
          obtain ⟨_, rfl⟩ := hez.resolve_right (fun h9 => absurd (by assumption) h9.1)
          have hltz := blk_lt hbz
          have z0 := blk_cell hbz 0
          have z1 := blk_cell hbz 1
          have z2 := blk_cell hbz 2
          simp at z0 z1 z2
          clear hbz hez
          go_wp2_with fail
          refine (perr_any _ _ _ hltz z2).mono ?_
          rintro e w' ⟨rfl, rfl⟩
          go_wp2_with fail
          refine ck.out.mono ?_
          rintro e w3 ⟨rfl, hv3⟩
          have hR3 := hRk.out.below hv3
          clear z0 z1 z2 hltz s0 s1 r0 r1
          go_wp2_with fail
          refine (cf.out _ hR3).mono ?_
          rintro e w4 ⟨rfl, hR4, hg4'⟩
          have hz3 := hv3.size
          have hr3 := (hg4'.block _ (by omega) (by simp; omega)).trans (blk_below hryH.out hv3)
          have ht3 := (hg4'.block _ (by omega) (by simp; omega)).trans (blk_below htyH.out hv3)
          have oX5 := Lib.hid (fun u v => ((((hoX.below hv3).keptB hg4' (by omega)).set_blk hr3 (by decide) 0 u).set_blk (blk_set hr3 0 u) (by decide) 1 v).base (base' := w.heap.size) (by omega))
          have oG5 := Lib.hid (fun u v => ((((hoG.below hv3).keptB hg4' (by omega)).set_blk hr3 (by decide) 0 u).set_blk (blk_set hr3 0 u) (by decide) 1 v).base (base' := w.heap.size) (by omega))
          have hR5 := Lib.hid (fun u v => (hR4.set hr3 (by decide) (by decide) 0 u).set (blk_set hr3 0 u) (by decide) (by decide) 1 v)
          have hg5 := Lib.hid (fun u v => gr_set_new (gr_set_new ((hgy.trans (gr_below hv3 _)).trans hg4') (Nat.le_refl _) 0 u) (Nat.le_refl _) 1 v)
          have s0 := blk_cell ht3 0
          have s1 := blk_cell ht3 1
          have r0 := blk_cell hr3 0
          have r1 := blk_cell hr3 1
          simp at s0 s1 r0 r1
          have hlr3 := blk_lt hr3
          have hlt3 := blk_lt ht3
          have hfr3 := blk_frozen hr3
          clear hr3 ht3 hg4' hv3
          obtain ⟨ev, hbz, hez⟩ := hR4
          obtain ⟨hne, Fz, rfl, hFz⟩ : (failS S4 p).fe ≠ 0 ∧ ∃ F, ev = .iface 84 (.pointer (some ⟨F, 0, none⟩)) ∧ _ := hez.resolve_left (fun h9 => absurd h9.1 (by assumption))
          have hltz := blk_lt hbz
          have z0 := blk_cell hbz 0
          have z1 := blk_cell hbz 1
          have z2 := blk_cell hbz 2
          simp at z0 z1 z2
          clear hbz hFz hne hez
          go_wp2_with fail
          refine (perr_any _ _ _ hltz z2).mono ?_
          rintro e w' ⟨rfl, rfl⟩
          go_wp2
          refine bodyPost_ret (v := .agg #[.slice none 0 0, .slice none 0 0]) (by simp [results, Tryz.results11, go_sem, r0, r1]) rfl ⟨none, 0, 0, none, 0, 0, rfl, Ow.nil_ _ _ _ _, Ow.nil_ _ _ _ _, hR5.out _ _, hg5.out _ _⟩
      · have hTT := hTH.out
        have hfs : failS S4 (mErr XS GS) = S4 := by unfold failS; rw [if_neg (fun h => hf h.1)]
        rw [hfs, if_pos hf] at hTT
        obtain ⟨rfl, rfl⟩ := Prod.mk.inj hTT
        have hen2 : (S4.fe == 0) = false := by simpa using hf
        clear hTT hTH hfs hnX hnG
        have hR5 := Lib.hid (fun u v => (hRk.out.set hryH.out (by decide) (by decide) 0 u).set (blk_set hryH.out 0 u) (by decide) (by decide) 1 v)
        obtain ⟨ev, hbz, hez⟩ := hRy
        obtain ⟨hne, Fz, rfl, hFz⟩ : S4.fe ≠ 0 ∧ ∃ F, ev = .iface 84 (.pointer (some ⟨F, 0, none⟩)) ∧ _ := hez.resolve_left (fun h9 => absurd h9.1 (by assumption))
        have hltz := blk_lt hbz
        have z0 := blk_cell hbz 0
        have z1 := blk_cell hbz 1
        have z2 := blk_cell hbz 2
        simp at z0 z1 z2
        clear hbz hFz hne hez
        go_wp2_with fail
        refine (perr_any _ _ _ hltz z2).mono ?_
        rintro e w' ⟨rfl, rfl⟩
        go_wp2
        refine bodyPost_ret (v := .agg #[.slice none 0 0, .slice none 0 0]) (by simp [results, Tryz.results11, go_sem, r0, r1]) rfl ⟨none, 0, 0, none, 0, 0, rfl, Ow.nil_ _ _ _ _, Ow.nil_ _ _ _ _, hR5.out _ _, gr_set_new (gr_set_new hgy (Nat.le_refl _) 0 _) (Nat.le_refl _) 1 _⟩
end Go.Proofs.YtadldndmmobpdaaGreatDoor
