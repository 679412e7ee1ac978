/- obj.Read: the next effect of a reader. -/
import Derived.Test.YtfhandglpjnonaaGreatDoorN37
import Derived.Test.YtfhandglpjnonaaGreatDoorM47
import Derived.Test.YtfhandglpjnonaaGreatDoorN06
import Derived.Deep.DeepCutAuto
import Derived.Deep.CutBlock
namespace Go.Proofs.YtfhandglpjnonaaGreatDoor
open Go.RowKit
set_option maxRecDepth 100000 in
set_option maxHeartbeats 8000000 in
theorem oread_any (B : Nat) (S : Rs) (w : World) (h : RdrP w B S) (hS : S.wf) :
 Calls Tryz.prog 134 #[.pointer (some ⟨B, 0, none⟩)] w
  fun r w' => ∃ A n c, r = .returned (.agg #[.int .i64 (readE S).1.act, .string (bs (readE S).1.name), .int .i64 (readE S).1.val, .int .i64 (readE S).1.tag.1.1, .int .u32 (readE S).1.tag.1.2, .int .i64 (readE S).1.tag.2, .int .u32 (readE S).1.st.1, .int .i64 (readE S).1.st.2, .slice A n c]) ∧ Ow w' w.heap.size 131 3 (.slice A n c) ((readE S).1.tags.map Tm.enc) ∧ RdrP w' B (readE S).2 ∧ w.grownBy w' (some B) := by
 have hBlt := h.lt
 have hb0 : Below w.heap.size w (w.alloc (.cells #[.int .i64 0, .string ⟨#[]⟩, .int .i64 0, .int .i64 0, .int .u32 0, .int .i64 0, .int .u32 0, .int .i64 0, .slice none 0 0] 156)) := (Below.refl _ w).alloc (Nat.le_refl _) _
 have hr0 : (w.alloc (.cells #[.int .i64 0, .string ⟨#[]⟩, .int .i64 0, .int .i64 0, .int .u32 0, .int .i64 0, .int .u32 0, .int .i64 0, .slice none 0 0] 156)).heap[w.heap.size]? = some (.cells #[.int .i64 0, .string ⟨#[]⟩, .int .i64 0, .int .i64 0, .int .u32 0, .int .i64 0, .int .u32 0, .int .i64 0, .slice none 0 0] 156 (0, 0)) := jT _ _ rfl
 have hR0 := h.below hb0
 generalize hW : w.alloc (.cells #[.int .i64 0, .string ⟨#[]⟩, .int .i64 0, .int .i64 0, .int .u32 0, .int .i64 0, .int .u32 0, .int .i64 0, .slice none 0 0] 156) = W at hb0 hr0 hR0
 have hw1 : (intS 6 S).2.wf := Rs.wf_next hS _
 have c1 := jH (pint_any 6 B (by omega) S W hR0 hS)
 have hle1 := yA 6 S
 have hraw := rawE_wf hS
 obtain ⟨E, T, hT⟩ : ∃ E T, readE S = (E, T) := ⟨_, _, rfl⟩
 rw [hT]
 obtain ⟨D, U, hD⟩ : ∃ D U, rawE S = (D, U) := ⟨_, _, rfl⟩
 unfold readE at hT
 rw [hD] at hT hraw
 dsimp only at hT hraw
 unfold rawE at hD
 dsimp only at hD
 generalize intS 6 S = p at *
 obtain ⟨a, S1⟩ := p
 dsimp only at *
 have cx := jH (fun w h => ptext_any 12 B (by omega) S1 w h hw1)
 have hw2 := textS_wf 12 hw1
 generalize textS 12 S1 = p at *
 obtain ⟨f, S2⟩ := p
 dsimp only at *
 have cs := jH (fun w h => psig_any B S2 w h hw2)
 have hw3 := readZ_wf hw2
 generalize readZ S2 = p at *
 obtain ⟨v, S3⟩ := p
 dsimp only at *
 have ct := jH (fun w h => ptag_any B S3 w h hw3)
 have hw4 := (readT_wf hw3).1
 generalize readT S3 = p at *
 obtain ⟨t, S4⟩ := p
 dsimp only at *
 have hTH := jH hT
 have hDH := jH hD
 have hrawH := jH hraw
 have hw4H := jH hw4
 have hzW := hb0.size
 clear hT hD hraw hw1 hw2 hw3 hw4 h hS
 go_enter Tryz.func134, Tryz.ntmps134
 go_wp2_with fail
 refine c1.out.mono ?_
 rintro e w1 ⟨rfl, hR1, hg1⟩
 have hr1 : w1.heap[w.heap.size]? = some (.cells #[.int .i64 0, .string ⟨#[]⟩, .int .i64 0, .int .i64 0, .int .u32 0, .int .i64 0, .int .u32 0, .int .i64 0, .slice none 0 0] 156 (0, 0)) := (hg1.block _ (jB hr0) (by simp; omega)).trans hr0
 have hgw1 : w.grownBy w1 (some B) := (yD hb0 _).trans hg1
 have hba : Below w1.heap.size w1 (w1.alloc (.cells #[.int .i64 (a : Int), .string ⟨#[]⟩, .int .i64 0, .int .i64 0, .int .u32 0, .int .i64 0, .int .u32 0, .int .i64 0, .slice none 0 0] 156)) := (Below.refl _ w1).alloc (Nat.le_refl _) _
 have hlr1 := jB hr1
 have hat : AtP 156 w (w1.alloc (.cells #[.int .i64 (a : Int), .string ⟨#[]⟩, .int .i64 0, .int .i64 0, .int .u32 0, .int .i64 0, .int .u32 0, .int .i64 0, .slice none 0 0] 156)) B w1.heap.size S1 #[.int .i64 0, .string ⟨#[]⟩, .int .i64 0, .int .i64 0, .int .u32 0, .int .i64 0, .int .u32 0, .int .i64 0, .slice none 0 0] #[.int .i64 (a : Int), .string ⟨#[]⟩, .int .i64 0, .int .i64 0, .int .u32 0, .int .i64 0, .int .u32 0, .int .i64 0, .slice none 0 0] :=
  ⟨jD hr1 hba, jT _ _ rfl, hR1.below hba, hgw1.trans (yD hba _), hlr1, hBlt⟩
 clear c1 hg1 hr0 hR0 hR1 hr1 hgw1 hba
 go_upto_region 2 with (fail)
 generalize (w1.alloc (.cells #[.int .i64 (a : Int), .string ⟨#[]⟩, .int .i64 0, .int .i64 0, .int .u32 0, .int .i64 0, .int .u32 0, .int .i64 0, .slice none 0 0] 156)) = X1 at *
 generalize hge : w1.heap.size = g at *
 clear hge
 have hlg := hat.lt
 go_wp2_with fail
 refine (cx.out _ hat.rd).mono ?_
 rintro e w2 ⟨rfl, hR2, hg2⟩
 have hat2 := hat.call hg2 hR2
 clear hat hg2 hR2 cx
 have hltg := jB hat2.tb
 have i1 := jA hat2.tb 1
 simp at i1
 have hfg := jE hat2.tb
 have at3 := jH (hat2.set (by decide) (by decide) 1 (.string (bs f)))
 clear hat2
 go_wp2_with fail
 refine (cs.out _ at3.out.rd).mono ?_
 rintro e w3 ⟨rfl, hR3, hg3⟩
 have hat4 := at3.out.call hg3 hR3
 simp only [List.setIfInBounds_toArray, List.set_cons_zero, List.set_cons_succ] at hat4
 clear at3 hg3 hR3 cs hltg i1 hfg
 have hltg := jB hat4.tb
 have i2 := jA hat4.tb 2
 simp at i2
 have hfg := jE hat4.tb
 have at5 := jH (hat4.set (by decide) (by decide) 2 (.int .i64 v))
 clear hat4
 go_wp2_with fail
 refine (ct.out _ at5.out.rd).mono ?_
 rintro e w4 ⟨rfl, hR4, hg4⟩
 have hat6 := at5.out.call hg4 hR4
 simp only [List.setIfInBounds_toArray, List.set_cons_zero, List.set_cons_succ] at hat6
 clear at5 hg4 hR4 ct hltg i2 hfg
 have hltg := jB hat6.tb
 have i3 := jA hat6.tb 3
 have i4 := jA hat6.tb 4
 have i5 := jA hat6.tb 5
 simp at i3 i4 i5
 have hfg := jE hat6.tb
 have at7 := (((hat6.set (by decide) (by decide) 3 (.int .i64 t.1.1)).set (by decide) (by decide) 4 (.int .u32 t.1.2)).set (by decide) (by decide) 5 (.int .i64 t.2))
 simp only [List.setIfInBounds_toArray, List.set_cons_zero, List.set_cons_succ] at at7
 have at7 := jH at7
 clear hat6
 go_upto_region 5 with (fail)
 obtain ⟨X2, hX2⟩ : ∃ X, (((w4.setCell ⟨g, 3, none⟩ (.int .i64 t.1.1)).setCell ⟨g, 4, none⟩ (.int .u32 t.1.2)).setCell ⟨g, 5, none⟩ (.int .i64 t.2)) = X := ⟨_, rfl⟩
 rw [hX2] at at7 ⊢
 clear hX2 i3 i4 i5 hfg hltg
 obtain ⟨st, S5, hS5⟩ : ∃ st S5, (if fAt (a : Int) = true then readSt' S4 else ((0, 0), S4)) = (st, S5) := ⟨_, _, rfl⟩
 have hw5 : S5.wf ∧ Sm.wf st := by
  have h2 : (st, S5).2.wf ∧ Sm.wf (st, S5).1 := by
   rw [← hS5]
   split
   ·
    exact readSt'_wf hw4H.out
   ·
    exact ⟨hw4H.out, show Sm.wf (0, 0) from ⟨by decide, by decide⟩⟩
  exact h2
 have hD2 := hDH.out
 rw [hS5] at hD2
 dsimp only at hD2
 obtain ⟨tg, S6, hS6⟩ : ∃ tg S6, (if fTg (a : Int) = true then readN readT (intS 4096 S5).1 (intS 4096 S5).2 else ([], S5)) = (tg, S6) := ⟨_, _, rfl⟩
 rw [hS6] at hD2
 dsimp only at hD2
 have hS5H := jH hS5
 have hS6H := jH hS6
 have hD2H := jH hD2
 have hw5H := jH hw5
 clear hD2 hS5 hS6 hw5 hDH
 have cF := jH (oform_any (a : Int))
 have hltg := jB at7.out.tb
 have i0 := jA at7.out.tb 0
 simp at i0
 go_wp2_with fail
 refine (cF.out _).mono ?_
 rintro e w5 ⟨rfl, hb5⟩
 have hba : Below w5.heap.size w5 (w5.alloc (.cells #[.bool (fNm (a : Int)), .bool (fVl (a : Int)), .bool (fAt (a : Int)), .bool (fTg (a : Int))] 216)) := (Below.refl _ w5).alloc (Nat.le_refl _) _
 have hbF : (w5.alloc (.cells #[.bool (fNm (a : Int)), .bool (fVl (a : Int)), .bool (fAt (a : Int)), .bool (fTg (a : Int))] 216)).heap[w5.heap.size]? = some (.cells #[.bool (fNm (a : Int)), .bool (fVl (a : Int)), .bool (fAt (a : Int)), .bool (fTg (a : Int))] 216 (0, 0)) := jT _ _ rfl
 have hat9 := (at7.out.below hb5).below hba
 have hgF : g < w5.heap.size := Nat.lt_of_lt_of_le hltg hb5.size
 clear at7 hltg i0 hb5 hba cF
 go_upto_region 6 with (fail)
 generalize (w5.alloc (.cells #[.bool (fNm (a : Int)), .bool (fVl (a : Int)), .bool (fAt (a : Int)), .bool (fTg (a : Int))] 216)) = X3 at *
 generalize w5.heap.size = q at *
 have hlq := jB hbF
 have f2 := jA hbF 2
 have f3 := jA hbF 3
 simp at f2 f3
 have hbFH := jH hbF
 have hat9H := jH hat9
 have hltg := jB hat9.tb
 have i6 := jA hat9.tb 6
 have i7 := jA hat9.tb 7
 simp at i6 i7
 have hfg := jE hat9.tb
 have hBX := hat9.rd.lt
 clear hbF hat9
 go_upto_if 22 with (fail)
 go_cut [] (fun wx => AtP 156 w wx B g S5 #[.int .i64 0, .string ⟨#[]⟩, .int .i64 0, .int .i64 0, .int .u32 0, .int .i64 0, .int .u32 0, .int .i64 0, .slice none 0 0] #[.int .i64 (a : Int), .string (bs f), .int .i64 v, .int .i64 t.1.1, .int .u32 t.1.2, .int .i64 t.2, .int .u32 st.1, .int .i64 st.2, .slice none 0 0] ∧ wx.heap[q]? = some (.cells #[.bool (fNm (a : Int)), .bool (fVl (a : Int)), .bool (fAt (a : Int)), .bool (fTg (a : Int))] 216 (0, 0)))
 case first =>
  cases hf : fAt (a : Int) with
  | true =>
   have h5 := hS5H.out
   rw [if_pos hf] at h5
   have cL := plread_any B S4 X3 hat9H.out.rd hw4H.out
   rw [h5] at cL
   have cL := jH cL
   rw [hf] at f2
   clear h5
   go_wp2_with fail
   refine cL.out.mono ?_
   rintro e w6 ⟨rfl, hR6, hg6⟩
   have hat10 := hat9H.out.call hg6 hR6
   have hbF6 := (hg6.block _ hlq (by simp; omega)).trans hbFH.out
   clear hltg i6 i7 hfg f2 f3 hg6 hR6
   have hltg := jB hat10.tb
   have i6 := jA hat10.tb 6
   have i7 := jA hat10.tb 7
   simp at i6 i7
   have hfg := jE hat10.tb
   have at11 := ((hat10.set (by decide) (by decide) 6 (.int .u32 st.1)).set (by decide) (by decide) 7 (.int .i64 st.2))
   simp only [List.setIfInBounds_toArray, List.set_cons_zero, List.set_cons_succ] at at11
   have at11 := jH at11
   have hbF8 := jH (yG (p := ⟨g, 7, none⟩) (u := .int .i64 st.2) (by dsimp only; omega) (yG (p := ⟨g, 6, none⟩) (u := .int .u32 st.1) (by dsimp only; omega) hbF6))
   clear hat10 hbF6
   go_wp2_with fail
   go_meet
   exact ⟨at11.out, hbF8.out⟩
  | false =>
   have h5 := hS5H.out
   rw [if_neg (by simp [hf])] at h5
   obtain ⟨rfl, rfl⟩ := Prod.mk.inj h5
   rw [hf] at f2
   clear h5
   go_wp2_with fail
   go_meet
   exact ⟨hat9H.out, hbFH.out⟩
 case rest =>
  obtain ⟨hat, hbF⟩ := hcut
  clear hat9H hbFH hltg i6 i7 hfg hBX f2 f3 hlq
  have hlq := jB hbF
  have f3 := jA hbF 3
  simp at f3
  have hatH := jH hat
  have hBX := hat.rd.lt
  clear hat hbF
  go_upto_if 27 with (fail)
  go_cut [] (fun wx => ∃ A' n' c', AtP 156 w wx B g S6 #[.int .i64 0, .string ⟨#[]⟩, .int .i64 0, .int .i64 0, .int .u32 0, .int .i64 0, .int .u32 0, .int .i64 0, .slice none 0 0] #[.int .i64 (a : Int), .string (bs f), .int .i64 v, .int .i64 t.1.1, .int .u32 t.1.2, .int .i64 t.2, .int .u32 st.1, .int .i64 st.2, .slice A' n' c'] ∧ Ow wx (g + 1) 131 3 (.slice A' n' c') (tg.map Tm.enc))
  case first =>
   cases hf : fTg (a : Int) with
   | false =>
    have h6 := hS6H.out
    rw [if_neg (by simp [hf])] at h6
    obtain ⟨rfl, rfl⟩ := Prod.mk.inj h6
    rw [hf] at f3
    clear h6
    go_wp2_with fail
    go_meet
    exact ⟨none, 0, 0, hatH.out, Ow.nil_ _ _ _ _⟩
   | true =>
    have h6 := hS6H.out
    rw [if_pos hf] at h6
    rw [hf] at f3
    have cI := pint_any 4096 B (by omega) S5 wc hatH.out.rd hw5H.out.1
    have hlm := yA 4096 S5
    have hwm : (intS 4096 S5).2.wf := Rs.wf_next hw5H.out.1 _
    generalize intS 4096 S5 = p at *
    obtain ⟨m, S7⟩ := p
    dsimp only at *
    have cI := jH cI
    have h6H := jH h6
    have hwmH := jH hwm
    have m0 : (0 : Int) ≤ (m : Int) := by omega
    clear h6 hwm
    go_wp2_with fail
    refine cI.out.mono ?_
    rintro e w7 ⟨rfl, hR7, hg7⟩
    have hat7 := hatH.out.call hg7 hR7
    clear f3 hlq hBX hg7 hR7 cI
    go_wp2_with fail
    go_loopg [5] (m + 1) (fun gg i wr => ∃ (k d : Nat) (L : List Tm) (S' : Rs) (A' : Option Addr) (c' : Nat), k + d = m ∧ gg = d + 1 ∧ i = .int .i64 (d : Int) ∧ L.length = k ∧ S'.wf ∧ tg = L ++ (readN readT d S').1 ∧ S6 = (readN readT d S').2 ∧ AtP 156 w wr B g S' #[.int .i64 0, .string ⟨#[]⟩, .int .i64 0, .int .i64 0, .int .u32 0, .int .i64 0, .int .u32 0, .int .i64 0, .slice none 0 0] #[.int .i64 (a : Int), .string (bs f), .int .i64 v, .int .i64 t.1.1, .int .u32 t.1.2, .int .i64 t.2, .int .u32 st.1, .int .i64 st.2, .slice A' k c'] ∧ Ow wr (g + 1) 131 3 (.slice A' k c') (L.map Tm.enc))
    case atStart => exact ⟨0, m, [], S7, none, 0, by omega, rfl, rfl, rfl, hwmH.out, by rw [h6H.out]; rfl, by rw [h6H.out], hat7, Ow.nil_ _ _ _ _⟩
    case round =>
     clear hat7
     obtain ⟨k, d, L, S', A', c', hk, rfl, rfl, hL, hS', hX1, hX2, hat, hown⟩ := hrel
     have hlt' := jB hat.tb
     have htH := jH hat.tb
     have hatH := jH hat
     have hLH := jH hL
     have hX1H := jH hX1
     have hX2H := jH hX2
     have hS'H := jH hS'
     have hR := hat.rd
     have s0 := jA hat.tb 8
     simp at s0
     have hkb : k ≤ 4096 := by omega
     have hdb : (d : Int) ≤ 4096 := by omega
     have hkH := jH hk
     clear hat hL hX1 hX2 hS' hk
     by_cases hlt : 0 < d
     ·
      have hlti : (0 : Int) < (d : Int) := by omega
      by_cases hf0 : S'.fe = 0
      ·
       have ct := jH (fun w h => ptag_any B S' w h hS'H.out)
       have hwt := readT_wf hS'H.out
       obtain ⟨u, Sb, hta⟩ : ∃ u Sb, readT S' = (u, Sb) := ⟨_, _, rfl⟩
       rw [hta] at ct hwt
       have hstep := readN_more hf0 hta (d - 1)
       rw [show d - 1 + 1 = d by omega] at hstep
       have hstH := jH hstep
       have hwxH := jH hwt.1
       clear hta hstep hwt
       obtain ⟨ev, hbz, hez⟩ := hR
       obtain ⟨_, rfl⟩ := hez.resolve_right (fun h9 => absurd (by assumption) h9.1)
       have hltz := jB hbz
       have z0 := jA hbz 0
       have z1 := jA hbz 1
       have z2 := jA hbz 2
       simp at z0 z1 z2
       clear hbz hez
       go_wp2_with fail
       refine (perr_any _ _ _ hltz z2).mono ?_
       rintro e w' ⟨rfl, rfl⟩
       clear hf0
       go_upto_region 12 with (fail)
       clear z0 z1 z2 hltz
       have of0 := jE htH.out
       refine jW (fun _ => True) (fun w' => w'.cell? ⟨g, 8, none⟩ = some (.slice A' k c')) 7 (by kernel_rfl) trivial s0 ?_
       intro hcl
       have hC := trivial
       have hE : World.cell? (World.drew _) ⟨g, 8, none⟩ = some (.slice A' k c') := s0
       (refine mT 0 ?_ rfl hcl hC hE ?_ ?_; rotate_left; (· (intro w hSw; (try dsimp only at hSw); go_simp; (try with_reducible rfl))); clear hcl; intro hcl; (try simp only [Act.put, List.getElem_toArray, List.getElem_cons_zero, List.setIfInBounds_toArray, List.set_cons_zero, List.set_cons_succ]))
       (refine wpM_take0c (i := 1) (j := 5) (v := ?_) rfl rfl rfl (by kernel_rfl) (by kernel_rfl) (by kernel_rfl) (by kernel_rfl) (by kernel_rfl) (by decide) (fun _ _ _ h => h) hcl hC (fun _ => hE) (Or.inl ⟨by rfl, ?_⟩) ?_; rotate_left; (· (intro w hSw; (try dsimp only at hSw); go_simp; (try with_reducible rfl))); clear hcl; intro hcl; (try simp only [Act.put, nA, nB, nC, nD, nE, nF]))
       (refine mT 2 ?_ rfl hcl hC hE ?_ ?_; rotate_left; (· (intro w hSw; (try dsimp only at hSw); go_simp; (try with_reducible rfl))); clear hcl; intro hcl; (try simp only [Act.put, nA, nB, nC, nD, nE, nF]))
       refine jK (i := 3) rfl (by kernel_rfl) hcl (fun K hK => ?_)
       go_simp
       refine (ct.out _ (hatH.out.rd.below (Below.refl _ _).drew)).mono ?_
       rintro e'' v1 ⟨rfl, hRv, hgv⟩
       have hatv := (hatH.out.below (Below.refl _ _).drew).call hgv hRv
       have hov := (hown.below (Below.refl _ _).drew).keptB hgv (by omega)
       have hE1 := jA hatv.tb 8
       clear hgv hown hRv
       refine hK.out _ _ trivial hE1 ?_
       clear hK K
       clear hcl
       intro hcl
       (try simp only [Act.put, nA, nB, nC, nD, nE, nF])
       clear hE
       have hE := hE1
       refine jK (i := 4) rfl (by kernel_rfl) hcl (fun K hK => ?_)
       go_simp
       have hvn : Below v1.heap.size v1 (v1.alloc (.cells #[.int .i64 u.1.1, .int .u32 u.1.2, .int .i64 u.2] 131)) := (Below.refl _ v1).alloc (Nat.le_refl _) _
       have hatn := hatv.below hvn
       have hE2 := jA hatn.tb 8
       refine hK.out _ _ trivial hE2 ?_
       clear hK K
       clear hcl
       intro hcl
       (try simp only [Act.put, nA, nB, nC, nD, nE, nF])
       have hlen1 : ∀ y ∈ ([[.int .i64 u.1.1, .int .u32 u.1.2, .int .i64 u.2]] : List (List Value)), y.length = 3 := by simp
       have hone1 : ∀ y ∈ ([[.int .i64 u.1.1, .int .u32 u.1.2, .int .i64 u.2]] : List (List Value)), ∀ v ∈ y, v.oneCell' = true := by simp [Value.oneCell']
       have hlk : Hid ((L.map Tm.enc).length = k) := jH (by rw [List.length_map]; exact hLH.out)
       have hlt1 := jB hatv.tb
       refine jK (i := 5) rfl (by kernel_rfl) hcl (fun K hK => ?_)
       refine step_append_rd _ rfl _ _ _ rfl eTag (base := g + 1) (v := .slice A' k c') (xs := L.map Tm.enc) rfl (hov.below hvn) rfl (Rd.one' [.int .i64 u.1.1, .int .u32 u.1.2, .int .i64 u.2] rfl) hlen1 hone1 (by rw [hlk.out]; unfold maxLen; omega) (by rw [hlk.out]; omega) (by simp; omega) ?_
       intro A5 n5 c5 v5 hn5 hown5 hg5 hat5
       obtain rfl : n5 = k + 1 := by rw [hn5, hlk.out]
       clear hn5
       have hbk := jH (hov.block)
       have ht5 := (hg5.block _ (jB hatn.tb) (fun e => by have := (hbk.out _ e.symm).1; omega)).trans hatn.tb
       have hr5 := (hg5.block _ (jB hatn.rb) (fun e => by have := (hbk.out _ e.symm).1; have := hatn.lt; omega)).trans hatn.rb
       have hR5 := hatn.rd.appended (hov.below hvn) hg5 (by decide) (by decide)
       have hgw5 := gr_then hatn.gr hg5 (fun g e => by have := (hbk.out g e).1; have := hatn.lt; omega)
       have hatA : AtP 156 w v5 B g Sb #[.int .i64 0, .string ⟨#[]⟩, .int .i64 0, .int .i64 0, .int .u32 0, .int .i64 0, .int .u32 0, .int .i64 0, .slice none 0 0] #[.int .i64 (a : Int), .string (bs f), .int .i64 v, .int .i64 t.1.1, .int .u32 t.1.2, .int .i64 t.2, .int .u32 st.1, .int .i64 st.2, .slice A' k c'] := ⟨hr5, ht5, hR5, hgw5, hatn.lt, hatn.nB⟩
       have of5 := jE ht5
       have hE5 := jA ht5 8
       have hl5 := jB ht5
       have hat6 := hatA.set (by decide) (by decide) 8 (.slice A5 (k + 1) c5)
       simp only [List.setIfInBounds_toArray, List.set_cons_zero, List.set_cons_succ] at hat6
       have ho6 := jH (hown5.set_blk ht5 (by decide) 8 (.slice A5 (k + 1) c5))
       have hat6 := jH hat6
       clear hr5 hown5 hg5 hR5 hgw5 hov hvn hatn hatv hE1 hE2 hE hat5 hatA
       refine hK.out _ _ trivial hE5 ?_
       clear hK K
       clear hcl
       intro hcl
       (try simp only [Act.put, nA, nB, nC, nD, nE, nF])
       have hE := hE5
       (refine mT 6 ?_ rfl hcl hC hE ?_ ?_; rotate_left; (· (intro w hSw; (try dsimp only at hSw); go_simp; (try with_reducible rfl))); clear hcl; intro hcl; (try simp only [Act.put, nA, nB, nC, nD, nE, nF]))
       clear ht5
       refine wpM_last (i := 7) rfl (by kernel_rfl) hcl (by kernel_rfl) (fun K hK => ?_)
       go_simp
       refine hK.out _ _ trivial ?_
       clear hK K hcl
       intro hcl
       refine wpM_done (by kernel_rfl) ?_
       clear hcl hC hE hE5 s0
       try simp only [Act.put, nA, nB, nC, nD, nE, nF]
       go_wp2
       go_roundg (d - 1 + 1)
       case measure => omega
       case rel =>
        refine ⟨k + 1, d - 1, L ++ [u], Sb, A5, c5, by have := hkH.out; omega, rfl, ?_, by rw [List.length_append, hLH.out]; rfl, hwxH.out, ?_, ?_, hat6.out, ?_⟩
        ·
         rw [show ((d - 1 : Nat) : Int) = (d : Int) - 1 by omega]
        ·
         rw [hX1H.out, hstH.out]; simp
        ·
         rw [hX2H.out, hstH.out]
        ·
         rw [List.map_append]; exact ho6.out
      ·
       have hXe : Hid (tg = L ∧ S6 = S') := jH (by rw [hX1H.out, hX2H.out, readN_bad hf0]; simp)
       obtain ⟨ev, hbz, hez⟩ := hR
       obtain ⟨hne, Fz, rfl, hFz⟩ : S'.fe ≠ 0 ∧ ∃ F, ev = .iface 125 (.pointer (some ⟨F, 0, none⟩)) ∧ _ := hez.resolve_left (fun h9 => absurd h9.1 (by assumption))
       have hltz := jB hbz
       have z0 := jA hbz 0
       have z1 := jA hbz 1
       have z2 := jA hbz 2
       simp at z0 z1 z2
       clear hbz hFz hne hez
       go_wp2_with fail
       refine (perr_any _ _ _ hltz z2).mono ?_
       rintro e w' ⟨rfl, rfl⟩
       go_wp2_with fail
       go_meet
       exact ⟨A', k, c', by rw [hXe.out.2]; exact hatH.out, by rw [hXe.out.1]; exact hown⟩
     ·
      have hnli : ¬ (0 : Int) < (d : Int) := by omega
      have hXe : Hid (tg = L ∧ S6 = S') := jH (by rw [hX1H.out, hX2H.out, show d = 0 by omega]; simp [readN])
      go_wp2_with fail
      go_meet
      exact ⟨A', k, c', by rw [hXe.out.2]; exact hatH.out, by rw [hXe.out.1]; exact hown⟩
  case rest =>
   obtain ⟨A1, n1, c1', hat, hown⟩ := hcut
   obtain ⟨rfl, rfl⟩ := Prod.mk.inj hD2H.out
   have hrw := hrawH.out
   dsimp only at hrw
   have hn1 : n1 ≤ 4096 := by have h1 : (tg.map Tm.enc).length = n1 := hown.rd.2.1; rw [List.length_map] at h1; omega
   have hatH := jH hat
   have hR := hat.rd
   have hnB := hat.nB
   have hlg2 := hat.lt
   clear hS5H hS6H hw5H hw4H hD2H hlq hBX f3 hatH hrawH
   have hatH := jH hat
   by_cases hf : S6.fe = 0
   ·
    have ck := ocheck_e_any ⟨(a : Int), f, v, t, st, tg⟩ A1 n1 c1' wc hown.rd.1 (by omega) hrw.2.1 (by have := hrw.2.2.1; simp [maxLen]; omega)
    have hTT := hTH.out
    generalize errE ⟨(a : Int), f, v, t, st, tg⟩ = p at ck hTT
    have ck := jH ck
    have cf := jH (fun w' h => pfail_any B S6 p w' h)
    by_cases hp : p = 0
    ·
     subst hp
     have hfs : failS S6 0 = S6 := by unfold failS; rw [if_neg (by simp)]
     rw [hfs, if_neg (by simp [hf])] at hTT
     obtain ⟨rfl, rfl⟩ := Prod.mk.inj hTT
     have hfsH := jH hfs
     have hltg := jB hat.tb
     have hltr := jB hat.rb
     have hfg := jE hat.tb
     have hfr := jE hat.rb
     have i0 := jA hat.tb 0
     have i1 := jA hat.tb 1
     have i2 := jA hat.tb 2
     have i3 := jA hat.tb 3
     have i4 := jA hat.tb 4
     have i5 := jA hat.tb 5
     have i6 := jA hat.tb 6
     have i7 := jA hat.tb 7
     have i8 := jA hat.tb 8
     have r0 := jA hat.rb 0
     have r1 := jA hat.rb 1
     have r2 := jA hat.rb 2
     have r3 := jA hat.rb 3
     have r4 := jA hat.rb 4
     have r5 := jA hat.rb 5
     have r6 := jA hat.rb 6
     have r7 := jA hat.rb 7
     have r8 := jA hat.rb 8
     simp at i0 i1 i2 i3 i4 i5 i6 i7 i8 r0 r1 r2 r3 r4 r5 r6 r7 r8
     clear hTT hTH hfs hrw hat
     obtain ⟨ev, hbz, hez⟩ := hR
     obtain ⟨_, rfl⟩ := hez.resolve_right (fun h9 => absurd (by assumption) h9.1)
     have hltz := jB hbz
     have z0 := jA hbz 0
     have z1 := jA hbz 1
     have z2 := jA hbz 2
     simp at z0 z1 z2
     clear hbz hez
     go_wp2_with fail
     refine (perr_any _ _ _ hltz z2).mono ?_
     rintro e w' ⟨rfl, rfl⟩
     go_wp2_with fail
     refine ck.out.mono ?_
     rintro e w3 ⟨rfl, hv3⟩
     have hat3 := hatH.out.below hv3
     clear z0 z1 z2 hltz i0 i1 i2 i3 i4 i5 i6 i7 i8 r0 r1 r2 r3 r4 r5 r6 r7 r8 hltg hltr hfg hfr
     go_wp2_with fail
     refine (cf.out _ hat3.rd).mono ?_
     rintro e w4 ⟨rfl, hR4, hg4⟩
     rw [hfsH.out] at hR4
     have hat4 := hat3.call hg4 hR4
     have hown4 := jH ((hown.below hv3).keptB hg4 (by omega))
     have hltg := jB hat4.tb
     have hltr := jB hat4.rb
     have hfg := jE hat4.tb
     have hfr := jE hat4.rb
     have i0 := jA hat4.tb 0
     have i1 := jA hat4.tb 1
     have i2 := jA hat4.tb 2
     have i3 := jA hat4.tb 3
     have i4 := jA hat4.tb 4
     have i5 := jA hat4.tb 5
     have i6 := jA hat4.tb 6
     have i7 := jA hat4.tb 7
     have i8 := jA hat4.tb 8
     have r0 := jA hat4.rb 0
     have r1 := jA hat4.rb 1
     have r2 := jA hat4.rb 2
     have r3 := jA hat4.rb 3
     have r4 := jA hat4.rb 4
     have r5 := jA hat4.rb 5
     have r6 := jA hat4.rb 6
     have r7 := jA hat4.rb 7
     have r8 := jA hat4.rb 8
     simp at i0 i1 i2 i3 i4 i5 i6 i7 i8 r0 r1 r2 r3 r4 r5 r6 r7 r8
     have hat4H := jH hat4
     clear hat3 hat4 hg4 hv3
     obtain ⟨ev, hbz, hez⟩ := hR4
     obtain ⟨_, rfl⟩ := hez.resolve_right (fun h9 => absurd (by assumption) h9.1)
     have hltz := jB hbz
     have z0 := jA hbz 0
     have z1 := jA hbz 1
     have z2 := jA hbz 2
     simp at z0 z1 z2
     clear hbz hez
     go_wp2_with fail
     refine (perr_any _ _ _ hltz z2).mono ?_
     rintro e w' ⟨rfl, rfl⟩
     go_wp2
     refine bodyPost_ret (v := .agg #[.int .i64 (a : Int), .string (bs f), .int .i64 v, .int .i64 t.1.1, .int .u32 t.1.2, .int .i64 t.2, .int .u32 st.1, .int .i64 st.2, .slice A1 n1 c1']) (by simp [results, Tryz.results134, go_sem, r0, r1, r2, r3, r4, r5, r6, r7, r8]) rfl ⟨A1, n1, c1', rfl, ?_, ?_, ?_⟩
     ·
      exact setsW_Ow (t := 156) (by decide) [.int .i64 (a : Int), .string (bs f), .int .i64 v, .int .i64 t.1.1, .int .u32 t.1.2, .int .i64 t.2, .int .u32 st.1, .int .i64 st.2, .slice A1 n1 c1'] 0 hat4H.out.rb (hown4.out.base (by omega))
     ·
      exact setsW_P (t := 156) (by decide) (by decide) [.int .i64 (a : Int), .string (bs f), .int .i64 v, .int .i64 t.1.1, .int .u32 t.1.2, .int .i64 t.2, .int .u32 st.1, .int .i64 st.2, .slice A1 n1 c1'] 0 hat4H.out.rb hat4H.out.rd
     ·
      exact setsW_gr (Nat.le_refl _) [.int .i64 (a : Int), .string (bs f), .int .i64 v, .int .i64 t.1.1, .int .u32 t.1.2, .int .i64 t.2, .int .u32 st.1, .int .i64 st.2, .slice A1 n1 c1'] 0 hat4H.out.gr
    ·
     have hfe := failS_fe (S := S6) hp
     rw [if_pos hfe] at hTT
     obtain ⟨rfl, rfl⟩ := Prod.mk.inj hTT
     have hltg := jB hat.tb
     have hltr := jB hat.rb
     have hfg := jE hat.tb
     have hfr := jE hat.rb
     have i0 := jA hat.tb 0
     have i1 := jA hat.tb 1
     have i2 := jA hat.tb 2
     have i3 := jA hat.tb 3
     have i4 := jA hat.tb 4
     have i5 := jA hat.tb 5
     have i6 := jA hat.tb 6
     have i7 := jA hat.tb 7
     have i8 := jA hat.tb 8
     have r0 := jA hat.rb 0
     have r1 := jA hat.rb 1
     have r2 := jA hat.rb 2
     have r3 := jA hat.rb 3
     have r4 := jA hat.rb 4
     have r5 := jA hat.rb 5
     have r6 := jA hat.rb 6
     have r7 := jA hat.rb 7
     have r8 := jA hat.rb 8
     simp at i0 i1 i2 i3 i4 i5 i6 i7 i8 r0 r1 r2 r3 r4 r5 r6 r7 r8
     clear hTT hTH hrw hat hp
     obtain ⟨ev, hbz, hez⟩ := hR
     obtain ⟨_, rfl⟩ := hez.resolve_right (fun h9 => absurd (by assumption) h9.1)
     have hltz := jB hbz
     have z0 := jA hbz 0
     have z1 := jA hbz 1
     have z2 := jA hbz 2
     simp at z0 z1 z2
     clear hbz hez
     go_wp2_with fail
     refine (perr_any _ _ _ hltz z2).mono ?_
     rintro e w' ⟨rfl, rfl⟩
     go_wp2_with fail
     refine ck.out.mono ?_
     rintro e w3 ⟨rfl, hv3⟩
     have hat3 := hatH.out.below hv3
     clear z0 z1 z2 hltz i0 i1 i2 i3 i4 i5 i6 i7 i8 r0 r1 r2 r3 r4 r5 r6 r7 r8 hltg hltr hfg hfr
     go_wp2_with fail
     refine (cf.out _ hat3.rd).mono ?_
     rintro e w4 ⟨rfl, hR4, hg4⟩
     have hat4 := hat3.call hg4 hR4
     have hltg := jB hat4.tb
     have hltr := jB hat4.rb
     have hfg := jE hat4.tb
     have hfr := jE hat4.rb
     have i0 := jA hat4.tb 0
     have i1 := jA hat4.tb 1
     have i2 := jA hat4.tb 2
     have i3 := jA hat4.tb 3
     have i4 := jA hat4.tb 4
     have i5 := jA hat4.tb 5
     have i6 := jA hat4.tb 6
     have i7 := jA hat4.tb 7
     have i8 := jA hat4.tb 8
     have r0 := jA hat4.rb 0
     have r1 := jA hat4.rb 1
     have r2 := jA hat4.rb 2
     have r3 := jA hat4.rb 3
     have r4 := jA hat4.rb 4
     have r5 := jA hat4.rb 5
     have r6 := jA hat4.rb 6
     have r7 := jA hat4.rb 7
     have r8 := jA hat4.rb 8
     simp at i0 i1 i2 i3 i4 i5 i6 i7 i8 r0 r1 r2 r3 r4 r5 r6 r7 r8
     have hat4H := jH hat4
     clear hat3 hat4 hg4 hv3 hown
     obtain ⟨ev, hbz, hez⟩ := hR4
     obtain ⟨hne, Fz, rfl, hFz⟩ : (failS S6 p).fe ≠ 0 ∧ ∃ F, ev = .iface 125 (.pointer (some ⟨F, 0, none⟩)) ∧ _ := hez.resolve_left (fun h9 => absurd h9.1 (by assumption))
     have hltz := jB hbz
     have z0 := jA hbz 0
     have z1 := jA hbz 1
     have z2 := jA hbz 2
     simp at z0 z1 z2
     clear hbz hFz hne hez
     go_wp2_with fail
     refine (perr_any _ _ _ hltz z2).mono ?_
     rintro e w' ⟨rfl, rfl⟩
     go_wp2
     refine bodyPost_ret (v := .agg #[.int .i64 0, .string ⟨#[]⟩, .int .i64 0, .int .i64 0, .int .u32 0, .int .i64 0, .int .u32 0, .int .i64 0, .slice none 0 0]) (by simp [results, Tryz.results134, go_sem, r0, r1, r2, r3, r4, r5, r6, r7, r8]) rfl ⟨none, 0, 0, rfl, Ow.nil_ _ _ _ _, ?_, ?_⟩
     ·
      exact setsW_P (t := 156) (by decide) (by decide) [.int .i64 0, .string ⟨#[]⟩, .int .i64 0, .int .i64 0, .int .u32 0, .int .i64 0, .int .u32 0, .int .i64 0, .slice none 0 0] 0 hat4H.out.rb hat4H.out.rd
     ·
      exact setsW_gr (Nat.le_refl _) [.int .i64 0, .string ⟨#[]⟩, .int .i64 0, .int .i64 0, .int .u32 0, .int .i64 0, .int .u32 0, .int .i64 0, .slice none 0 0] 0 hat4H.out.gr
   ·
    have hTT := hTH.out
    have hfs : failS S6 (errE ⟨(a : Int), f, v, t, st, tg⟩) = S6 := by unfold failS; rw [if_neg (fun h => hf h.1)]
    rw [hfs, if_pos hf] at hTT
    obtain ⟨rfl, rfl⟩ := Prod.mk.inj hTT
    have hltg := jB hat.tb
    have hltr := jB hat.rb
    have hfg := jE hat.tb
    have hfr := jE hat.rb
    have i0 := jA hat.tb 0
    have i1 := jA hat.tb 1
    have i2 := jA hat.tb 2
    have i3 := jA hat.tb 3
    have i4 := jA hat.tb 4
    have i5 := jA hat.tb 5
    have i6 := jA hat.tb 6
    have i7 := jA hat.tb 7
    have i8 := jA hat.tb 8
    have r0 := jA hat.rb 0
    have r1 := jA hat.rb 1
    have r2 := jA hat.rb 2
    have r3 := jA hat.rb 3
    have r4 := jA hat.rb 4
    have r5 := jA hat.rb 5
    have r6 := jA hat.rb 6
    have r7 := jA hat.rb 7
    have r8 := jA hat.rb 8
    simp at i0 i1 i2 i3 i4 i5 i6 i7 i8 r0 r1 r2 r3 r4 r5 r6 r7 r8
    clear hTT hTH hrw hat hfs hown
    obtain ⟨ev, hbz, hez⟩ := hR
    obtain ⟨hne, Fz, rfl, hFz⟩ : S6.fe ≠ 0 ∧ ∃ F, ev = .iface 125 (.pointer (some ⟨F, 0, none⟩)) ∧ _ := hez.resolve_left (fun h9 => absurd h9.1 (by assumption))
    have hltz := jB hbz
    have z0 := jA hbz 0
    have z1 := jA hbz 1
    have z2 := jA hbz 2
    simp at z0 z1 z2
    clear hbz hFz hne hez
    go_wp2_with fail
    refine (perr_any _ _ _ hltz z2).mono ?_
    rintro e w' ⟨rfl, rfl⟩
    go_wp2
    refine bodyPost_ret (v := .agg #[.int .i64 0, .string ⟨#[]⟩, .int .i64 0, .int .i64 0, .int .u32 0, .int .i64 0, .int .u32 0, .int .i64 0, .slice none 0 0]) (by simp [results, Tryz.results134, go_sem, r0, r1, r2, r3, r4, r5, r6, r7, r8]) rfl ⟨none, 0, 0, rfl, Ow.nil_ _ _ _ _, ?_, ?_⟩
    ·
     exact setsW_P (t := 156) (by decide) (by decide) [.int .i64 0, .string ⟨#[]⟩, .int .i64 0, .int .i64 0, .int .u32 0, .int .i64 0, .int .u32 0, .int .i64 0, .slice none 0 0] 0 hatH.out.rb hatH.out.rd
    ·
     exact setsW_gr (Nat.le_refl _) [.int .i64 0, .string ⟨#[]⟩, .int .i64 0, .int .i64 0, .int .u32 0, .int .i64 0, .int .u32 0, .int .i64 0, .slice none 0 0] 0 hatH.out.gr
end Go.Proofs.YtfhandglpjnonaaGreatDoor
