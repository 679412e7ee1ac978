/- tx.Read: the next transaction of a reader. -/
import Derived.Test.YtfhandglpjnonaaGreatDoorJc
import Derived.Test.YtfhandglpjnonaaGreatDoorM39
import Derived.Test.YtfhandglpjnonaaGreatDoorN39
namespace Go.Proofs.YtfhandglpjnonaaGreatDoor
open Go.RowKit
theorem OwE.keptB {t : TypeId} {w w' : World} {base b n c : Nat} {A : Option Addr} {ps : List Pe} (h : OwE t w base A n c ps) (hg : w.grownBy w' (some b)) (hb : b < base) : OwE t w' base A n c ps :=
 ⟨h.1.keptB hg hb, fun p hp => (h.2 p hp).keptB hg hb⟩
set_option maxRecDepth 100000 in
set_option maxHeartbeats 8000000 in
theorem xread_any (B : Nat) (S : Rs) (w : World) (h : RdrP w B S) (hS : S.wf) (hvm : VarM w) :
 Calls Tryz.prog 103 #[.pointer (some ⟨B, 0, none⟩)] w
  fun r w' => ∃ A n c qs, r = .returned (.agg #[.int .i64 (readX S).1.1.1, .int .u32 (readX S).1.1.2, .int .u32 (readX S).1.2.1.d0, .int .u32 (readX S).1.2.1.d1, .int .u32 (readX S).1.2.1.d2, .int .u32 (readX S).1.2.1.d3, .int .u32 (readX S).1.2.1.d4, .int .u32 (readX S).1.2.1.d5, .int .u32 (readX S).1.2.1.d6, .int .u32 (readX S).1.2.1.d7, .bool (readX S).1.2.2.1, .slice A n c]) ∧ OwE 159 w' w.heap.size A n c qs ∧ qs.map Pe.core = (readX S).1.2.2.2 ∧ RdrP w' B (readX S).2 ∧ w.grownBy w' (some B) := by
 have hBlt := h.lt
 have hb0 : Below w.heap.size w (w.alloc (.cells #[.int .i64 0, .int .u32 0, .int .u32 0, .int .u32 0, .int .u32 0, .int .u32 0, .int .u32 0, .int .u32 0, .int .u32 0, .int .u32 0, .bool false, .slice none 0 0] 45)) := (Below.refl _ w).alloc (Nat.le_refl _) _
 have hr0 : (w.alloc (.cells #[.int .i64 0, .int .u32 0, .int .u32 0, .int .u32 0, .int .u32 0, .int .u32 0, .int .u32 0, .int .u32 0, .int .u32 0, .int .u32 0, .bool false, .slice none 0 0] 45)).heap[w.heap.size]? = some (.cells #[.int .i64 0, .int .u32 0, .int .u32 0, .int .u32 0, .int .u32 0, .int .u32 0, .int .u32 0, .int .u32 0, .int .u32 0, .int .u32 0, .bool false, .slice none 0 0] 45 (0, 0)) := jT _ _ rfl
 have hR0 := h.below hb0
 generalize hW : w.alloc (.cells #[.int .i64 0, .int .u32 0, .int .u32 0, .int .u32 0, .int .u32 0, .int .u32 0, .int .u32 0, .int .u32 0, .int .u32 0, .int .u32 0, .bool false, .slice none 0 0] 45) = W at hb0 hr0 hR0
 have hw1 := (readI_wf hS).1
 have hxw := (readI_wf hS).2
 have c1 := jH (pread_any B S W hR0 hS)
 obtain ⟨E, T, hT⟩ : ∃ E T, readX S = (E, T) := ⟨_, _, rfl⟩
 rw [hT]
 obtain ⟨D, U, hD⟩ : ∃ D U, rawX S = (D, U) := ⟨_, _, rfl⟩
 unfold readX at hT
 rw [hD] at hT
 dsimp only at hT
 unfold rawX at hD
 dsimp only at hD
 generalize readI S = p at *
 obtain ⟨x, S1⟩ := p
 dsimp only at *
 have cv := jH (fun w h => pvread_any B S1 w h hw1)
 have hw2 := (readV_wf hw1).1
 have hvw := (readV_wf hw1).2
 generalize readV S1 = p at *
 obtain ⟨v, S2⟩ := p
 dsimp only at *
 have cb := jH (fun w h => pint_any 1 B (by omega) S2 w h hw2)
 have hw3 : (intS 1 S2).2.wf := Rs.wf_next hw2 _
 have hle1 := yA 1 S2
 generalize intS 1 S2 = p at *
 obtain ⟨b, S3⟩ := p
 dsimp only at *
 have cn := jH (fun w h => pint_any 16 B (by omega) S3 w h hw3)
 have hw4 : (intS 16 S3).2.wf := Rs.wf_next hw3 _
 have hle2 := yA 16 S3
 generalize intS 16 S3 = p at *
 obtain ⟨n, S4⟩ := p
 dsimp only at *
 have hTH := jH hT
 have hDH := jH hD
 have hw4H := jH hw4
 have hxwH := jH hxw
 have hvwH := jH hvw
 have hzW := hb0.size
 have hrdH := jH h
 clear hT hD hw1 hw2 hw3 hw4 hS hxw hvw
 go_enter Tryz.func103, Tryz.ntmps103
 go_wp2_with fail
 refine c1.out.mono ?_
 rintro e w1 ⟨rfl, hR1, hg1⟩
 have hr1 : w1.heap[w.heap.size]? = some (.cells #[.int .i64 0, .int .u32 0, .int .u32 0, .int .u32 0, .int .u32 0, .int .u32 0, .int .u32 0, .int .u32 0, .int .u32 0, .int .u32 0, .bool false, .slice none 0 0] 45 (0, 0)) := (hg1.block _ (jB hr0) (by simp; omega)).trans hr0
 have hgw1 : w.grownBy w1 (some B) := (yD hb0 _).trans hg1
 have hba : Below w1.heap.size w1 (w1.alloc (.cells #[.int .i64 x.1, .int .u32 x.2, .int .u32 0, .int .u32 0, .int .u32 0, .int .u32 0, .int .u32 0, .int .u32 0, .int .u32 0, .int .u32 0, .bool false, .slice none 0 0] 45)) := (Below.refl _ w1).alloc (Nat.le_refl _) _
 have hlr1 := jB hr1
 have hat : AtP 45 w (w1.alloc (.cells #[.int .i64 x.1, .int .u32 x.2, .int .u32 0, .int .u32 0, .int .u32 0, .int .u32 0, .int .u32 0, .int .u32 0, .int .u32 0, .int .u32 0, .bool false, .slice none 0 0] 45)) B w1.heap.size S1 #[.int .i64 0, .int .u32 0, .int .u32 0, .int .u32 0, .int .u32 0, .int .u32 0, .int .u32 0, .int .u32 0, .int .u32 0, .int .u32 0, .bool false, .slice none 0 0] #[.int .i64 x.1, .int .u32 x.2, .int .u32 0, .int .u32 0, .int .u32 0, .int .u32 0, .int .u32 0, .int .u32 0, .int .u32 0, .int .u32 0, .bool false, .slice none 0 0] :=
  ⟨jD hr1 hba, jT _ _ rfl, hR1.below hba, hgw1.trans (yD hba _), hlr1, hBlt⟩
 clear c1 hg1 hr0 hR0 hR1 hr1 hgw1 hba
 go_upto_region 2 with (fail)
 generalize (w1.alloc (.cells #[.int .i64 x.1, .int .u32 x.2, .int .u32 0, .int .u32 0, .int .u32 0, .int .u32 0, .int .u32 0, .int .u32 0, .int .u32 0, .int .u32 0, .bool false, .slice none 0 0] 45)) = X1 at *
 generalize hge : w1.heap.size = g at *
 clear hge
 have hlg := hat.lt
 go_wp2_with fail
 refine (cv.out _ hat.rd).mono ?_
 rintro e w2 ⟨rfl, hR2, hg2⟩
 have hat2 := hat.call hg2 hR2
 clear hat hg2 hR2 cv
 have hltg := jB hat2.tb
 have i2 := jA hat2.tb 2
 have i3 := jA hat2.tb 3
 have i4 := jA hat2.tb 4
 have i5 := jA hat2.tb 5
 have i6 := jA hat2.tb 6
 have i7 := jA hat2.tb 7
 have i8 := jA hat2.tb 8
 have i9 := jA hat2.tb 9
 simp at i2 i3 i4 i5 i6 i7 i8 i9
 have hfg := jE hat2.tb
 have at3 := ((((((((hat2.set (by decide) (by decide) 2 (.int .u32 v.d0)).set (by decide) (by decide) 3 (.int .u32 v.d1)).set (by decide) (by decide) 4 (.int .u32 v.d2)).set (by decide) (by decide) 5 (.int .u32 v.d3)).set (by decide) (by decide) 6 (.int .u32 v.d4)).set (by decide) (by decide) 7 (.int .u32 v.d5)).set (by decide) (by decide) 8 (.int .u32 v.d6)).set (by decide) (by decide) 9 (.int .u32 v.d7))
 simp only [List.setIfInBounds_toArray, List.set_cons_zero, List.set_cons_succ] at at3
 have at3 := jH at3
 clear hat2
 go_wp2_with fail
 refine (cb.out _ at3.out.rd).mono ?_
 rintro e w3 ⟨rfl, hR3, hg3⟩
 have hat4 := at3.out.call hg3 hR3
 clear at3 hg3 hR3 cb hltg i2 i3 i4 i5 i6 i7 i8 i9 hfg
 have hltg := jB hat4.tb
 have i10 := jA hat4.tb 10
 simp at i10
 have hfg := jE hat4.tb
 have at5 := hat4.set (by decide) (by decide) 10 (.bool (decide ((b : Int) = 1)))
 simp only [List.setIfInBounds_toArray, List.set_cons_zero, List.set_cons_succ] at at5
 have at5 := jH at5
 clear hat4
 have hvg := jH (fun w' (hg : w.grownBy w' (some B)) => hvm.grown hg (hvm.neP hrdH.out))
 go_wp2_with fail
 refine (cn.out _ at5.out.rd).mono ?_
 rintro e w4 ⟨rfl, hR4, hg4⟩
 have hat6 := at5.out.call hg4 hR4
 have n0 : (0 : Int) ≤ (n : Int) := by omega
 clear at5 hg4 hR4 cn hltg i10 hfg
 go_wp2_with fail
 have hbb := jH (show decide ((b : Int) = 1) = decide (b = 1) by rw [decide_eq_decide]; omega)
 generalize decide ((b : Int) = 1) = bb at *
 go_loopg [17] (n + 1) (fun gg i wr => ∃ (k : Nat) (A' : Option Addr) (c' : Nat) (qs : List Pe), k ≤ n ∧ gg = n + 1 - k ∧ i = .int .i64 (k : Int) ∧ AtP 45 w wr B g (readQs k S4).2 #[.int .i64 0, .int .u32 0, .int .u32 0, .int .u32 0, .int .u32 0, .int .u32 0, .int .u32 0, .int .u32 0, .int .u32 0, .int .u32 0, .bool false, .slice none 0 0] #[.int .i64 x.1, .int .u32 x.2, .int .u32 v.d0, .int .u32 v.d1, .int .u32 v.d2, .int .u32 v.d3, .int .u32 v.d4, .int .u32 v.d5, .int .u32 v.d6, .int .u32 v.d7, .bool bb, .slice A' k c'] ∧ OwE 159 wr (g + 1) A' k c' qs ∧ qs.map Pe.core = (readQs k S4).1)
 case atStart => exact ⟨0, none, 0, [], Nat.zero_le _, rfl, rfl, hat6, OwE.nil_, rfl⟩
 case round =>
  clear hat6
  obtain ⟨k, A', c', qs, hk, rfl, rfl, hat, hown, hqc⟩ := hrel
  have hlt' := jB hat.tb
  have htH := jH hat.tb
  have hatH := jH hat
  have hqcH := jH hqc
  have hR := hat.rd
  by_cases hlt : k < n
  ·
   have hlti : (k : Int) < (n : Int) := by omega
   have hwk := (readQs_wf hw4H.out k).1
   have ct := ptext_any 24 B (by omega) (readQs k S4).2 wr hR hwk
   have hwt := textS_wf 24 hwk
   have hst1 : (readQs (k + 1) S4).1 = (readQs k S4).1 ++ [(readQ (readQs k S4).2).1] := rfl
   have hst2 : (readQs (k + 1) S4).2 = (readQ (readQs k S4).2).2 := rfl
   have hlk := readQs_len S4 k
   unfold readQ at hst1 hst2
   obtain ⟨u, Sa, hu⟩ : ∃ u Sa, textS 24 (readQs k S4).2 = (u, Sa) := ⟨_, _, rfl⟩
   rw [hu] at ct hwt hst1 hst2
   have cE := fun w h => oread_any B Sa w h hwt
   obtain ⟨e', Sb, he⟩ : ∃ e Sb, readE Sa = (e, Sb) := ⟨_, _, rfl⟩
   dsimp only at hst1 hst2 cE
   rw [he] at cE hst1 hst2
   have cE := jH cE
   have ct := jH ct
   have h1H := jH hst1
   have h2H := jH hst2
   have hlk2 : Hid ((qs.map Pe.enc).length = k) := jH (by have h1 := congrArg List.length hqcH.out; rw [List.length_map] at h1 ⊢; omega)
   clear hu he hst1 hst2 hlk hwk hwt hR hqc
   go_wp2_with fail
   refine ct.out.mono ?_
   rintro e w5 ⟨rfl, hR5, hg5⟩
   have hat5 := hatH.out.call hg5 hR5
   have hown5 := hown.keptB hg5 (by omega)
   have hlt5 := jB hat5.tb
   have s0 := jA hat5.tb 11
   simp at s0
   have hat5H := jH hat5
   have of5 := jE hat5.tb
   clear hat hatH htH hown hg5 hR5 hlt' ct hat5
   go_upto_region 7 with (fail)
   refine jW (fun _ => True) (fun w' => w'.cell? ⟨g, 11, none⟩ = some (.slice A' k c')) 9 (by kernel_rfl) trivial s0 ?_
   intro hcl
   have hC := trivial
   have hE : World.cell? (World.drew _) ⟨g, 11, none⟩ = some (.slice A' k c') := s0
   (refine mT 0 ?_ rfl hcl hC hE ?_ ?_; rotate_left; (· (intro w hSw; (try dsimp only at hSw); go_simp; (try with_reducible rfl))); clear hcl; intro hcl; (try simp only [Act.put, List.getElem_toArray, List.getElem_cons_zero, List.setIfInBounds_toArray, List.set_cons_zero, List.set_cons_succ]))
   (refine wpM_take0c (i := 1) (j := 7) (v := ?_) rfl rfl rfl (by kernel_rfl) (by kernel_rfl) (by kernel_rfl) (by kernel_rfl) (by kernel_rfl) (by decide) (fun _ _ _ h => h) hcl hC (fun _ => hE) (Or.inl ⟨by rfl, ?_⟩) ?_; rotate_left; (· (intro w hSw; (try dsimp only at hSw); go_simp; (try with_reducible rfl))); clear hcl; intro hcl; (try simp only [Act.put, nA, nB, nC, nD, nE, nF]))
   (refine mT 2 ?_ rfl hcl hC hE ?_ ?_; rotate_left; (· (intro w hSw; (try dsimp only at hSw); go_simp; (try with_reducible rfl))); clear hcl; intro hcl; (try simp only [Act.put, nA, nB, nC, nD, nE, nF]))
   (refine mT 3 ?_ rfl hcl hC hE ?_ ?_; rotate_left; (· (intro w hSw; (try dsimp only at hSw); go_simp; (try with_reducible rfl))); clear hcl; intro hcl; (try simp only [Act.put, nA, nB, nC, nD, nE, nF]))
   refine jK (i := 4) rfl (by kernel_rfl) hcl (fun K hK => ?_)
   go_simp
   refine (cE.out _ (hat5H.out.rd.below (Below.refl _ _).drew)).mono ?_
   rintro e'' v1 ⟨A1, l1, c1, rfl, hr1, hRv, hgv⟩
   have hatv := (hat5H.out.below (Below.refl _ _).drew).call hgv hRv
   have hov := (hown5.below (Below.refl _ _).drew).keptB hgv (by omega)
   have hE1 := jA hatv.tb 11
   clear hgv hRv hown5
   refine hK.out _ _ trivial hE1 ?_
   clear hK K
   clear hcl
   intro hcl
   (try simp only [Act.put, nA, nB, nC, nD, nE, nF])
   clear hE
   have hE := hE1
   (refine mT 5 ?_ rfl hcl hC hE ?_ ?_; rotate_left; (· (intro w hSw; (try dsimp only at hSw); go_simp; (try with_reducible rfl))); clear hcl; intro hcl; (try simp only [Act.put, nA, nB, nC, nD, nE, nF]))
   refine jK (i := 6) rfl (by kernel_rfl) hcl (fun K hK => ?_)
   go_simp
   have hvn : Below v1.heap.size v1 (v1.alloc (.cells #[.string (bs u), .int .i64 e'.act, .string (bs e'.name), .int .i64 e'.val, .int .i64 e'.tag.1.1, .int .u32 e'.tag.1.2, .int .i64 e'.tag.2, .int .u32 e'.st.1, .int .i64 e'.st.2, .slice A1 l1 c1] 159)) := (Below.refl _ v1).alloc (Nat.le_refl _) _
   have hatn := hatv.below hvn
   have hE2 := jA hatn.tb 11
   refine hK.out _ _ trivial hE2 ?_
   clear hK K
   clear hcl
   intro hcl
   (try simp only [Act.put, nA, nB, nC, nD, nE, nF])
   have hlen1 : ∀ y ∈ ([[.string (bs u), .int .i64 e'.act, .string (bs e'.name), .int .i64 e'.val, .int .i64 e'.tag.1.1, .int .u32 e'.tag.1.2, .int .i64 e'.tag.2, .int .u32 e'.st.1, .int .i64 e'.st.2, .slice A1 l1 c1]] : List (List Value)), y.length = 10 := by simp
   have hone1 : ∀ y ∈ ([[.string (bs u), .int .i64 e'.act, .string (bs e'.name), .int .i64 e'.val, .int .i64 e'.tag.1.1, .int .u32 e'.tag.1.2, .int .i64 e'.tag.2, .int .u32 e'.st.1, .int .i64 e'.st.2, .slice A1 l1 c1]] : List (List Value)), ∀ v ∈ y, v.oneCell' = true := by simp [Value.oneCell']
   have hlt1 := jB hatv.tb
   refine jK (i := 7) rfl (by kernel_rfl) hcl (fun K hK => ?_)
   refine step_append_rd _ rfl _ _ _ rfl ePart (base := g + 1) (v := .slice A' k c') (xs := qs.map Pe.enc) rfl (hov.1.below hvn) rfl (Rd.one' [.string (bs u), .int .i64 e'.act, .string (bs e'.name), .int .i64 e'.val, .int .i64 e'.tag.1.1, .int .u32 e'.tag.1.2, .int .i64 e'.tag.2, .int .u32 e'.st.1, .int .i64 e'.st.2, .slice A1 l1 c1] rfl) hlen1 hone1 (by rw [hlk2.out]; unfold maxLen; omega) (by rw [hlk2.out]; omega) (by simp; omega) ?_
   intro A5 n5 c5 v5 hn5 hown5 hg5 hat5
   obtain rfl : n5 = k + 1 := by rw [hn5, hlk2.out]
   clear hn5
   have hbk := jH (hov.1.block)
   have ht5 := (hg5.block _ (jB hatn.tb) (fun e => by have := (hbk.out _ e.symm).1; omega)).trans hatn.tb
   have hr5 := (hg5.block _ (jB hatn.rb) (fun e => by have := (hbk.out _ e.symm).1; have := hatn.lt; omega)).trans hatn.rb
   have hR5 := hatn.rd.appended (hov.1.below hvn) hg5 (by decide) (by decide)
   have hgw5 := gr_then hatn.gr hg5 (fun g e => by have := (hbk.out g e).1; have := hatn.lt; omega)
   have hatA : AtP 45 w v5 B g Sb #[.int .i64 0, .int .u32 0, .int .u32 0, .int .u32 0, .int .u32 0, .int .u32 0, .int .u32 0, .int .u32 0, .int .u32 0, .int .u32 0, .bool false, .slice none 0 0] #[.int .i64 x.1, .int .u32 x.2, .int .u32 v.d0, .int .u32 v.d1, .int .u32 v.d2, .int .u32 v.d3, .int .u32 v.d4, .int .u32 v.d5, .int .u32 v.d6, .int .u32 v.d7, .bool bb, .slice A' k c'] := ⟨hr5, ht5, hR5, hgw5, hatn.lt, hatn.nB⟩
   have hq : ∀ q ∈ qs ++ [(⟨u, e', A1, l1, c1⟩ : Pe)], Ow v5 (g + 1) 131 3 (.slice q.A q.l q.c) (q.e.tags.map Tm.enc) := by
    intro q hq
    refine Ow.other (w := v1.alloc (.cells #[.string (bs u), .int .i64 e'.act, .string (bs e'.name), .int .i64 e'.val, .int .i64 e'.tag.1.1, .int .u32 e'.tag.1.2, .int .i64 e'.tag.2, .int .u32 e'.st.1, .int .i64 e'.st.2, .slice A1 l1 c1] 159)) ?_ (hov.1.below hvn) (by decide) hg5
    rcases List.mem_append.1 hq with h1 | h1
    ·
     exact (hov.2 q h1).below hvn
    ·
     obtain rfl := List.mem_singleton.1 h1
     exact (hr1.base (by show _ ≤ _; simp; omega)).below hvn
   have hoE : OwE 159 v5 (g + 1) A5 (k + 1) c5 (qs ++ [(⟨u, e', A1, l1, c1⟩ : Pe)]) := ⟨by rw [List.map_append]; exact hown5, hq⟩
   have of5b := jE ht5
   have hE5 := jA ht5 11
   have hl5 := jB ht5
   have hat6 := hatA.set (by decide) (by decide) 11 (.slice A5 (k + 1) c5)
   simp only [List.setIfInBounds_toArray, List.set_cons_zero, List.set_cons_succ] at hat6
   have ho6 : Hid (OwE 159 (v5.setCell ⟨g, 11, none⟩ (.slice A5 (k + 1) c5)) (g + 1) A5 (k + 1) c5 (qs ++ [(⟨u, e', A1, l1, c1⟩ : Pe)])) := jH ⟨hoE.1.set_blk ht5 (by decide) 11 _, fun q h => (hoE.2 q h).set_blk ht5 (by decide) 11 _⟩
   have hat6 := jH hat6
   clear hr5 hown5 hg5 hR5 hgw5 hov hvn hatn hatv hE1 hE2 hE hat5 hatA hq hoE hr1
   refine hK.out _ _ trivial hE5 ?_
   clear hK K
   clear hcl
   intro hcl
   (try simp only [Act.put, nA, nB, nC, nD, nE, nF])
   have hE := hE5
   (refine mT 8 ?_ rfl hcl hC hE ?_ ?_; rotate_left; (· (intro w hSw; (try dsimp only at hSw); go_simp; (try with_reducible rfl))); clear hcl; intro hcl; (try simp only [Act.put, nA, nB, nC, nD, nE, nF]))
   clear ht5
   refine wpM_last (i := 9) rfl (by kernel_rfl) hcl (by kernel_rfl) (fun K hK => ?_)
   go_simp
   refine hK.out _ _ trivial ?_
   clear hK K hcl
   intro hcl
   refine wpM_done (by kernel_rfl) ?_
   clear hcl hC hE hE5 s0
   try simp only [Act.put, nA, nB, nC, nD, nE, nF]
   go_wp2
   go_roundg (n + 1 - (k + 1))
   case measure => omega
   case rel =>
    refine ⟨k + 1, A5, c5, qs ++ [(⟨u, e', A1, l1, c1⟩ : Pe)], by omega, rfl, by go_num, by rw [h2H.out]; exact hat6.out, ho6.out, ?_⟩
    rw [List.map_append, hqcH.out, h1H.out]; rfl
  ·
   obtain rfl : k = n := by omega
   have hnli : ¬ (k : Int) < (k : Int) := by omega
   obtain ⟨rfl, rfl⟩ := Prod.mk.inj hDH.out
   have hgd := (readQs_wf hw4H.out k).2
   generalize hSn : (readQs k S4).2 = Sn at *
   have hTT := hTH.out
   dsimp only at hTT
   rw [← hbb.out] at hTT
   rw [← hqc] at hTT hgd
   have hfit : ∀ p ∈ qs, p.Fit wr := fun p hp => by
    have h1 := hgd p.core (List.mem_map.2 ⟨p, hp, rfl⟩)
    have h2 : p.e.tags.length = p.l := RdT.len (hown.rd.2 p hp)
    have h3 := h1.2.2.2
    refine ⟨hown.rd.2 p hp, h1.2.1, Nat.le_trans h1.1 (by decide), Nat.le_trans h1.2.2.1 (by decide), ?_⟩
    change p.e.tags.length ≤ 4096 at h3
    omega
   have ck := txcheck_any x v bb A' k c' qs wr hown.rd (by simp [maxLen]; omega) hfit hxwH.out hvwH.out (hvg.out wr hat.gr)
   clear hfit hgd hSn hqcH hbb hw4H hxwH hvwH htH hlt' hTH hDH hvg
   have hnB := hat.nB
   have hlg2 := hat.lt
   by_cases hf : Sn.fe = 0
   ·
    generalize txErr x v (qs.map Pe.core) = p at ck hTT
    have ck := jH ck
    have cf := jH (fun w' h => pfail_any B Sn p w' h)
    by_cases hp : p = 0
    ·
     subst hp
     have hfs : failS Sn 0 = Sn := by unfold failS; rw [if_neg (by simp)]
     rw [hfs, if_neg (by simp [hf])] at hTT
     obtain ⟨rfl, rfl⟩ := Prod.mk.inj hTT
     have hfsH := jH hfs
     have hltg := jB hat.tb
     have hltr := jB hat.rb
     have hfg := jE hat.tb
     have hfr := jE hat.rb
     have i0 := jA hat.tb 0
     have i1 := jA hat.tb 1
     have i2 := jA hat.tb 2
     have i3 := jA hat.tb 3
     have i4 := jA hat.tb 4
     have i5 := jA hat.tb 5
     have i6 := jA hat.tb 6
     have i7 := jA hat.tb 7
     have i8 := jA hat.tb 8
     have i9 := jA hat.tb 9
     have i10 := jA hat.tb 10
     have i11 := jA hat.tb 11
     have r0 := jA hat.rb 0
     have r1 := jA hat.rb 1
     have r2 := jA hat.rb 2
     have r3 := jA hat.rb 3
     have r4 := jA hat.rb 4
     have r5 := jA hat.rb 5
     have r6 := jA hat.rb 6
     have r7 := jA hat.rb 7
     have r8 := jA hat.rb 8
     have r9 := jA hat.rb 9
     have r10 := jA hat.rb 10
     have r11 := jA hat.rb 11
     simp at i0 i1 i2 i3 i4 i5 i6 i7 i8 i9 i10 i11 r0 r1 r2 r3 r4 r5 r6 r7 r8 r9 r10 r11
     clear hTT hfs hat hqc
     obtain ⟨ev, hbz, hez⟩ := hR
     obtain ⟨_, rfl⟩ := hez.resolve_right (fun h9 => absurd (by assumption) h9.1)
     have hltz := jB hbz
     have z0 := jA hbz 0
     have z1 := jA hbz 1
     have z2 := jA hbz 2
     simp at z0 z1 z2
     clear hbz hez
     go_wp2_with fail
     refine (perr_any _ _ _ hltz z2).mono ?_
     rintro e w' ⟨rfl, rfl⟩
     go_wp2_with fail
     refine ck.out.mono ?_
     rintro e w3 ⟨rfl, hv3⟩
     have hat3 := hatH.out.below hv3
     clear z0 z1 z2 hltz i0 i1 i2 i3 i4 i5 i6 i7 i8 i9 i10 i11 r0 r1 r2 r3 r4 r5 r6 r7 r8 r9 r10 r11 hltg hltr hfg hfr
     go_wp2_with fail
     refine (cf.out _ hat3.rd).mono ?_
     rintro e w4 ⟨rfl, hR4, hg4⟩
     rw [hfsH.out] at hR4
     have hat4 := hat3.call hg4 hR4
     have hown4 := jH ((hown.below hv3).keptB hg4 (by omega))
     have hltg := jB hat4.tb
     have hltr := jB hat4.rb
     have hfg := jE hat4.tb
     have hfr := jE hat4.rb
     have i0 := jA hat4.tb 0
     have i1 := jA hat4.tb 1
     have i2 := jA hat4.tb 2
     have i3 := jA hat4.tb 3
     have i4 := jA hat4.tb 4
     have i5 := jA hat4.tb 5
     have i6 := jA hat4.tb 6
     have i7 := jA hat4.tb 7
     have i8 := jA hat4.tb 8
     have i9 := jA hat4.tb 9
     have i10 := jA hat4.tb 10
     have i11 := jA hat4.tb 11
     have r0 := jA hat4.rb 0
     have r1 := jA hat4.rb 1
     have r2 := jA hat4.rb 2
     have r3 := jA hat4.rb 3
     have r4 := jA hat4.rb 4
     have r5 := jA hat4.rb 5
     have r6 := jA hat4.rb 6
     have r7 := jA hat4.rb 7
     have r8 := jA hat4.rb 8
     have r9 := jA hat4.rb 9
     have r10 := jA hat4.rb 10
     have r11 := jA hat4.rb 11
     simp at i0 i1 i2 i3 i4 i5 i6 i7 i8 i9 i10 i11 r0 r1 r2 r3 r4 r5 r6 r7 r8 r9 r10 r11
     have hat4H := jH hat4
     clear hat3 hat4 hg4 hv3
     obtain ⟨ev, hbz, hez⟩ := hR4
     obtain ⟨_, rfl⟩ := hez.resolve_right (fun h9 => absurd (by assumption) h9.1)
     have hltz := jB hbz
     have z0 := jA hbz 0
     have z1 := jA hbz 1
     have z2 := jA hbz 2
     simp at z0 z1 z2
     clear hbz hez
     go_wp2_with fail
     refine (perr_any _ _ _ hltz z2).mono ?_
     rintro e w' ⟨rfl, rfl⟩
     go_wp2
     refine bodyPost_ret (v := .agg #[.int .i64 x.1, .int .u32 x.2, .int .u32 v.d0, .int .u32 v.d1, .int .u32 v.d2, .int .u32 v.d3, .int .u32 v.d4, .int .u32 v.d5, .int .u32 v.d6, .int .u32 v.d7, .bool bb, .slice A' k c']) (by simp [results, Tryz.results103, go_sem, r0, r1, r2, r3, r4, r5, r6, r7, r8, r9, r10, r11]) rfl ⟨A', k, c', rfl, qs, ?_, rfl, ?_, ?_⟩
     ·
      exact ⟨setsW_Ow (t := 45) (by decide) [.int .i64 x.1, .int .u32 x.2, .int .u32 v.d0, .int .u32 v.d1, .int .u32 v.d2, .int .u32 v.d3, .int .u32 v.d4, .int .u32 v.d5, .int .u32 v.d6, .int .u32 v.d7, .bool bb, .slice A' k c'] 0 hat4H.out.rb (hown4.out.1.base (by omega)), fun q hq => setsW_Ow (t := 45) (by decide) [.int .i64 x.1, .int .u32 x.2, .int .u32 v.d0, .int .u32 v.d1, .int .u32 v.d2, .int .u32 v.d3, .int .u32 v.d4, .int .u32 v.d5, .int .u32 v.d6, .int .u32 v.d7, .bool bb, .slice A' k c'] 0 hat4H.out.rb ((hown4.out.2 q hq).base (by omega))⟩
     ·
      exact setsW_P (t := 45) (by decide) (by decide) [.int .i64 x.1, .int .u32 x.2, .int .u32 v.d0, .int .u32 v.d1, .int .u32 v.d2, .int .u32 v.d3, .int .u32 v.d4, .int .u32 v.d5, .int .u32 v.d6, .int .u32 v.d7, .bool bb, .slice A' k c'] 0 hat4H.out.rb hat4H.out.rd
     ·
      exact setsW_gr (Nat.le_refl _) [.int .i64 x.1, .int .u32 x.2, .int .u32 v.d0, .int .u32 v.d1, .int .u32 v.d2, .int .u32 v.d3, .int .u32 v.d4, .int .u32 v.d5, .int .u32 v.d6, .int .u32 v.d7, .bool bb, .slice A' k c'] 0 hat4H.out.gr
    ·
     have hfe := failS_fe (S := Sn) hp
     rw [if_pos hfe] at hTT
     obtain ⟨rfl, rfl⟩ := Prod.mk.inj hTT
     have hltg := jB hat.tb
     have hltr := jB hat.rb
     have hfg := jE hat.tb
     have hfr := jE hat.rb
     have i0 := jA hat.tb 0
     have i1 := jA hat.tb 1
     have i2 := jA hat.tb 2
     have i3 := jA hat.tb 3
     have i4 := jA hat.tb 4
     have i5 := jA hat.tb 5
     have i6 := jA hat.tb 6
     have i7 := jA hat.tb 7
     have i8 := jA hat.tb 8
     have i9 := jA hat.tb 9
     have i10 := jA hat.tb 10
     have i11 := jA hat.tb 11
     have r0 := jA hat.rb 0
     have r1 := jA hat.rb 1
     have r2 := jA hat.rb 2
     have r3 := jA hat.rb 3
     have r4 := jA hat.rb 4
     have r5 := jA hat.rb 5
     have r6 := jA hat.rb 6
     have r7 := jA hat.rb 7
     have r8 := jA hat.rb 8
     have r9 := jA hat.rb 9
     have r10 := jA hat.rb 10
     have r11 := jA hat.rb 11
     simp at i0 i1 i2 i3 i4 i5 i6 i7 i8 i9 i10 i11 r0 r1 r2 r3 r4 r5 r6 r7 r8 r9 r10 r11
     clear hTT hat hp hqc
     obtain ⟨ev, hbz, hez⟩ := hR
     obtain ⟨_, rfl⟩ := hez.resolve_right (fun h9 => absurd (by assumption) h9.1)
     have hltz := jB hbz
     have z0 := jA hbz 0
     have z1 := jA hbz 1
     have z2 := jA hbz 2
     simp at z0 z1 z2
     clear hbz hez
     go_wp2_with fail
     refine (perr_any _ _ _ hltz z2).mono ?_
     rintro e w' ⟨rfl, rfl⟩
     go_wp2_with fail
     refine ck.out.mono ?_
     rintro e w3 ⟨rfl, hv3⟩
     have hat3 := hatH.out.below hv3
     clear z0 z1 z2 hltz i0 i1 i2 i3 i4 i5 i6 i7 i8 i9 i10 i11 r0 r1 r2 r3 r4 r5 r6 r7 r8 r9 r10 r11 hltg hltr hfg hfr
     go_wp2_with fail
     refine (cf.out _ hat3.rd).mono ?_
     rintro e w4 ⟨rfl, hR4, hg4⟩
     have hat4 := hat3.call hg4 hR4
     have hltg := jB hat4.tb
     have hltr := jB hat4.rb
     have hfg := jE hat4.tb
     have hfr := jE hat4.rb
     have i0 := jA hat4.tb 0
     have i1 := jA hat4.tb 1
     have i2 := jA hat4.tb 2
     have i3 := jA hat4.tb 3
     have i4 := jA hat4.tb 4
     have i5 := jA hat4.tb 5
     have i6 := jA hat4.tb 6
     have i7 := jA hat4.tb 7
     have i8 := jA hat4.tb 8
     have i9 := jA hat4.tb 9
     have i10 := jA hat4.tb 10
     have i11 := jA hat4.tb 11
     have r0 := jA hat4.rb 0
     have r1 := jA hat4.rb 1
     have r2 := jA hat4.rb 2
     have r3 := jA hat4.rb 3
     have r4 := jA hat4.rb 4
     have r5 := jA hat4.rb 5
     have r6 := jA hat4.rb 6
     have r7 := jA hat4.rb 7
     have r8 := jA hat4.rb 8
     have r9 := jA hat4.rb 9
     have r10 := jA hat4.rb 10
     have r11 := jA hat4.rb 11
     simp at i0 i1 i2 i3 i4 i5 i6 i7 i8 i9 i10 i11 r0 r1 r2 r3 r4 r5 r6 r7 r8 r9 r10 r11
     have hat4H := jH hat4
     clear hat3 hat4 hg4 hv3 hown
     obtain ⟨ev, hbz, hez⟩ := hR4
     obtain ⟨hne, Fz, rfl, hFz⟩ : (failS Sn p).fe ≠ 0 ∧ ∃ F, ev = .iface 125 (.pointer (some ⟨F, 0, none⟩)) ∧ _ := hez.resolve_left (fun h9 => absurd h9.1 (by assumption))
     have hltz := jB hbz
     have z0 := jA hbz 0
     have z1 := jA hbz 1
     have z2 := jA hbz 2
     simp at z0 z1 z2
     clear hbz hFz hne hez
     go_wp2_with fail
     refine (perr_any _ _ _ hltz z2).mono ?_
     rintro e w' ⟨rfl, rfl⟩
     go_wp2
     refine bodyPost_ret (v := .agg #[.int .i64 0, .int .u32 0, .int .u32 0, .int .u32 0, .int .u32 0, .int .u32 0, .int .u32 0, .int .u32 0, .int .u32 0, .int .u32 0, .bool false, .slice none 0 0]) (by simp [results, Tryz.results103, go_sem, r0, r1, r2, r3, r4, r5, r6, r7, r8, r9, r10, r11]) rfl ⟨none, 0, 0, rfl, [], OwE.nil_, rfl, ?_, ?_⟩
     ·
      exact setsW_P (t := 45) (by decide) (by decide) [.int .i64 0, .int .u32 0, .int .u32 0, .int .u32 0, .int .u32 0, .int .u32 0, .int .u32 0, .int .u32 0, .int .u32 0, .int .u32 0, .bool false, .slice none 0 0] 0 hat4H.out.rb hat4H.out.rd
     ·
      exact setsW_gr (Nat.le_refl _) [.int .i64 0, .int .u32 0, .int .u32 0, .int .u32 0, .int .u32 0, .int .u32 0, .int .u32 0, .int .u32 0, .int .u32 0, .int .u32 0, .bool false, .slice none 0 0] 0 hat4H.out.gr
   ·
    have hfs : failS Sn (txErr x v (qs.map Pe.core)) = Sn := by unfold failS; rw [if_neg (fun h => hf h.1)]
    rw [hfs, if_pos hf] at hTT
    obtain ⟨rfl, rfl⟩ := Prod.mk.inj hTT
    have hltg := jB hat.tb
    have hltr := jB hat.rb
    have hfg := jE hat.tb
    have hfr := jE hat.rb
    have i0 := jA hat.tb 0
    have i1 := jA hat.tb 1
    have i2 := jA hat.tb 2
    have i3 := jA hat.tb 3
    have i4 := jA hat.tb 4
    have i5 := jA hat.tb 5
    have i6 := jA hat.tb 6
    have i7 := jA hat.tb 7
    have i8 := jA hat.tb 8
    have i9 := jA hat.tb 9
    have i10 := jA hat.tb 10
    have i11 := jA hat.tb 11
    have r0 := jA hat.rb 0
    have r1 := jA hat.rb 1
    have r2 := jA hat.rb 2
    have r3 := jA hat.rb 3
    have r4 := jA hat.rb 4
    have r5 := jA hat.rb 5
    have r6 := jA hat.rb 6
    have r7 := jA hat.rb 7
    have r8 := jA hat.rb 8
    have r9 := jA hat.rb 9
    have r10 := jA hat.rb 10
    have r11 := jA hat.rb 11
    simp at i0 i1 i2 i3 i4 i5 i6 i7 i8 i9 i10 i11 r0 r1 r2 r3 r4 r5 r6 r7 r8 r9 r10 r11
    clear hTT hat hfs hown hqc ck
    obtain ⟨ev, hbz, hez⟩ := hR
    obtain ⟨hne, Fz, rfl, hFz⟩ : Sn.fe ≠ 0 ∧ ∃ F, ev = .iface 125 (.pointer (some ⟨F, 0, none⟩)) ∧ _ := hez.resolve_left (fun h9 => absurd h9.1 (by assumption))
    have hltz := jB hbz
    have z0 := jA hbz 0
    have z1 := jA hbz 1
    have z2 := jA hbz 2
    simp at z0 z1 z2
    clear hbz hFz hne hez
    go_wp2_with fail
    refine (perr_any _ _ _ hltz z2).mono ?_
    rintro e w' ⟨rfl, rfl⟩
    go_wp2
    refine bodyPost_ret (v := .agg #[.int .i64 0, .int .u32 0, .int .u32 0, .int .u32 0, .int .u32 0, .int .u32 0, .int .u32 0, .int .u32 0, .int .u32 0, .int .u32 0, .bool false, .slice none 0 0]) (by simp [results, Tryz.results103, go_sem, r0, r1, r2, r3, r4, r5, r6, r7, r8, r9, r10, r11]) rfl ⟨none, 0, 0, rfl, [], OwE.nil_, rfl, ?_, ?_⟩
    ·
     exact setsW_P (t := 45) (by decide) (by decide) [.int .i64 0, .int .u32 0, .int .u32 0, .int .u32 0, .int .u32 0, .int .u32 0, .int .u32 0, .int .u32 0, .int .u32 0, .int .u32 0, .bool false, .slice none 0 0] 0 hatH.out.rb hatH.out.rd
    ·
     exact setsW_gr (Nat.le_refl _) [.int .i64 0, .int .u32 0, .int .u32 0, .int .u32 0, .int .u32 0, .int .u32 0, .int .u32 0, .int .u32 0, .int .u32 0, .int .u32 0, .bool false, .slice none 0 0] 0 hatH.out.gr
end Go.Proofs.YtfhandglpjnonaaGreatDoor
