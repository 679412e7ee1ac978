/- The statement SccParts walked. -/
import Derived.Test.YtebpghpeeedgcaaNk
namespace Go.Proofs.Ytebpghpeeedgcaa
open Go.RowKit

theorem lens_of {w : World} {B n : Nat} {A : Option Addr} {rs : List Rw} (h : RdG w B A n rs) : rs.map Rw.l = (rs.map Rw.xs).map List.length := by
  rw [List.map_map]
  exact List.map_congr_left fun r hr => ((h.2 r hr).len).symm
theorem sum_congr {w w' : World} {B B' n n' : Nat} {A A' : Option Addr} {rs rs' : List Rw} (h : RdG w B A n rs) (h' : RdG w' B' A' n' rs') (e : rs'.map Rw.xs = rs.map Rw.xs) : sumL rs' = sumL rs := by
  unfold sumL
  rw [lens_of h, lens_of h', e]
theorem longP_congr {w w' : World} {B B' n n' : Nat} {A A' : Option Addr} {rs rs' : List Rw} (k : Nat) (h : RdG w B A n rs) (h' : RdG w' B' A' n' rs') (e : rs'.map Rw.xs = rs.map Rw.xs) : longP k rs' = longP k rs := by
  unfold longP
  rw [sum_congr h h' e]
theorem okX_map (n : Nat) (rs : List Rw) : okX n rs = (rs.map Rw.xs).all fun l => l.all fun x => inR n x := by
  unfold okX
  rw [List.all_map]; rfl
theorem checkS_congr {w w' : World} {B B' n n' : Nat} {A A' : Option Addr} {rs rs' : List Rw} (k : Nat) (h : RdG w B A n rs) (h' : RdG w' B' A' n' rs') (e : rs'.map Rw.xs = rs.map Rw.xs) : checkS k rs' = checkS k rs := by
  unfold checkS
  rw [longP_congr k h h' e, okX_map, okX_map, e]
theorem wholeE_congr {w w' : World} {B B' n n' : Nat} {A A' : Option Addr} {rs rs' : List Rw} (k m : Nat) (h : RdG w B A n rs) (h' : RdG w' B' A' n' rs') (e : rs'.map Rw.xs = rs.map Rw.xs) : wholeE k m rs' = wholeE k m rs := by
  unfold wholeE
  rw [longP_congr k h h' e]
theorem own_max {w w' : World} {B B' n n' k : Nat} {A A' : Option Addr} {rs rs' : List Rw} (h : RdG w B A n rs) (h' : RdG w' B' A' n' rs') (e : rs'.map Rw.xs = rs.map Rw.xs) (hm : ∀ r ∈ rs, r.l ≤ k) : ∀ r ∈ rs', r.l ≤ k := by
  have h1 : rs'.map Rw.l = rs.map Rw.l := by rw [lens_of h, lens_of h', e]
  intro r hr
  have h2 : r.l ∈ rs.map Rw.l := by rw [← h1]; exact List.mem_map.2 ⟨r, hr, rfl⟩
  obtain ⟨r2, h3, h4⟩ := List.mem_map.1 h2
  rw [← h4]; exact hm r2 h3
theorem ps_eq {xs : List (List Int)} {E : Int} {ps1 ps2 : List Rw} {o1 o2 : List (List Nat)} (h1 : ps1.map Rw.xs = o1.map (fun l => l.map Int.ofNat)) (h2 : ps2.map Rw.xs = o2.map (fun l => l.map Int.ofNat)) (f1 : E = 0 → Full (gOf xs) o1) (f2 : E = 0 → Full (gOf xs) o2) (e1 : E ≠ 0 → o1 = []) (e2 : E ≠ 0 → o2 = []) : ps1.map Rw.xs = ps2.map Rw.xs := by
  rw [h1, h2]
  by_cases h : E = 0
  · rw [full_uniq (f1 h) (f2 h)]
  · rw [e1 h, e2 h]
theorem o_eq {xs : List (List Int)} {th o1 o2 : List Bool} {E : Int} (f1 : E = 0 → Whl xs th o1) (f2 : E = 0 → Whl xs th o2) (e1 : E ≠ 0 → o1 = []) (e2 : E ≠ 0 → o2 = []) : o1 = o2 := by
  by_cases h : E = 0
  · exact whl_uniq (f1 h) (f2 h)
  · rw [e1 h, e2 h]
theorem o_len {xs : List (List Int)} {th o : List Bool} {E : Int} (f1 : E = 0 → Whl xs th o) (e1 : E ≠ 0 → o = []) : o.length ≤ xs.length := by
  by_cases h : E = 0
  · exact Nat.le_of_eq (f1 h).1
  · rw [e1 h]; exact Nat.zero_le _
theorem Pre.len_le {g : Gr} (hg : Gok g) {o : List (List Nat)} (h : Pre g o) : o.length ≤ g.length := by
  have hh : ∀ (m : Nat) p, o[m]? = some p → p.headD 0 ∈ p := by
    intro m p hp
    obtain ⟨i, hi, hpo⟩ := h m p hp
    exact (headD_le hpo.1 ((hpo.2 i).2 ⟨hi.1.1, .inl rfl⟩)).2
  have h1 := nodup_le g.length (l := o.map fun p => p.headD 0) (by
    unfold List.Nodup
    rw [List.pairwise_map, List.pairwise_iff_getElem]
    intro i j hi hj hij e
    have hpi := List.getElem?_eq_getElem hi
    have hpj := List.getElem?_eq_getElem hj
    refine h.once hg hpj (hh j _ hpj) ⟨o[i], ?_, ?_⟩
    · exact List.mem_of_getElem? (i := i) (by rw [List.getElem?_take_of_lt hij]; exact hpi)
    · rw [← e]; exact hh i _ hpi) (fun x hx => by
    obtain ⟨p, hp, rfl⟩ := List.mem_map.1 hx
    obtain ⟨m, hm⟩ := List.mem_iff_getElem?.1 hp
    exact h.lt hm (hh m p hm))
  rw [List.length_map] at h1
  exact h1
theorem ps_len {xs : List (List Int)} {E : Int} {ps : List Rw} {o : List (List Nat)} (h : ps.map Rw.xs = o.map (fun l => l.map Int.ofNat)) (f : E = 0 → Full (gOf xs) o) (e : E ≠ 0 → o = []) : ps.length ≤ xs.length := by
  have h1 : ps.length = o.length := by have := congrArg List.length h; simpa using this
  by_cases h0 : E = 0
  · have := (f h0).1.len_le (gOf_ok xs)
    rw [gOf_len] at this
    omega
  · rw [h1, e h0]; exact Nat.zero_le _
set_option maxRecDepth 100000 in
set_option maxHeartbeats 8000000 in
theorem sccparts_any (A TA : Option Addr) (n c m tc : Nat) (rs : List Rw) (th : List Bool) (w : World) (hA : RdG w w.heap.size A n rs) (hT : Rd w w.heap.size 1 TA m (th.map eB)) (hn : n ≤ maxLen) (hmm : m ≤ maxLen) (hr : ∀ r ∈ rs, r.l ≤ 1000000000000000) :
    Calls Try.prog 3 #[.slice A n c, .slice TA m tc] w fun e w' => e = .returned (.bool true) ∧ Below w.heap.size w w' := by
  have cG := Lib.hid (great_any A n c rs w hA hn hr)
  cases hG : greatP n rs with
  | true =>
    rw [hG] at cG
    clear hA hT hr hG hn hmm
    go_enter Try.func3, Try.ntmps3
    go_wp2_with fail
    refine cG.out.mono ?_
    rintro e w1 ⟨rfl, hb1⟩
    go_wp2
    go_ret
    exact ⟨rfl, hb1⟩
  | false =>
  rw [hG] at cG
  obtain ⟨hn40, hr300⟩ := great_small hG
  unfold maxLen at hmm
  by_cases hm100 : 100 < m
  · have hmd : decide ((100 : Int) < (m : Int)) = true := decide_eq_true (by omega)
    have hmi : (100 : Int) < (m : Int) := by omega
    clear hA hT hr hG hn hr300
    go_enter Try.func3, Try.ntmps3
    go_wp2_with fail
    refine cG.out.mono ?_
    rintro e w1 ⟨rfl, hb1⟩
    go_wp2
    go_ret
    exact ⟨rfl, hb1⟩
  have hmd : decide ((100 : Int) < (m : Int)) = false := decide_eq_false (by omega)
  have hmi : ¬ (100 : Int) < (m : Int) := by omega
  have hm1 : m ≤ 100 := by omega
  have hAH := Lib.hid hA
  have hTH := Lib.hid hT
  have hrH : Hid (∀ r ∈ rs, r.l ≤ 300) := Lib.hid hr300
  have hlH := Lib.hid hA.len
  clear hA hT hr hG hn hr300 hm100 hmm
  go_enter Try.func3, Try.ntmps3
  go_wp2_with fail
  refine cG.out.mono ?_
  rintro e w1 ⟨rfl, hb1⟩
  have hz1 := hb1.size
  have cO1 := Lib.hid (ownG_any A n c rs w1 ((hAH.out.below hb1).more hz1) (by omega) (fun r hr => Nat.le_trans (hrH.out r hr) (by decide)))
  clear cG
  go_wp2_with fail
  refine cO1.out.mono ?_
  rintro e w2 ⟨O1, oc1, rs1, rfl, hR1, hx1, hb2⟩
  have hz2 := hb2.size
  rw [hlH.out] at hR1
  have cP1 := Lib.hid (sparts_any O1 n oc1 rs1 w2 hR1 (by unfold maxLen; omega) (own_max hAH.out hR1 hx1 (fun r hr => Nat.le_trans (hrH.out r hr) (by decide))))
  rw [checkS_congr n hAH.out hR1 hx1, hx1] at cP1
  have hb02 : Below w.heap.size w w2 := hb1.trans (hb2.mono hz1)
  have cP2 := Lib.hid (fun w' (hb' : Below w.heap.size w w') => rsparts_any A n c rs w' ((hAH.out.below hb').more hb'.size) (by unfold maxLen; omega) (fun r hr => Nat.le_trans (hrH.out r hr) (by decide)))
  clear cO1 hR1 hx1
  obtain ⟨E, hE⟩ : ∃ E, checkS n rs = E := ⟨_, rfl⟩
  rw [hE] at cP1 cP2
  have hEH := Lib.hid hE
  clear hE
  rw [hlH.out]
  go_wp2_with fail
  refine cP1.out.mono ?_
  rintro e w3 ⟨P1, pc1, ps1, o1, rfl, hp1, hm1', ho1, hf1, he1, hb3⟩
  have hz3 := hb3.size
  have hb03 : Below w.heap.size w w3 := hb02.trans (hb3.mono hb02.size)
  go_wp2_with fail
  refine (cP2.out w3 hb03).mono ?_
  rintro e w4 ⟨P2, pc2, ps2, o2, rfl, hp2, hm2', ho2, hf2, he2, hb4⟩
  have hz4 := hb4.size
  have hb04 : Below w.heap.size w w4 := hb03.trans (hb4.mono hb03.size)
  have heq := Lib.hid (ps_eq ho1 ho2 (fun h => (hf1 h).1) hf2 he1 he2)
  have hpl : ps2.length = ps1.length := by have := congrArg List.length heq.out; simpa using this.symm
  have hpl40 : ps1.length ≤ 40 := by
    have := ps_len ho1 (fun h => (hf1 h).1) he1
    rw [List.length_map, hlH.out] at this
    omega
  have hp1H := Lib.hid hp1
  have hp2H := Lib.hid hp2
  have hm1H := Lib.hid hm1'
  have hm2H := Lib.hid hm2'
  clear cP1 cP2 hp1 hp2 hm1' hm2' ho1 ho2 hf1 hf2 he1 he2
  rw [hpl]
  have hplH := Lib.hid hpl
  clear hpl
  have cO2 := Lib.hid (fun w' (hb' : Below w.heap.size w w') => ownG_any A n c rs w' ((hAH.out.below hb').more hb'.size) (by omega) (fun r hr => Nat.le_trans (hrH.out r hr) (by decide)))
  have cK := Lib.hid (fun w' (hb' : Below w.heap.size w w') => rscheck_any A n c rs w' ((hAH.out.below hb').more hb'.size) (by unfold maxLen; omega) (fun r hr => Nat.le_trans (hrH.out r hr) (by decide)))
  rw [hEH.out] at cK
  have hEE : (E == E) = true := by simp
  have hPP : ((ps1.length : Int) == (ps1.length : Int)) = true := by simp
  go_wp2_with fail
  refine (cO2.out w4 hb04).mono ?_
  rintro e w5 ⟨O2, oc2, rs2, rfl, hR2, hx2, hb5⟩
  rw [hlH.out] at hR2
  have hz5 := hb5.size
  have hb05 : Below w.heap.size w w5 := hb04.trans (hb5.mono hb04.size)
  have cC := Lib.hid (scheck_any O2 n oc2 rs2 w5 hR2 (by unfold maxLen; omega) (own_max hAH.out hR2 hx2 (fun r hr => Nat.le_trans (hrH.out r hr) (by decide))))
  rw [checkS_congr n hAH.out hR2 hx2, hEH.out] at cC
  clear hR2 hx2
  rw [hlH.out]
  go_wp2_with fail
  refine cC.out.mono ?_
  rintro e w6 ⟨rfl, hb6⟩
  have hz6 := hb6.size
  have hb06 : Below w.heap.size w w6 := hb05.trans (hb6.mono hb05.size)
  go_wp2_with fail
  refine (cK.out w6 hb06).mono ?_
  rintro e w7 ⟨rfl, hb7⟩
  have hz7 := hb7.size
  have hb07 : Below w.heap.size w w7 := hb06.trans (hb7.mono hb06.size)
  have hb47 : Below w4.heap.size w4 w7 := hb5.trans ((hb6.trans (hb7.mono hz6)).mono hz5)
  have hb37 : Below w3.heap.size w3 w7 := hb4.trans (hb47.mono hz4)
  have hp17 := Lib.hid (hp1H.out.below hb37)
  have hp27 := Lib.hid (hp2H.out.below hb47)
  clear cC cK
  go_wp2_with fail
  go_loopg [9] (ps1.length + 1) (fun gg iv wr => ∃ k : Nat, k ≤ ps1.length ∧ gg = ps1.length + 1 - k ∧ iv = .int .i64 (k : Int) ∧ Below w7.heap.size w7 wr)
  case atStart => exact ⟨0, Nat.zero_le _, rfl, rfl, Below.refl _ _⟩
  case round =>
    obtain ⟨k, hk, rfl, rfl, hbr⟩ := hrel
    obtain ⟨wv, hwv⟩ : ∃ wv, wv = wr := ⟨_, rfl⟩
    obtain rfl := hwv
    have hzr := hbr.size
    by_cases hlt : k < ps1.length
    · have hlti : (k : Int) < (ps1.length : Int) := by omega
      have hkn1 : IntKind.i64.wrap ((k : Int) + 1) = ((k + 1 : Nat) : Int) := by rw [IntWalk.i64_in _ (by omega)]; omega
      have hR1 := (hp17.out.below (hbr.mono (by omega))).more (by omega : w3.heap.size ≤ wv.heap.size)
      have hR2 := (hp27.out.below (hbr.mono (by omega))).more (by omega : w4.heap.size ≤ wv.heap.size)
      obtain ⟨b1, o1', r1, hA1, hbl1, hq1, hc1, hk1⟩ := hR1.at_ hlt
      obtain ⟨b2, o2', r2, hA2, hbl2, hq2, hc2, hk2⟩ := hR2.at_ (show k < ps2.length by rw [hplH.out]; exact hlt)
      have hxx : r1.xs = r2.xs := by
        have h1 : (ps1.map Rw.xs)[k]? = some r1.xs := by rw [List.getElem?_map, hq1]; rfl
        rw [heq.out, List.getElem?_map, hq2] at h1
        simpa using h1.symm
      have hl1 := hm1H.out r1 (List.mem_of_getElem? hq1)
      have hl2 : r2.l ≤ 100000 := by rw [← hk2.len, ← hxx, hk1.len]; exact hl1
      have cS := Lib.hid (fun v (hv : Below wv.heap.size wv v) => sameI_any r1.A r2.A r1.l r2.l r1.c r2.c r1.xs r2.xs v ((hk1.below hv).more hv.size) ((hk2.below hv).more hv.size) (by unfold maxLen; omega) (by unfold maxLen; omega))
      rw [hxx] at cS
      have hA1H := Lib.hid hA1
      have hA2H := Lib.hid hA2
      rw [hA1, hA2]
      clear hR1 hR2 hq1 hq2 hk1 hk2 hxx hA1 hA2
      go_upto_region 10 with (fail)
      refine wp_region_M (fun w' => KQ wv.heap.size wv w') (fun _ => True) 99 (by kernel_rfl) (kq (Below.refl _ _).drew) trivial ?_
      intro hcl
      have hC : KQ wv.heap.size wv wv.drew := kq (Below.refl _ _).drew
      have hE := trivial
      (refine wpM_take (i := 0) (v := ?_) rfl (by kernel_rfl) (by kernel_rfl) (by kernel_rfl) (by decide) (fun _ _ _ h => h) hcl hC (fun _ => hE) (Or.inl ⟨by rfl, ?_⟩) ?_; rotate_left; (· (intro w hSw; (try dsimp only at hSw); go_simp; (try with_reducible rfl))); clear hcl; intro hcl; (try simp only [Act.put, List.getElem_toArray, List.getElem_cons_zero, List.setIfInBounds_toArray, List.set_cons_zero, List.set_cons_succ]))
      (refine wpM_take (i := 1) (v := ?_) rfl (by kernel_rfl) (by kernel_rfl) (by kernel_rfl) (by decide) (fun _ _ _ h => h) hcl hC (fun _ => hE) (Or.inl ⟨by rfl, ?_⟩) ?_; rotate_left; (· (intro w hSw; (try dsimp only at hSw); go_simp; (try with_reducible rfl))); clear hcl; intro hcl; (try simp only [Act.put, List.getElem_toArray, List.getElem_cons_zero, List.getElem_cons_succ, List.setIfInBounds_toArray, List.set_cons_zero, List.set_cons_succ]))
      (refine wpM_take (i := 2) (v := ?_) rfl (by kernel_rfl) (by kernel_rfl) (by kernel_rfl) (by decide) (fun _ _ _ h => h) hcl hC (fun _ => hE) (Or.inl ⟨by rfl, ?_⟩) ?_; rotate_left; (· (intro w hSw; (try dsimp only at hSw); go_simp; (try with_reducible rfl))); clear hcl; intro hcl; (try simp only [Act.put, List.getElem_toArray, List.getElem_cons_zero, List.getElem_cons_succ, List.setIfInBounds_toArray, List.set_cons_zero, List.set_cons_succ]))
      (refine wpM_take (i := 3) (v := ?_) rfl (by kernel_rfl) (by kernel_rfl) (by kernel_rfl) (by decide) (fun _ _ _ h => h) hcl hC (fun _ => hE) (Or.inl ⟨by rfl, ?_⟩) ?_; rotate_left; (· (intro w hSw; (try dsimp only at hSw); go_simp; (try with_reducible rfl))); clear hcl; intro hcl; (try simp only [Act.put, List.getElem_toArray, List.getElem_cons_zero, List.getElem_cons_succ, List.setIfInBounds_toArray, List.set_cons_zero, List.set_cons_succ]))
      (refine wpM_take (i := 4) (v := ?_) rfl (by kernel_rfl) (by kernel_rfl) (by kernel_rfl) (by decide) (fun _ _ _ h => h) hcl hC (fun _ => hE) (Or.inl ⟨by rfl, ?_⟩) ?_; rotate_left; (· (intro w hSw; (try dsimp only at hSw); go_simp; (try with_reducible rfl))); clear hcl; intro hcl; (try simp only [Act.put, List.getElem_toArray, List.getElem_cons_zero, List.getElem_cons_succ, List.setIfInBounds_toArray, List.set_cons_zero, List.set_cons_succ]))
      (refine wpM_take (i := 5) (v := ?_) rfl (by kernel_rfl) (by kernel_rfl) (by kernel_rfl) (by decide) (fun _ _ _ h => h) hcl hC (fun _ => hE) (Or.inl ⟨by rfl, ?_⟩) ?_; rotate_left; (· (intro w hSw; (try dsimp only at hSw); go_simp; (try with_reducible rfl))); clear hcl; intro hcl; (try simp only [Act.put, List.getElem_toArray, List.getElem_cons_zero, List.getElem_cons_succ, List.setIfInBounds_toArray, List.set_cons_zero, List.set_cons_succ]))
      (refine wpM_take (i := 6) (v := ?_) rfl (by kernel_rfl) (by kernel_rfl) (by kernel_rfl) (by decide) (fun _ _ _ h => h) hcl hC (fun _ => hE) (Or.inl ⟨by rfl, ?_⟩) ?_; rotate_left; (· (intro w hSw; (try dsimp only at hSw); go_simp; (try with_reducible rfl))); clear hcl; intro hcl; (try simp only [Act.put, List.getElem_toArray, List.getElem_cons_zero, List.getElem_cons_succ, List.setIfInBounds_toArray, List.set_cons_zero, List.set_cons_succ]))
      (refine wpM_take (i := 7) (v := ?_) rfl (by kernel_rfl) (by kernel_rfl) (by kernel_rfl) (by decide) (fun _ _ _ h => h) hcl hC (fun _ => hE) (Or.inl ⟨by rfl, ?_⟩) ?_; rotate_left; (· (intro w hSw; (try dsimp only at hSw); go_simp; (try with_reducible rfl))); clear hcl; intro hcl; (try simp only [Act.put, List.getElem_toArray, List.getElem_cons_zero, List.getElem_cons_succ, List.setIfInBounds_toArray, List.set_cons_zero, List.set_cons_succ]))
      refine wpM_only (i := 8) rfl (by kernel_rfl) hcl (fun K hK => ?_)
      go_simp
      refine (cS.out _ hC.1).mono ?_
      rintro e v1 ⟨rfl, hv1⟩
      have hC1 : KQ wv.heap.size wv v1 := kq_call hC (Nat.le_refl _) hv1
      refine hK.out _ _ hC1 trivial ?_
      clear hK K
      clear hcl
      intro hcl
      (try simp only)
      clear hC
      have hC := hC1
      (refine wpM_take (i := 9) (v := ?_) rfl (by kernel_rfl) (by kernel_rfl) (by kernel_rfl) (by decide) (fun _ _ _ h => h) hcl hC (fun _ => hE) (Or.inl ⟨by rfl, ?_⟩) ?_; rotate_left; (· (intro w hSw; (try dsimp only at hSw); go_simp; (try with_reducible rfl))); clear hcl; intro hcl; (try simp only [Act.put, List.getElem_toArray, List.getElem_cons_zero, List.getElem_cons_succ, List.setIfInBounds_toArray, List.set_cons_zero, List.set_cons_succ]))
      refine wpM_done (by kernel_rfl) ?_
      clear hcl
      try simp only [List.getElem_toArray, List.getElem_cons_zero, List.getElem_cons_succ, List.setIfInBounds_toArray, List.set_cons_zero, List.set_cons_succ]
      have hbN := hbr.trans (hC.1.mono hzr)
      clear cS hC hC1
      have hdd : decide (r2.xs = r2.xs) = true := decide_eq_true rfl
      go_wp2_with fail
      rw [← hA1H.out, ← hA2H.out]
      go_roundg (ps1.length + 1 - (k + 1))
      case measure => omega
      case rel => exact ⟨k + 1, by omega, rfl, by go_num, hbN⟩
    · obtain rfl : k = ps1.length := by omega
      have hnlt : ¬ (ps1.length : Int) < (ps1.length : Int) := by omega
      have hb0v : Below w.heap.size w wv := hb07.trans (hbr.mono hb07.size)
      have hz0v := hb0v.size
      go_wp2_with fail
      refine (cO2.out wv hb0v).mono ?_
      rintro e u1 ⟨O3, oc3, rs3, rfl, hR3, hx3, hu1⟩
      rw [hlH.out] at hR3
      have hzu1 := hu1.size
      have hb0u : Below w.heap.size w u1 := hb0v.trans (hu1.mono hz0v)
      rw [hlH.out]
      have hTu := Lib.hid (hTH.out.below hb0u)
      have hR3H := Lib.hid hR3
      have hx3H := Lib.hid hx3
      have htl := Lib.hid (show th.length = m by simpa using hTH.out.1)
      clear hR3 hx3
      go_wp2_with (at_builtin; refine wpList_append_rd _ rfl _ _ _ rfl eBool (base := u1.heap.size) (v := .slice (some ⟨u1.heap.size, 0, none⟩) 0 0) (xs := []) rfl (Ow.made0 _ _ _ (Nat.le_refl _)) rfl (hTu.out.below ((((Below.refl _ u1).alloc (Nat.le_refl _) _)).mono (by have := hb0u.size; omega))) eB_len eB_one (by simp [maxLen]; omega) (by simp; omega) (by simp) ?_; intro A2 n2 c2 u2 hn2 hown2 hg2 hat2; (obtain rfl : m = n2 := (by rw [hn2]; simp)); clear hn2)
      have hu2 : Below u1.heap.size u1 u2 := ((Below.refl _ u1).alloc (Nat.le_refl _) _).grown hg2 (by simp) (fun q e => by simp [Value.ownBlock] at e; omega)
      have hzu2 := hu2.size
      have hR3' := (hR3H.out.below hu2).more hzu2
      have hT2 : Rd u2 u2.heap.size 1 A2 m (th.map eB) := by have := hown2.rd.1; rw [List.nil_append] at this; exact this
      have cW1 := Lib.hid (swhole_any O3 A2 n oc3 m c2 rs3 th u2 hR3' hT2 (by unfold maxLen; omega) (own_max hAH.out hR3' hx3H.out (fun r hr => Nat.le_trans (hrH.out r hr) (by decide))))
      rw [wholeE_congr n m hAH.out hR3' hx3H.out, hx3H.out] at cW1
      have hb0u2 : Below w.heap.size w u2 := hb0u.trans (hu2.mono hb0u.size)
      have cW2 := Lib.hid (fun w' (hb' : Below w.heap.size w w') => rwhole_any A TA n c m tc rs th w' ((hAH.out.below hb').more hb'.size) ((hTH.out.below hb').more hb'.size) (by unfold maxLen; omega) (fun r hr => Nat.le_trans (hrH.out r hr) (by decide)))
      obtain ⟨F, hF⟩ : ∃ F, wholeE n m rs = F := ⟨_, rfl⟩
      rw [hF] at cW1 cW2
      clear hF hR3' hT2 hown2 hg2 hat2
      go_wp2_with fail
      refine cW1.out.mono ?_
      rintro e u3 ⟨W1, wc1, l1, rfl, hrd1, hfa, hga, hu3⟩
      have hb0u3 : Below w.heap.size w u3 := hb0u2.trans (hu3.mono hb0u2.size)
      go_wp2_with fail
      refine (cW2.out u3 hb0u3).mono ?_
      rintro e u4 ⟨W2, wc2, l2, rfl, hrd2, hfb, hgb, hu4⟩
      have hb0u4 : Below w.heap.size w u4 := hb0u3.trans (hu4.mono hb0u3.size)
      have hzu4 := hu4.size
      obtain rfl : l2 = l1 := o_eq hfb hfa hgb hga
      have hrd1' := Lib.hid (hrd1.below hu4)
      have hrd2' := Lib.hid hrd2
      have hFF : (F == F) = true := by simp
      have hLL : ((l2.length : Int) == (l2.length : Int)) = true := by simp
      have hll : l2.length ≤ 40 := by
        have := o_len hfb hgb
        rw [List.length_map, hlH.out] at this
        omega
      clear cW1 cW2 hrd1 hrd2 hfa hga hfb hgb
      go_wp2_with fail
      go_loopg [14] (l2.length + 1) (fun gg iv wr => ∃ k : Nat, k ≤ l2.length ∧ gg = l2.length + 1 - k ∧ iv = .int .i64 (k : Int) ∧ Below u4.heap.size u4 wr)
      case atStart => exact ⟨0, Nat.zero_le _, rfl, rfl, Below.refl _ _⟩
      case round =>
        obtain ⟨k, hk, rfl, rfl, hbs⟩ := hrel
        have hzs := hbs.size
        by_cases hlt2 : k < l2.length
        · have hlt2i : (k : Int) < (l2.length : Int) := by omega
          have hkn1 : IntKind.i64.wrap ((k : Int) + 1) = ((k + 1 : Nat) : Int) := by rw [IntWalk.i64_in _ (by omega)]; omega
          obtain ⟨b1, o1', x1, hA1, hbl1, hq1, hc1⟩ := Rd.at_ (enc := eB) (hrd1'.out.below (hbs.mono hzu4)) hlt2
          obtain ⟨b2, o2', x2, hA2, hbl2, hq2, hc2⟩ := Rd.at_ (enc := eB) (hrd2'.out.below hbs) hlt2
          obtain rfl : x1 = x2 := Option.some.inj (hq1.symm.trans hq2)
          have c1 := hc1 0 _ rfl
          have c2 := hc2 0 _ rfl
          rw [Nat.mul_one, Nat.add_zero] at c1 c2
          have hA1H := Lib.hid hA1
          have hA2H := Lib.hid hA2
          rw [hA1, hA2]
          have hb1l : b1 < wr.heap.size := by omega
          have hb2l : b2 < wr.heap.size := by omega
          clear hc1 hc2 hq1 hq2 hA1 hA2
          have hbN := hbs.drew
          cases x1 with
          | true =>
            go_wp2_with fail
            go_region
            go_wp2_with fail
            rw [← hA1H.out, ← hA2H.out]
            go_roundg (l2.length + 1 - (k + 1))
            case measure => omega
            case rel => exact ⟨k + 1, by omega, rfl, by go_num, hbN⟩
          | false =>
            go_wp2_with fail
            go_region
            go_wp2_with fail
            rw [← hA1H.out, ← hA2H.out]
            go_roundg (l2.length + 1 - (k + 1))
            case measure => omega
            case rel => exact ⟨k + 1, by omega, rfl, by go_num, hbN⟩
        · obtain rfl : k = l2.length := by omega
          have hnlt2 : ¬ (l2.length : Int) < (l2.length : Int) := by omega
          have hbF := hb0u4.trans (hbs.mono hb0u4.size)
          go_wp2
          go_ret
          exact ⟨rfl, hbF⟩
end Go.Proofs.Ytebpghpeeedgcaa
