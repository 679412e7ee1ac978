/- The statement OrmapBytes, walked. -/
import Derived.Test.YtadldndmmobpdaaGreatDoorOmU
import Derived.Test.YtadldndmmobpdaaGreatDoorOmZ
import Derived.Test.YtadldndmmobpdaaGreatDoorOmX
import Derived.Test.YtadldndmmobpdaaGreatDoorOmY
import Derived.Test.YtadldndmmobpdaaGreatDoorOmS
import Derived.Test.YtadldndmmobpdaaGreatDoorAs
import Derived.Test.YtadldndmmobpdaaGreatDoorRsN
namespace Go.Proofs.YtadldndmmobpdaaGreatDoor
open Go.RowKit

theorem RdrD.besideO {w w' : World} {p q : Nat} {S T : Rs} (hQ : RdrD w q S) (hP : RdrP w p T) (hg : w.grownBy w' (some p)) : RdrD w' q S :=
  hQ.grown hg (fun g cs t e hb => by
    injection e with e; subst e
    obtain ⟨_, hh, _⟩ := hP
    rw [hh] at hb
    injection hb with hb; injection hb with _ ht
    rw [← ht]; decide)
theorem RdrP.besideO {w w' : World} {p q : Nat} {S T : Rs} (hP : RdrP w p S) (hQ : RdrD w q T) (hg : w.grownBy w' (some q)) : RdrP w' p S :=
  hP.grown hg (fun g cs t e hb => by
    injection e with e; subst e
    unfold RdrD at hQ
    rw [hQ] at hb
    injection hb with hb; injection hb with _ ht
    rw [← ht]; exact ⟨by decide, by decide⟩)
theorem readSt_len {α : Type} {f : Rs → α × Rs} {P : α → Prop} (hf : ∀ S : Rs, S.wf → (f S).2.wf ∧ P (f S).1) {err : List α → List Tm → Int} {S : Rs} (h : S.wf) : (readSt f err S).1.1.length ≤ 4096 ∧ (readSt f err S).1.2.length ≤ 4096 := by
  have h1 := Rs.wf_next h (fun v => if 4096 < v then 2 else 0)
  have h2 := readN_wf hf (intS 4096 S).1 h1
  have h3 := Rs.wf_next h2.1 (fun v => if 4096 < v then 2 else 0)
  have h4 := readN_wf (P := Tm.wf) (fun S h => readT_wf h) (intS 4096 (readN f (intS 4096 S).1 (intS 4096 S).2).2).1 h3
  have i1 := intS_le 4096 S
  have i2 := intS_le 4096 (readN f (intS 4096 S).1 (intS 4096 S).2).2
  have j1 := h2.2.1
  have j2 := h4.2.1
  unfold readSt
  dsimp only
  split
  · exact ⟨Nat.zero_le _, Nat.zero_le _⟩
  · exact ⟨Nat.le_trans j1 i1, Nat.le_trans j2 i2⟩
theorem readP_wf2 {S : Rs} (h : S.wf) : (readP S).2.wf ∧ (readP S).1.wf := ⟨(readP_wf h).1, (readP_wf h).2.1⟩
theorem writeM_len (xs : List Pm) (gs : List Tm) (hx : ∀ a ∈ xs, a.wf) : (writeM xs gs).length ≤ 500000 := by
  unfold writeM
  by_cases h : mErr xs gs = 0
  · rw [if_neg (by simpa using h)]
    obtain ⟨h1, h2, _, _, _, _, h3⟩ := sErr_zero.1 h
    rw [List.length_map] at h1
    have := partS_len (f := writeP) (b := 75) (xs := xs) (fun a ha => writeP_len (badP_elem h3 a ha).2 (hx a ha)) gs xs.length gs.length gs.length h1 h2 h2
    omega
  · rw [if_pos h]; simp
theorem grM_le {n m : Nat} (h : grM n m = false) : n ≤ 100 ∧ m ≤ 200 := by
  unfold grM at h; rw [decide_eq_false_iff_not] at h; omega

set_option maxRecDepth 100000 in
set_option maxHeartbeats 4000000 in
theorem ormapbytes_any (A : Option Addr) (n c : Nat) (xs : List Pm) (B : Option Addr) (m d : Nat) (gs : List Tm) (l : List UInt8) (w : World) (hA : RdP w w.heap.size A n xs) (hB : RdT w w.heap.size B m gs) (hx : ∀ a ∈ xs, a.wf) (hg : ∀ t ∈ gs, t.wf) (hl : ∀ a ∈ xs, a.2.1.length ≤ maxLen) (hvar : VarOk w) :
    Calls Tryz.prog 3 #[.agg #[.slice A n c, .slice B m d], .string (bs l)] w fun e w' => e = .returned (.bool true) ∧ Below w.heap.size w w' := by
  have hW : Below w.heap.size w (w.alloc (.cells #[.slice A n c, .slice B m d] 25)) := (Below.refl _ w).alloc (Nat.le_refl _) _
  have hbA : (w.alloc (.cells #[.slice A n c, .slice B m d] 25)).heap[w.heap.size]? = some (.cells #[.slice A n c, .slice B m d] 25 (0, 0)) := heap_at _ _ rfl
  generalize hWe : w.alloc (.cells #[.slice A n c, .slice B m d] 25) = W at hW hbA
  have hltx := blk_lt hbA
  have hAk := Lib.hid hbA
  have hzW := hW.size
  have g1 := Lib.hid (mgreat_any A n c B m d)
  have s0 := blk_cell hbA 0
  have s1 := blk_cell hbA 1
  simp at s0 s1
  clear hbA
  cases hga : grM n m with
  | true =>
    rw [hga] at g1
    go_enter Tryz.func3, Tryz.ntmps3
    go_wp2_with fail
    refine (g1.out _).mono ?_
    rintro e w1 ⟨rfl, hv1⟩
    have hG := hW.trans (hv1.mono hzW)
    go_wp2
    go_ret
    exact ⟨rfl, hG⟩
  | false =>
    rw [hga] at g1
    obtain ⟨hn, hm⟩ := grM_le hga
    clear hga
    by_cases hl2 : 3000 < l.length
    · have hd : decide ((3000 : Int) < (((bs l).size : Nat) : Int)) = true := decide_eq_true (by rw [bs_size]; omega)
      go_enter Tryz.func3, Tryz.ntmps3
      go_wp2_with fail
      refine (g1.out _).mono ?_
      rintro e w1 ⟨rfl, hv1⟩
      have hG := hW.trans (hv1.mono hzW)
      go_wp2
      go_ret
      exact ⟨rfl, hG⟩
    · have hd : decide ((3000 : Int) < (((bs l).size : Nat) : Int)) = false := decide_eq_false (by rw [bs_size]; omega)
      have cT := Lib.hid (fun w' (hb : Below w.heap.size w w') => mto_any A n c xs B m d gs w' ((hA.below hb).more hb.size) ((hB.below hb).more hb.size) (by omega) (by omega))
      have cW := Lib.hid (fun A' c' B' d' w' (h1 : RdP w' w'.heap.size A' n xs) (h2 : RdT w' w'.heap.size B' m gs) => pwriteM_any A' n c' xs B' m d' gs w' h1 h2 (by omega) (by omega) hx hg hl)
      have cR := Lib.hid (fun w' (hb : Below w.heap.size w w') => rwriteM_any A n c xs B m d gs w' ((hA.below hb).more hb.size) ((hB.below hb).more hb.size) (by omega) (by omega) hx hg hl)
      have hwl := writeM_len xs gs hx
      generalize writeM xs gs = wc at *
      generalize mErr xs gs = we at *
      obtain ⟨LL, hLL⟩ : ∃ LL, wc ++ l = LL := ⟨_, rfl⟩
      have hLl : LL.length ≤ 600000 := by rw [← hLL, List.length_append]; omega
      have hcat : bs wc ++ bs l = bs LL := by rw [bs_append, hLL]
      have hsz : ¬ 9223372036854775807 < (bs wc).size + (bs l).size := by rw [bs_size, bs_size]; omega
      have hvH := Lib.hid hvar
      clear hA hB hx hg hl hvar hLL
      go_enter Tryz.func3, Tryz.ntmps3
      go_wp2_with fail
      refine (g1.out _).mono ?_
      rintro e w0 ⟨rfl, hv0⟩
      have hw0 := hW.trans (hv0.mono hzW)
      have hs0 := blk_below hAk.out hv0
      clear s0 s1
      have hltx := blk_lt hs0
      have s0 := blk_cell hs0 0
      have s1 := blk_cell hs0 1
      simp at s0 s1
      go_wp2_with fail
      refine (cT.out _ hw0).mono ?_
      rintro e w1 ⟨A1, c1, B1, d1, rfl, o1, p1, hb1⟩
      have hw1 := hw0.trans (hb1.mono hw0.size)
      clear cT g1
      go_wp2_with fail
      refine (cW.out A1 c1 B1 d1 w1 o1.rd.1 p1.rd.1).mono ?_
      rintro e w2 ⟨rfl, hb2⟩
      have hw2 := hw1.trans (hb2.mono hw1.size)
      have hs2 := blk_below (blk_below hs0 hb1) hb2
      clear s0 s1
      have hltx := blk_lt hs2
      have s0 := blk_cell hs2 0
      have s1 := blk_cell hs2 1
      simp at s0 s1
      clear cW o1 p1 hb1 hb2 hs0 hv0
      go_wp2_with fail
      refine (cR.out w2 hw2).mono ?_
      rintro e wA ⟨rfl, hbA3⟩
      have hwA := hw2.trans (hbA3.mono hw2.size)
      have hzA := hwA.size
      clear s0 s1 cR hs2 hltx hbA3
      go_wp2_with fail
      refine (pnew_any _ _).mono ?_
      rintro e wB ⟨rfl, hwBe⟩
      have hbB : Below wA.heap.size wA wB := by rw [hwBe]; exact (Below.refl _ wA).alloc (Nat.le_refl _) _
      have hPB : RdrP wB wA.heap.size ⟨LL, 0, 0, 0⟩ := by rw [hwBe]; exact ⟨_, heap_at _ _ rfl, .inl ⟨rfl, rfl⟩⟩
      clear hwBe
      have hbC : Below wB.heap.size wB (wB.alloc (.cells #[.string (bs LL), .int .i64 0, .int .i64 0, .int .i64 0] 41)) := (Below.refl _ wB).alloc (Nat.le_refl _) _
      have hQC : RdrD (wB.alloc (.cells #[.string (bs LL), .int .i64 0, .int .i64 0, .int .i64 0] 41)) wB.heap.size ⟨LL, 0, 0, 0⟩ := heap_at _ _ rfl
      have hPC := hPB.below hbC
      have hzB := hbB.size
      have hwC := (hwA.trans (hbB.mono hzA)).trans (hbC.mono (by omega))
      have hpq : wA.heap.size < wB.heap.size := hPB.lt
      generalize hqe : wB.heap.size = q at hQC hpq
      generalize hpe : wA.heap.size = p at hPC hpq
      have hwp : w.heap.size ≤ p := by omega
      have hl0 : (⟨LL, 0, 0, 0⟩ : Rs).wf := ⟨Nat.zero_le _, by show LL.length ≤ _; omega, by show (0 : Int) ≤ 0; decide, by show (0 : Int) ≤ _; decide, fun _ => rfl⟩
      go_wp2_with fail
      go_loopg [11] 3 (fun g i wr => ∃ (k : Nat) (S : Rs), k ≤ 2 ∧ g = 3 - k ∧ i = .int .i64 (k : Int) ∧ S.wf ∧ RdrP wr p S ∧ RdrD wr q S ∧ Below w.heap.size w wr)
      case atStart => exact ⟨0, ⟨LL, 0, 0, 0⟩, by omega, rfl, rfl, hl0, hPC, hQC, hwC⟩
      case round =>
        clear hbC hQC hPC hwC hPB hbB hzB hzA hwA hl0
        obtain ⟨k, S, hk, rfl, rfl, hS, hP, hQ, hwr⟩ := hrel
        have hzr := hwr.size
        by_cases hlt : k < 2
        · have hTw := readSt_wf (f := readP) (P := Pm.wf) (fun S h => readP_wf2 h) (err := mErr) hS
          have hTl := readSt_len (f := readP) (P := Pm.wf) (fun S h => readP_wf2 h) (err := mErr) hS
          have c1 := fun w h => preadM_any p S w h hS
          have c2 := fun w h => dreadM_any q S w h hS
          obtain ⟨X, T, hT⟩ : ∃ X T, readSt readP mErr S = (X, T) := ⟨_, _, rfl⟩
          rw [hT] at c1 c2 hTw hTl
          obtain ⟨XA, XG⟩ := X
          dsimp only at c1 c2 hTw hTl
          have c1 := Lib.hid c1
          have c2 := Lib.hid c2
          have hTH := Lib.hid hTw
          have hTlH := Lib.hid hTl
          clear hT hS hTw hTl
          have hv0 := hvH.out.lt
          go_wp2_with fail
          refine wp_region_M (fun _ => True) (fun _ => True) 99 (by kernel_rfl) trivial trivial ?_
          intro hcl
          have hC := trivial
          have hE := trivial
          (refine wpM_take (i := 0) (v := ?_) rfl (by kernel_rfl) (by kernel_rfl) (by kernel_rfl) (by decide) (fun _ _ _ h => h) hcl hC (fun _ => hE) (Or.inl ⟨by rfl, ?_⟩) ?_; rotate_left; (· (intro w hSw; (try dsimp only at hSw); go_simp; (try with_reducible rfl))); clear hcl; intro hcl; (try simp only [Act.put, List.getElem_toArray, List.getElem_cons_zero, List.getElem_cons_succ, List.setIfInBounds_toArray, List.set_cons_zero, List.set_cons_succ]))
          (refine wpM_take (i := 3) (v := ?_) rfl (by kernel_rfl) (by kernel_rfl) (by kernel_rfl) (by decide) (fun _ _ _ h => h) hcl hC (fun _ => hE) (Or.inl ⟨by rfl, ?_⟩) ?_; rotate_left; (· (intro w hSw; (try dsimp only at hSw); go_simp; (try with_reducible rfl))); clear hcl; intro hcl; (try simp only [Act.put, List.getElem_toArray, List.getElem_cons_zero, List.getElem_cons_succ, List.setIfInBounds_toArray, List.set_cons_zero, List.set_cons_succ]))
          refine wpM_only (i := 1) rfl (by kernel_rfl) hcl (fun K hK => ?_)
          go_simp
          refine (c1.out _ (hP.below (Below.refl _ _).drew)).mono ?_
          rintro e w1 ⟨A1, n1, c1, G1, m1, d1, rfl, o1, p1, hP1, hg1⟩
          have hQ1 := (hQ.below (Below.refl _ _).drew).besideO (hP.below (Below.refl _ _).drew) hg1
          have hz1 := hg1.size
          simp at hz1
          have hn1 : n1 ≤ 4096 := by have := o1.rd.2.1; have := hTlH.out.1; simp at *; omega
          have hm1 : m1 ≤ 4096 := by have := p1.rd.2.1; have := hTlH.out.2; simp at *; omega
          refine hK.out _ _ trivial trivial ?_
          clear hK K
          clear hcl
          intro hcl
          (try simp only [Act.put, List.getElem_toArray, List.getElem_cons_zero, List.getElem_cons_succ, List.setIfInBounds_toArray, List.set_cons_zero, List.set_cons_succ])
          refine wpM_only (i := 2) rfl (by kernel_rfl) hcl (fun K hK => ?_)
          go_simp
          refine (mfrom_any A1 n1 c1 XA G1 m1 d1 XG w1 o1.rd.1 p1.rd.1 (by omega) (by omega)).mono ?_
          rintro e w5 ⟨A5, c5, G5, d5, rfl, o5, p5, hb5⟩
          have hQ5 := hQ1.below hb5
          have hP5 := hP1.below hb5
          have hz5 := hb5.size
          refine hK.out _ _ trivial trivial ?_
          clear hK K
          clear hcl
          intro hcl
          (try simp only [Act.put, List.getElem_toArray, List.getElem_cons_zero, List.getElem_cons_succ, List.setIfInBounds_toArray, List.set_cons_zero, List.set_cons_succ])
          refine wpM_only (i := 4) rfl (by kernel_rfl) hcl (fun K hK => ?_)
          go_simp
          refine (c2.out _ hQ5).mono ?_
          rintro e w2 ⟨A2, n2, c2, G2, m2, d2, rfl, o2, p2, hQ2, hg2⟩
          have hP2 := hP5.besideO hQ5 hg2
          have hz2 := hg2.size
          have o5' := o5.keptB hg2 (Nat.lt_of_lt_of_le hQ1.lt (Nat.le_refl _))
          have p5' := p5.keptB hg2 (Nat.lt_of_lt_of_le hQ1.lt (Nat.le_refl _))
          refine hK.out _ _ trivial trivial ?_
          clear hK K
          clear hcl
          intro hcl
          (try simp only [Act.put, List.getElem_toArray, List.getElem_cons_zero, List.getElem_cons_succ, List.setIfInBounds_toArray, List.set_cons_zero, List.set_cons_succ])
          refine wpM_only (i := 5) rfl (by kernel_rfl) hcl (fun K hK => ?_)
          go_simp
          refine (msame_any A5 n1 c5 XA G5 m1 d5 XG A2 n2 c2 XA G2 m2 d2 XG w2 o5'.rd.1 p5'.rd.1 o2.rd.1 p2.rd.1 (Nat.le_trans o5'.rd.2.2.1 o5'.rd.2.2.2) (Nat.le_trans p5'.rd.2.2.1 p5'.rd.2.2.2) (Nat.le_trans o2.rd.2.2.1 o2.rd.2.2.2) (Nat.le_trans p2.rd.2.2.1 p2.rd.2.2.2)).mono ?_
          rintro e w3 ⟨rfl, hb3⟩
          rw [show (decide (XA = XA) && decide (XG = XG)) = true from by simp]
          have hP3 := hP2.below hb3
          have hQ3 := hQ2.below hb3
          have hw3 : Below w.heap.size w w3 := ((((hwr.drew).grown hg1 (by simp; omega) (by rintro g e; injection e with e; omega)).trans (hb5.mono (by omega))).grown hg2 (by omega) (by rintro g e; injection e with e; omega)).trans (hb3.mono (by omega))
          have hV3 := hvH.out.below hw3 hv0
          have hP3k := Lib.hid hP3
          have hQ3k := Lib.hid hQ3
          obtain ⟨ev, hbP, hev⟩ := hP3
          have p1' := blk_cell hbP 1
          have p2' := blk_cell hbP 2
          simp at p1' p2'
          have hlP := blk_lt hbP
          have hbQ := hQ3
          unfold RdrD at hbQ
          have hlQ := blk_lt hbQ
          have y1 := blk_cell hbQ 1
          have y2 := blk_cell hbQ 2
          have y3 := blk_cell hbQ 3
          simp at y1 y2 y3
          clear hbQ hbP hQ3 o1 p1 o2 p2 o5 p5 o5' p5' hP1 hQ1 hP2 hQ2 hP5 hQ5 hg1 hg2
          have p1 := p1'
          have p2 := p2'
          clear p1' p2'
          refine hK.out _ _ trivial trivial ?_
          clear hK K
          clear hcl
          intro hcl
          (try simp only [Act.put, List.getElem_toArray, List.getElem_cons_zero, List.getElem_cons_succ, List.setIfInBounds_toArray, List.set_cons_zero, List.set_cons_succ])
          (refine wpM_take (i := 6) (v := ?_) rfl (by kernel_rfl) (by kernel_rfl) (by kernel_rfl) (by decide) (fun _ _ _ h => h) hcl hC (fun _ => hE) (Or.inl ⟨by rfl, ?_⟩) ?_; rotate_left; (· (intro w hSw; (try dsimp only at hSw); go_simp; (try with_reducible rfl))); clear hcl; intro hcl; (try simp only [Act.put, List.getElem_toArray, List.getElem_cons_zero, List.getElem_cons_succ, List.setIfInBounds_toArray, List.set_cons_zero, List.set_cons_succ]))
          (refine wpM_take (i := 7) (v := ?_) rfl (by kernel_rfl) (by kernel_rfl) (by kernel_rfl) (by decide) (fun _ _ _ h => h) hcl hC (fun _ => hE) (Or.inl ⟨by rfl, ?_⟩) ?_; rotate_left; (· (intro w hSw; (try dsimp only at hSw); go_simp; (try with_reducible rfl))); clear hcl; intro hcl; (try simp only [Act.put, List.getElem_toArray, List.getElem_cons_zero, List.getElem_cons_succ, List.setIfInBounds_toArray, List.set_cons_zero, List.set_cons_succ]))
          have hC3 : KQ w3.heap.size w3 w3 := kq (Below.refl _ _)
          refine wpM_now (C' := fun w' => KQ w3.heap.size w3 w') ?_
          clear hC
          have hC := hC3
          (refine wpM_take (i := 8) (v := ?_) rfl (by kernel_rfl) (by kernel_rfl) (by kernel_rfl) (by decide) (fun _ _ _ h => h) hcl hC (fun _ => hE) (Or.inl ⟨by rfl, ?_⟩) ?_; rotate_left; (· (intro w hSw; (try dsimp only at hSw); go_simp; (try with_reducible rfl))); clear hcl; intro hcl; (try simp only [Act.put, List.getElem_toArray, List.getElem_cons_zero, List.getElem_cons_succ, List.setIfInBounds_toArray, List.set_cons_zero, List.set_cons_succ]))
          (refine wpM_take (i := 10) (v := ?_) rfl (by kernel_rfl) (by kernel_rfl) (by kernel_rfl) (by decide) (fun _ _ _ h => h) hcl hC (fun _ => hE) (Or.inl ⟨by rfl, ?_⟩) ?_; rotate_left; (· (intro w hSw; (try dsimp only at hSw); go_simp; (try with_reducible rfl))); clear hcl; intro hcl; (try simp only [Act.put, List.getElem_toArray, List.getElem_cons_zero, List.getElem_cons_succ, List.setIfInBounds_toArray, List.set_cons_zero, List.set_cons_succ]))
          (refine wpM_take (i := 11) (v := ?_) rfl (by kernel_rfl) (by kernel_rfl) (by kernel_rfl) (by decide) (fun _ _ _ h => h) hcl hC (fun _ => hE) (Or.inl ⟨by rfl, ?_⟩) ?_; rotate_left; (· (intro w hSw; (try dsimp only at hSw); go_simp; (try with_reducible rfl))); clear hcl; intro hcl; (try simp only [Act.put, List.getElem_toArray, List.getElem_cons_zero, List.getElem_cons_succ, List.setIfInBounds_toArray, List.set_cons_zero, List.set_cons_succ]))
          (refine wpM_take (i := 12) (v := ?_) rfl (by kernel_rfl) (by kernel_rfl) (by kernel_rfl) (by decide) (fun _ _ _ h => h) hcl hC (fun _ => hE) (Or.inl ⟨by rfl, ?_⟩) ?_; rotate_left; (· (intro w hSw; (try dsimp only at hSw); go_simp; (try with_reducible rfl))); clear hcl; intro hcl; (try simp only [Act.put, List.getElem_toArray, List.getElem_cons_zero, List.getElem_cons_succ, List.setIfInBounds_toArray, List.set_cons_zero, List.set_cons_succ]))
          (refine wpM_take (i := 13) (v := ?_) rfl (by kernel_rfl) (by kernel_rfl) (by kernel_rfl) (by decide) (fun _ _ _ h => h) hcl hC (fun _ => hE) (Or.inl ⟨by rfl, ?_⟩) ?_; rotate_left; (· (intro w hSw; (try dsimp only at hSw); go_simp; (try with_reducible rfl))); clear hcl; intro hcl; (try simp only [Act.put, List.getElem_toArray, List.getElem_cons_zero, List.getElem_cons_succ, List.setIfInBounds_toArray, List.set_cons_zero, List.set_cons_succ]))
          refine wpM_only (i := 9) rfl (by kernel_rfl) hcl (fun K hK => ?_)
          go_simp
          refine (pat_any p _ w3 hlP p1).mono ?_
          rintro e w' ⟨rfl, rfl⟩
          refine hK.out _ _ hC3 trivial ?_
          clear hK K
          clear hcl
          intro hcl
          (try simp only [Act.put, List.getElem_toArray, List.getElem_cons_zero, List.getElem_cons_succ, List.setIfInBounds_toArray, List.set_cons_zero, List.set_cons_succ])
          (refine wpM_take (i := 14) (v := ?_) rfl (by kernel_rfl) (by kernel_rfl) (by kernel_rfl) (by decide) (fun _ _ _ h => h) hcl hC (fun _ => hE) (Or.inl ⟨by rfl, ?_⟩) ?_; rotate_left; (· (intro w hSw; (try dsimp only at hSw); go_simp; (try with_reducible rfl))); clear hcl; intro hcl; (try simp only [Act.put, List.getElem_toArray, List.getElem_cons_zero, List.getElem_cons_succ, List.setIfInBounds_toArray, List.set_cons_zero, List.set_cons_succ]))
          (refine wpM_take (i := 15) (v := ?_) rfl (by kernel_rfl) (by kernel_rfl) (by kernel_rfl) (by decide) (fun _ _ _ h => h) hcl hC (fun _ => hE) (Or.inl ⟨by rfl, ?_⟩) ?_; rotate_left; (· (intro w hSw; (try dsimp only at hSw); go_simp; (try with_reducible rfl))); clear hcl; intro hcl; (try simp only [Act.put, List.getElem_toArray, List.getElem_cons_zero, List.getElem_cons_succ, List.setIfInBounds_toArray, List.set_cons_zero, List.set_cons_succ]))
          (refine wpM_take (i := 16) (v := ?_) rfl (by kernel_rfl) (by kernel_rfl) (by kernel_rfl) (by decide) (fun _ _ _ h => h) hcl hC (fun _ => hE) (Or.inl ⟨by rfl, ?_⟩) ?_; rotate_left; (· (intro w hSw; (try dsimp only at hSw); go_simp; (try with_reducible rfl))); clear hcl; intro hcl; (try simp only [Act.put, List.getElem_toArray, List.getElem_cons_zero, List.getElem_cons_succ, List.setIfInBounds_toArray, List.set_cons_zero, List.set_cons_succ]))
          (refine wpM_take (i := 17) (v := ?_) rfl (by kernel_rfl) (by kernel_rfl) (by kernel_rfl) (by decide) (fun _ _ _ h => h) hcl hC (fun _ => hE) (Or.inl ⟨by rfl, ?_⟩) ?_; rotate_left; (· (intro w hSw; (try dsimp only at hSw); go_simp; (try with_reducible rfl))); clear hcl; intro hcl; (try simp only [Act.put, List.getElem_toArray, List.getElem_cons_zero, List.getElem_cons_succ, List.setIfInBounds_toArray, List.set_cons_zero, List.set_cons_succ]))
          (refine wpM_take (i := 20) (v := ?_) rfl (by kernel_rfl) (by kernel_rfl) (by kernel_rfl) (by decide) (fun _ _ _ h => h) hcl hC (fun _ => hE) (Or.inl ⟨by rfl, ?_⟩) ?_; rotate_left; (· (intro w hSw; (try dsimp only at hSw); go_simp; (try with_reducible rfl))); clear hcl; intro hcl; (try simp only [Act.put, List.getElem_toArray, List.getElem_cons_zero, List.getElem_cons_succ, List.setIfInBounds_toArray, List.set_cons_zero, List.set_cons_succ]))
          (refine wpM_take (i := 21) (v := ?_) rfl (by kernel_rfl) (by kernel_rfl) (by kernel_rfl) (by decide) (fun _ _ _ h => h) hcl hC (fun _ => hE) (Or.inl ⟨by rfl, ?_⟩) ?_; rotate_left; (· (intro w hSw; (try dsimp only at hSw); go_simp; (try with_reducible rfl))); clear hcl; intro hcl; (try simp only [Act.put, List.getElem_toArray, List.getElem_cons_zero, List.getElem_cons_succ, List.setIfInBounds_toArray, List.set_cons_zero, List.set_cons_succ]))
          (refine wpM_take (i := 22) (v := ?_) rfl (by kernel_rfl) (by kernel_rfl) (by kernel_rfl) (by decide) (fun _ _ _ h => h) hcl hC (fun _ => hE) (Or.inl ⟨by rfl, ?_⟩) ?_; rotate_left; (· (intro w hSw; (try dsimp only at hSw); go_simp; (try with_reducible rfl))); clear hcl; intro hcl; (try simp only [Act.put, List.getElem_toArray, List.getElem_cons_zero, List.getElem_cons_succ, List.setIfInBounds_toArray, List.set_cons_zero, List.set_cons_succ]))
          (refine wpM_take (i := 23) (v := ?_) rfl (by kernel_rfl) (by kernel_rfl) (by kernel_rfl) (by decide) (fun _ _ _ h => h) hcl hC (fun _ => hE) (Or.inl ⟨by rfl, ?_⟩) ?_; rotate_left; (· (intro w hSw; (try dsimp only at hSw); go_simp; (try with_reducible rfl))); clear hcl; intro hcl; (try simp only [Act.put, List.getElem_toArray, List.getElem_cons_zero, List.getElem_cons_succ, List.setIfInBounds_toArray, List.set_cons_zero, List.set_cons_succ]))
          refine wpM_only (i := 18) rfl (by kernel_rfl) hcl (fun K hK => ?_)
          go_simp
          refine (perr_any p _ w3 hlP p2).mono ?_
          rintro e w' ⟨rfl, rfl⟩
          refine hK.out _ _ hC3 trivial ?_
          clear hK K
          clear hcl
          intro hcl
          (try simp only [Act.put, List.getElem_toArray, List.getElem_cons_zero, List.getElem_cons_succ, List.setIfInBounds_toArray, List.set_cons_zero, List.set_cons_succ])
          refine wpM_only (i := 19) rfl (by kernel_rfl) hcl (fun K hK => ?_)
          go_simp
          refine (seen_any ev T.fa T.fe w3 hV3 hev hTH.out.2.2.1 hTH.out.2.2.2.1 hTH.out.2.2.2.2).mono ?_
          rintro e w4 ⟨rfl, hb4⟩
          have hC4 : KQ w3.heap.size w3 w4 := kq hb4
          refine hK.out _ _ hC4 trivial ?_
          clear hK K
          clear hcl
          intro hcl
          (try simp only [Act.put, List.getElem_toArray, List.getElem_cons_zero, List.getElem_cons_succ, List.setIfInBounds_toArray, List.set_cons_zero, List.set_cons_succ])
          clear hC
          have hC := hC4
          (refine wpM_take (i := 24) (v := ?_) rfl (by kernel_rfl) (by kernel_rfl) (by kernel_rfl) (by decide) (fun _ _ _ h => h) hcl hC (fun _ => hE) (Or.inl ⟨by rfl, ?_⟩) ?_; rotate_left; (· (intro w hSw; (try dsimp only at hSw); go_simp; (try with_reducible rfl))); clear hcl; intro hcl; (try simp only [Act.put, List.getElem_toArray, List.getElem_cons_zero, List.getElem_cons_succ, List.setIfInBounds_toArray, List.set_cons_zero, List.set_cons_succ]))
          (refine wpM_take (i := 25) (v := ?_) rfl (by kernel_rfl) (by kernel_rfl) (by kernel_rfl) (by decide) (fun _ _ _ h => h) hcl hC (fun _ => hE) (Or.inl ⟨by rfl, ?_⟩) ?_; rotate_left; (· (intro w hSw; (try dsimp only at hSw); go_simp; (try with_reducible rfl))); clear hcl; intro hcl; (try simp only [Act.put, List.getElem_toArray, List.getElem_cons_zero, List.getElem_cons_succ, List.setIfInBounds_toArray, List.set_cons_zero, List.set_cons_succ]))
          refine wpM_done (by kernel_rfl) ?_
          clear hcl
          have hw4 := hw3.trans (hb4.mono hw3.size)
          go_wp2
          go_roundg (3 - (k + 1))
          case measure => omega
          case rel => exact ⟨k + 1, T, by omega, rfl, by go_num, hTH.out, hP3k.out.below hb4, hQ3k.out.below hb4, hw4⟩
        · go_wp2
          go_ret
          exact ⟨rfl, hwr⟩
end Go.Proofs.YtadldndmmobpdaaGreatDoor
