/- The statement TreeBytes, walked. -/
import Derived.Test.YtelipindcacphaaGreatDoorHk
import Derived.Test.YtelipindcacphaaGreatDoorHm
import Derived.Test.YtelipindcacphaaGreatDoorAs
import Derived.Test.YtelipindcacphaaGreatDoorRsN
namespace Go.Proofs.YtelipindcacphaaGreatDoor
open Go.RowKit

theorem RdrD.besideW {w w' : World} {p q : Nat} {S T : Rs} (hQ : RdrD w q S) (hP : RdrP w p T) (hg : w.grownBy w' (some p)) : RdrD w' q S :=
  hQ.grown hg (fun g cs t e hb => by
    injection e with e; subst e
    obtain ⟨_, hh, _⟩ := hP
    rw [hh] at hb
    injection hb with hb; injection hb with _ ht
    rw [← ht]; decide)
theorem RdrP.besideW {w w' : World} {p q : Nat} {S T : Rs} (hP : RdrP w p S) (hQ : RdrD w q T) (hg : w.grownBy w' (some q)) : RdrP w' p S :=
  hP.grown hg (fun g cs t e hb => by
    injection e with e; subst e
    unfold RdrD at hQ
    rw [hQ] at hb
    injection hb with hb; injection hb with _ ht
    rw [← ht]; exact ⟨by decide, by decide⟩)
set_option maxRecDepth 100000 in
set_option maxHeartbeats 4000000 in
theorem treebytes_any (A : Option Addr) (n c : Nat) (xs : List (List UInt8)) (l : List UInt8) (w : World) (hA : RdS w w.heap.size A n xs) (hn : n ≤ maxLen) (hx : ∀ x ∈ xs, x.length ≤ maxLen) (hvar : VarOk w) (hvm : VarM w) :
    Calls Tryz.prog 3 #[.slice A n c, .string (bs l)] w fun e w' => e = .returned (.bool true) ∧ Below w.heap.size w w' := by
  have c1 := Lib.hid (fun w' (h : Below w.heap.size w w') => greatW_any A n c xs w' ((hA.below h).more h.size) hn hx)
  cases hg : grW xs with
  | true =>
    rw [hg] at c1
    clear hg
    go_enter Tryz.func3, Tryz.ntmps3
    go_wp2_with fail
    refine (c1.out w (Below.refl _ w)).mono ?_
    rintro e w1 ⟨rfl, hv1⟩
    have hb1 := hv1
    go_wp2
    go_ret
    exact ⟨rfl, hb1⟩
  | false =>
  rw [hg] at c1
  obtain ⟨hxs, hxl⟩ := grW_no hg
  rw [hA.len] at hxl
  by_cases hl2 : 2000 < l.length
  · have hd : decide ((2000 : Int) < (((bs l).size : Nat) : Int)) = true := decide_eq_true (by rw [bs_size]; omega)
    clear hg hl2
    go_enter Tryz.func3, Tryz.ntmps3
    go_wp2_with fail
    refine (c1.out w (Below.refl _ w)).mono ?_
    rintro e w1 ⟨rfl, hv1⟩
    have hb1 := hv1
    go_wp2
    go_ret
    exact ⟨rfl, hb1⟩
  have hd : decide ((2000 : Int) < (((bs l).size : Nat) : Int)) = false := decide_eq_false (by rw [bs_size]; omega)
  have hvr := Lib.hid (fun w' (h : Below w.heap.size w w') => hvm.below h hvm.lt)
  have cO := Lib.hid (fun w' (h : Below w.heap.size w w') => ownW_any A n c xs w' ((hA.below h).more h.size) (by omega))
  have cW := Lib.hid (fun A' c' w' (h : Below w.heap.size w w') (h1 : RdS w' w'.heap.size A' n xs) => twrite_any A' n c' xs w' h1 (by omega) hxs (hvr.out w' h))
  have cR := Lib.hid (fun w' (h : Below w.heap.size w w') => rtwrite_any A n c xs w' ((hA.below h).more h.size) (by omega) hxs (hvr.out w' h))
  have hwl := writeW_len xs
  generalize writeW xs = wc at *
  generalize chkW xs = we at *
  obtain ⟨LL, hLL⟩ : ∃ LL, wc ++ l = LL := ⟨_, rfl⟩
  have hLl : LL.length ≤ 500000 := by rw [← hLL, List.length_append]; omega
  have hcat : bs wc ++ bs l = bs LL := by rw [bs_append, hLL]
  have hsz : ¬ 9223372036854775807 < (bs wc).size + (bs l).size := by rw [bs_size, bs_size]; omega
  have hvH := Lib.hid hvar
  have hmH := Lib.hid hvm
  clear hA hx hg hl2 hvar hvm hLL hxs
  go_enter Tryz.func3, Tryz.ntmps3
  go_wp2_with fail
  refine (c1.out w (Below.refl _ w)).mono ?_
  rintro e w1 ⟨rfl, hv1⟩
  have hb1 := hv1
  go_wp2_with fail
  refine (cO.out w1 hb1).mono ?_
  rintro e w2 ⟨A1, c1', rfl, o1, hv2⟩
  have hb2 := hb1.trans (hv2.mono hb1.size)
  go_wp2_with fail
  refine (cW.out A1 c1' w2 hb2 o1.rd.1).mono ?_
  rintro e w3 ⟨rfl, hv3⟩
  have hb3 := hb2.trans (hv3.mono hb2.size)
  clear cW cO o1 hv2 hv3 hb1 hb2
  go_wp2_with fail
  refine (cR.out w3 hb3).mono ?_
  rintro e wA ⟨rfl, hbA3⟩
  have hwA := hb3.trans (hbA3.mono hb3.size)
  have hzA := hwA.size
  clear cR hbA3 hb3
  go_wp2_with fail
  refine (pnew_any _ _).mono ?_
  rintro e wB ⟨rfl, hwBe⟩
  have hbB : Below wA.heap.size wA wB := by rw [hwBe]; exact (Below.refl _ wA).alloc (Nat.le_refl _) _
  have hPB : RdrP wB wA.heap.size ⟨LL, 0, 0, 0⟩ := by rw [hwBe]; exact ⟨_, heap_at _ _ rfl, .inl ⟨rfl, rfl⟩⟩
  clear hwBe
  have hbC : Below wB.heap.size wB (wB.alloc (.cells #[.string (bs LL), .int .i64 0, .int .i64 0, .int .i64 0] 34)) := (Below.refl _ wB).alloc (Nat.le_refl _) _
  have hQC : RdrD (wB.alloc (.cells #[.string (bs LL), .int .i64 0, .int .i64 0, .int .i64 0] 34)) wB.heap.size ⟨LL, 0, 0, 0⟩ := heap_at _ _ rfl
  have hPC := hPB.below hbC
  have hzB := hbB.size
  have hwC := (hwA.trans (hbB.mono hzA)).trans (hbC.mono (by omega))
  have hpq : wA.heap.size < wB.heap.size := hPB.lt
  generalize hqe : wB.heap.size = q at hQC hpq
  generalize hpe : wA.heap.size = p at hPC hpq
  have hwp : w.heap.size ≤ p := by omega
  have hl0 : (⟨LL, 0, 0, 0⟩ : Rs).wf := ⟨Nat.zero_le _, by show LL.length ≤ _; omega, by show (0 : Int) ≤ 0; decide, by show (0 : Int) ≤ _; decide, fun _ => rfl⟩
  go_wp2_with fail
  go_loopg [11] 3 (fun g i wr => ∃ (k : Nat) (S : Rs), k ≤ 2 ∧ g = 3 - k ∧ i = .int .i64 (k : Int) ∧ S.wf ∧ RdrP wr p S ∧ RdrD wr q S ∧ Below w.heap.size w wr)
  case atStart => exact ⟨0, ⟨LL, 0, 0, 0⟩, by omega, rfl, rfl, hl0, hPC, hQC, hwC⟩
  case round =>
    clear hbC hQC hPC hwC hPB hbB hzB hzA hwA hl0
    obtain ⟨k, S, hk, rfl, rfl, hS, hP, hQ, hwr⟩ := hrel
    have hzr := hwr.size
    by_cases hlt : k < 2
    · have hTw := readW_wf hS
      have hTl := readW_len S
      have hvm := hvr.out wr hwr
      have hvmd := hvm.below (Below.refl wr.heap.size wr).drew hvm.lt
      have c1 := fun w h hv => tread_any p S w h hS hv
      have c2 := fun w h hv => rtread_any q S w h hS hv
      obtain ⟨rd, T, hT⟩ : ∃ rd T, readW S = (rd, T) := ⟨_, _, rfl⟩
      rw [hT] at c1 c2 hTw hTl
      have c1 := Lib.hid c1
      have c2 := Lib.hid c2
      have hTH := Lib.hid hTw
      clear hT hS hTw
      have hv0 := hvH.out.lt
      go_wp2_with fail
      refine wp_region_M (fun _ => True) (fun _ => True) 99 (by kernel_rfl) trivial trivial ?_
      intro hcl
      have hC := trivial
      have hE := trivial
      (refine wpM_take (i := 0) (v := ?_) rfl (by kernel_rfl) (by kernel_rfl) (by kernel_rfl) (by decide) (fun _ _ _ h => h) hcl hC (fun _ => hE) (Or.inl ⟨by rfl, ?_⟩) ?_; rotate_left; (· (intro w hSw; (try dsimp only at hSw); go_simp; (try with_reducible rfl))); clear hcl; intro hcl; (try simp only [Act.put, List.getElem_toArray, List.getElem_cons_zero, List.setIfInBounds_toArray, List.set_cons_zero, List.set_cons_succ]))
      (refine wpM_take (i := 2) (v := ?_) rfl (by kernel_rfl) (by kernel_rfl) (by kernel_rfl) (by decide) (fun _ _ _ h => h) hcl hC (fun _ => hE) (Or.inl ⟨by rfl, ?_⟩) ?_; rotate_left; (· (intro w hSw; (try dsimp only at hSw); go_simp; (try with_reducible rfl))); clear hcl; intro hcl; (try simp only [Act.put, List.getElem_toArray, List.getElem_cons_zero, List.getElem_cons_succ, List.setIfInBounds_toArray, List.set_cons_zero, List.set_cons_succ]))
      refine wpM_only (i := 1) rfl (by kernel_rfl) hcl (fun K hK => ?_)
      go_simp
      refine (c1.out _ (hP.below (Below.refl _ _).drew) hvmd).mono ?_
      rintro e w1 ⟨A1, n1, c1, rfl, o1, hP1, hg1⟩
      have hvm1 := hvmd.grown hg1 (hvmd.neP (hP.below (Below.refl _ _).drew))
      have hQ1 := (hQ.below (Below.refl _ _).drew).besideW (hP.below (Below.refl _ _).drew) hg1
      have hz1 := hg1.size
      simp at hz1
      refine hK.out _ _ trivial trivial ?_
      clear hK K
      clear hcl
      intro hcl
      (try simp only [Act.put, List.getElem_toArray, List.getElem_cons_zero, List.getElem_cons_succ, List.setIfInBounds_toArray, List.set_cons_zero, List.set_cons_succ])
      refine wpM_only (i := 3) rfl (by kernel_rfl) hcl (fun K hK => ?_)
      go_simp
      refine (c2.out _ hQ1 hvm1).mono ?_
      rintro e w2 ⟨A2, n2, c2, rfl, o2, hQ2, hg2⟩
      have hP2 := hP1.besideW hQ1 hg2
      have hz2 := hg2.size
      have o1' := o1.keptB hg2 (Nat.lt_of_lt_of_le hQ.lt (by simp))
      refine hK.out _ _ trivial trivial ?_
      clear hK K
      clear hcl
      intro hcl
      (try simp only [Act.put, List.getElem_toArray, List.getElem_cons_zero, List.getElem_cons_succ, List.setIfInBounds_toArray, List.set_cons_zero, List.set_cons_succ])
      refine wpM_only (i := 4) rfl (by kernel_rfl) hcl (fun K hK => ?_)
      go_simp
      refine (sameW_any A1 A2 n1 n2 c1 c2 rd rd w2 o1'.rd.1 o2.rd.1 (Nat.le_trans o1'.rd.2.2.1 o1'.rd.2.2.2) (Nat.le_trans o2.rd.2.2.1 o2.rd.2.2.2)).mono ?_
      rintro e w3 ⟨rfl, hb3⟩
      rw [decide_eq_true (rfl : rd = rd)]
      have hP3 := hP2.below hb3
      have hQ3 := hQ2.below hb3
      have hw3 : Below w.heap.size w w3 := (((hwr.drew).grown hg1 (by simp; omega) (by rintro g e; injection e with e; omega)).grown hg2 (by omega) (by rintro g e; injection e with e; omega)).trans (hb3.mono (by omega))
      have hV3 := hvH.out.below hw3 hv0
      have hP3k := Lib.hid hP3
      have hQ3k := Lib.hid hQ3
      obtain ⟨ev, hbP, hev⟩ := hP3
      have p1 := blk_cell hbP 1
      have p2 := blk_cell hbP 2
      simp at p1 p2
      have hlP := blk_lt hbP
      have hbQ := hQ3
      unfold RdrD at hbQ
      have hlQ := blk_lt hbQ
      have y1 := blk_cell hbQ 1
      have y2 := blk_cell hbQ 2
      have y3 := blk_cell hbQ 3
      simp at y1 y2 y3
      clear hbQ hbP hQ3 o1 o1' o2 hP1 hQ1 hP2 hQ2 hg1 hg2 hvm1 hvmd hvm
      refine hK.out _ _ trivial trivial ?_
      clear hK K
      clear hcl
      intro hcl
      (try simp only [Act.put, List.getElem_toArray, List.getElem_cons_zero, List.getElem_cons_succ, List.setIfInBounds_toArray, List.set_cons_zero, List.set_cons_succ])
      (refine wpM_take (i := 5) (v := ?_) rfl (by kernel_rfl) (by kernel_rfl) (by kernel_rfl) (by decide) (fun _ _ _ h => h) hcl hC (fun _ => hE) (Or.inl ⟨by rfl, ?_⟩) ?_; rotate_left; (· (intro w hSw; (try dsimp only at hSw); go_simp; (try with_reducible rfl))); clear hcl; intro hcl; (try simp only [Act.put, List.getElem_toArray, List.getElem_cons_zero, List.getElem_cons_succ, List.setIfInBounds_toArray, List.set_cons_zero, List.set_cons_succ]))
      (refine wpM_take (i := 6) (v := ?_) rfl (by kernel_rfl) (by kernel_rfl) (by kernel_rfl) (by decide) (fun _ _ _ h => h) hcl hC (fun _ => hE) (Or.inl ⟨by rfl, ?_⟩) ?_; rotate_left; (· (intro w hSw; (try dsimp only at hSw); go_simp; (try with_reducible rfl))); clear hcl; intro hcl; (try simp only [Act.put, List.getElem_toArray, List.getElem_cons_zero, List.getElem_cons_succ, List.setIfInBounds_toArray, List.set_cons_zero, List.set_cons_succ]))
      have hC3 : KQ w3.heap.size w3 w3 := kq (Below.refl _ _)
      refine wpM_now (C' := fun w' => KQ w3.heap.size w3 w') ?_
      clear hC
      have hC := hC3
      (refine wpM_take (i := 7) (v := ?_) rfl (by kernel_rfl) (by kernel_rfl) (by kernel_rfl) (by decide) (fun _ _ _ h => h) hcl hC (fun _ => hE) (Or.inl ⟨by rfl, ?_⟩) ?_; rotate_left; (· (intro w hSw; (try dsimp only at hSw); go_simp; (try with_reducible rfl))); clear hcl; intro hcl; (try simp only [Act.put, List.getElem_toArray, List.getElem_cons_zero, List.getElem_cons_succ, List.setIfInBounds_toArray, List.set_cons_zero, List.set_cons_succ]))
      (refine wpM_take (i := 9) (v := ?_) rfl (by kernel_rfl) (by kernel_rfl) (by kernel_rfl) (by decide) (fun _ _ _ h => h) hcl hC (fun _ => hE) (Or.inl ⟨by rfl, ?_⟩) ?_; rotate_left; (· (intro w hSw; (try dsimp only at hSw); go_simp; (try with_reducible rfl))); clear hcl; intro hcl; (try simp only [Act.put, List.getElem_toArray, List.getElem_cons_zero, List.getElem_cons_succ, List.setIfInBounds_toArray, List.set_cons_zero, List.set_cons_succ]))
      (refine wpM_take (i := 10) (v := ?_) rfl (by kernel_rfl) (by kernel_rfl) (by kernel_rfl) (by decide) (fun _ _ _ h => h) hcl hC (fun _ => hE) (Or.inl ⟨by rfl, ?_⟩) ?_; rotate_left; (· (intro w hSw; (try dsimp only at hSw); go_simp; (try with_reducible rfl))); clear hcl; intro hcl; (try simp only [Act.put, List.getElem_toArray, List.getElem_cons_zero, List.getElem_cons_succ, List.setIfInBounds_toArray, List.set_cons_zero, List.set_cons_succ]))
      (refine wpM_take (i := 11) (v := ?_) rfl (by kernel_rfl) (by kernel_rfl) (by kernel_rfl) (by decide) (fun _ _ _ h => h) hcl hC (fun _ => hE) (Or.inl ⟨by rfl, ?_⟩) ?_; rotate_left; (· (intro w hSw; (try dsimp only at hSw); go_simp; (try with_reducible rfl))); clear hcl; intro hcl; (try simp only [Act.put, List.getElem_toArray, List.getElem_cons_zero, List.getElem_cons_succ, List.setIfInBounds_toArray, List.set_cons_zero, List.set_cons_succ]))
      (refine wpM_take (i := 12) (v := ?_) rfl (by kernel_rfl) (by kernel_rfl) (by kernel_rfl) (by decide) (fun _ _ _ h => h) hcl hC (fun _ => hE) (Or.inl ⟨by rfl, ?_⟩) ?_; rotate_left; (· (intro w hSw; (try dsimp only at hSw); go_simp; (try with_reducible rfl))); clear hcl; intro hcl; (try simp only [Act.put, List.getElem_toArray, List.getElem_cons_zero, List.getElem_cons_succ, List.setIfInBounds_toArray, List.set_cons_zero, List.set_cons_succ]))
      refine wpM_only (i := 8) rfl (by kernel_rfl) hcl (fun K hK => ?_)
      go_simp
      refine (pat_any p _ w3 hlP p1).mono ?_
      rintro e w' ⟨rfl, rfl⟩
      refine hK.out _ _ hC3 trivial ?_
      clear hK K
      clear hcl
      intro hcl
      (try simp only [Act.put, List.getElem_toArray, List.getElem_cons_zero, List.getElem_cons_succ, List.setIfInBounds_toArray, List.set_cons_zero, List.set_cons_succ])
      (refine wpM_take (i := 13) (v := ?_) rfl (by kernel_rfl) (by kernel_rfl) (by kernel_rfl) (by decide) (fun _ _ _ h => h) hcl hC (fun _ => hE) (Or.inl ⟨by rfl, ?_⟩) ?_; rotate_left; (· (intro w hSw; (try dsimp only at hSw); go_simp; (try with_reducible rfl))); clear hcl; intro hcl; (try simp only [Act.put, List.getElem_toArray, List.getElem_cons_zero, List.getElem_cons_succ, List.setIfInBounds_toArray, List.set_cons_zero, List.set_cons_succ]))
      (refine wpM_take (i := 14) (v := ?_) rfl (by kernel_rfl) (by kernel_rfl) (by kernel_rfl) (by decide) (fun _ _ _ h => h) hcl hC (fun _ => hE) (Or.inl ⟨by rfl, ?_⟩) ?_; rotate_left; (· (intro w hSw; (try dsimp only at hSw); go_simp; (try with_reducible rfl))); clear hcl; intro hcl; (try simp only [Act.put, List.getElem_toArray, List.getElem_cons_zero, List.getElem_cons_succ, List.setIfInBounds_toArray, List.set_cons_zero, List.set_cons_succ]))
      (refine wpM_take (i := 15) (v := ?_) rfl (by kernel_rfl) (by kernel_rfl) (by kernel_rfl) (by decide) (fun _ _ _ h => h) hcl hC (fun _ => hE) (Or.inl ⟨by rfl, ?_⟩) ?_; rotate_left; (· (intro w hSw; (try dsimp only at hSw); go_simp; (try with_reducible rfl))); clear hcl; intro hcl; (try simp only [Act.put, List.getElem_toArray, List.getElem_cons_zero, List.getElem_cons_succ, List.setIfInBounds_toArray, List.set_cons_zero, List.set_cons_succ]))
      (refine wpM_take (i := 16) (v := ?_) rfl (by kernel_rfl) (by kernel_rfl) (by kernel_rfl) (by decide) (fun _ _ _ h => h) hcl hC (fun _ => hE) (Or.inl ⟨by rfl, ?_⟩) ?_; rotate_left; (· (intro w hSw; (try dsimp only at hSw); go_simp; (try with_reducible rfl))); clear hcl; intro hcl; (try simp only [Act.put, List.getElem_toArray, List.getElem_cons_zero, List.getElem_cons_succ, List.setIfInBounds_toArray, List.set_cons_zero, List.set_cons_succ]))
      (refine wpM_take (i := 19) (v := ?_) rfl (by kernel_rfl) (by kernel_rfl) (by kernel_rfl) (by decide) (fun _ _ _ h => h) hcl hC (fun _ => hE) (Or.inl ⟨by rfl, ?_⟩) ?_; rotate_left; (· (intro w hSw; (try dsimp only at hSw); go_simp; (try with_reducible rfl))); clear hcl; intro hcl; (try simp only [Act.put, List.getElem_toArray, List.getElem_cons_zero, List.getElem_cons_succ, List.setIfInBounds_toArray, List.set_cons_zero, List.set_cons_succ]))
      (refine wpM_take (i := 20) (v := ?_) rfl (by kernel_rfl) (by kernel_rfl) (by kernel_rfl) (by decide) (fun _ _ _ h => h) hcl hC (fun _ => hE) (Or.inl ⟨by rfl, ?_⟩) ?_; rotate_left; (· (intro w hSw; (try dsimp only at hSw); go_simp; (try with_reducible rfl))); clear hcl; intro hcl; (try simp only [Act.put, List.getElem_toArray, List.getElem_cons_zero, List.getElem_cons_succ, List.setIfInBounds_toArray, List.set_cons_zero, List.set_cons_succ]))
      (refine wpM_take (i := 21) (v := ?_) rfl (by kernel_rfl) (by kernel_rfl) (by kernel_rfl) (by decide) (fun _ _ _ h => h) hcl hC (fun _ => hE) (Or.inl ⟨by rfl, ?_⟩) ?_; rotate_left; (· (intro w hSw; (try dsimp only at hSw); go_simp; (try with_reducible rfl))); clear hcl; intro hcl; (try simp only [Act.put, List.getElem_toArray, List.getElem_cons_zero, List.getElem_cons_succ, List.setIfInBounds_toArray, List.set_cons_zero, List.set_cons_succ]))
      (refine wpM_take (i := 22) (v := ?_) rfl (by kernel_rfl) (by kernel_rfl) (by kernel_rfl) (by decide) (fun _ _ _ h => h) hcl hC (fun _ => hE) (Or.inl ⟨by rfl, ?_⟩) ?_; rotate_left; (· (intro w hSw; (try dsimp only at hSw); go_simp; (try with_reducible rfl))); clear hcl; intro hcl; (try simp only [Act.put, List.getElem_toArray, List.getElem_cons_zero, List.getElem_cons_succ, List.setIfInBounds_toArray, List.set_cons_zero, List.set_cons_succ]))
      refine wpM_only (i := 17) rfl (by kernel_rfl) hcl (fun K hK => ?_)
      go_simp
      refine (perr_any p _ w3 hlP p2).mono ?_
      rintro e w' ⟨rfl, rfl⟩
      refine hK.out _ _ hC3 trivial ?_
      clear hK K
      clear hcl
      intro hcl
      (try simp only [Act.put, List.getElem_toArray, List.getElem_cons_zero, List.getElem_cons_succ, List.setIfInBounds_toArray, List.set_cons_zero, List.set_cons_succ])
      refine wpM_only (i := 18) rfl (by kernel_rfl) hcl (fun K hK => ?_)
      go_simp
      refine (seen_any ev T.fa T.fe w3 hV3 hev hTH.out.2.2.1 hTH.out.2.2.2.1 hTH.out.2.2.2.2).mono ?_
      rintro e w4 ⟨rfl, hb4⟩
      have hC4 : KQ w3.heap.size w3 w4 := kq hb4
      refine hK.out _ _ hC4 trivial ?_
      clear hK K
      clear hcl
      intro hcl
      (try simp only [Act.put, List.getElem_toArray, List.getElem_cons_zero, List.getElem_cons_succ, List.setIfInBounds_toArray, List.set_cons_zero, List.set_cons_succ])
      clear hC
      have hC := hC4
      (refine wpM_take (i := 23) (v := ?_) rfl (by kernel_rfl) (by kernel_rfl) (by kernel_rfl) (by decide) (fun _ _ _ h => h) hcl hC (fun _ => hE) (Or.inl ⟨by rfl, ?_⟩) ?_; rotate_left; (· (intro w hSw; (try dsimp only at hSw); go_simp; (try with_reducible rfl))); clear hcl; intro hcl; (try simp only [Act.put, List.getElem_toArray, List.getElem_cons_zero, List.getElem_cons_succ, List.setIfInBounds_toArray, List.set_cons_zero, List.set_cons_succ]))
      (refine wpM_take (i := 24) (v := ?_) rfl (by kernel_rfl) (by kernel_rfl) (by kernel_rfl) (by decide) (fun _ _ _ h => h) hcl hC (fun _ => hE) (Or.inl ⟨by rfl, ?_⟩) ?_; rotate_left; (· (intro w hSw; (try dsimp only at hSw); go_simp; (try with_reducible rfl))); clear hcl; intro hcl; (try simp only [Act.put, List.getElem_toArray, List.getElem_cons_zero, List.getElem_cons_succ, List.setIfInBounds_toArray, List.set_cons_zero, List.set_cons_succ]))
      refine wpM_done (by kernel_rfl) ?_
      clear hcl
      have hw4 := hw3.trans (hb4.mono hw3.size)
      go_wp2
      go_roundg (3 - (k + 1))
      case measure => omega
      case rel => exact ⟨k + 1, T, by omega, rfl, by go_num, hTH.out, hP3k.out.below hb4, hQ3k.out.below hb4, hw4⟩
    · go_wp2
      go_ret
      exact ⟨rfl, hwr⟩
end Go.Proofs.YtelipindcacphaaGreatDoor
