/- selkielaw15.works: the law's own example. -/
import Derived.Test.YtpolplmniaoikaaGreatDoorMn
import Derived.Test.YtpolplmniaoikaaGreatDoorFt
import Derived.Test.YtpolplmniaoikaaGreatDoorFu
namespace Go.Proofs.YtpolplmniaoikaaGreatDoor
open Go.RowKit

theorem Ow.set1 {w : World} {base g c sz : Nat} {e : TypeId} {x : List Value} (h : Ow w base e sz (.slice (some ⟨g, 0, none⟩) 1 c) [x]) {j : Nat} (_hj : j < sz) (u : Value) :
    Ow (w.setCell ⟨g, j, none⟩ u) base e sz (.slice (some ⟨g, 0, none⟩) 1 c) [x.set j u] := by
  have hx := h.1 x (by simp)
  have h2 := ownsRow_setCells [u] j h.2
  refine ⟨fun y hy => ?_, ?_⟩
  · rw [List.mem_singleton.1 hy, List.length_set]; exact hx
  · simpa [Go.Proofs.YtpolplmniaoikaaGreatDoor.setL, World.setCells] using h2
abbrev wkV : Vm := ⟨0, 2, 0, 0, 0, 0, 0, 0⟩
abbrev wkU : Vm := ⟨0, 1, 0, 0, 0, 0, 0, 0⟩
def wkP : Pe := ⟨[97, 47, 99], ⟨2, [], 0, ((1, 3), 0), (0, 0), []⟩, none, 0, 0⟩
theorem wk_a : txErr (1, 3) wkV [] = 0 := by decide +kernel
theorem wk_b : txErr (1, 3) wkU [] = 17 := by decide +kernel
theorem wk_c : txErr (1, 3) wkV [wkP.core] = 0 := by decide +kernel
theorem wk_keys : (keysT [wkP.core]).length = 1 := by decide +kernel
theorem wk_s1 : seesT (1, 3) wkV (1, 2) = true := by decide +kernel
theorem wk_s2 : seesT (1, 3) wkV (1, 4) = false := by decide +kernel
theorem wk_m : mergeT ⟨(1, 3), wkV, false, [wkP.core]⟩ ⟨(1, 3), wkV, true, []⟩ = (⟨(1, 3), wkV, false, [wkP.core]⟩, 0) := by
  unfold mergeT
  dsimp only
  rw [wk_a, wk_c, mrgD_none, if_neg (by decide), if_neg (by decide), if_neg (by decide)]
  rfl
theorem wkV_wf : wkV.wf := by unfold Vm.wf wkV; decide
theorem wkU_wf : wkU.wf := by unfold Vm.wf wkU; decide
theorem wkI_wf : Im.wf (1, 3) := by unfold Im.wf; decide
set_option maxRecDepth 100000 in
theorem wkf_any (k : Value) (w : World) : Calls Tryz.prog 76 #[k] w fun e w' => e = .returned (.bool false) ∧ Below w.heap.size w w' := by
  go_enter Tryz.func76, Tryz.ntmps76
  go_wp2
  go_ret
  exact ⟨rfl, Below.refl _ _⟩
set_option maxRecDepth 100000 in
set_option maxHeartbeats 4000000 in
theorem worksX_any (w : World) (hv : VarM w) :
    Calls Tryz.prog 30 #[] w fun e w' => e = .returned (.bool true) ∧ Below w.heap.size w w' := by
  go_enter Tryz.func30, Tryz.ntmps30
  go_upto_region 4 with (fail)
  go_cut [3] (fun s3 wx => s3 = .pointer (some ⟨w.heap.size + 1 + 1, 0, none⟩) ∧ wx.heap[w.heap.size]? = some (.cells #[.int .i64 1, .int .u32 3, .int .u32 0, .int .u32 2, .int .u32 0, .int .u32 0, .int .u32 0, .int .u32 0, .int .u32 0, .int .u32 0, .bool false, .slice none 0 0] 36 (0, 0)) ∧ wx.heap[w.heap.size + 1]? = some (.cells #[.int .i64 1, .int .u32 3, .int .u32 0, .int .u32 1, .int .u32 0, .int .u32 0, .int .u32 0, .int .u32 0, .int .u32 0, .int .u32 0, .bool false, .slice none 0 0] 36 (0, 0)) ∧ wx.heap[w.heap.size + 1 + 1]? = some (.cells #[.int .i64 1, .int .u32 3, .int .u32 0, .int .u32 2, .int .u32 0, .int .u32 0, .int .u32 0, .int .u32 0, .int .u32 0, .int .u32 0, .bool false, .slice none 0 0] 36 (0, 0)) ∧ Below w.heap.size w wx)
  case first =>
    go_wp2_with fail
    go_meet
    exact ⟨rfl, heap_old _ (by simp; omega) (heap_old _ (by simp) (heap_at _ _ rfl)), heap_old _ (by simp) (heap_at _ _ (by simp)), heap_at _ _ (by simp), (((Below.refl _ w).alloc (Nat.le_refl _) _).alloc (by simp) _).alloc (by simp; omega) _⟩
  case rest =>
  obtain ⟨rfl, hba, hbb, hbc, hb0⟩ := hcut
  obtain ⟨W, hW⟩ : ∃ W, W = wc := ⟨_, rfl⟩
  obtain rfl := hW
  have hz0 := hb0.size
  have hlc := blk_lt hbc
  have hfc := blk_frozen hbc
  have c11 := blk_cell hbc 11
  simp at c11
  go_upto_region 6 with (
    at_builtin
    refine wpList_append_rd _ rfl _ _ _ rfl ePart (base := W.heap.size) (v := .slice none 0 0) (xs := []) rfl (Ow.nil_ _ _ _ _) rfl (Rd.one' [.string ⟨#[97, 47, 99]⟩, .int .i64 0, .string ⟨#[]⟩, .int .i64 0, .int .i64 0, .int .u32 0, .int .i64 0, .int .u32 0, .int .i64 0, .slice none 0 0] rfl) (by simp) (by simp [Value.oneCell']) (by simp [maxLen]) (by simp) (by simp) ?_
    intro A2 n2 c2 w5 hn2 hown2 hg5 hat2
    obtain rfl : n2 = 1 := hn2
    obtain ⟨gr, hA2, hgb, hgl, hgf, hgc⟩ := hown2.addr (by omega)
    subst hA2
    have hg5' : Below W.heap.size W w5 := ((Below.refl _ W).alloc (Nat.le_refl _) _).grown hg5 (by simp) (fun g e => by cases e)
    have hbc5 := blk_below hbc hg5'
    have hlc5 := blk_lt hbc5
    have hfc5 := blk_frozen hbc5
    have hne : gr ≠ w.heap.size + 1 + 1 := by omega
    have hba5 := blk_below hba hg5'
    have q0 := blk_cell hba5 0
    have q1 := blk_cell hba5 1
    simp at q0 q1
    have hla5 := blk_lt hba5
    have c115 := blk_cell hbc5 11
    simp at c115
    have g1 := hgc 0 _ rfl 1 _ rfl
    have g4 := hgc 0 _ rfl 4 _ rfl
    have g5 := hgc 0 _ rfl 5 _ rfl
    rw [Nat.zero_mul, Nat.zero_add] at g1 g4 g5)
  have hown3 := ((hown2.setCell (a := ⟨w.heap.size + 1 + 1, 11, none⟩) (by show _ < W.heap.size; omega) (.slice (some ⟨gr, 0, none⟩) 1 c2)).set1 (j := 1) (by decide) (.int .i64 2))
  have hown4 := Lib.hid ((hown3.set1 (j := 4) (by decide) (.int .i64 1)).set1 (j := 5) (by decide) (.int .u32 3))
  clear hown3 hown2 hat2 hg5
  have hbb5 := blk_below hbb hg5'
  have hs5 := hg5'.size
  have hgne0 : gr ≠ w.heap.size := by omega
  have hgne1 : gr ≠ w.heap.size + 1 := by omega
  have hcb5 : (w5.setCell ⟨w.heap.size + 1 + 1, 11, none⟩ (.slice (some ⟨gr, 0, none⟩) 1 c2)).heap[w.heap.size + 1 + 1]? = some (.cells #[.int .i64 1, .int .u32 3, .int .u32 0, .int .u32 2, .int .u32 0, .int .u32 0, .int .u32 0, .int .u32 0, .int .u32 0, .int .u32 0, .bool false, .slice (some ⟨gr, 0, none⟩) 1 c2] 36 (0, 0)) := by rw [blk_set hbc5 11]; simp
  have hab5 := heap_set_ne (p := ⟨w.heap.size + 1 + 1, 11, none⟩) (u := .slice (some ⟨gr, 0, none⟩) 1 c2) (by dsimp only; omega) hba5
  have hbb6 := heap_set_ne (p := ⟨w.heap.size + 1 + 1, 11, none⟩) (u := .slice (some ⟨gr, 0, none⟩) 1 c2) (by dsimp only; omega) hbb5
  have hcb5 := Lib.hid hcb5
  have hab5 := Lib.hid hab5
  have hbb6 := Lib.hid hbb6
  have hb05 : Below w.heap.size w w5 := hb0.trans (hg5'.mono hz0)
  have hb05 := Lib.hid hb05
  go_upto_region 7 with (fail)
  go_cut [] (fun wx => wx.heap[w.heap.size]? = some (.cells #[.int .i64 1, .int .u32 3, .int .u32 0, .int .u32 2, .int .u32 0, .int .u32 0, .int .u32 0, .int .u32 0, .int .u32 0, .int .u32 0, .bool false, .slice none 0 0] 36 (0, 0)) ∧ wx.heap[w.heap.size + 1]? = some (.cells #[.int .i64 1, .int .u32 3, .int .u32 0, .int .u32 1, .int .u32 0, .int .u32 0, .int .u32 0, .int .u32 0, .int .u32 0, .int .u32 0, .bool false, .slice none 0 0] 36 (0, 0)) ∧ wx.heap[w.heap.size + 1 + 1]? = some (.cells #[.int .i64 1, .int .u32 3, .int .u32 0, .int .u32 2, .int .u32 0, .int .u32 0, .int .u32 0, .int .u32 0, .int .u32 0, .int .u32 0, .bool false, .slice (some ⟨gr, 0, none⟩) 1 c2] 36 (0, 0)) ∧ Ow wx W.heap.size 101 10 (.slice (some ⟨gr, 0, none⟩) 1 c2) [wkP.enc] ∧ Below w.heap.size w wx ∧ W.heap.size ≤ wx.heap.size)
  case first =>
    go_wp2_with fail
    go_meet
    refine ⟨heap_set_ne hgne0 (heap_set_ne hgne0 (heap_set_ne hgne0 hab5.out)), heap_set_ne hgne1 (heap_set_ne hgne1 (heap_set_ne hgne1 hbb6.out)), heap_set_ne hne (heap_set_ne hne (heap_set_ne hne hcb5.out)), hown4.out, ?_, by simp; omega⟩
    repeat (with_reducible refine Below.setCell ?_ (by simp; omega) _)
    exact hb05.out
  case rest =>
  obtain ⟨ka, kb, kc, ko, hb1, hz1⟩ := hcut
  obtain ⟨W1, hW1⟩ : ∃ W1, W1 = wc := ⟨_, rfl⟩
  obtain rfl := hW1
  clear hba hbb hbc hb0 hlc hfc c11 hba5 hbb5 hbc5 hlc5 hfc5 hgl hgf hgc hne q0 q1 hla5 c115 g1 g4 g5 hown4 hs5 hgne0 hgne1 hcb5 hab5 hbb6 hb05 hg5'
  have hv1 := hv.below hb1 hv.lt
  have kre : OwE 101 W1 W.heap.size (some ⟨gr, 0, none⟩) 1 c2 [wkP] := ⟨ko, fun p hp => by rw [List.mem_singleton.1 hp]; exact Ow.nil_ _ _ _ _⟩
  have hcell := Lib.hid (fun w' (h : Below W1.heap.size W1 w') => (⟨blk_below ka h, blk_below kb h, blk_below kc h, kre.below h, hv1.below h hv1.lt⟩ : _ ∧ _ ∧ _ ∧ _ ∧ _))
  have hfit : ∀ (w' : World), Below W1.heap.size W1 w' → ∀ p ∈ [wkP], p.Fit w' := fun w' h p hp => by
    obtain rfl := List.mem_singleton.1 hp
    exact ⟨((kre.below h).2 wkP (by simp)).rd.1, ⟨by unfold Tm.wf Im.wf; decide, by unfold Sm.wf; decide, by decide, by simp [wkP], by decide, by decide⟩, by decide, by decide, by decide⟩
  have hfit := Lib.hid hfit
  have aal := blk_lt ka
  have aa0 := blk_cell ka 0
  have aa1 := blk_cell ka 1
  have aa2 := blk_cell ka 2
  have aa3 := blk_cell ka 3
  have aa4 := blk_cell ka 4
  have aa5 := blk_cell ka 5
  have aa6 := blk_cell ka 6
  have aa7 := blk_cell ka 7
  have aa8 := blk_cell ka 8
  have aa9 := blk_cell ka 9
  have aa10 := blk_cell ka 10
  have aa11 := blk_cell ka 11
  simp at aa0 aa1 aa2 aa3 aa4 aa5 aa6 aa7 aa8 aa9 aa10 aa11
  have ccl := blk_lt kc
  have cc0 := blk_cell kc 0
  have cc1 := blk_cell kc 1
  have cc2 := blk_cell kc 2
  have cc3 := blk_cell kc 3
  have cc4 := blk_cell kc 4
  have cc5 := blk_cell kc 5
  have cc6 := blk_cell kc 6
  have cc7 := blk_cell kc 7
  have cc8 := blk_cell kc 8
  have cc9 := blk_cell kc 9
  have cc10 := blk_cell kc 10
  have cc11 := blk_cell kc 11
  simp at cc0 cc1 cc2 cc3 cc4 cc5 cc6 cc7 cc8 cc9 cc10 cc11
  have cO := Lib.hid (txonly_any 76 #[] (fun _ => false) (enters_of Tryz.func76 (by kernel_rfl) rfl) W1.heap.size (1, 3) wkV false (some ⟨gr, 0, none⟩) 1 c2 [wkP] W1 kre.rd (by omega) (fun p hp => by rw [List.mem_singleton.1 hp]; decide) (fun p hp w' h => wkf_any _ _) (Nat.le_refl _))
  clear ka kb kc ko kre
  go_upto_region 8 with (fail)
  go_wp2_with fail
  refine cO.out.mono ?_
  rintro e w2 ⟨A4, n4, c4, qs, rfl, o4, hq4, hv2⟩
  obtain rfl : qs = [] := by
    have h1 : qs.map Pe.core = [] := hq4
    simpa using h1
  obtain rfl : n4 = 0 := by simpa using o4.len.symm
  rw [show (false || [wkP].any fun p => !((fun _ : List UInt8 => false) p.key)) = true from rfl]
  clear hq4 cO aal aa0 aa1 aa2 aa3 aa4 aa5 aa6 aa7 aa8 aa9 aa10 aa11 ccl cc0 cc1 cc2 cc3 cc4 cc5 cc6 cc7 cc8 cc9 cc10 cc11
  obtain ⟨ka, kb, kc, kre, hv2m⟩ := hcell.out w2 hv2
  have ccl := blk_lt kc
  have cc0 := blk_cell kc 0
  have cc1 := blk_cell kc 1
  have cc2 := blk_cell kc 2
  have cc3 := blk_cell kc 3
  have cc4 := blk_cell kc 4
  have cc5 := blk_cell kc 5
  have cc6 := blk_cell kc 6
  have cc7 := blk_cell kc 7
  have cc8 := blk_cell kc 8
  have cc9 := blk_cell kc 9
  have cc10 := blk_cell kc 10
  have cc11 := blk_cell kc 11
  simp at cc0 cc1 cc2 cc3 cc4 cc5 cc6 cc7 cc8 cc9 cc10 cc11
  have cM := Lib.hid (fun w' (h : Below w2.heap.size w2 w') => txmerge_any (1, 3) wkV false (some ⟨gr, 0, none⟩) 1 c2 [wkP] (1, 3) wkV true A4 0 c4 [] w' (kre.below h).rd (by decide) (hfit.out w' (hv2.trans (h.mono hv2.size))) wkI_wf wkV_wf (o4.below h).rd (by decide) (fun p hp => by cases hp) wkI_wf wkV_wf (hv2m.below h hv2m.lt) _ wk_m)
  clear ka kb kc kre hv2m
  go_upto_region 9 with (fail)
  go_cut [5, 6] (fun s5 s6 wx => ∃ g5 A5 c5, s5 = .pointer (some ⟨g5, 0, none⟩) ∧ s6 = .int .i64 0 ∧ wx.heap[g5]? = some (.cells #[.int .i64 1, .int .u32 3, .int .u32 0, .int .u32 2, .int .u32 0, .int .u32 0, .int .u32 0, .int .u32 0, .int .u32 0, .int .u32 0, .bool false, .slice A5 1 c5] 36 (0, 0)) ∧ wx.heap[w2.heap.size]? = some (.cells #[.int .i64 1, .int .u32 3, .int .u32 0, .int .u32 2, .int .u32 0, .int .u32 0, .int .u32 0, .int .u32 0, .int .u32 0, .int .u32 0, .bool true, .slice A4 0 c4] 36 (0, 0)) ∧ Below w2.heap.size w2 wx)
  case first =>
    have hb2 : Below w2.heap.size w2 (w2.alloc (.cells #[.int .i64 1, .int .u32 3, .int .u32 0, .int .u32 2, .int .u32 0, .int .u32 0, .int .u32 0, .int .u32 0, .int .u32 0, .int .u32 0, .bool true, .slice A4 0 c4] 36)) := (Below.refl _ w2).alloc (Nat.le_refl _) _
    have hd2 : (w2.alloc (.cells #[.int .i64 1, .int .u32 3, .int .u32 0, .int .u32 2, .int .u32 0, .int .u32 0, .int .u32 0, .int .u32 0, .int .u32 0, .int .u32 0, .bool true, .slice A4 0 c4] 36)).heap[w2.heap.size]? = some (.cells #[.int .i64 1, .int .u32 3, .int .u32 0, .int .u32 2, .int .u32 0, .int .u32 0, .int .u32 0, .int .u32 0, .int .u32 0, .int .u32 0, .bool true, .slice A4 0 c4] 36 (0, 0)) := heap_at _ _ rfl
    have hb2 := Lib.hid hb2
    have hd2 := Lib.hid hd2
    go_wp2_with fail
    refine (cM.out _ hb2.out).mono ?_
    rintro e w3 ⟨A5, n5, c5, rs5, rfl, o5, hr5, hv3⟩
    obtain rfl : n5 = 1 := by
      have h1 := congrArg List.length hr5
      have h2 := o5.len
      simp at h1
      omega
    have hd3 := blk_below hd2.out hv3
    have hb3 := hb2.out.trans (hv3.mono hb2.out.size)
    clear hr5 o5 hv3 ccl cc0 cc1 cc2 cc3 cc4 cc5 cc6 cc7 cc8 cc9 cc10 cc11
    go_wp2_with fail
    go_meet
    exact ⟨w3.heap.size, A5, c5, rfl, rfl, heap_at _ _ rfl, heap_old _ (blk_lt hd3) hd3, hb3.alloc hb3.size _⟩
  case rest =>
  obtain ⟨g5, A5, c5, rfl, rfl, km, kd, hb3⟩ := hcut
  obtain ⟨W3, hW3⟩ : ∃ W3, W3 = wc := ⟨_, rfl⟩
  obtain rfl := hW3
  have hbW3 := hv2.trans (hb3.mono hv2.size)
  obtain ⟨ka, kb, kc, kre, hvW3⟩ := hcell.out W3 hbW3
  have hwG := hb1.trans (hbW3.mono hb1.size)
  have hcel2 := Lib.hid (fun w' (h : Below W3.heap.size W3 w') => (⟨blk_below ka h, blk_below kb h, blk_below kc h, blk_below km h, blk_below kd h⟩ : _ ∧ _ ∧ _ ∧ _ ∧ _))
  have hkre := Lib.hid (fun w' (h : Below W3.heap.size W3 w') => (kre.below h).rd)
  have hvw := Lib.hid (fun w' (h : Below W3.heap.size W3 w') => hvW3.below h hvW3.lt)
  have hft := Lib.hid (fun w' (h : Below W3.heap.size W3 w') => hfit.out w' (hbW3.trans (h.mono hbW3.size)))
  have cA := Lib.hid (fun w' (h : Below W3.heap.size W3 w') => txcheck_any (1, 3) wkV false none 0 0 [] w' RdE.nil_ (by decide) (fun p hp => by cases hp) wkI_wf wkV_wf (hvw.out w' h))
  have cB := Lib.hid (fun w' (h : Below W3.heap.size W3 w') => txcheck_any (1, 3) wkU false none 0 0 [] w' RdE.nil_ (by decide) (fun p hp => by cases hp) wkI_wf wkU_wf (hvw.out w' h))
  have cC := Lib.hid (fun w' (h : Below W3.heap.size W3 w') => txcheck_any (1, 3) wkV false (some ⟨gr, 0, none⟩) 1 c2 [wkP] w' (hkre.out w' h) (by decide) (hft.out w' h) wkI_wf wkV_wf (hvw.out w' h))
  have cK := Lib.hid (fun w' (h : Below W3.heap.size W3 w') => txkeys_any (1, 3) wkV false (some ⟨gr, 0, none⟩) 1 c2 [wkP] w' (hkre.out w' h) (by decide))
  have cS := Lib.hid (fun y hy w' => txsees_any (1, 3) wkV false none 0 0 y w' hy)
  clear hcell hfit hv2 hb3 cM ccl cc0 cc1 cc2 cc3 cc4 cc5 cc6 cc7 cc8 cc9 cc10 cc11 hbW3 hvW3 kre
  have hB3 := Below.refl W3.heap.size W3
  have aal := blk_lt ka
  have aa0 := blk_cell ka 0
  have aa1 := blk_cell ka 1
  have aa2 := blk_cell ka 2
  have aa3 := blk_cell ka 3
  have aa4 := blk_cell ka 4
  have aa5 := blk_cell ka 5
  have aa6 := blk_cell ka 6
  have aa7 := blk_cell ka 7
  have aa8 := blk_cell ka 8
  have aa9 := blk_cell ka 9
  have aa10 := blk_cell ka 10
  have aa11 := blk_cell ka 11
  simp at aa0 aa1 aa2 aa3 aa4 aa5 aa6 aa7 aa8 aa9 aa10 aa11
  clear ka kb kc km kd
  go_wp2_with fail
  refine (cA.out W3 hB3).mono ?_
  rintro e v1 ⟨rfl, hv1⟩
  rw [show txErr (1, 3) wkV (List.map Pe.core []) = 0 from wk_a]
  clear aal aa0 aa1 aa2 aa3 aa4 aa5 aa6 aa7 aa8 aa9 aa10 aa11
  obtain ⟨ka, kb, kc, km, kd⟩ := hcel2.out v1 hv1
  have bbl := blk_lt kb
  have bb0 := blk_cell kb 0
  have bb1 := blk_cell kb 1
  have bb2 := blk_cell kb 2
  have bb3 := blk_cell kb 3
  have bb4 := blk_cell kb 4
  have bb5 := blk_cell kb 5
  have bb6 := blk_cell kb 6
  have bb7 := blk_cell kb 7
  have bb8 := blk_cell kb 8
  have bb9 := blk_cell kb 9
  have bb10 := blk_cell kb 10
  have bb11 := blk_cell kb 11
  simp at bb0 bb1 bb2 bb3 bb4 bb5 bb6 bb7 bb8 bb9 bb10 bb11
  clear ka kb kc km kd
  go_wp2_with fail
  refine (cB.out v1 hv1).mono ?_
  rintro e v2 ⟨rfl, hv2⟩
  rw [show txErr (1, 3) wkU (List.map Pe.core []) = 17 from wk_b]
  have hB2 := hv1.trans (hv2.mono hv1.size)
  clear bbl bb0 bb1 bb2 bb3 bb4 bb5 bb6 bb7 bb8 bb9 bb10 bb11 hv1 hv2
  obtain ⟨ka, kb, kc, km, kd⟩ := hcel2.out v2 hB2
  have ccl := blk_lt kc
  have cc0 := blk_cell kc 0
  have cc1 := blk_cell kc 1
  have cc2 := blk_cell kc 2
  have cc3 := blk_cell kc 3
  have cc4 := blk_cell kc 4
  have cc5 := blk_cell kc 5
  have cc6 := blk_cell kc 6
  have cc7 := blk_cell kc 7
  have cc8 := blk_cell kc 8
  have cc9 := blk_cell kc 9
  have cc10 := blk_cell kc 10
  have cc11 := blk_cell kc 11
  simp at cc0 cc1 cc2 cc3 cc4 cc5 cc6 cc7 cc8 cc9 cc10 cc11
  clear ka kb kc km kd
  go_wp2_with fail
  refine (cC.out v2 hB2).mono ?_
  rintro e v3 ⟨rfl, hv3⟩
  rw [show txErr (1, 3) wkV (List.map Pe.core [wkP]) = 0 from wk_c]
  have hB4 := hB2.trans (hv3.mono hB2.size)
  clear ccl cc0 cc1 cc2 cc3 cc4 cc5 cc6 cc7 cc8 cc9 cc10 cc11 hv3
  obtain ⟨ka, kb, kc, km, kd⟩ := hcel2.out v3 hB4
  have ccl := blk_lt kc
  have cc0 := blk_cell kc 0
  have cc1 := blk_cell kc 1
  have cc2 := blk_cell kc 2
  have cc3 := blk_cell kc 3
  have cc4 := blk_cell kc 4
  have cc5 := blk_cell kc 5
  have cc6 := blk_cell kc 6
  have cc7 := blk_cell kc 7
  have cc8 := blk_cell kc 8
  have cc9 := blk_cell kc 9
  have cc10 := blk_cell kc 10
  have cc11 := blk_cell kc 11
  simp at cc0 cc1 cc2 cc3 cc4 cc5 cc6 cc7 cc8 cc9 cc10 cc11
  have ddl := blk_lt kd
  have dd0 := blk_cell kd 0
  have dd1 := blk_cell kd 1
  have dd2 := blk_cell kd 2
  have dd3 := blk_cell kd 3
  have dd4 := blk_cell kd 4
  have dd5 := blk_cell kd 5
  have dd6 := blk_cell kd 6
  have dd7 := blk_cell kd 7
  have dd8 := blk_cell kd 8
  have dd9 := blk_cell kd 9
  have dd10 := blk_cell kd 10
  have dd11 := blk_cell kd 11
  simp at dd0 dd1 dd2 dd3 dd4 dd5 dd6 dd7 dd8 dd9 dd10 dd11
  have mml := blk_lt km
  have mm0 := blk_cell km 0
  have mm1 := blk_cell km 1
  have mm2 := blk_cell km 2
  have mm3 := blk_cell km 3
  have mm4 := blk_cell km 4
  have mm5 := blk_cell km 5
  have mm6 := blk_cell km 6
  have mm7 := blk_cell km 7
  have mm8 := blk_cell km 8
  have mm9 := blk_cell km 9
  have mm10 := blk_cell km 10
  have mm11 := blk_cell km 11
  simp at mm0 mm1 mm2 mm3 mm4 mm5 mm6 mm7 mm8 mm9 mm10 mm11
  clear ka kb kc km kd
  go_wp2_with fail
  refine (cK.out v3 hB4).mono ?_
  rintro e v4 ⟨T6, t6, c6, rfl, o6, hv4⟩
  obtain rfl : t6 = 1 := by have h1 := o6.rd.2.1; have h2 := wk_keys; simp at h1; exact h1.symm.trans h2
  have hB5 := hB4.trans (hv4.mono hB4.size)
  clear ccl cc0 cc1 cc2 cc3 cc4 cc5 cc6 cc7 cc8 cc9 cc10 cc11 ddl dd0 dd1 dd2 dd3 dd4 dd5 dd6 dd7 dd8 dd9 dd10 dd11 mml mm0 mm1 mm2 mm3 mm4 mm5 mm6 mm7 mm8 mm9 mm10 mm11 o6 hv4
  obtain ⟨ka, kb, kc, km, kd⟩ := hcel2.out v4 hB5
  have aal := blk_lt ka
  have aa0 := blk_cell ka 0
  have aa1 := blk_cell ka 1
  have aa2 := blk_cell ka 2
  have aa3 := blk_cell ka 3
  have aa4 := blk_cell ka 4
  have aa5 := blk_cell ka 5
  have aa6 := blk_cell ka 6
  have aa7 := blk_cell ka 7
  have aa8 := blk_cell ka 8
  have aa9 := blk_cell ka 9
  have aa10 := blk_cell ka 10
  have aa11 := blk_cell ka 11
  simp at aa0 aa1 aa2 aa3 aa4 aa5 aa6 aa7 aa8 aa9 aa10 aa11
  clear ka kb kc km kd
  go_wp2_with fail
  refine (cS.out (1, 2) (by unfold Im.wf; decide) _).mono ?_
  rintro e v5 ⟨rfl, hv5⟩
  rw [wk_s1]
  have hB6 := hB5.trans (hv5.mono hB5.size)
  clear aal aa0 aa1 aa2 aa3 aa4 aa5 aa6 aa7 aa8 aa9 aa10 aa11 hv5
  obtain ⟨ka, kb, kc, km, kd⟩ := hcel2.out v5 hB6
  have aal := blk_lt ka
  have aa0 := blk_cell ka 0
  have aa1 := blk_cell ka 1
  have aa2 := blk_cell ka 2
  have aa3 := blk_cell ka 3
  have aa4 := blk_cell ka 4
  have aa5 := blk_cell ka 5
  have aa6 := blk_cell ka 6
  have aa7 := blk_cell ka 7
  have aa8 := blk_cell ka 8
  have aa9 := blk_cell ka 9
  have aa10 := blk_cell ka 10
  have aa11 := blk_cell ka 11
  simp at aa0 aa1 aa2 aa3 aa4 aa5 aa6 aa7 aa8 aa9 aa10 aa11
  clear ka kb kc km kd
  go_wp2_with fail
  refine (cS.out (1, 4) (by unfold Im.wf; decide) _).mono ?_
  rintro e v6 ⟨rfl, hv6⟩
  rw [wk_s2]
  have hB7 := hB6.trans (hv6.mono hB6.size)
  have hG := hwG.trans (hB7.mono hwG.size)
  go_wp2
  go_ret
  exact ⟨rfl, hG⟩
end Go.Proofs.YtpolplmniaoikaaGreatDoor
