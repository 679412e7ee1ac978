/- The document's Put of sets. -/
import Derived.Test.YtadldndmmobpdaaOtJ
import Derived.Test.YtadldndmmobpdaaOtI
namespace Go.Proofs.Ytadldndmmobpdaa
open Go.RowKit

theorem blk_cells4 {w : World} {g : Nat} {a b c d : Value} {t : TypeId} (h : w.heap[g]? = some (.cells #[a, b, c, d] t (0, 0))) :
    g < w.heap.size ∧ w.cell? ⟨g, 0, none⟩ = some a ∧ w.cell? ⟨g, 1, none⟩ = some b ∧ w.cell? ⟨g, 2, none⟩ = some c ∧ w.cell? ⟨g, 3, none⟩ = some d := ⟨blk_lt h, blk_cell h 0, blk_cell h 1, blk_cell h 2, blk_cell h 3⟩
set_option maxRecDepth 100000 in
set_option maxHeartbeats 8000000 in
theorem roput_any (A : Option Addr) (n c : Nat) (L : List Am) (B : Option Addr) (m d : Nat) (gs : List Tm) (a : Am) (w : World) (hA : RdA w w.heap.size A n L) (hB : RdT w w.heap.size B m gs) (hn : n ≤ 100000) (hm : m ≤ 100000) (hx : ∀ a ∈ L, a.wf) (hg : ∀ t ∈ gs, t.wf) (hl : ∀ a ∈ L, a.2.length ≤ maxLen) (ha : a.wf) (hal : a.2.length ≤ maxLen) (hnc : n ≤ c) (hcm : c ≤ maxLen) (hmd : m ≤ d) (hdm : d ≤ maxLen) :
    Calls Try.prog 39 #[.agg #[.slice A n c, .slice B m d], .agg #[.int .i64 a.1.1.1, .int .u32 a.1.1.2, .int .i64 a.1.2, .string (bs a.2)]] w (PostO w (putO L gs a).1 (putO L gs a).2) := by
  have hb0 : Below w.heap.size w (((w.alloc (.cells #[.slice A n c, .slice B m d] 25)).alloc (.cells #[.int .i64 a.1.1.1, .int .u32 a.1.1.2, .int .i64 a.1.2, .string (bs a.2)] 81)).alloc (.cells #[.slice none 0 0, .slice none 0 0] 25)) := (((Below.refl _ w).alloc (Nat.le_refl _) _).alloc (by simp) _).alloc (by simp; omega) _
  have hbx : (((w.alloc (.cells #[.slice A n c, .slice B m d] 25)).alloc (.cells #[.int .i64 a.1.1.1, .int .u32 a.1.1.2, .int .i64 a.1.2, .string (bs a.2)] 81)).alloc (.cells #[.slice none 0 0, .slice none 0 0] 25)).heap[w.heap.size]? = some (.cells #[.slice A n c, .slice B m d] 25 (0, 0)) := heap_old _ (by simp; omega) (heap_old _ (by simp) (heap_at _ _ rfl))
  have hba : (((w.alloc (.cells #[.slice A n c, .slice B m d] 25)).alloc (.cells #[.int .i64 a.1.1.1, .int .u32 a.1.1.2, .int .i64 a.1.2, .string (bs a.2)] 81)).alloc (.cells #[.slice none 0 0, .slice none 0 0] 25)).heap[w.heap.size + 1]? = some (.cells #[.int .i64 a.1.1.1, .int .u32 a.1.1.2, .int .i64 a.1.2, .string (bs a.2)] 81 (0, 0)) := heap_old _ (by simp) (heap_at _ _ (by simp))
  have hbr : (((w.alloc (.cells #[.slice A n c, .slice B m d] 25)).alloc (.cells #[.int .i64 a.1.1.1, .int .u32 a.1.1.2, .int .i64 a.1.2, .string (bs a.2)] 81)).alloc (.cells #[.slice none 0 0, .slice none 0 0] 25)).heap[w.heap.size + 1 + 1]? = some (.cells #[.slice none 0 0, .slice none 0 0] 25 (0, 0)) := heap_at _ _ (by simp)
  generalize hW : (((w.alloc (.cells #[.slice A n c, .slice B m d] 25)).alloc (.cells #[.int .i64 a.1.1.1, .int .u32 a.1.1.2, .int .i64 a.1.2, .string (bs a.2)] 81)).alloc (.cells #[.slice none 0 0, .slice none 0 0] 25)) = W at hb0 hbx hba hbr
  have hbxH := Lib.hid hbx
  have hbaH := Lib.hid hba
  have hbrH := Lib.hid hbr
  have hltx := blk_lt hbx
  have hlta := blk_lt hba
  have hltr := blk_lt hbr
  have s0 := blk_cell hbx 0
  have s1 := blk_cell hbx 1
  have r0 := blk_cell hbr 0
  have r1 := blk_cell hbr 1
  simp at s0 s1 r0 r1
  have hfr := blk_frozen hbr
  have hck := Lib.hid (rocheck_any A n c L B m d gs W ((hA.below hb0).more hb0.size) ((hB.below hb0).more hb0.size) (by first | omega | (simp [maxLen]; omega)) (by first | omega | (simp [maxLen]; omega)) hx hg hl)
  have hnt := Lib.hid (rchkt_any a.1 ha)
  have hel := Lib.hid (relem_any a.2 hal)
  generalize hr : putO L gs a = out
  unfold putO at hr
  have hxl := hA.len
  rw [hxl] at hr
  generalize hpe : oErr L gs = p at hck hr
  by_cases hp : p = 0
  case neg =>
    rw [if_pos hp] at hr
    subst hr
    have hpn : (p != 0) = true := by simpa using hp
    clear hpe hp hbx hbr hA hB hba
    go_enter Try.func39, Try.ntmps39
    go_wp2_with fail
    refine hck.out.mono ?_
    rintro e w1 ⟨rfl, hv1⟩
    have hG := hb0.trans (hv1.mono hb0.size)
    have hr1 := blk_below hbrH.out hv1
    have hlr1 := blk_lt hr1
    clear r0 r1 hfr
    have r0 := blk_cell hr1 0
    have r1 := blk_cell hr1 1
    have hfr := blk_frozen hr1
    simp at r0 r1
    have hGs : Below w.heap.size w ((w1.setCell ⟨w.heap.size + 1 + 1, 0, none⟩ (.slice none 0 0)).setCell ⟨w.heap.size + 1 + 1, 1, none⟩ (.slice none 0 0)) := (hG.setCell (by dsimp only; omega) _).setCell (by dsimp only; omega) _
    go_wp2
    exact bodyPost_ret (v := .tuple #[.agg #[.slice none 0 0, .slice none 0 0], .int .i64 p]) (by simp [results, Try.results39, go_sem, r0, r1]) rfl (PostO.nil_ hGs)
  subst hp
  rw [if_neg (by simp)] at hr
  obtain ⟨hn4, hm4, _, _, hascA, hasc, _⟩ := sErr_zero.1 hpe
  rw [List.length_map, hA.len] at hn4
  rw [hB.len] at hm4
  have herr : ∀ b, errI b = if b = true then 0 else 2 := fun b => by cases b <;> rfl
  rw [herr] at hnt
  cases hc1 : chkT a.1
  case false =>
    rw [hc1] at hnt hr
    rw [if_pos rfl] at hr
    rw [if_neg (by simp)] at hnt
    subst hr
    clear hpe hbx hbr hA hB hasc hascA hba
    go_enter Try.func39, Try.ntmps39
    go_wp2_with fail
    refine hck.out.mono ?_
    rintro e w1 ⟨rfl, hv1⟩
    have hG1 := hb0.trans (hv1.mono hb0.size)
    have ha1 := blk_below hbaH.out hv1
    have a0 := blk_cell ha1 0
    have a1 := blk_cell ha1 1
    have a2 := blk_cell ha1 2
    have a3 := blk_cell ha1 3
    simp at a0 a1 a2 a3
    have hlta := blk_lt ha1
    go_wp2_with fail
    refine (hnt.out _).mono ?_
    rintro e w2 ⟨rfl, hv2⟩
    have hG := hG1.trans (hv2.mono hG1.size)
    have hr1 := blk_below (blk_below hbrH.out hv1) hv2
    have hlr1 := blk_lt hr1
    clear r0 r1 hfr
    have r0 := blk_cell hr1 0
    have r1 := blk_cell hr1 1
    have hfr := blk_frozen hr1
    simp at r0 r1
    have hGs : Below w.heap.size w ((w2.setCell ⟨w.heap.size + 1 + 1, 0, none⟩ (.slice none 0 0)).setCell ⟨w.heap.size + 1 + 1, 1, none⟩ (.slice none 0 0)) := (hG.setCell (by dsimp only; omega) _).setCell (by dsimp only; omega) _
    go_wp2
    exact bodyPost_ret (v := .tuple #[.agg #[.slice none 0 0, .slice none 0 0], .int .i64 2]) (by simp [results, Try.results39, go_sem, r0, r1]) rfl (PostO.nil_ hGs)
  rw [hc1] at hnt hr
  rw [if_neg (by simp)] at hr
  rw [if_pos rfl] at hnt
  cases he1 : elemB a.2
  case false =>
    rw [he1] at hel hr
    rw [if_pos rfl] at hr
    subst hr
    clear hpe hbx hbr hA hB hasc hascA hba
    go_enter Try.func39, Try.ntmps39
    go_wp2_with fail
    refine hck.out.mono ?_
    rintro e w1 ⟨rfl, hv1⟩
    have hG1 := hb0.trans (hv1.mono hb0.size)
    have ha1 := blk_below hbaH.out hv1
    have a0 := blk_cell ha1 0
    have a1 := blk_cell ha1 1
    have a2 := blk_cell ha1 2
    have a3 := blk_cell ha1 3
    simp at a0 a1 a2 a3
    have hlta := blk_lt ha1
    go_wp2_with fail
    refine (hnt.out _).mono ?_
    rintro e w2 ⟨rfl, hv2⟩
    have hG := hG1.trans (hv2.mono hG1.size)
    have ha2 := blk_below ha1 hv2
    clear a0 a1 a2 a3 hlta
    have a0 := blk_cell ha2 0
    have a1 := blk_cell ha2 1
    have a2 := blk_cell ha2 2
    have a3 := blk_cell ha2 3
    simp at a0 a1 a2 a3
    have hlta := blk_lt ha2
    go_wp2_with fail
    refine (hel.out _).mono ?_
    rintro e w3 ⟨rfl, rfl⟩
    have hr1 := blk_below (blk_below hbrH.out hv1) hv2
    have hlr1 := blk_lt hr1
    clear r0 r1 hfr
    have r0 := blk_cell hr1 0
    have r1 := blk_cell hr1 1
    have hfr := blk_frozen hr1
    simp at r0 r1
    have hGs : Below w.heap.size w ((w2.setCell ⟨w.heap.size + 1 + 1, 0, none⟩ (.slice none 0 0)).setCell ⟨w.heap.size + 1 + 1, 1, none⟩ (.slice none 0 0)) := (hG.setCell (by dsimp only; omega) _).setCell (by dsimp only; omega) _
    go_wp2
    exact bodyPost_ret (v := .tuple #[.agg #[.slice none 0 0, .slice none 0 0], .int .i64 3]) (by simp [results, Try.results39, go_sem, r0, r1]) rfl (PostO.nil_ hGs)
  rw [he1] at hel hr
  rw [if_neg (by simp)] at hr
  have hAr := Lib.hid (fun w' (h : Below w.heap.size w w') => hA.below h)
  have hBr := Lib.hid (fun w' (h : Below w.heap.size w w') => hB.below h)
  have hxH := Lib.hid hx
  have cg := Lib.hid (fun w' (h : Below w.heap.size w w') => hastag_any B m d gs a.1 w' ((hB.below h).more h.size) (by simp [maxLen]; omega))
  have ct := Lib.hid (fun w' (h : Below w.heap.size w w') => rtags_any A n c L w' ((hA.below h).more h.size) hn)
  have ch := Lib.hid (fun T c' w' (h : RdT w' w'.heap.size T n (L.map Prod.fst)) => hastag_any T n c' (L.map Prod.fst) a.1 w' h (by simp [maxLen]; omega))
  have hPl := posT_le (L.map Prod.fst) a.1
  rw [List.length_map, hxl] at hPl
  have hbf := Lib.hid (fun (i : Nat) (x : Tm) (h : (L.map Prod.fst)[i]? = some x) => ascT_before hascA (t := a.1) h)
  have hins : Hid (insK Prod.fst L a = L.take (posT (L.map Prod.fst) a.1) ++ a :: L.drop (posT (L.map Prod.fst) a.1)) := Lib.hid rfl
  have hcmp := Lib.hid (fun (x : Am) (hxm : x.wf) => rcmpt_any x.1 a.1 hxm ha)
  generalize posT (L.map Prod.fst) a.1 = P at hPl hins hbf
  generalize insK Prod.fst L a = I at hr hins
  generalize (L.map Prod.fst).contains a.1 = b at ch hr
  generalize gs.contains a.1 = q at cg hr
  have hrH := Lib.hid hr
  have hxlH := Lib.hid hxl
  have hzW := hb0.size
  have hcm2 : c ≤ 9223372036854775807 := by simpa [maxLen] using hcm
  have hdm2 := Lib.hid hdm
  have hcm3 := Lib.hid hcm
  clear hpe hbx hba hbr hA hB hx hg hl hasc hascA hr hxl ha hal hcm hdm herr hc1 he1
  go_enter Try.func39, Try.ntmps39
  go_wp2_with fail
  refine hck.out.mono ?_
  rintro e w1 ⟨rfl, hv1⟩
  have hG1 := hb0.trans (hv1.mono hb0.size)
  have ha1 := blk_below hbaH.out hv1
  have a0 := blk_cell ha1 0
  have a1 := blk_cell ha1 1
  have a2 := blk_cell ha1 2
  have a3 := blk_cell ha1 3
  simp at a0 a1 a2 a3
  have hlta := blk_lt ha1
  go_wp2_with fail
  refine (hnt.out _).mono ?_
  rintro e w2 ⟨rfl, hv2⟩
  have hG2 := hG1.trans (hv2.mono hG1.size)
  have ha2 := blk_below ha1 hv2
  clear a0 a1 a2 a3 hlta
  have a0 := blk_cell ha2 0
  have a1 := blk_cell ha2 1
  have a2 := blk_cell ha2 2
  have a3 := blk_cell ha2 3
  simp at a0 a1 a2 a3
  have hlta := blk_lt ha2
  go_wp2_with fail
  refine (hel.out _).mono ?_
  rintro e w3 ⟨rfl, rfl⟩
  have hs2 := blk_below (blk_below hbxH.out hv1) hv2
  have hr2 := blk_below (blk_below hbrH.out hv1) hv2
  clear r0 r1 hfr s0 s1 hltx hltr hck hnt hel hbxH hbaH hbrH
  have hltx := blk_lt hs2
  have s0 := blk_cell hs2 0
  have s1 := blk_cell hs2 1
  simp at s0 s1
  have hltr := blk_lt hr2
  have hsH := Lib.hid hs2
  have hrbH := Lib.hid hr2
  have haH := Lib.hid ha2
  have hz2 := hG2.size
  clear hs2 hr2 ha2 ha1 hv1 hv2
  go_upto_region 8 with (fail)
  go_cut [28] (fun sa wx => sa = .bool (b || q) ∧ Below w2.heap.size w2 wx)
  case first =>
    refine wp_region_M (fun w' => KQ w2.heap.size w2 w') (fun _ => True) 99 (by kernel_rfl) (kq (Below.refl _ _).drew) trivial ?_
    intro hcl
    have hC : KQ w2.heap.size w2 w2.drew := kq (Below.refl _ _).drew
    have hE := trivial
    (refine wpM_take (i := 0) (v := ?_) rfl (by kernel_rfl) (by kernel_rfl) (by kernel_rfl) (by decide) (fun _ _ _ h => h) hcl hC (fun _ => hE) (Or.inl ⟨by rfl, ?_⟩) ?_; rotate_left; (· (intro w hSw; (try dsimp only at hSw); go_simp; (try with_reducible rfl))); clear hcl; intro hcl; (try simp only [Act.put, List.getElem_toArray, List.getElem_cons_zero, List.getElem_cons_succ, List.setIfInBounds_toArray, List.set_cons_zero, List.set_cons_succ]))
    (refine wpM_take (i := 1) (v := ?_) rfl (by kernel_rfl) (by kernel_rfl) (by kernel_rfl) (by decide) (fun _ _ _ h => h) hcl hC (fun _ => hE) (Or.inl ⟨by rfl, ?_⟩) ?_; rotate_left; (· (intro w hSw; (try dsimp only at hSw); go_simp; (try with_reducible rfl))); clear hcl; intro hcl; (try simp only [Act.put, List.getElem_toArray, List.getElem_cons_zero, List.getElem_cons_succ, List.setIfInBounds_toArray, List.set_cons_zero, List.set_cons_succ]))
    (refine wpM_take (i := 2) (v := ?_) rfl (by kernel_rfl) (by kernel_rfl) (by kernel_rfl) (by decide) (fun _ _ _ h => h) hcl hC (fun _ => hE) (Or.inl ⟨by rfl, ?_⟩) ?_; rotate_left; (· (intro w hSw; (try dsimp only at hSw); go_simp; (try with_reducible rfl))); clear hcl; intro hcl; (try simp only [Act.put, List.getElem_toArray, List.getElem_cons_zero, List.getElem_cons_succ, List.setIfInBounds_toArray, List.set_cons_zero, List.set_cons_succ]))
    (refine wpM_take (i := 3) (v := ?_) rfl (by kernel_rfl) (by kernel_rfl) (by kernel_rfl) (by decide) (fun _ _ _ h => h) hcl hC (fun _ => hE) (Or.inl ⟨by rfl, ?_⟩) ?_; rotate_left; (· (intro w hSw; (try dsimp only at hSw); go_simp; (try with_reducible rfl))); clear hcl; intro hcl; (try simp only [Act.put, List.getElem_toArray, List.getElem_cons_zero, List.getElem_cons_succ, List.setIfInBounds_toArray, List.set_cons_zero, List.set_cons_succ]))
    refine wpM_only (i := 4) rfl (by kernel_rfl) hcl (fun K hK => ?_)
    go_simp
    refine (cg.out w2.drew hG2.drew).mono ?_
    rintro e v1 ⟨rfl, hb1⟩
    have hC1 : KQ w2.heap.size w2 v1 := kq_call hC (Nat.le_refl _) hb1
    refine hK.out _ _ hC1 trivial ?_
    clear hK K
    clear hcl
    intro hcl
    (try simp only [Act.put, List.getElem_toArray, List.getElem_cons_zero, List.getElem_cons_succ, List.setIfInBounds_toArray, List.set_cons_zero, List.set_cons_succ])
    clear hC
    have hC := hC1
    cases q
    case true =>
      (refine wpM_take (i := 5) (v := ?_) rfl (by kernel_rfl) (by kernel_rfl) (by kernel_rfl) (by decide) (fun _ _ _ h => h) hcl hC (fun _ => hE) (Or.inl ⟨by rfl, ?_⟩) ?_; rotate_left; (· (intro w hSw; (try dsimp only at hSw); go_simp; (try with_reducible rfl))); clear hcl; intro hcl; (try simp only [Act.put, List.getElem_toArray, List.getElem_cons_zero, List.getElem_cons_succ, List.setIfInBounds_toArray, List.set_cons_zero, List.set_cons_succ]))
      (refine wpM_take (i := 6) (v := undef) rfl (by kernel_rfl) (by kernel_rfl) (by kernel_rfl) (by decide) (fun _ _ _ h => h) hcl hC (fun _ => hE) (Or.inr ⟨by rfl, rfl⟩) ?_; clear hcl; intro hcl; (try simp only [Act.put, List.getElem_toArray, List.getElem_cons_zero, List.getElem_cons_succ, List.setIfInBounds_toArray, List.set_cons_zero, List.set_cons_succ]))
      (refine wpM_take (i := 7) (v := undef) rfl (by kernel_rfl) (by kernel_rfl) (by kernel_rfl) (by decide) (fun _ _ _ h => h) hcl hC (fun _ => hE) (Or.inr ⟨by rfl, rfl⟩) ?_; clear hcl; intro hcl; (try simp only [Act.put, List.getElem_toArray, List.getElem_cons_zero, List.getElem_cons_succ, List.setIfInBounds_toArray, List.set_cons_zero, List.set_cons_succ]))
      (refine wpM_take (i := 8) (v := undef) rfl (by kernel_rfl) (by kernel_rfl) (by kernel_rfl) (by decide) (fun _ _ _ h => h) hcl hC (fun _ => hE) (Or.inr ⟨by rfl, rfl⟩) ?_; clear hcl; intro hcl; (try simp only [Act.put, List.getElem_toArray, List.getElem_cons_zero, List.getElem_cons_succ, List.setIfInBounds_toArray, List.set_cons_zero, List.set_cons_succ]))
      (refine wpM_take (i := 9) (v := undef) rfl (by kernel_rfl) (by kernel_rfl) (by kernel_rfl) (by decide) (fun _ _ _ h => h) hcl hC (fun _ => hE) (Or.inr ⟨by rfl, rfl⟩) ?_; clear hcl; intro hcl; (try simp only [Act.put, List.getElem_toArray, List.getElem_cons_zero, List.getElem_cons_succ, List.setIfInBounds_toArray, List.set_cons_zero, List.set_cons_succ]))
      (refine wpM_take (i := 10) (v := undef) rfl (by kernel_rfl) (by kernel_rfl) (by kernel_rfl) (by decide) (fun _ _ _ h => h) hcl hC (fun _ => hE) (Or.inr ⟨by rfl, rfl⟩) ?_; clear hcl; intro hcl; (try simp only [Act.put, List.getElem_toArray, List.getElem_cons_zero, List.getElem_cons_succ, List.setIfInBounds_toArray, List.set_cons_zero, List.set_cons_succ]))
      (refine wpM_take (i := 11) (v := undef) rfl (by kernel_rfl) (by kernel_rfl) (by kernel_rfl) (by decide) (fun _ _ _ h => h) hcl hC (fun _ => hE) (Or.inr ⟨by rfl, rfl⟩) ?_; clear hcl; intro hcl; (try simp only [Act.put, List.getElem_toArray, List.getElem_cons_zero, List.getElem_cons_succ, List.setIfInBounds_toArray, List.set_cons_zero, List.set_cons_succ]))
      (refine wpM_take (i := 12) (v := ?_) rfl (by kernel_rfl) (by kernel_rfl) (by kernel_rfl) (by decide) (fun _ _ _ h => h) hcl hC (fun _ => hE) (Or.inl ⟨by rfl, ?_⟩) ?_; rotate_left; (· (intro w hSw; (try dsimp only at hSw); go_simp; (try with_reducible rfl))); clear hcl; intro hcl; (try simp only [Act.put, List.getElem_toArray, List.getElem_cons_zero, List.getElem_cons_succ, List.setIfInBounds_toArray, List.set_cons_zero, List.set_cons_succ]))
      (refine wpM_take (i := 13) (v := ?_) rfl (by kernel_rfl) (by kernel_rfl) (by kernel_rfl) (by decide) (fun _ _ _ h => h) hcl hC (fun _ => hE) (Or.inl ⟨by rfl, ?_⟩) ?_; rotate_left; (· (intro w hSw; (try dsimp only at hSw); go_simp; (try with_reducible rfl))); clear hcl; intro hcl; (try simp only [Act.put, List.getElem_toArray, List.getElem_cons_zero, List.getElem_cons_succ, List.setIfInBounds_toArray, List.set_cons_zero, List.set_cons_succ]))
      refine wpM_done (by kernel_rfl) ?_
      clear hcl
      try simp only [Act.put, List.getElem_toArray, List.getElem_cons_zero, List.getElem_cons_succ, List.setIfInBounds_toArray, List.set_cons_zero, List.set_cons_succ]
      have hkH := Lib.hid hC1.1
      go_wp2_with fail
      go_meet
      exact ⟨by simp, hkH.out⟩
    case false =>
      (refine wpM_take (i := 5) (v := ?_) rfl (by kernel_rfl) (by kernel_rfl) (by kernel_rfl) (by decide) (fun _ _ _ h => h) hcl hC (fun _ => hE) (Or.inl ⟨by rfl, ?_⟩) ?_; rotate_left; (· (intro w hSw; (try dsimp only at hSw); go_simp; (try with_reducible rfl))); clear hcl; intro hcl; (try simp only [Act.put, List.getElem_toArray, List.getElem_cons_zero, List.getElem_cons_succ, List.setIfInBounds_toArray, List.set_cons_zero, List.set_cons_succ]))
      (refine wpM_take (i := 6) (v := ?_) rfl (by kernel_rfl) (by kernel_rfl) (by kernel_rfl) (by decide) (fun _ _ _ h => h) hcl hC (fun _ => hE) (Or.inl ⟨by rfl, ?_⟩) ?_; rotate_left; (· (intro w hSw; (try dsimp only at hSw); go_simp; (try with_reducible rfl))); clear hcl; intro hcl; (try simp only [Act.put, List.getElem_toArray, List.getElem_cons_zero, List.getElem_cons_succ, List.setIfInBounds_toArray, List.set_cons_zero, List.set_cons_succ]))
      (refine wpM_take (i := 7) (v := ?_) rfl (by kernel_rfl) (by kernel_rfl) (by kernel_rfl) (by decide) (fun _ _ _ h => h) hcl hC (fun _ => hE) (Or.inl ⟨by rfl, ?_⟩) ?_; rotate_left; (· (intro w hSw; (try dsimp only at hSw); go_simp; (try with_reducible rfl))); clear hcl; intro hcl; (try simp only [Act.put, List.getElem_toArray, List.getElem_cons_zero, List.getElem_cons_succ, List.setIfInBounds_toArray, List.set_cons_zero, List.set_cons_succ]))
      (refine wpM_take (i := 9) (v := ?_) rfl (by kernel_rfl) (by kernel_rfl) (by kernel_rfl) (by decide) (fun _ _ _ h => h) hcl hC (fun _ => hE) (Or.inl ⟨by rfl, ?_⟩) ?_; rotate_left; (· (intro w hSw; (try dsimp only at hSw); go_simp; (try with_reducible rfl))); clear hcl; intro hcl; (try simp only [Act.put, List.getElem_toArray, List.getElem_cons_zero, List.getElem_cons_succ, List.setIfInBounds_toArray, List.set_cons_zero, List.set_cons_succ]))
      (refine wpM_take (i := 10) (v := ?_) rfl (by kernel_rfl) (by kernel_rfl) (by kernel_rfl) (by decide) (fun _ _ _ h => h) hcl hC (fun _ => hE) (Or.inl ⟨by rfl, ?_⟩) ?_; rotate_left; (· (intro w hSw; (try dsimp only at hSw); go_simp; (try with_reducible rfl))); clear hcl; intro hcl; (try simp only [Act.put, List.getElem_toArray, List.getElem_cons_zero, List.getElem_cons_succ, List.setIfInBounds_toArray, List.set_cons_zero, List.set_cons_succ]))
      refine wpM_only (i := 8) rfl (by kernel_rfl) hcl (fun K hK => ?_)
      go_simp
      refine (ct.out v1 (hG2.trans (hC1.1.mono hz2))).mono ?_
      rintro e v2 ⟨T, c', rfl, oT, hb2⟩
      have hC2 : KQ w2.heap.size w2 v2 := kq_call hC (Nat.le_refl _) hb2
      refine hK.out _ _ hC2 trivial ?_
      clear hK K
      clear hcl
      intro hcl
      (try simp only [Act.put, List.getElem_toArray, List.getElem_cons_zero, List.getElem_cons_succ, List.setIfInBounds_toArray, List.set_cons_zero, List.set_cons_succ])
      clear hC
      have hC := hC2
      refine wpM_only (i := 11) rfl (by kernel_rfl) hcl (fun K hK => ?_)
      go_simp
      refine (ch.out T c' v2 oT.rd.1).mono ?_
      rintro e v3 ⟨rfl, hb3⟩
      have hC3 : KQ w2.heap.size w2 v3 := kq_call hC (Nat.le_refl _) hb3
      refine hK.out _ _ hC3 trivial ?_
      clear hK K
      clear hcl
      intro hcl
      (try simp only [Act.put, List.getElem_toArray, List.getElem_cons_zero, List.getElem_cons_succ, List.setIfInBounds_toArray, List.set_cons_zero, List.set_cons_succ])
      clear hC
      have hC := hC3
      (refine wpM_take (i := 12) (v := ?_) rfl (by kernel_rfl) (by kernel_rfl) (by kernel_rfl) (by decide) (fun _ _ _ h => h) hcl hC (fun _ => hE) (Or.inl ⟨by rfl, ?_⟩) ?_; rotate_left; (· (intro w hSw; (try dsimp only at hSw); go_simp; (try with_reducible rfl))); clear hcl; intro hcl; (try simp only [Act.put, List.getElem_toArray, List.getElem_cons_zero, List.getElem_cons_succ, List.setIfInBounds_toArray, List.set_cons_zero, List.set_cons_succ]))
      (refine wpM_take (i := 13) (v := ?_) rfl (by kernel_rfl) (by kernel_rfl) (by kernel_rfl) (by decide) (fun _ _ _ h => h) hcl hC (fun _ => hE) (Or.inl ⟨by rfl, ?_⟩) ?_; rotate_left; (· (intro w hSw; (try dsimp only at hSw); go_simp; (try with_reducible rfl))); clear hcl; intro hcl; (try simp only [Act.put, List.getElem_toArray, List.getElem_cons_zero, List.getElem_cons_succ, List.setIfInBounds_toArray, List.set_cons_zero, List.set_cons_succ]))
      refine wpM_done (by kernel_rfl) ?_
      clear hcl
      try simp only [Act.put, List.getElem_toArray, List.getElem_cons_zero, List.getElem_cons_succ, List.setIfInBounds_toArray, List.set_cons_zero, List.set_cons_succ]
      have hkH := Lib.hid hC3.1
      go_wp2_with fail
      go_meet
      exact ⟨by simp, hkH.out⟩
  case rest =>
    obtain ⟨rfl, hB9⟩ := hcut
    obtain ⟨w5, hw5⟩ : ∃ w5, w5 = wc := ⟨_, rfl⟩
    obtain rfl := hw5
    have hG5 : Below w.heap.size w w5 := hG2.trans (hB9.mono hz2)
    have hs5 := blk_below hsH.out hB9
    have hr5 := blk_below hrbH.out hB9
    have ha5 := blk_below haH.out hB9
    have hz5 := hB9.size
    clear s0 s1 hltx a0 a1 a2 a3 hlta hltr cg ct ch
    cases hbq : (b || q)
    case true =>
      have hr := hrH.out
      rw [if_pos hbq] at hr
      subst hr
      have hltx := blk_lt hs5
      have s0 := blk_cell hs5 0
      have s1 := blk_cell hs5 1
      simp at s0 s1
      have hltr := blk_lt hr5
      have r0 := blk_cell hr5 0
      have r1 := blk_cell hr5 1
      simp at r0 r1
      have hfr := blk_frozen hr5
      have hGs : Below w.heap.size w ((w5.setCell ⟨w.heap.size + 1 + 1, 0, none⟩ (.slice A n c)).setCell ⟨w.heap.size + 1 + 1, 1, none⟩ (.slice B m d)) := (hG5.setCell (by dsimp only; omega) _).setCell (by dsimp only; omega) _
      have e1 := Lib.hid (RdA.more (hAr.out _ hGs) hGs.size)
      have e2 := Lib.hid (RdT.more (hBr.out _ hGs) hGs.size)
      clear hbq hrH
      go_wp2
      exact bodyPost_ret (v := .tuple #[.agg #[.slice A n c, .slice B m d], .int .i64 0]) (by simp [results, Try.results39, go_sem, r0, r1]) rfl ⟨A, n, c, B, m, d, rfl, e1.out, e2.out, by omega, by omega, hnc, hcm3.out, hmd, hdm2.out, hGs⟩
    case false =>
      have hr := hrH.out
      rw [if_neg (by rw [hbq]; simp)] at hr
      clear hbq hrH
      have hltx := blk_lt hs5
      have s0 := blk_cell hs5 0
      have s1 := blk_cell hs5 1
      simp at s0 s1
      by_cases hn0 : n = 4096
      · rw [if_pos hn0] at hr
        subst hr
        have hnd : ((n : Int) == 4096) = true := by rw [beq_iff_eq]; omega
        have hnd2 : (n : Int) = 4096 := by omega
        clear hn0
        have hltr := blk_lt hr5
        have r0 := blk_cell hr5 0
        have r1 := blk_cell hr5 1
        have hfr := blk_frozen hr5
        simp at r0 r1
        have hGs : Below w.heap.size w ((w5.setCell ⟨w.heap.size + 1 + 1, 0, none⟩ (.slice none 0 0)).setCell ⟨w.heap.size + 1 + 1, 1, none⟩ (.slice none 0 0)) := (hG5.setCell (by dsimp only; omega) _).setCell (by dsimp only; omega) _
        go_wp2
        exact bodyPost_ret (v := .tuple #[.agg #[.slice none 0 0, .slice none 0 0], .int .i64 4]) (by simp [results, Try.results39, go_sem, r0, r1]) rfl (PostO.nil_ hGs)
      rw [if_neg hn0] at hr
      have hnd : ((n : Int) == 4096) = false := by rw [beq_eq_false_iff_ne]; omega
      have hnd2 : ¬ (n : Int) = 4096 := by omega
      have hrH := Lib.hid hr
      have hsH := Lib.hid hs5
      have haH := Lib.hid ha5
      have hrbH := Lib.hid hr5
      clear hr hs5 ha5 hr5 hn0
      go_wp2_with fail
      clear s0 s1 hltx
      go_loopg [7] (n + 1) (fun g i wr => ∃ k : Nat, k ≤ P ∧ g = n + 1 - k ∧ i = .int .i64 (k : Int) ∧ Below w5.heap.size w5 wr)
      case atStart => exact ⟨0, Nat.zero_le _, rfl, rfl, Below.refl _ _⟩
      case round =>
        obtain ⟨k, hkP, rfl, rfl, hbr⟩ := hrel
        have hz := hbr.size
        have hGr := hG5.trans (hbr.mono hG5.size)
        have hsr := blk_below hsH.out hbr
        have har := blk_below haH.out hbr
        have hltx := blk_lt hsr
        have s0 := blk_cell hsr 0
        have s1 := blk_cell hsr 1
        simp at s0 s1
        have a0 := blk_cell har 0
        have a1 := blk_cell har 1
        have a2 := blk_cell har 2
        have a3 := blk_cell har 3
        simp at a0 a1 a2 a3
        have hlta := blk_lt har
        have hsrH := Lib.hid hsr
        have harH := Lib.hid har
        clear hsr har
        have hq0 : KQ wr.heap.size wr wr := kq (Below.refl _ _)
        by_cases hkn : k < n
        · obtain ⟨bT, oT, y, rfl, hbT, hy, hcy⟩ := (hAr.out wr hGr).at_ hkn
          have y0 := hcy 0 _ rfl
          have y1 := hcy 1 _ rfl
          have y2 := hcy 2 _ rfl
          have y3 := hcy 3 _ rfl
          rw [Nat.add_zero] at y0
          have hbT3 : bT < wr.heap.size := by omega
          have hkni : (k : Int) < (n : Int) := by omega
          have hknd : decide ((k : Int) < (n : Int)) = true := decide_eq_true hkni
          have cu := Lib.hid (hcmp.out y (hxH.out y (List.mem_of_getElem? hy)))
          have hbk := Lib.hid (hbf.out k y.1 (by rw [List.getElem?_map, hy]; rfl))
          clear hcy hy
          by_cases hkP2 : k < P
          · have hcd : decide (cmpT y.1 a.1 < 0) = true := decide_eq_true (hbk.out.2 hkP2)
            generalize cmpT y.1 a.1 = z at cu hbk hcd
            go_upto_region 13 with (fail)
            go_region_held3 (fun w' => KQ wr.heap.size wr w') (first
      | with_reducible exact kq_call (by assumption) (by simp) (by assumption)
      | with_reducible exact kq_alloc (by with_reducible assumption) (Nat.le_refl _) _
      | with_reducible exact kq_alloc (kq_drew (by assumption)) (Nat.le_refl _) _
      | ((with_reducible refine kq ?_); (repeat (first | (with_reducible exact Below.refl _ _) | (with_reducible refine Below.drew ?_) | (with_reducible refine Below.alloc ?_ (by simp) _) | (with_reducible refine Below.setCell ?_ (by simp) _) | (with_reducible exact (by assumption : KQ _ _ _).1))); done))
              (first
                | (go_at_call 83; ((with_reducible refine (cu.out _).mono ?_); rintro e w6 ⟨rfl, hv6⟩)))
            have hF : KQ wr.heap.size wr w6 := by with_reducible assumption
            have hb2 := hbr.trans (hF.1.mono hz)
            go_wp2
            go_roundg (n + 1 - (k + 1))
            case measure => omega
            case rel => exact ⟨k + 1, by omega, rfl, by go_num, hb2⟩
          · obtain rfl : k = P := by omega
            have hcd : decide (cmpT y.1 a.1 < 0) = false := decide_eq_false (fun e => hkP2 (hbk.out.1 e))
            generalize cmpT y.1 a.1 = z at cu hbk hcd
            go_upto_region 13 with (fail)
            go_region_held3 (fun w' => KQ wr.heap.size wr w') (first
      | with_reducible exact kq_call (by assumption) (by simp) (by assumption)
      | with_reducible exact kq_alloc (by with_reducible assumption) (Nat.le_refl _) _
      | with_reducible exact kq_alloc (kq_drew (by assumption)) (Nat.le_refl _) _
      | ((with_reducible refine kq ?_); (repeat (first | (with_reducible exact Below.refl _ _) | (with_reducible refine Below.drew ?_) | (with_reducible refine Below.alloc ?_ (by simp) _) | (with_reducible refine Below.setCell ?_ (by simp) _) | (with_reducible exact (by assumption : KQ _ _ _).1))); done))
              (first
                | (go_at_call 83; ((with_reducible refine (cu.out _).mono ?_); rintro e wd ⟨rfl, hv6⟩)))
            have hF : KQ wr.heap.size wr wd := by with_reducible assumption
            have hb2 := hbr.trans (hF.1.mono hz)
            have hGW := hG5.trans (hb2.mono hG5.size)
            have hsW := Lib.hid (blk_below hsH.out hb2)
            have haW := Lib.hid (blk_below haH.out hb2)
            have hrW := Lib.hid (blk_below hrbH.out hb2)
            have hRd := hAr.out wd hGW
            have r1 : RdA wd wd.heap.size (some ⟨bT, oT, none⟩) k (L.take k) := by
              have := (Rd.front hRd (q := k) (by omega)).more hGW.size
              rw [← List.map_take] at this; exact this
            have r3 : RdA wd wd.heap.size (some ⟨bT, oT + k * 4, none⟩) (n - k) (L.drop k) := by
              have := (Rd.back hRd (q := k) (by omega)).more hGW.size
              rw [← List.map_drop] at this; exact this
            have r1H := Lib.hid r1
            have r3H := Lib.hid r3
            have hl5H : Hid (((L.take k).map Am.enc).length = k) := Lib.hid (by rw [List.length_map, List.length_take]; have := hxlH.out; omega)
            have hcq : (c == k) = false := by rw [beq_eq_false_iff_ne]; omega
            have hcq3 : ¬ k = c := by omega
            have hcq5 : ¬ c = k := by omega
            have hcq4 : (k : Int) ≤ (c : Int) := by omega
            have hkni2 : (k : Int) ≤ (n : Int) := by omega
            have hnci : (n : Int) ≤ (c : Int) := by omega
            have hsz5 : w.heap.size + 1 + 1 < wd.heap.size := blk_lt hrW.out
            have hs9 := hsW.out
            clear r1 r3 hRd hq0 hb2 hF a0 a1 a2 a3 hlta y0 y1 y2 y3 hbT3 s0 s1 hltx hsrH harH
            have hltx := blk_lt hs9
            have s0 := blk_cell hs9 0
            have s1 := blk_cell hs9 1
            simp at s0 s1
            clear hs9
            have e1H := Lib.hid (r1H.out.below ((Below.refl _ wd).alloc (Nat.le_refl _) (.cells #[] 81)))
            have e2H : Hid (0 + k ≤ maxLen ∧ (0 + k) * 40 ≤ 140737488355328 ∧ wd.heap.size ≤ (wd.alloc (.cells #[] 81)).heap.size) := Lib.hid ⟨by (simp [maxLen]; try omega), by (first | omega | decide | simp), by simp⟩
            go_upto_region 16 with ((at_builtin; refine wpList_append_rd _ rfl (.tmp 68) (.tmp 72) _ rfl eAddR (base := wd.heap.size) (v := .slice (some ⟨wd.heap.size, 0, none⟩) 0 0) (xs := []) rfl (Ow.made0 _ _ _ (Nat.le_refl _)) rfl e1H.out Am.len Am.one e2H.out.1 e2H.out.2.1 e2H.out.2.2 ?_; intro A5 n5 c5 w5 hn5 ho5 hg5 hat5; (obtain rfl : k = n5 := by rw [hn5]; simp); clear hn5 hat5; rw [List.nil_append] at ho5))
            have hb5 : Below wd.heap.size wd w5 := ((Below.refl _ wd).alloc (Nat.le_refl _) _).grown hg5 (by simp) (fun g e => by simp [Value.ownBlock] at e; omega)
            have hz5 := hb5.size
            obtain ⟨z1, z2, z3, z4, z5⟩ := blk_cells4 (blk_below haW.out hb5)
            have e3H := Lib.hid (ho5.below ((Below.refl _ w5).alloc (Nat.le_refl _) (.cells #[.int .i64 a.1.1.1, .int .u32 a.1.1.2, .int .i64 a.1.2, .string (bs a.2)] 81)))
            have e4H : Hid (((L.take k).map Am.enc).length + 1 ≤ maxLen ∧ (((L.take k).map Am.enc).length + 1) * 40 ≤ 140737488355328 ∧ wd.heap.size ≤ (w5.alloc (.cells #[.int .i64 a.1.1.1, .int .u32 a.1.1.2, .int .i64 a.1.2, .string (bs a.2)] 81)).heap.size) := Lib.hid ⟨by (rw [hl5H.out]; simp [maxLen]; try omega), by (rw [hl5H.out]; try omega), by (simp; omega)⟩
            have hlen1 : ∀ y ∈ ([[.int .i64 a.1.1.1, .int .u32 a.1.1.2, .int .i64 a.1.2, .string (bs a.2)]] : List (List Value)), y.length = 4 := by simp
            have hone1 : ∀ y ∈ ([[.int .i64 a.1.1.1, .int .u32 a.1.1.2, .int .i64 a.1.2, .string (bs a.2)]] : List (List Value)), ∀ v ∈ y, v.oneCell' = true := by simp [Value.oneCell']
            have hbk5 := ho5.block
            clear e1H e2H hg5 ho5
            go_upto_region 17 with ((at_builtin; refine wpList_append_rd _ rfl (.tmp 74) (.tmp 76) _ rfl eAddR (base := wd.heap.size) (v := .slice A5 k c5) (xs := (L.take k).map Am.enc) rfl e3H.out rfl (Rd.one' [.int .i64 a.1.1.1, .int .u32 a.1.1.2, .int .i64 a.1.2, .string (bs a.2)] rfl) hlen1 hone1 e4H.out.1 e4H.out.2.1 e4H.out.2.2 ?_; intro A6 n6 c6 w6 hn6 ho6 hg6 hat6; (obtain rfl : n6 = k + 1 := by rw [hn6, hl5H.out]); clear hn6 hat6))
            have hb6 : Below wd.heap.size wd w6 := (hb5.trans (((Below.refl _ w5).alloc (Nat.le_refl _) _).mono hz5)).grown hg6 (by simp; omega) (fun g e => (hbk5 g e).1)
            have hz6 := hb6.size
            have hl6 : ((L.take k).map Am.enc ++ [([.int .i64 a.1.1.1, .int .u32 a.1.1.2, .int .i64 a.1.2, .string (bs a.2)] : List Value)]).length = k + 1 := by rw [List.length_append, hl5H.out]; rfl
            have e5H : Hid (((L.take k).map Am.enc ++ [([.int .i64 a.1.1.1, .int .u32 a.1.1.2, .int .i64 a.1.2, .string (bs a.2)] : List Value)]).length + (n - k) ≤ maxLen ∧ (((L.take k).map Am.enc ++ [([.int .i64 a.1.1.1, .int .u32 a.1.1.2, .int .i64 a.1.2, .string (bs a.2)] : List Value)]).length + (n - k)) * 40 ≤ 140737488355328) := Lib.hid ⟨by (rw [hl6]; simp [maxLen]; try omega), by (rw [hl6]; try omega)⟩
            have e6H := Lib.hid (r3H.out.below hb6)
            have hbk6 := ho6.block
            have hl6H := Lib.hid hl6
            clear e3H e4H hg6 hl6
            have hb6w : Below w.heap.size w w6 := hGW.trans (hb6.mono hGW.size)
            have hs6 := blk_below hsW.out hb6
            have hr6 := blk_below hrW.out hb6
            have hltx := blk_lt hs6
            have s0 := blk_cell hs6 0
            have s1 := blk_cell hs6 1
            simp at s0 s1
            have hr6H := Lib.hid hr6
            have hs6H := Lib.hid hs6
            clear hs6 hr6
            have hzw6 := hb6.size
            refine wp_region_M (fun w' => KQ (w.heap.size + 1 + 1) w6 w') (fun _ => True) 99 (by kernel_rfl) (kq (Below.refl _ _).drew |>.1 |> kq) trivial ?_
            intro hcl
            have hC : KQ (w.heap.size + 1 + 1) w6 w6.drew := kq (Below.refl _ _).drew
            have hE := trivial
            (refine wpM_take (i := 0) (v := ?_) rfl (by kernel_rfl) (by kernel_rfl) (by kernel_rfl) (by decide) (fun _ _ _ h => h) hcl hC (fun _ => hE) (Or.inl ⟨by rfl, ?_⟩) ?_; rotate_left; (· (intro w hSw; (try dsimp only at hSw); go_simp; (try with_reducible rfl))); clear hcl; intro hcl; (try simp only [Act.put, List.getElem_toArray, List.getElem_cons_zero, List.getElem_cons_succ, List.setIfInBounds_toArray, List.set_cons_zero, List.set_cons_succ]))
            (refine wpM_take (i := 1) (v := ?_) rfl (by kernel_rfl) (by kernel_rfl) (by kernel_rfl) (by decide) (fun _ _ _ h => h) hcl hC (fun _ => hE) (Or.inl ⟨by rfl, ?_⟩) ?_; rotate_left; (· (intro w hSw; (try dsimp only at hSw); go_simp; (try with_reducible rfl))); clear hcl; intro hcl; (try simp only [Act.put, List.getElem_toArray, List.getElem_cons_zero, List.getElem_cons_succ, List.setIfInBounds_toArray, List.set_cons_zero, List.set_cons_succ]))
            (refine wpM_take (i := 2) (v := ?_) rfl (by kernel_rfl) (by kernel_rfl) (by kernel_rfl) (by decide) (fun _ _ _ h => h) hcl hC (fun _ => hE) (Or.inl ⟨by rfl, ?_⟩) ?_; rotate_left; (· (intro w hSw; (try dsimp only at hSw); go_simp; (try with_reducible rfl))); clear hcl; intro hcl; (try simp only [Act.put, List.getElem_toArray, List.getElem_cons_zero, List.getElem_cons_succ, List.setIfInBounds_toArray, List.set_cons_zero, List.set_cons_succ]))
            (refine wpM_take (i := 3) (v := ?_) rfl (by kernel_rfl) (by kernel_rfl) (by kernel_rfl) (by decide) (fun _ _ _ h => h) hcl hC (fun _ => hE) (Or.inl ⟨by rfl, ?_⟩) ?_; rotate_left; (· (intro w hSw; (try dsimp only at hSw); go_simp; (try with_reducible rfl))); clear hcl; intro hcl; (try simp only [Act.put, List.getElem_toArray, List.getElem_cons_zero, List.getElem_cons_succ, List.setIfInBounds_toArray, List.set_cons_zero, List.set_cons_succ]))
            (refine wpM_take (i := 4) (v := ?_) rfl (by kernel_rfl) (by kernel_rfl) (by kernel_rfl) (by decide) (fun _ _ _ h => h) hcl hC (fun _ => hE) (Or.inl ⟨by rfl, ?_⟩) ?_; rotate_left; (· (intro w hSw; (try dsimp only at hSw); go_simp; (try with_reducible rfl))); clear hcl; intro hcl; (try simp only [Act.put, List.getElem_toArray, List.getElem_cons_zero, List.getElem_cons_succ, List.setIfInBounds_toArray, List.set_cons_zero, List.set_cons_succ]))
            (refine wpM_take (i := 6) (v := ?_) rfl (by kernel_rfl) (by kernel_rfl) (by kernel_rfl) (by decide) (fun _ _ _ h => h) hcl hC (fun _ => hE) (Or.inl ⟨by rfl, ?_⟩) ?_; rotate_left; (· (intro w hSw; (try dsimp only at hSw); go_simp; (try with_reducible rfl))); clear hcl; intro hcl; (try simp only [Act.put, List.getElem_toArray, List.getElem_cons_zero, List.getElem_cons_succ, List.setIfInBounds_toArray, List.set_cons_zero, List.set_cons_succ]))
            (refine wpM_take (i := 7) (v := ?_) rfl (by kernel_rfl) (by kernel_rfl) (by kernel_rfl) (by decide) (fun _ _ _ h => h) hcl hC (fun _ => hE) (Or.inl ⟨by rfl, ?_⟩) ?_; rotate_left; (· (intro w hSw; (try dsimp only at hSw); go_simp; (try with_reducible rfl))); clear hcl; intro hcl; (try simp only [Act.put, List.getElem_toArray, List.getElem_cons_zero, List.getElem_cons_succ, List.setIfInBounds_toArray, List.set_cons_zero, List.set_cons_succ]))
            refine wpM_only (i := 5) rfl (by kernel_rfl) hcl (fun K hK => ?_)
            refine step_append_rd _ rfl (.tmp 78) (.tmp 82) _ rfl eAddR (base := wd.heap.size) (v := .slice A6 (k + 1) c6) (xs := (L.take k).map Am.enc ++ [([.int .i64 a.1.1.1, .int .u32 a.1.1.2, .int .i64 a.1.2, .string (bs a.2)] : List Value)]) rfl (ho6.below (Below.refl _ _).drew) rfl (e6H.out.below (Below.refl _ _).drew) Am.len Am.one e5H.out.1 e5H.out.2 hz6 ?_
            intro A7 n7 c7 w7 hn7 ho7 hg7 hat7
            obtain rfl : n7 = k + 1 + (n - k) := by rw [hn7, hl6H.out]
            clear hn7 hat7
            have hC7 : KQ (w.heap.size + 1 + 1) w6 w7 := kq_grown hC (by omega) hg7 (fun g e => by have := (hbk6 g e).1; omega)
            have hr7 : w7.heap[w.heap.size + 1 + 1]? = some (.cells #[.slice none 0 0, .slice none 0 0] 25 (0, 0)) := (hg7.block _ (blk_lt hr6H.out) (fun e => by have := (hbk6 _ e.symm).1; omega)).trans hr6H.out
            have hG7 : Below w.heap.size w w7 := (hb6w.drew).grown hg7 (by simp; omega) (fun g e => by have := (hbk6 g e).1; omega)
            have hr7H := Lib.hid hr7
            have hlr7 := blk_lt hr7
            have r0 := blk_cell hr7 0
            have r1 := blk_cell hr7 1
            simp at r0 r1
            have hfr7 := blk_frozen hr7
            clear hr7
            refine hK.out _ _ hC7 trivial ?_
            clear hK K
            clear hcl
            intro hcl
            (try simp only [Act.put, List.getElem_toArray, List.getElem_cons_zero, List.getElem_cons_succ, List.setIfInBounds_toArray, List.set_cons_zero, List.set_cons_succ])
            clear hC
            have hC := hC7
            (refine wpM_take (i := 8) (v := ?_) rfl (by kernel_rfl) (by kernel_rfl) (by kernel_rfl) (by decide) (fun _ _ _ h => h) hcl hC (fun _ => hE) (Or.inl ⟨by rfl, ?_⟩) ?_; rotate_left; (· (intro w hSw; (try dsimp only at hSw); go_simp; (try with_reducible rfl))); clear hcl; intro hcl; (try simp only [Act.put, List.getElem_toArray, List.getElem_cons_zero, List.getElem_cons_succ, List.setIfInBounds_toArray, List.set_cons_zero, List.set_cons_succ]))
            refine wpM_only (i := 9) rfl (by kernel_rfl) hcl (fun K hK => ?_)
            go_simp
            have hC8 : KQ (w.heap.size + 1 + 1) w6 ((w7.setCell ⟨w.heap.size + 1 + 1, 0, none⟩ (.slice A7 (k + 1 + (n - k)) c7)).setCell ⟨w.heap.size + 1 + 1, 1, none⟩ (.slice B m d)) := kq_set (kq_set hC (by dsimp only; omega) _) (by dsimp only; omega) _
            refine hK.out _ _ hC8 trivial ?_
            clear hK K
            clear hcl
            intro hcl
            (try simp only [Act.put, List.getElem_toArray, List.getElem_cons_zero, List.getElem_cons_succ, List.setIfInBounds_toArray, List.set_cons_zero, List.set_cons_succ])
            clear hC
            have hC := hC8
            (refine wpM_take (i := 10) (v := ?_) rfl (by kernel_rfl) (by kernel_rfl) (by kernel_rfl) (by decide) (fun _ _ _ h => h) hcl hC (fun _ => hE) (Or.inl ⟨by rfl, ?_⟩) ?_; rotate_left; (· (intro w hSw; (try dsimp only at hSw); go_simp; (try with_reducible rfl))); clear hcl; intro hcl; (try simp only [Act.put, List.getElem_toArray, List.getElem_cons_zero, List.getElem_cons_succ, List.setIfInBounds_toArray, List.set_cons_zero, List.set_cons_succ]))
            refine wpM_done (by kernel_rfl) ?_
            clear hcl
            try simp only [Act.put, List.getElem_toArray, List.getElem_cons_zero, List.getElem_cons_succ, List.setIfInBounds_toArray, List.set_cons_zero, List.set_cons_succ]
            clear hC hC8 hC7 hE s0 s1
            go_wp2
            have hGs : Below w.heap.size w ((w7.setCell ⟨w.heap.size + 1 + 1, 0, none⟩ (.slice A7 (k + 1 + (n - k)) c7)).setCell ⟨w.heap.size + 1 + 1, 1, none⟩ (.slice B m d)) := (hG7.setCell (by dsimp only; omega) _).setCell (by dsimp only; omega) _
            have hr := hrH.out
            subst hr
            have ho8 := (ho7.set_blk hr7H.out (by decide) 0 (.slice A7 (k + 1 + (n - k)) c7)).set_blk (blk_set hr7H.out 0 _) (by decide) 1 (.slice B m d)
            have e7 : (L.take k).map Am.enc ++ [([.int .i64 a.1.1.1, .int .u32 a.1.1.2, .int .i64 a.1.2, .string (bs a.2)] : List Value)] ++ (L.drop k).map Am.enc = I.map Am.enc := by rw [hins.out]; simp [Am.enc]
            rw [e7] at ho8
            exact bodyPost_ret (v := .tuple #[.agg #[.slice A7 (k + 1 + (n - k)) c7, .slice B m d], .int .i64 0]) (by simp [results, Try.results39, go_sem, r0, r1]) rfl ⟨A7, k + 1 + (n - k), c7, B, m, d, rfl, ho8.rd.1, RdT.more (hBr.out _ hGs) hGs.size, by omega, by omega, ho8.rd.2.2.1, ho8.rd.2.2.2, hmd, hdm2.out, hGs⟩
        · obtain rfl : k = P := by omega
          obtain rfl : k = n := by omega
          have hknd : decide ((k : Int) < (k : Int)) = false := decide_eq_false (by omega)
          have hl5H : Hid (((L.take k).map Am.enc).length = k) := Lib.hid (by rw [List.length_map, List.length_take]; have := hxlH.out; omega)
          have hLd : Hid (L.drop k = []) := Lib.hid (List.drop_eq_nil_of_le (by have := hxlH.out; omega))
          have r3A : ∀ (A : Option Addr) (wd : World), Hid (RdA wd wd.heap.size A 0 (L.drop k)) := fun A wd => Lib.hid (by rw [hLd.out]; exact ⟨rfl, fun h => absurd h (by decide)⟩)
          have r1A : ∀ wd : World, Below w.heap.size w wd → Hid (RdA wd wd.heap.size A k (L.take k)) := fun wd hb => Lib.hid (by
            rw [List.take_of_length_le (by have := hxlH.out; omega)]
            exact (hAr.out wd hb).more hb.size)
          have hcq4 : (k : Int) ≤ (c : Int) := by omega
          clear a0 a1 a2 a3 hlta
          go_upto_region 13 with (fail)
          refine wp_region_M (fun w' => KQ wr.heap.size wr w') (fun _ => True) 99 (by kernel_rfl) (kq (Below.refl _ _).drew) trivial ?_
          intro hcl
          have hC : KQ wr.heap.size wr wr.drew := kq (Below.refl _ _).drew
          have hE : True := trivial
          (refine wpM_take (i := 0) (v := ?_) rfl (by kernel_rfl) (by kernel_rfl) (by kernel_rfl) (by decide) (fun _ _ _ h => h) hcl hC (fun _ => hE) (Or.inl ⟨by rfl, ?_⟩) ?_; rotate_left; (· (intro w hSw; (try dsimp only at hSw); go_simp; (try with_reducible rfl))); clear hcl; intro hcl; (try simp only [Act.put, List.getElem_toArray, List.getElem_cons_zero, List.getElem_cons_succ, List.setIfInBounds_toArray, List.set_cons_zero, List.set_cons_succ]))
          (refine wpM_take (i := 1) (v := ?_) rfl (by kernel_rfl) (by kernel_rfl) (by kernel_rfl) (by decide) (fun _ _ _ h => h) hcl hC (fun _ => hE) (Or.inl ⟨by rfl, ?_⟩) ?_; rotate_left; (· (intro w hSw; (try dsimp only at hSw); go_simp; (try with_reducible rfl))); clear hcl; intro hcl; (try simp only [Act.put, List.getElem_toArray, List.getElem_cons_zero, List.getElem_cons_succ, List.setIfInBounds_toArray, List.set_cons_zero, List.set_cons_succ]))
          (refine wpM_take (i := 2) (v := ?_) rfl (by kernel_rfl) (by kernel_rfl) (by kernel_rfl) (by decide) (fun _ _ _ h => h) hcl hC (fun _ => hE) (Or.inl ⟨by rfl, ?_⟩) ?_; rotate_left; (· (intro w hSw; (try dsimp only at hSw); go_simp; (try with_reducible rfl))); clear hcl; intro hcl; (try simp only [Act.put, List.getElem_toArray, List.getElem_cons_zero, List.getElem_cons_succ, List.setIfInBounds_toArray, List.set_cons_zero, List.set_cons_succ]))
          (refine wpM_take (i := 3) (v := ?_) rfl (by kernel_rfl) (by kernel_rfl) (by kernel_rfl) (by decide) (fun _ _ _ h => h) hcl hC (fun _ => hE) (Or.inl ⟨by rfl, ?_⟩) ?_; rotate_left; (· (intro w hSw; (try dsimp only at hSw); go_simp; (try with_reducible rfl))); clear hcl; intro hcl; (try simp only [Act.put, List.getElem_toArray, List.getElem_cons_zero, List.getElem_cons_succ, List.setIfInBounds_toArray, List.set_cons_zero, List.set_cons_succ]))
          (refine wpM_take (i := 4) (v := ?_) rfl (by kernel_rfl) (by kernel_rfl) (by kernel_rfl) (by decide) (fun _ _ _ h => h) hcl hC (fun _ => hE) (Or.inl ⟨by rfl, ?_⟩) ?_; rotate_left; (· (intro w hSw; (try dsimp only at hSw); go_simp; (try with_reducible rfl))); clear hcl; intro hcl; (try simp only [Act.put, List.getElem_toArray, List.getElem_cons_zero, List.getElem_cons_succ, List.setIfInBounds_toArray, List.set_cons_zero, List.set_cons_succ]))
          (refine wpM_take (i := 5) (v := ?_) rfl (by kernel_rfl) (by kernel_rfl) (by kernel_rfl) (by decide) (fun _ _ _ h => h) hcl hC (fun _ => hE) (Or.inl ⟨by rfl, ?_⟩) ?_; rotate_left; (· (intro w hSw; (try dsimp only at hSw); go_simp; (try with_reducible rfl))); clear hcl; intro hcl; (try simp only [Act.put, List.getElem_toArray, List.getElem_cons_zero, List.getElem_cons_succ, List.setIfInBounds_toArray, List.set_cons_zero, List.set_cons_succ]))
          (refine wpM_take (i := 6) (v := undef) rfl (by kernel_rfl) (by kernel_rfl) (by kernel_rfl) (by decide) (fun _ _ _ h => h) hcl hC (fun _ => hE) (Or.inr ⟨by rfl, rfl⟩) ?_; clear hcl; intro hcl; (try simp only [Act.put, List.getElem_toArray, List.getElem_cons_zero, List.getElem_cons_succ, List.setIfInBounds_toArray, List.set_cons_zero, List.set_cons_succ]))
          (refine wpM_take (i := 7) (v := undef) rfl (by kernel_rfl) (by kernel_rfl) (by kernel_rfl) (by decide) (fun _ _ _ h => h) hcl hC (fun _ => hE) (Or.inr ⟨by rfl, rfl⟩) ?_; clear hcl; intro hcl; (try simp only [Act.put, List.getElem_toArray, List.getElem_cons_zero, List.getElem_cons_succ, List.setIfInBounds_toArray, List.set_cons_zero, List.set_cons_succ]))
          (refine wpM_take (i := 8) (v := undef) rfl (by kernel_rfl) (by kernel_rfl) (by kernel_rfl) (by decide) (fun _ _ _ h => h) hcl hC (fun _ => hE) (Or.inr ⟨by rfl, rfl⟩) ?_; clear hcl; intro hcl; (try simp only [Act.put, List.getElem_toArray, List.getElem_cons_zero, List.getElem_cons_succ, List.setIfInBounds_toArray, List.set_cons_zero, List.set_cons_succ]))
          (refine wpM_take (i := 9) (v := undef) rfl (by kernel_rfl) (by kernel_rfl) (by kernel_rfl) (by decide) (fun _ _ _ h => h) hcl hC (fun _ => hE) (Or.inr ⟨by rfl, rfl⟩) ?_; clear hcl; intro hcl; (try simp only [Act.put, List.getElem_toArray, List.getElem_cons_zero, List.getElem_cons_succ, List.setIfInBounds_toArray, List.set_cons_zero, List.set_cons_succ]))
          (refine wpM_take (i := 10) (v := undef) rfl (by kernel_rfl) (by kernel_rfl) (by kernel_rfl) (by decide) (fun _ _ _ h => h) hcl hC (fun _ => hE) (Or.inr ⟨by rfl, rfl⟩) ?_; clear hcl; intro hcl; (try simp only [Act.put, List.getElem_toArray, List.getElem_cons_zero, List.getElem_cons_succ, List.setIfInBounds_toArray, List.set_cons_zero, List.set_cons_succ]))
          (refine wpM_take (i := 11) (v := undef) rfl (by kernel_rfl) (by kernel_rfl) (by kernel_rfl) (by decide) (fun _ _ _ h => h) hcl hC (fun _ => hE) (Or.inr ⟨by rfl, rfl⟩) ?_; clear hcl; intro hcl; (try simp only [Act.put, List.getElem_toArray, List.getElem_cons_zero, List.getElem_cons_succ, List.setIfInBounds_toArray, List.set_cons_zero, List.set_cons_succ]))
          (refine wpM_take (i := 12) (v := undef) rfl (by kernel_rfl) (by kernel_rfl) (by kernel_rfl) (by decide) (fun _ _ _ h => h) hcl hC (fun _ => hE) (Or.inr ⟨by rfl, rfl⟩) ?_; clear hcl; intro hcl; (try simp only [Act.put, List.getElem_toArray, List.getElem_cons_zero, List.getElem_cons_succ, List.setIfInBounds_toArray, List.set_cons_zero, List.set_cons_succ]))
          (refine wpM_take (i := 13) (v := undef) rfl (by kernel_rfl) (by kernel_rfl) (by kernel_rfl) (by decide) (fun _ _ _ h => h) hcl hC (fun _ => hE) (Or.inr ⟨by rfl, rfl⟩) ?_; clear hcl; intro hcl; (try simp only [Act.put, List.getElem_toArray, List.getElem_cons_zero, List.getElem_cons_succ, List.setIfInBounds_toArray, List.set_cons_zero, List.set_cons_succ]))
          (refine wpM_take (i := 14) (v := undef) rfl (by kernel_rfl) (by kernel_rfl) (by kernel_rfl) (by decide) (fun _ _ _ h => h) hcl hC (fun _ => hE) (Or.inr ⟨by rfl, rfl⟩) ?_; clear hcl; intro hcl; (try simp only [Act.put, List.getElem_toArray, List.getElem_cons_zero, List.getElem_cons_succ, List.setIfInBounds_toArray, List.set_cons_zero, List.set_cons_succ]))
          (refine wpM_take (i := 15) (v := undef) rfl (by kernel_rfl) (by kernel_rfl) (by kernel_rfl) (by decide) (fun _ _ _ h => h) hcl hC (fun _ => hE) (Or.inr ⟨by rfl, rfl⟩) ?_; clear hcl; intro hcl; (try simp only [Act.put, List.getElem_toArray, List.getElem_cons_zero, List.getElem_cons_succ, List.setIfInBounds_toArray, List.set_cons_zero, List.set_cons_succ]))
          (refine wpM_take (i := 16) (v := ?_) rfl (by kernel_rfl) (by kernel_rfl) (by kernel_rfl) (by decide) (fun _ _ _ h => h) hcl hC (fun _ => hE) (Or.inl ⟨by rfl, ?_⟩) ?_; rotate_left; (· (intro w hSw; (try dsimp only at hSw); go_simp; (try with_reducible rfl))); clear hcl; intro hcl; (try simp only [Act.put, List.getElem_toArray, List.getElem_cons_zero, List.getElem_cons_succ, List.setIfInBounds_toArray, List.set_cons_zero, List.set_cons_succ]))
          refine wpM_done (by kernel_rfl) ?_
          clear hcl hC hE
          try simp only [Act.put, List.getElem_toArray, List.getElem_cons_zero, List.getElem_cons_succ, List.setIfInBounds_toArray, List.set_cons_zero, List.set_cons_succ]
          have hb2 : Below w5.heap.size w5 wr.drew := hbr.drew
          have hGW := hG5.trans (hb2.mono hG5.size)
          have hsW := Lib.hid (blk_below hsH.out hb2)
          have haW := Lib.hid (blk_below haH.out hb2)
          have hrW := Lib.hid (blk_below hrbH.out hb2)
          have r1H := r1A wr.drew hGW
          clear hq0 hknd hbr hGr hz r1A s0 s1 hltx hsrH harH
          generalize wr.drew = wd at *
          have hsz5 : w.heap.size + 1 + 1 < wd.heap.size := blk_lt hrW.out
          have hs9 := hsW.out
          have hltx := blk_lt hs9
          have s0 := blk_cell hs9 0
          have s1 := blk_cell hs9 1
          simp at s0 s1
          clear hs9
          cases A with
          | none =>
            obtain rfl : k = 0 := by
              rcases Nat.eq_zero_or_pos k with h | h
              · exact h
              · obtain ⟨_, _, _, he, _⟩ := (hAr.out w (Below.refl _ _)).at_ h
                cases he
            have r3H := r3A none wd
            clear r3A
            by_cases hd0 : c = 0
            · subst hd0
              have e1H := Lib.hid (r1H.out.below ((Below.refl _ wd).alloc (Nat.le_refl _) (.cells #[] 81)))
              have e2H : Hid (0 + 0 ≤ maxLen ∧ (0 + 0) * 40 ≤ 140737488355328 ∧ wd.heap.size ≤ (wd.alloc (.cells #[] 81)).heap.size) := Lib.hid ⟨by (simp [maxLen]; try omega), by (first | omega | decide | simp), by simp⟩
              go_upto_region 16 with ((at_builtin; refine wpList_append_rd _ rfl (.tmp 68) (.tmp 72) _ rfl eAddR (base := wd.heap.size) (v := .slice (some ⟨wd.heap.size, 0, none⟩) 0 0) (xs := []) rfl (Ow.made0 _ _ _ (Nat.le_refl _)) rfl e1H.out Am.len Am.one e2H.out.1 e2H.out.2.1 e2H.out.2.2 ?_; intro A5 n5 c5 w5 hn5 ho5 hg5 hat5; (obtain rfl : 0 = n5 := by rw [hn5]; simp); clear hn5 hat5; rw [List.nil_append] at ho5))
              have hb5 : Below wd.heap.size wd w5 := ((Below.refl _ wd).alloc (Nat.le_refl _) _).grown hg5 (by simp) (fun g e => by simp [Value.ownBlock] at e; omega)
              have hz5 := hb5.size
              obtain ⟨z1, z2, z3, z4, z5⟩ := blk_cells4 (blk_below haW.out hb5)
              have e3H := Lib.hid (ho5.below ((Below.refl _ w5).alloc (Nat.le_refl _) (.cells #[.int .i64 a.1.1.1, .int .u32 a.1.1.2, .int .i64 a.1.2, .string (bs a.2)] 81)))
              have e4H : Hid (((L.take 0).map Am.enc).length + 1 ≤ maxLen ∧ (((L.take 0).map Am.enc).length + 1) * 40 ≤ 140737488355328 ∧ wd.heap.size ≤ (w5.alloc (.cells #[.int .i64 a.1.1.1, .int .u32 a.1.1.2, .int .i64 a.1.2, .string (bs a.2)] 81)).heap.size) := Lib.hid ⟨by (rw [hl5H.out]; simp [maxLen]; try omega), by (rw [hl5H.out]; try omega), by (simp; omega)⟩
              have hlen1 : ∀ y ∈ ([[.int .i64 a.1.1.1, .int .u32 a.1.1.2, .int .i64 a.1.2, .string (bs a.2)]] : List (List Value)), y.length = 4 := by simp
              have hone1 : ∀ y ∈ ([[.int .i64 a.1.1.1, .int .u32 a.1.1.2, .int .i64 a.1.2, .string (bs a.2)]] : List (List Value)), ∀ v ∈ y, v.oneCell' = true := by simp [Value.oneCell']
              have hbk5 := ho5.block
              clear e1H e2H hg5 ho5
              go_upto_region 17 with ((at_builtin; refine wpList_append_rd _ rfl (.tmp 74) (.tmp 76) _ rfl eAddR (base := wd.heap.size) (v := .slice A5 0 c5) (xs := (L.take 0).map Am.enc) rfl e3H.out rfl (Rd.one' [.int .i64 a.1.1.1, .int .u32 a.1.1.2, .int .i64 a.1.2, .string (bs a.2)] rfl) hlen1 hone1 e4H.out.1 e4H.out.2.1 e4H.out.2.2 ?_; intro A6 n6 c6 w6 hn6 ho6 hg6 hat6; (obtain rfl : n6 = 0 + 1 := by rw [hn6, hl5H.out]); clear hn6 hat6))
              have hb6 : Below wd.heap.size wd w6 := (hb5.trans (((Below.refl _ w5).alloc (Nat.le_refl _) _).mono hz5)).grown hg6 (by simp; omega) (fun g e => (hbk5 g e).1)
              have hz6 := hb6.size
              have hl6 : ((L.take 0).map Am.enc ++ [([.int .i64 a.1.1.1, .int .u32 a.1.1.2, .int .i64 a.1.2, .string (bs a.2)] : List Value)]).length = 0 + 1 := by rw [List.length_append, hl5H.out]; rfl
              have e5H : Hid (((L.take 0).map Am.enc ++ [([.int .i64 a.1.1.1, .int .u32 a.1.1.2, .int .i64 a.1.2, .string (bs a.2)] : List Value)]).length + 0 ≤ maxLen ∧ (((L.take 0).map Am.enc ++ [([.int .i64 a.1.1.1, .int .u32 a.1.1.2, .int .i64 a.1.2, .string (bs a.2)] : List Value)]).length + 0) * 40 ≤ 140737488355328) := Lib.hid ⟨by (rw [hl6]; simp [maxLen]; try omega), by (rw [hl6]; try omega)⟩
              have e6H := Lib.hid (r3H.out.below hb6)
              have hbk6 := ho6.block
              have hl6H := Lib.hid hl6
              clear e3H e4H hg6 hl6
              have hb6w : Below w.heap.size w w6 := hGW.trans (hb6.mono hGW.size)
              have hs6 := blk_below hsW.out hb6
              have hr6 := blk_below hrW.out hb6
              have hltx := blk_lt hs6
              have s0 := blk_cell hs6 0
              have s1 := blk_cell hs6 1
              simp at s0 s1
              have hr6H := Lib.hid hr6
              have hs6H := Lib.hid hs6
              clear hs6 hr6
              have hzw6 := hb6.size
              refine wp_region_M (fun w' => KQ (w.heap.size + 1 + 1) w6 w') (fun _ => True) 99 (by kernel_rfl) (kq (Below.refl _ _).drew |>.1 |> kq) trivial ?_
              intro hcl
              have hC : KQ (w.heap.size + 1 + 1) w6 w6.drew := kq (Below.refl _ _).drew
              have hE := trivial
              (refine wpM_take (i := 0) (v := ?_) rfl (by kernel_rfl) (by kernel_rfl) (by kernel_rfl) (by decide) (fun _ _ _ h => h) hcl hC (fun _ => hE) (Or.inl ⟨by rfl, ?_⟩) ?_; rotate_left; (· (intro w hSw; (try dsimp only at hSw); go_simp; (try with_reducible rfl))); clear hcl; intro hcl; (try simp only [Act.put, List.getElem_toArray, List.getElem_cons_zero, List.getElem_cons_succ, List.setIfInBounds_toArray, List.set_cons_zero, List.set_cons_succ]))
              (refine wpM_take (i := 1) (v := ?_) rfl (by kernel_rfl) (by kernel_rfl) (by kernel_rfl) (by decide) (fun _ _ _ h => h) hcl hC (fun _ => hE) (Or.inl ⟨by rfl, ?_⟩) ?_; rotate_left; (· (intro w hSw; (try dsimp only at hSw); go_simp; (try with_reducible rfl))); clear hcl; intro hcl; (try simp only [Act.put, List.getElem_toArray, List.getElem_cons_zero, List.getElem_cons_succ, List.setIfInBounds_toArray, List.set_cons_zero, List.set_cons_succ]))
              (refine wpM_take (i := 2) (v := ?_) rfl (by kernel_rfl) (by kernel_rfl) (by kernel_rfl) (by decide) (fun _ _ _ h => h) hcl hC (fun _ => hE) (Or.inl ⟨by rfl, ?_⟩) ?_; rotate_left; (· (intro w hSw; (try dsimp only at hSw); go_simp; (try with_reducible rfl))); clear hcl; intro hcl; (try simp only [Act.put, List.getElem_toArray, List.getElem_cons_zero, List.getElem_cons_succ, List.setIfInBounds_toArray, List.set_cons_zero, List.set_cons_succ]))
              (refine wpM_take (i := 3) (v := ?_) rfl (by kernel_rfl) (by kernel_rfl) (by kernel_rfl) (by decide) (fun _ _ _ h => h) hcl hC (fun _ => hE) (Or.inl ⟨by rfl, ?_⟩) ?_; rotate_left; (· (intro w hSw; (try dsimp only at hSw); go_simp; (try with_reducible rfl))); clear hcl; intro hcl; (try simp only [Act.put, List.getElem_toArray, List.getElem_cons_zero, List.getElem_cons_succ, List.setIfInBounds_toArray, List.set_cons_zero, List.set_cons_succ]))
              (refine wpM_take (i := 4) (v := ?_) rfl (by kernel_rfl) (by kernel_rfl) (by kernel_rfl) (by decide) (fun _ _ _ h => h) hcl hC (fun _ => hE) (Or.inl ⟨by rfl, ?_⟩) ?_; rotate_left; (· (intro w hSw; (try dsimp only at hSw); go_simp; (try with_reducible rfl))); clear hcl; intro hcl; (try simp only [Act.put, List.getElem_toArray, List.getElem_cons_zero, List.getElem_cons_succ, List.setIfInBounds_toArray, List.set_cons_zero, List.set_cons_succ]))
              (refine wpM_take (i := 6) (v := ?_) rfl (by kernel_rfl) (by kernel_rfl) (by kernel_rfl) (by decide) (fun _ _ _ h => h) hcl hC (fun _ => hE) (Or.inl ⟨by rfl, ?_⟩) ?_; rotate_left; (· (intro w hSw; (try dsimp only at hSw); go_simp; (try with_reducible rfl))); clear hcl; intro hcl; (try simp only [Act.put, List.getElem_toArray, List.getElem_cons_zero, List.getElem_cons_succ, List.setIfInBounds_toArray, List.set_cons_zero, List.set_cons_succ]))
              (refine wpM_take (i := 7) (v := ?_) rfl (by kernel_rfl) (by kernel_rfl) (by kernel_rfl) (by decide) (fun _ _ _ h => h) hcl hC (fun _ => hE) (Or.inl ⟨by rfl, ?_⟩) ?_; rotate_left; (· (intro w hSw; (try dsimp only at hSw); go_simp; (try with_reducible rfl))); clear hcl; intro hcl; (try simp only [Act.put, List.getElem_toArray, List.getElem_cons_zero, List.getElem_cons_succ, List.setIfInBounds_toArray, List.set_cons_zero, List.set_cons_succ]))
              refine wpM_only (i := 5) rfl (by kernel_rfl) hcl (fun K hK => ?_)
              refine step_append_rd _ rfl (.tmp 78) (.tmp 82) _ rfl eAddR (base := wd.heap.size) (v := .slice A6 (0 + 1) c6) (xs := (L.take 0).map Am.enc ++ [([.int .i64 a.1.1.1, .int .u32 a.1.1.2, .int .i64 a.1.2, .string (bs a.2)] : List Value)]) rfl (ho6.below (Below.refl _ _).drew) rfl (e6H.out.below (Below.refl _ _).drew) Am.len Am.one e5H.out.1 e5H.out.2 hz6 ?_
              intro A7 n7 c7 w7 hn7 ho7 hg7 hat7
              obtain rfl : n7 = 0 + 1 + 0 := by rw [hn7, hl6H.out]
              clear hn7 hat7
              have hC7 : KQ (w.heap.size + 1 + 1) w6 w7 := kq_grown hC (by omega) hg7 (fun g e => by have := (hbk6 g e).1; omega)
              have hr7 : w7.heap[w.heap.size + 1 + 1]? = some (.cells #[.slice none 0 0, .slice none 0 0] 25 (0, 0)) := (hg7.block _ (blk_lt hr6H.out) (fun e => by have := (hbk6 _ e.symm).1; omega)).trans hr6H.out
              have hG7 : Below w.heap.size w w7 := (hb6w.drew).grown hg7 (by simp; omega) (fun g e => by have := (hbk6 g e).1; omega)
              have hr7H := Lib.hid hr7
              have hlr7 := blk_lt hr7
              have r0 := blk_cell hr7 0
              have r1 := blk_cell hr7 1
              simp at r0 r1
              have hfr7 := blk_frozen hr7
              clear hr7
              refine hK.out _ _ hC7 trivial ?_
              clear hK K
              clear hcl
              intro hcl
              (try simp only [Act.put, List.getElem_toArray, List.getElem_cons_zero, List.getElem_cons_succ, List.setIfInBounds_toArray, List.set_cons_zero, List.set_cons_succ])
              clear hC
              have hC := hC7
              (refine wpM_take (i := 8) (v := ?_) rfl (by kernel_rfl) (by kernel_rfl) (by kernel_rfl) (by decide) (fun _ _ _ h => h) hcl hC (fun _ => hE) (Or.inl ⟨by rfl, ?_⟩) ?_; rotate_left; (· (intro w hSw; (try dsimp only at hSw); go_simp; (try with_reducible rfl))); clear hcl; intro hcl; (try simp only [Act.put, List.getElem_toArray, List.getElem_cons_zero, List.getElem_cons_succ, List.setIfInBounds_toArray, List.set_cons_zero, List.set_cons_succ]))
              refine wpM_only (i := 9) rfl (by kernel_rfl) hcl (fun K hK => ?_)
              go_simp
              have hC8 : KQ (w.heap.size + 1 + 1) w6 ((w7.setCell ⟨w.heap.size + 1 + 1, 0, none⟩ (.slice A7 (0 + 1 + 0) c7)).setCell ⟨w.heap.size + 1 + 1, 1, none⟩ (.slice B m d)) := kq_set (kq_set hC (by dsimp only; omega) _) (by dsimp only; omega) _
              refine hK.out _ _ hC8 trivial ?_
              clear hK K
              clear hcl
              intro hcl
              (try simp only [Act.put, List.getElem_toArray, List.getElem_cons_zero, List.getElem_cons_succ, List.setIfInBounds_toArray, List.set_cons_zero, List.set_cons_succ])
              clear hC
              have hC := hC8
              (refine wpM_take (i := 10) (v := ?_) rfl (by kernel_rfl) (by kernel_rfl) (by kernel_rfl) (by decide) (fun _ _ _ h => h) hcl hC (fun _ => hE) (Or.inl ⟨by rfl, ?_⟩) ?_; rotate_left; (· (intro w hSw; (try dsimp only at hSw); go_simp; (try with_reducible rfl))); clear hcl; intro hcl; (try simp only [Act.put, List.getElem_toArray, List.getElem_cons_zero, List.getElem_cons_succ, List.setIfInBounds_toArray, List.set_cons_zero, List.set_cons_succ]))
              refine wpM_done (by kernel_rfl) ?_
              clear hcl
              try simp only [Act.put, List.getElem_toArray, List.getElem_cons_zero, List.getElem_cons_succ, List.setIfInBounds_toArray, List.set_cons_zero, List.set_cons_succ]
              clear hC hC8 hC7 hE s0 s1
              go_wp2
              have hGs : Below w.heap.size w ((w7.setCell ⟨w.heap.size + 1 + 1, 0, none⟩ (.slice A7 (0 + 1 + 0) c7)).setCell ⟨w.heap.size + 1 + 1, 1, none⟩ (.slice B m d)) := (hG7.setCell (by dsimp only; omega) _).setCell (by dsimp only; omega) _
              have hr := hrH.out
              subst hr
              have ho8 := (ho7.set_blk hr7H.out (by decide) 0 (.slice A7 (0 + 1 + 0) c7)).set_blk (blk_set hr7H.out 0 _) (by decide) 1 (.slice B m d)
              have e7 : (L.take 0).map Am.enc ++ [([.int .i64 a.1.1.1, .int .u32 a.1.1.2, .int .i64 a.1.2, .string (bs a.2)] : List Value)] ++ (L.drop 0).map Am.enc = I.map Am.enc := by rw [hins.out]; simp [Am.enc]
              rw [e7] at ho8
              exact bodyPost_ret (v := .tuple #[.agg #[.slice A7 (0 + 1 + 0) c7, .slice B m d], .int .i64 0]) (by simp [results, Try.results39, go_sem, r0, r1]) rfl ⟨A7, 0 + 1 + 0, c7, B, m, d, rfl, ho8.rd.1, RdT.more (hBr.out _ hGs) hGs.size, by omega, by omega, ho8.rd.2.2.1, ho8.rd.2.2.2, hmd, hdm2.out, hGs⟩
            · have hcq : (c == 0) = false := by rw [beq_eq_false_iff_ne]; omega
              have hcq3 : ¬ 0 = c := by omega
              have e1H := Lib.hid (r1H.out.below ((Below.refl _ wd).alloc (Nat.le_refl _) (.cells #[] 81)))
              have e2H : Hid (0 + 0 ≤ maxLen ∧ (0 + 0) * 40 ≤ 140737488355328 ∧ wd.heap.size ≤ (wd.alloc (.cells #[] 81)).heap.size) := Lib.hid ⟨by (simp [maxLen]; try omega), by (first | omega | decide | simp), by simp⟩
              go_upto_region 16 with ((at_builtin; refine wpList_append_rd _ rfl (.tmp 68) (.tmp 72) _ rfl eAddR (base := wd.heap.size) (v := .slice (some ⟨wd.heap.size, 0, none⟩) 0 0) (xs := []) rfl (Ow.made0 _ _ _ (Nat.le_refl _)) rfl e1H.out Am.len Am.one e2H.out.1 e2H.out.2.1 e2H.out.2.2 ?_; intro A5 n5 c5 w5 hn5 ho5 hg5 hat5; (obtain rfl : 0 = n5 := by rw [hn5]; simp); clear hn5 hat5; rw [List.nil_append] at ho5))
              have hb5 : Below wd.heap.size wd w5 := ((Below.refl _ wd).alloc (Nat.le_refl _) _).grown hg5 (by simp) (fun g e => by simp [Value.ownBlock] at e; omega)
              have hz5 := hb5.size
              obtain ⟨z1, z2, z3, z4, z5⟩ := blk_cells4 (blk_below haW.out hb5)
              have e3H := Lib.hid (ho5.below ((Below.refl _ w5).alloc (Nat.le_refl _) (.cells #[.int .i64 a.1.1.1, .int .u32 a.1.1.2, .int .i64 a.1.2, .string (bs a.2)] 81)))
              have e4H : Hid (((L.take 0).map Am.enc).length + 1 ≤ maxLen ∧ (((L.take 0).map Am.enc).length + 1) * 40 ≤ 140737488355328 ∧ wd.heap.size ≤ (w5.alloc (.cells #[.int .i64 a.1.1.1, .int .u32 a.1.1.2, .int .i64 a.1.2, .string (bs a.2)] 81)).heap.size) := Lib.hid ⟨by (rw [hl5H.out]; simp [maxLen]; try omega), by (rw [hl5H.out]; try omega), by (simp; omega)⟩
              have hlen1 : ∀ y ∈ ([[.int .i64 a.1.1.1, .int .u32 a.1.1.2, .int .i64 a.1.2, .string (bs a.2)]] : List (List Value)), y.length = 4 := by simp
              have hone1 : ∀ y ∈ ([[.int .i64 a.1.1.1, .int .u32 a.1.1.2, .int .i64 a.1.2, .string (bs a.2)]] : List (List Value)), ∀ v ∈ y, v.oneCell' = true := by simp [Value.oneCell']
              have hbk5 := ho5.block
              clear e1H e2H hg5 ho5
              go_upto_region 17 with ((at_builtin; refine wpList_append_rd _ rfl (.tmp 74) (.tmp 76) _ rfl eAddR (base := wd.heap.size) (v := .slice A5 0 c5) (xs := (L.take 0).map Am.enc) rfl e3H.out rfl (Rd.one' [.int .i64 a.1.1.1, .int .u32 a.1.1.2, .int .i64 a.1.2, .string (bs a.2)] rfl) hlen1 hone1 e4H.out.1 e4H.out.2.1 e4H.out.2.2 ?_; intro A6 n6 c6 w6 hn6 ho6 hg6 hat6; (obtain rfl : n6 = 0 + 1 := by rw [hn6, hl5H.out]); clear hn6 hat6))
              have hb6 : Below wd.heap.size wd w6 := (hb5.trans (((Below.refl _ w5).alloc (Nat.le_refl _) _).mono hz5)).grown hg6 (by simp; omega) (fun g e => (hbk5 g e).1)
              have hz6 := hb6.size
              have hl6 : ((L.take 0).map Am.enc ++ [([.int .i64 a.1.1.1, .int .u32 a.1.1.2, .int .i64 a.1.2, .string (bs a.2)] : List Value)]).length = 0 + 1 := by rw [List.length_append, hl5H.out]; rfl
              have e5H : Hid (((L.take 0).map Am.enc ++ [([.int .i64 a.1.1.1, .int .u32 a.1.1.2, .int .i64 a.1.2, .string (bs a.2)] : List Value)]).length + 0 ≤ maxLen ∧ (((L.take 0).map Am.enc ++ [([.int .i64 a.1.1.1, .int .u32 a.1.1.2, .int .i64 a.1.2, .string (bs a.2)] : List Value)]).length + 0) * 40 ≤ 140737488355328) := Lib.hid ⟨by (rw [hl6]; simp [maxLen]; try omega), by (rw [hl6]; try omega)⟩
              have e6H := Lib.hid (r3H.out.below hb6)
              have hbk6 := ho6.block
              have hl6H := Lib.hid hl6
              clear e3H e4H hg6 hl6
              have hb6w : Below w.heap.size w w6 := hGW.trans (hb6.mono hGW.size)
              have hs6 := blk_below hsW.out hb6
              have hr6 := blk_below hrW.out hb6
              have hltx := blk_lt hs6
              have s0 := blk_cell hs6 0
              have s1 := blk_cell hs6 1
              simp at s0 s1
              have hr6H := Lib.hid hr6
              have hs6H := Lib.hid hs6
              clear hs6 hr6
              have hzw6 := hb6.size
              refine wp_region_M (fun w' => KQ (w.heap.size + 1 + 1) w6 w') (fun _ => True) 99 (by kernel_rfl) (kq (Below.refl _ _).drew |>.1 |> kq) trivial ?_
              intro hcl
              have hC : KQ (w.heap.size + 1 + 1) w6 w6.drew := kq (Below.refl _ _).drew
              have hE := trivial
              (refine wpM_take (i := 0) (v := ?_) rfl (by kernel_rfl) (by kernel_rfl) (by kernel_rfl) (by decide) (fun _ _ _ h => h) hcl hC (fun _ => hE) (Or.inl ⟨by rfl, ?_⟩) ?_; rotate_left; (· (intro w hSw; (try dsimp only at hSw); go_simp; (try with_reducible rfl))); clear hcl; intro hcl; (try simp only [Act.put, List.getElem_toArray, List.getElem_cons_zero, List.getElem_cons_succ, List.setIfInBounds_toArray, List.set_cons_zero, List.set_cons_succ]))
              (refine wpM_take (i := 1) (v := ?_) rfl (by kernel_rfl) (by kernel_rfl) (by kernel_rfl) (by decide) (fun _ _ _ h => h) hcl hC (fun _ => hE) (Or.inl ⟨by rfl, ?_⟩) ?_; rotate_left; (· (intro w hSw; (try dsimp only at hSw); go_simp; (try with_reducible rfl))); clear hcl; intro hcl; (try simp only [Act.put, List.getElem_toArray, List.getElem_cons_zero, List.getElem_cons_succ, List.setIfInBounds_toArray, List.set_cons_zero, List.set_cons_succ]))
              (refine wpM_take (i := 2) (v := ?_) rfl (by kernel_rfl) (by kernel_rfl) (by kernel_rfl) (by decide) (fun _ _ _ h => h) hcl hC (fun _ => hE) (Or.inl ⟨by rfl, ?_⟩) ?_; rotate_left; (· (intro w hSw; (try dsimp only at hSw); go_simp; (try with_reducible rfl))); clear hcl; intro hcl; (try simp only [Act.put, List.getElem_toArray, List.getElem_cons_zero, List.getElem_cons_succ, List.setIfInBounds_toArray, List.set_cons_zero, List.set_cons_succ]))
              (refine wpM_take (i := 3) (v := ?_) rfl (by kernel_rfl) (by kernel_rfl) (by kernel_rfl) (by decide) (fun _ _ _ h => h) hcl hC (fun _ => hE) (Or.inl ⟨by rfl, ?_⟩) ?_; rotate_left; (· (intro w hSw; (try dsimp only at hSw); go_simp; (try with_reducible rfl))); clear hcl; intro hcl; (try simp only [Act.put, List.getElem_toArray, List.getElem_cons_zero, List.getElem_cons_succ, List.setIfInBounds_toArray, List.set_cons_zero, List.set_cons_succ]))
              (refine wpM_take (i := 4) (v := ?_) rfl (by kernel_rfl) (by kernel_rfl) (by kernel_rfl) (by decide) (fun _ _ _ h => h) hcl hC (fun _ => hE) (Or.inl ⟨by rfl, ?_⟩) ?_; rotate_left; (· (intro w hSw; (try dsimp only at hSw); go_simp; (try with_reducible rfl))); clear hcl; intro hcl; (try simp only [Act.put, List.getElem_toArray, List.getElem_cons_zero, List.getElem_cons_succ, List.setIfInBounds_toArray, List.set_cons_zero, List.set_cons_succ]))
              (refine wpM_take (i := 6) (v := ?_) rfl (by kernel_rfl) (by kernel_rfl) (by kernel_rfl) (by decide) (fun _ _ _ h => h) hcl hC (fun _ => hE) (Or.inl ⟨by rfl, ?_⟩) ?_; rotate_left; (· (intro w hSw; (try dsimp only at hSw); go_simp; (try with_reducible rfl))); clear hcl; intro hcl; (try simp only [Act.put, List.getElem_toArray, List.getElem_cons_zero, List.getElem_cons_succ, List.setIfInBounds_toArray, List.set_cons_zero, List.set_cons_succ]))
              (refine wpM_take (i := 7) (v := ?_) rfl (by kernel_rfl) (by kernel_rfl) (by kernel_rfl) (by decide) (fun _ _ _ h => h) hcl hC (fun _ => hE) (Or.inl ⟨by rfl, ?_⟩) ?_; rotate_left; (· (intro w hSw; (try dsimp only at hSw); go_simp; (try with_reducible rfl))); clear hcl; intro hcl; (try simp only [Act.put, List.getElem_toArray, List.getElem_cons_zero, List.getElem_cons_succ, List.setIfInBounds_toArray, List.set_cons_zero, List.set_cons_succ]))
              refine wpM_only (i := 5) rfl (by kernel_rfl) hcl (fun K hK => ?_)
              refine step_append_rd _ rfl (.tmp 78) (.tmp 82) _ rfl eAddR (base := wd.heap.size) (v := .slice A6 (0 + 1) c6) (xs := (L.take 0).map Am.enc ++ [([.int .i64 a.1.1.1, .int .u32 a.1.1.2, .int .i64 a.1.2, .string (bs a.2)] : List Value)]) rfl (ho6.below (Below.refl _ _).drew) rfl (e6H.out.below (Below.refl _ _).drew) Am.len Am.one e5H.out.1 e5H.out.2 hz6 ?_
              intro A7 n7 c7 w7 hn7 ho7 hg7 hat7
              obtain rfl : n7 = 0 + 1 + 0 := by rw [hn7, hl6H.out]
              clear hn7 hat7
              have hC7 : KQ (w.heap.size + 1 + 1) w6 w7 := kq_grown hC (by omega) hg7 (fun g e => by have := (hbk6 g e).1; omega)
              have hr7 : w7.heap[w.heap.size + 1 + 1]? = some (.cells #[.slice none 0 0, .slice none 0 0] 25 (0, 0)) := (hg7.block _ (blk_lt hr6H.out) (fun e => by have := (hbk6 _ e.symm).1; omega)).trans hr6H.out
              have hG7 : Below w.heap.size w w7 := (hb6w.drew).grown hg7 (by simp; omega) (fun g e => by have := (hbk6 g e).1; omega)
              have hr7H := Lib.hid hr7
              have hlr7 := blk_lt hr7
              have r0 := blk_cell hr7 0
              have r1 := blk_cell hr7 1
              simp at r0 r1
              have hfr7 := blk_frozen hr7
              clear hr7
              refine hK.out _ _ hC7 trivial ?_
              clear hK K
              clear hcl
              intro hcl
              (try simp only [Act.put, List.getElem_toArray, List.getElem_cons_zero, List.getElem_cons_succ, List.setIfInBounds_toArray, List.set_cons_zero, List.set_cons_succ])
              clear hC
              have hC := hC7
              (refine wpM_take (i := 8) (v := ?_) rfl (by kernel_rfl) (by kernel_rfl) (by kernel_rfl) (by decide) (fun _ _ _ h => h) hcl hC (fun _ => hE) (Or.inl ⟨by rfl, ?_⟩) ?_; rotate_left; (· (intro w hSw; (try dsimp only at hSw); go_simp; (try with_reducible rfl))); clear hcl; intro hcl; (try simp only [Act.put, List.getElem_toArray, List.getElem_cons_zero, List.getElem_cons_succ, List.setIfInBounds_toArray, List.set_cons_zero, List.set_cons_succ]))
              refine wpM_only (i := 9) rfl (by kernel_rfl) hcl (fun K hK => ?_)
              go_simp
              have hC8 : KQ (w.heap.size + 1 + 1) w6 ((w7.setCell ⟨w.heap.size + 1 + 1, 0, none⟩ (.slice A7 (0 + 1 + 0) c7)).setCell ⟨w.heap.size + 1 + 1, 1, none⟩ (.slice B m d)) := kq_set (kq_set hC (by dsimp only; omega) _) (by dsimp only; omega) _
              refine hK.out _ _ hC8 trivial ?_
              clear hK K
              clear hcl
              intro hcl
              (try simp only [Act.put, List.getElem_toArray, List.getElem_cons_zero, List.getElem_cons_succ, List.setIfInBounds_toArray, List.set_cons_zero, List.set_cons_succ])
              clear hC
              have hC := hC8
              (refine wpM_take (i := 10) (v := ?_) rfl (by kernel_rfl) (by kernel_rfl) (by kernel_rfl) (by decide) (fun _ _ _ h => h) hcl hC (fun _ => hE) (Or.inl ⟨by rfl, ?_⟩) ?_; rotate_left; (· (intro w hSw; (try dsimp only at hSw); go_simp; (try with_reducible rfl))); clear hcl; intro hcl; (try simp only [Act.put, List.getElem_toArray, List.getElem_cons_zero, List.getElem_cons_succ, List.setIfInBounds_toArray, List.set_cons_zero, List.set_cons_succ]))
              refine wpM_done (by kernel_rfl) ?_
              clear hcl
              try simp only [Act.put, List.getElem_toArray, List.getElem_cons_zero, List.getElem_cons_succ, List.setIfInBounds_toArray, List.set_cons_zero, List.set_cons_succ]
              clear hC hC8 hC7 hE s0 s1
              go_wp2
              have hGs : Below w.heap.size w ((w7.setCell ⟨w.heap.size + 1 + 1, 0, none⟩ (.slice A7 (0 + 1 + 0) c7)).setCell ⟨w.heap.size + 1 + 1, 1, none⟩ (.slice B m d)) := (hG7.setCell (by dsimp only; omega) _).setCell (by dsimp only; omega) _
              have hr := hrH.out
              subst hr
              have ho8 := (ho7.set_blk hr7H.out (by decide) 0 (.slice A7 (0 + 1 + 0) c7)).set_blk (blk_set hr7H.out 0 _) (by decide) 1 (.slice B m d)
              have e7 : (L.take 0).map Am.enc ++ [([.int .i64 a.1.1.1, .int .u32 a.1.1.2, .int .i64 a.1.2, .string (bs a.2)] : List Value)] ++ (L.drop 0).map Am.enc = I.map Am.enc := by rw [hins.out]; simp [Am.enc]
              rw [e7] at ho8
              exact bodyPost_ret (v := .tuple #[.agg #[.slice A7 (0 + 1 + 0) c7, .slice B m d], .int .i64 0]) (by simp [results, Try.results39, go_sem, r0, r1]) rfl ⟨A7, 0 + 1 + 0, c7, B, m, d, rfl, ho8.rd.1, RdT.more (hBr.out _ hGs) hGs.size, by omega, by omega, ho8.rd.2.2.1, ho8.rd.2.2.2, hmd, hdm2.out, hGs⟩
          | some ad =>
            by_cases hdq : c = k
            · subst hdq
              have r3H := r3A (some ad) wd
              clear r3A
              have e1H := Lib.hid (r1H.out.below ((Below.refl _ wd).alloc (Nat.le_refl _) (.cells #[] 81)))
              have e2H : Hid (0 + c ≤ maxLen ∧ (0 + c) * 40 ≤ 140737488355328 ∧ wd.heap.size ≤ (wd.alloc (.cells #[] 81)).heap.size) := Lib.hid ⟨by (simp [maxLen]; try omega), by (first | omega | decide | simp), by simp⟩
              go_upto_region 16 with ((at_builtin; refine wpList_append_rd _ rfl (.tmp 68) (.tmp 72) _ rfl eAddR (base := wd.heap.size) (v := .slice (some ⟨wd.heap.size, 0, none⟩) 0 0) (xs := []) rfl (Ow.made0 _ _ _ (Nat.le_refl _)) rfl e1H.out Am.len Am.one e2H.out.1 e2H.out.2.1 e2H.out.2.2 ?_; intro A5 n5 c5 w5 hn5 ho5 hg5 hat5; (obtain rfl : c = n5 := by rw [hn5]; simp); clear hn5 hat5; rw [List.nil_append] at ho5))
              have hb5 : Below wd.heap.size wd w5 := ((Below.refl _ wd).alloc (Nat.le_refl _) _).grown hg5 (by simp) (fun g e => by simp [Value.ownBlock] at e; omega)
              have hz5 := hb5.size
              obtain ⟨z1, z2, z3, z4, z5⟩ := blk_cells4 (blk_below haW.out hb5)
              have e3H := Lib.hid (ho5.below ((Below.refl _ w5).alloc (Nat.le_refl _) (.cells #[.int .i64 a.1.1.1, .int .u32 a.1.1.2, .int .i64 a.1.2, .string (bs a.2)] 81)))
              have e4H : Hid (((L.take c).map Am.enc).length + 1 ≤ maxLen ∧ (((L.take c).map Am.enc).length + 1) * 40 ≤ 140737488355328 ∧ wd.heap.size ≤ (w5.alloc (.cells #[.int .i64 a.1.1.1, .int .u32 a.1.1.2, .int .i64 a.1.2, .string (bs a.2)] 81)).heap.size) := Lib.hid ⟨by (rw [hl5H.out]; simp [maxLen]; try omega), by (rw [hl5H.out]; try omega), by (simp; omega)⟩
              have hlen1 : ∀ y ∈ ([[.int .i64 a.1.1.1, .int .u32 a.1.1.2, .int .i64 a.1.2, .string (bs a.2)]] : List (List Value)), y.length = 4 := by simp
              have hone1 : ∀ y ∈ ([[.int .i64 a.1.1.1, .int .u32 a.1.1.2, .int .i64 a.1.2, .string (bs a.2)]] : List (List Value)), ∀ v ∈ y, v.oneCell' = true := by simp [Value.oneCell']
              have hbk5 := ho5.block
              clear e1H e2H hg5 ho5
              go_upto_region 17 with ((at_builtin; refine wpList_append_rd _ rfl (.tmp 74) (.tmp 76) _ rfl eAddR (base := wd.heap.size) (v := .slice A5 c c5) (xs := (L.take c).map Am.enc) rfl e3H.out rfl (Rd.one' [.int .i64 a.1.1.1, .int .u32 a.1.1.2, .int .i64 a.1.2, .string (bs a.2)] rfl) hlen1 hone1 e4H.out.1 e4H.out.2.1 e4H.out.2.2 ?_; intro A6 n6 c6 w6 hn6 ho6 hg6 hat6; (obtain rfl : n6 = c + 1 := by rw [hn6, hl5H.out]); clear hn6 hat6))
              have hb6 : Below wd.heap.size wd w6 := (hb5.trans (((Below.refl _ w5).alloc (Nat.le_refl _) _).mono hz5)).grown hg6 (by simp; omega) (fun g e => (hbk5 g e).1)
              have hz6 := hb6.size
              have hl6 : ((L.take c).map Am.enc ++ [([.int .i64 a.1.1.1, .int .u32 a.1.1.2, .int .i64 a.1.2, .string (bs a.2)] : List Value)]).length = c + 1 := by rw [List.length_append, hl5H.out]; rfl
              have e5H : Hid (((L.take c).map Am.enc ++ [([.int .i64 a.1.1.1, .int .u32 a.1.1.2, .int .i64 a.1.2, .string (bs a.2)] : List Value)]).length + 0 ≤ maxLen ∧ (((L.take c).map Am.enc ++ [([.int .i64 a.1.1.1, .int .u32 a.1.1.2, .int .i64 a.1.2, .string (bs a.2)] : List Value)]).length + 0) * 40 ≤ 140737488355328) := Lib.hid ⟨by (rw [hl6]; simp [maxLen]; try omega), by (rw [hl6]; try omega)⟩
              have e6H := Lib.hid (r3H.out.below hb6)
              have hbk6 := ho6.block
              have hl6H := Lib.hid hl6
              clear e3H e4H hg6 hl6
              have hb6w : Below w.heap.size w w6 := hGW.trans (hb6.mono hGW.size)
              have hs6 := blk_below hsW.out hb6
              have hr6 := blk_below hrW.out hb6
              have hltx := blk_lt hs6
              have s0 := blk_cell hs6 0
              have s1 := blk_cell hs6 1
              simp at s0 s1
              have hr6H := Lib.hid hr6
              have hs6H := Lib.hid hs6
              clear hs6 hr6
              have hzw6 := hb6.size
              refine wp_region_M (fun w' => KQ (w.heap.size + 1 + 1) w6 w') (fun _ => True) 99 (by kernel_rfl) (kq (Below.refl _ _).drew |>.1 |> kq) trivial ?_
              intro hcl
              have hC : KQ (w.heap.size + 1 + 1) w6 w6.drew := kq (Below.refl _ _).drew
              have hE := trivial
              (refine wpM_take (i := 0) (v := ?_) rfl (by kernel_rfl) (by kernel_rfl) (by kernel_rfl) (by decide) (fun _ _ _ h => h) hcl hC (fun _ => hE) (Or.inl ⟨by rfl, ?_⟩) ?_; rotate_left; (· (intro w hSw; (try dsimp only at hSw); go_simp; (try with_reducible rfl))); clear hcl; intro hcl; (try simp only [Act.put, List.getElem_toArray, List.getElem_cons_zero, List.getElem_cons_succ, List.setIfInBounds_toArray, List.set_cons_zero, List.set_cons_succ]))
              (refine wpM_take (i := 1) (v := ?_) rfl (by kernel_rfl) (by kernel_rfl) (by kernel_rfl) (by decide) (fun _ _ _ h => h) hcl hC (fun _ => hE) (Or.inl ⟨by rfl, ?_⟩) ?_; rotate_left; (· (intro w hSw; (try dsimp only at hSw); go_simp; (try with_reducible rfl))); clear hcl; intro hcl; (try simp only [Act.put, List.getElem_toArray, List.getElem_cons_zero, List.getElem_cons_succ, List.setIfInBounds_toArray, List.set_cons_zero, List.set_cons_succ]))
              (refine wpM_take (i := 2) (v := ?_) rfl (by kernel_rfl) (by kernel_rfl) (by kernel_rfl) (by decide) (fun _ _ _ h => h) hcl hC (fun _ => hE) (Or.inl ⟨by rfl, ?_⟩) ?_; rotate_left; (· (intro w hSw; (try dsimp only at hSw); go_simp; (try with_reducible rfl))); clear hcl; intro hcl; (try simp only [Act.put, List.getElem_toArray, List.getElem_cons_zero, List.getElem_cons_succ, List.setIfInBounds_toArray, List.set_cons_zero, List.set_cons_succ]))
              (refine wpM_take (i := 3) (v := ?_) rfl (by kernel_rfl) (by kernel_rfl) (by kernel_rfl) (by decide) (fun _ _ _ h => h) hcl hC (fun _ => hE) (Or.inl ⟨by rfl, ?_⟩) ?_; rotate_left; (· (intro w hSw; (try dsimp only at hSw); go_simp; (try with_reducible rfl))); clear hcl; intro hcl; (try simp only [Act.put, List.getElem_toArray, List.getElem_cons_zero, List.getElem_cons_succ, List.setIfInBounds_toArray, List.set_cons_zero, List.set_cons_succ]))
              (refine wpM_take (i := 4) (v := ?_) rfl (by kernel_rfl) (by kernel_rfl) (by kernel_rfl) (by decide) (fun _ _ _ h => h) hcl hC (fun _ => hE) (Or.inl ⟨by rfl, ?_⟩) ?_; rotate_left; (· (intro w hSw; (try dsimp only at hSw); go_simp; (try with_reducible rfl))); clear hcl; intro hcl; (try simp only [Act.put, List.getElem_toArray, List.getElem_cons_zero, List.getElem_cons_succ, List.setIfInBounds_toArray, List.set_cons_zero, List.set_cons_succ]))
              (refine wpM_take (i := 6) (v := ?_) rfl (by kernel_rfl) (by kernel_rfl) (by kernel_rfl) (by decide) (fun _ _ _ h => h) hcl hC (fun _ => hE) (Or.inl ⟨by rfl, ?_⟩) ?_; rotate_left; (· (intro w hSw; (try dsimp only at hSw); go_simp; (try with_reducible rfl))); clear hcl; intro hcl; (try simp only [Act.put, List.getElem_toArray, List.getElem_cons_zero, List.getElem_cons_succ, List.setIfInBounds_toArray, List.set_cons_zero, List.set_cons_succ]))
              (refine wpM_take (i := 7) (v := ?_) rfl (by kernel_rfl) (by kernel_rfl) (by kernel_rfl) (by decide) (fun _ _ _ h => h) hcl hC (fun _ => hE) (Or.inl ⟨by rfl, ?_⟩) ?_; rotate_left; (· (intro w hSw; (try dsimp only at hSw); go_simp; (try with_reducible rfl))); clear hcl; intro hcl; (try simp only [Act.put, List.getElem_toArray, List.getElem_cons_zero, List.getElem_cons_succ, List.setIfInBounds_toArray, List.set_cons_zero, List.set_cons_succ]))
              refine wpM_only (i := 5) rfl (by kernel_rfl) hcl (fun K hK => ?_)
              refine step_append_rd _ rfl (.tmp 78) (.tmp 82) _ rfl eAddR (base := wd.heap.size) (v := .slice A6 (c + 1) c6) (xs := (L.take c).map Am.enc ++ [([.int .i64 a.1.1.1, .int .u32 a.1.1.2, .int .i64 a.1.2, .string (bs a.2)] : List Value)]) rfl (ho6.below (Below.refl _ _).drew) rfl (e6H.out.below (Below.refl _ _).drew) Am.len Am.one e5H.out.1 e5H.out.2 hz6 ?_
              intro A7 n7 c7 w7 hn7 ho7 hg7 hat7
              obtain rfl : n7 = c + 1 + 0 := by rw [hn7, hl6H.out]
              clear hn7 hat7
              have hC7 : KQ (w.heap.size + 1 + 1) w6 w7 := kq_grown hC (by omega) hg7 (fun g e => by have := (hbk6 g e).1; omega)
              have hr7 : w7.heap[w.heap.size + 1 + 1]? = some (.cells #[.slice none 0 0, .slice none 0 0] 25 (0, 0)) := (hg7.block _ (blk_lt hr6H.out) (fun e => by have := (hbk6 _ e.symm).1; omega)).trans hr6H.out
              have hG7 : Below w.heap.size w w7 := (hb6w.drew).grown hg7 (by simp; omega) (fun g e => by have := (hbk6 g e).1; omega)
              have hr7H := Lib.hid hr7
              have hlr7 := blk_lt hr7
              have r0 := blk_cell hr7 0
              have r1 := blk_cell hr7 1
              simp at r0 r1
              have hfr7 := blk_frozen hr7
              clear hr7
              refine hK.out _ _ hC7 trivial ?_
              clear hK K
              clear hcl
              intro hcl
              (try simp only [Act.put, List.getElem_toArray, List.getElem_cons_zero, List.getElem_cons_succ, List.setIfInBounds_toArray, List.set_cons_zero, List.set_cons_succ])
              clear hC
              have hC := hC7
              (refine wpM_take (i := 8) (v := ?_) rfl (by kernel_rfl) (by kernel_rfl) (by kernel_rfl) (by decide) (fun _ _ _ h => h) hcl hC (fun _ => hE) (Or.inl ⟨by rfl, ?_⟩) ?_; rotate_left; (· (intro w hSw; (try dsimp only at hSw); go_simp; (try with_reducible rfl))); clear hcl; intro hcl; (try simp only [Act.put, List.getElem_toArray, List.getElem_cons_zero, List.getElem_cons_succ, List.setIfInBounds_toArray, List.set_cons_zero, List.set_cons_succ]))
              refine wpM_only (i := 9) rfl (by kernel_rfl) hcl (fun K hK => ?_)
              go_simp
              have hC8 : KQ (w.heap.size + 1 + 1) w6 ((w7.setCell ⟨w.heap.size + 1 + 1, 0, none⟩ (.slice A7 (c + 1 + 0) c7)).setCell ⟨w.heap.size + 1 + 1, 1, none⟩ (.slice B m d)) := kq_set (kq_set hC (by dsimp only; omega) _) (by dsimp only; omega) _
              refine hK.out _ _ hC8 trivial ?_
              clear hK K
              clear hcl
              intro hcl
              (try simp only [Act.put, List.getElem_toArray, List.getElem_cons_zero, List.getElem_cons_succ, List.setIfInBounds_toArray, List.set_cons_zero, List.set_cons_succ])
              clear hC
              have hC := hC8
              (refine wpM_take (i := 10) (v := ?_) rfl (by kernel_rfl) (by kernel_rfl) (by kernel_rfl) (by decide) (fun _ _ _ h => h) hcl hC (fun _ => hE) (Or.inl ⟨by rfl, ?_⟩) ?_; rotate_left; (· (intro w hSw; (try dsimp only at hSw); go_simp; (try with_reducible rfl))); clear hcl; intro hcl; (try simp only [Act.put, List.getElem_toArray, List.getElem_cons_zero, List.getElem_cons_succ, List.setIfInBounds_toArray, List.set_cons_zero, List.set_cons_succ]))
              refine wpM_done (by kernel_rfl) ?_
              clear hcl
              try simp only [Act.put, List.getElem_toArray, List.getElem_cons_zero, List.getElem_cons_succ, List.setIfInBounds_toArray, List.set_cons_zero, List.set_cons_succ]
              clear hC hC8 hC7 hE s0 s1
              go_wp2
              have hGs : Below w.heap.size w ((w7.setCell ⟨w.heap.size + 1 + 1, 0, none⟩ (.slice A7 (c + 1 + 0) c7)).setCell ⟨w.heap.size + 1 + 1, 1, none⟩ (.slice B m d)) := (hG7.setCell (by dsimp only; omega) _).setCell (by dsimp only; omega) _
              have hr := hrH.out
              subst hr
              have ho8 := (ho7.set_blk hr7H.out (by decide) 0 (.slice A7 (c + 1 + 0) c7)).set_blk (blk_set hr7H.out 0 _) (by decide) 1 (.slice B m d)
              have e7 : (L.take c).map Am.enc ++ [([.int .i64 a.1.1.1, .int .u32 a.1.1.2, .int .i64 a.1.2, .string (bs a.2)] : List Value)] ++ (L.drop c).map Am.enc = I.map Am.enc := by rw [hins.out]; simp [Am.enc]
              rw [e7] at ho8
              exact bodyPost_ret (v := .tuple #[.agg #[.slice A7 (c + 1 + 0) c7, .slice B m d], .int .i64 0]) (by simp [results, Try.results39, go_sem, r0, r1]) rfl ⟨A7, c + 1 + 0, c7, B, m, d, rfl, ho8.rd.1, RdT.more (hBr.out _ hGs) hGs.size, by omega, by omega, ho8.rd.2.2.1, ho8.rd.2.2.2, hmd, hdm2.out, hGs⟩
            · have r3H := r3A (some (ad.add (k * 4))) wd
              clear r3A
              have hcq : (c == k) = false := by rw [beq_eq_false_iff_ne]; omega
              have hcq3 : ¬ k = c := by omega
              have hqm0 : k ≤ c := hnc
              have e1H := Lib.hid (r1H.out.below ((Below.refl _ wd).alloc (Nat.le_refl _) (.cells #[] 81)))
              have e2H : Hid (0 + k ≤ maxLen ∧ (0 + k) * 40 ≤ 140737488355328 ∧ wd.heap.size ≤ (wd.alloc (.cells #[] 81)).heap.size) := Lib.hid ⟨by (simp [maxLen]; try omega), by (first | omega | decide | simp), by simp⟩
              go_upto_region 16 with ((at_builtin; refine wpList_append_rd _ rfl (.tmp 68) (.tmp 72) _ rfl eAddR (base := wd.heap.size) (v := .slice (some ⟨wd.heap.size, 0, none⟩) 0 0) (xs := []) rfl (Ow.made0 _ _ _ (Nat.le_refl _)) rfl e1H.out Am.len Am.one e2H.out.1 e2H.out.2.1 e2H.out.2.2 ?_; intro A5 n5 c5 w5 hn5 ho5 hg5 hat5; (obtain rfl : k = n5 := by rw [hn5]; simp); clear hn5 hat5; rw [List.nil_append] at ho5))
              have hb5 : Below wd.heap.size wd w5 := ((Below.refl _ wd).alloc (Nat.le_refl _) _).grown hg5 (by simp) (fun g e => by simp [Value.ownBlock] at e; omega)
              have hz5 := hb5.size
              obtain ⟨z1, z2, z3, z4, z5⟩ := blk_cells4 (blk_below haW.out hb5)
              have e3H := Lib.hid (ho5.below ((Below.refl _ w5).alloc (Nat.le_refl _) (.cells #[.int .i64 a.1.1.1, .int .u32 a.1.1.2, .int .i64 a.1.2, .string (bs a.2)] 81)))
              have e4H : Hid (((L.take k).map Am.enc).length + 1 ≤ maxLen ∧ (((L.take k).map Am.enc).length + 1) * 40 ≤ 140737488355328 ∧ wd.heap.size ≤ (w5.alloc (.cells #[.int .i64 a.1.1.1, .int .u32 a.1.1.2, .int .i64 a.1.2, .string (bs a.2)] 81)).heap.size) := Lib.hid ⟨by (rw [hl5H.out]; simp [maxLen]; try omega), by (rw [hl5H.out]; try omega), by (simp; omega)⟩
              have hlen1 : ∀ y ∈ ([[.int .i64 a.1.1.1, .int .u32 a.1.1.2, .int .i64 a.1.2, .string (bs a.2)]] : List (List Value)), y.length = 4 := by simp
              have hone1 : ∀ y ∈ ([[.int .i64 a.1.1.1, .int .u32 a.1.1.2, .int .i64 a.1.2, .string (bs a.2)]] : List (List Value)), ∀ v ∈ y, v.oneCell' = true := by simp [Value.oneCell']
              have hbk5 := ho5.block
              clear e1H e2H hg5 ho5
              go_upto_region 17 with ((at_builtin; refine wpList_append_rd _ rfl (.tmp 74) (.tmp 76) _ rfl eAddR (base := wd.heap.size) (v := .slice A5 k c5) (xs := (L.take k).map Am.enc) rfl e3H.out rfl (Rd.one' [.int .i64 a.1.1.1, .int .u32 a.1.1.2, .int .i64 a.1.2, .string (bs a.2)] rfl) hlen1 hone1 e4H.out.1 e4H.out.2.1 e4H.out.2.2 ?_; intro A6 n6 c6 w6 hn6 ho6 hg6 hat6; (obtain rfl : n6 = k + 1 := by rw [hn6, hl5H.out]); clear hn6 hat6))
              have hb6 : Below wd.heap.size wd w6 := (hb5.trans (((Below.refl _ w5).alloc (Nat.le_refl _) _).mono hz5)).grown hg6 (by simp; omega) (fun g e => (hbk5 g e).1)
              have hz6 := hb6.size
              have hl6 : ((L.take k).map Am.enc ++ [([.int .i64 a.1.1.1, .int .u32 a.1.1.2, .int .i64 a.1.2, .string (bs a.2)] : List Value)]).length = k + 1 := by rw [List.length_append, hl5H.out]; rfl
              have e5H : Hid (((L.take k).map Am.enc ++ [([.int .i64 a.1.1.1, .int .u32 a.1.1.2, .int .i64 a.1.2, .string (bs a.2)] : List Value)]).length + 0 ≤ maxLen ∧ (((L.take k).map Am.enc ++ [([.int .i64 a.1.1.1, .int .u32 a.1.1.2, .int .i64 a.1.2, .string (bs a.2)] : List Value)]).length + 0) * 40 ≤ 140737488355328) := Lib.hid ⟨by (rw [hl6]; simp [maxLen]; try omega), by (rw [hl6]; try omega)⟩
              have e6H := Lib.hid (r3H.out.below hb6)
              have hbk6 := ho6.block
              have hl6H := Lib.hid hl6
              clear e3H e4H hg6 hl6
              have hb6w : Below w.heap.size w w6 := hGW.trans (hb6.mono hGW.size)
              have hs6 := blk_below hsW.out hb6
              have hr6 := blk_below hrW.out hb6
              have hltx := blk_lt hs6
              have s0 := blk_cell hs6 0
              have s1 := blk_cell hs6 1
              simp at s0 s1
              have hr6H := Lib.hid hr6
              have hs6H := Lib.hid hs6
              clear hs6 hr6
              have hzw6 := hb6.size
              refine wp_region_M (fun w' => KQ (w.heap.size + 1 + 1) w6 w') (fun _ => True) 99 (by kernel_rfl) (kq (Below.refl _ _).drew |>.1 |> kq) trivial ?_
              intro hcl
              have hC : KQ (w.heap.size + 1 + 1) w6 w6.drew := kq (Below.refl _ _).drew
              have hE := trivial
              (refine wpM_take (i := 0) (v := ?_) rfl (by kernel_rfl) (by kernel_rfl) (by kernel_rfl) (by decide) (fun _ _ _ h => h) hcl hC (fun _ => hE) (Or.inl ⟨by rfl, ?_⟩) ?_; rotate_left; (· (intro w hSw; (try dsimp only at hSw); go_simp; (try with_reducible rfl))); clear hcl; intro hcl; (try simp only [Act.put, List.getElem_toArray, List.getElem_cons_zero, List.getElem_cons_succ, List.setIfInBounds_toArray, List.set_cons_zero, List.set_cons_succ]))
              (refine wpM_take (i := 1) (v := ?_) rfl (by kernel_rfl) (by kernel_rfl) (by kernel_rfl) (by decide) (fun _ _ _ h => h) hcl hC (fun _ => hE) (Or.inl ⟨by rfl, ?_⟩) ?_; rotate_left; (· (intro w hSw; (try dsimp only at hSw); go_simp; (try with_reducible rfl))); clear hcl; intro hcl; (try simp only [Act.put, List.getElem_toArray, List.getElem_cons_zero, List.getElem_cons_succ, List.setIfInBounds_toArray, List.set_cons_zero, List.set_cons_succ]))
              (refine wpM_take (i := 2) (v := ?_) rfl (by kernel_rfl) (by kernel_rfl) (by kernel_rfl) (by decide) (fun _ _ _ h => h) hcl hC (fun _ => hE) (Or.inl ⟨by rfl, ?_⟩) ?_; rotate_left; (· (intro w hSw; (try dsimp only at hSw); go_simp; (try with_reducible rfl))); clear hcl; intro hcl; (try simp only [Act.put, List.getElem_toArray, List.getElem_cons_zero, List.getElem_cons_succ, List.setIfInBounds_toArray, List.set_cons_zero, List.set_cons_succ]))
              (refine wpM_take (i := 3) (v := ?_) rfl (by kernel_rfl) (by kernel_rfl) (by kernel_rfl) (by decide) (fun _ _ _ h => h) hcl hC (fun _ => hE) (Or.inl ⟨by rfl, ?_⟩) ?_; rotate_left; (· (intro w hSw; (try dsimp only at hSw); go_simp; (try with_reducible rfl))); clear hcl; intro hcl; (try simp only [Act.put, List.getElem_toArray, List.getElem_cons_zero, List.getElem_cons_succ, List.setIfInBounds_toArray, List.set_cons_zero, List.set_cons_succ]))
              (refine wpM_take (i := 4) (v := ?_) rfl (by kernel_rfl) (by kernel_rfl) (by kernel_rfl) (by decide) (fun _ _ _ h => h) hcl hC (fun _ => hE) (Or.inl ⟨by rfl, ?_⟩) ?_; rotate_left; (· (intro w hSw; (try dsimp only at hSw); go_simp; (try with_reducible rfl))); clear hcl; intro hcl; (try simp only [Act.put, List.getElem_toArray, List.getElem_cons_zero, List.getElem_cons_succ, List.setIfInBounds_toArray, List.set_cons_zero, List.set_cons_succ]))
              (refine wpM_take (i := 6) (v := ?_) rfl (by kernel_rfl) (by kernel_rfl) (by kernel_rfl) (by decide) (fun _ _ _ h => h) hcl hC (fun _ => hE) (Or.inl ⟨by rfl, ?_⟩) ?_; rotate_left; (· (intro w hSw; (try dsimp only at hSw); go_simp; (try with_reducible rfl))); clear hcl; intro hcl; (try simp only [Act.put, List.getElem_toArray, List.getElem_cons_zero, List.getElem_cons_succ, List.setIfInBounds_toArray, List.set_cons_zero, List.set_cons_succ]))
              (refine wpM_take (i := 7) (v := ?_) rfl (by kernel_rfl) (by kernel_rfl) (by kernel_rfl) (by decide) (fun _ _ _ h => h) hcl hC (fun _ => hE) (Or.inl ⟨by rfl, ?_⟩) ?_; rotate_left; (· (intro w hSw; (try dsimp only at hSw); go_simp; (try with_reducible rfl))); clear hcl; intro hcl; (try simp only [Act.put, List.getElem_toArray, List.getElem_cons_zero, List.getElem_cons_succ, List.setIfInBounds_toArray, List.set_cons_zero, List.set_cons_succ]))
              refine wpM_only (i := 5) rfl (by kernel_rfl) hcl (fun K hK => ?_)
              refine step_append_rd _ rfl (.tmp 78) (.tmp 82) _ rfl eAddR (base := wd.heap.size) (v := .slice A6 (k + 1) c6) (xs := (L.take k).map Am.enc ++ [([.int .i64 a.1.1.1, .int .u32 a.1.1.2, .int .i64 a.1.2, .string (bs a.2)] : List Value)]) rfl (ho6.below (Below.refl _ _).drew) rfl (e6H.out.below (Below.refl _ _).drew) Am.len Am.one e5H.out.1 e5H.out.2 hz6 ?_
              intro A7 n7 c7 w7 hn7 ho7 hg7 hat7
              obtain rfl : n7 = k + 1 + 0 := by rw [hn7, hl6H.out]
              clear hn7 hat7
              have hC7 : KQ (w.heap.size + 1 + 1) w6 w7 := kq_grown hC (by omega) hg7 (fun g e => by have := (hbk6 g e).1; omega)
              have hr7 : w7.heap[w.heap.size + 1 + 1]? = some (.cells #[.slice none 0 0, .slice none 0 0] 25 (0, 0)) := (hg7.block _ (blk_lt hr6H.out) (fun e => by have := (hbk6 _ e.symm).1; omega)).trans hr6H.out
              have hG7 : Below w.heap.size w w7 := (hb6w.drew).grown hg7 (by simp; omega) (fun g e => by have := (hbk6 g e).1; omega)
              have hr7H := Lib.hid hr7
              have hlr7 := blk_lt hr7
              have r0 := blk_cell hr7 0
              have r1 := blk_cell hr7 1
              simp at r0 r1
              have hfr7 := blk_frozen hr7
              clear hr7
              refine hK.out _ _ hC7 trivial ?_
              clear hK K
              clear hcl
              intro hcl
              (try simp only [Act.put, List.getElem_toArray, List.getElem_cons_zero, List.getElem_cons_succ, List.setIfInBounds_toArray, List.set_cons_zero, List.set_cons_succ])
              clear hC
              have hC := hC7
              (refine wpM_take (i := 8) (v := ?_) rfl (by kernel_rfl) (by kernel_rfl) (by kernel_rfl) (by decide) (fun _ _ _ h => h) hcl hC (fun _ => hE) (Or.inl ⟨by rfl, ?_⟩) ?_; rotate_left; (· (intro w hSw; (try dsimp only at hSw); go_simp; (try with_reducible rfl))); clear hcl; intro hcl; (try simp only [Act.put, List.getElem_toArray, List.getElem_cons_zero, List.getElem_cons_succ, List.setIfInBounds_toArray, List.set_cons_zero, List.set_cons_succ]))
              refine wpM_only (i := 9) rfl (by kernel_rfl) hcl (fun K hK => ?_)
              go_simp
              have hC8 : KQ (w.heap.size + 1 + 1) w6 ((w7.setCell ⟨w.heap.size + 1 + 1, 0, none⟩ (.slice A7 (k + 1 + 0) c7)).setCell ⟨w.heap.size + 1 + 1, 1, none⟩ (.slice B m d)) := kq_set (kq_set hC (by dsimp only; omega) _) (by dsimp only; omega) _
              refine hK.out _ _ hC8 trivial ?_
              clear hK K
              clear hcl
              intro hcl
              (try simp only [Act.put, List.getElem_toArray, List.getElem_cons_zero, List.getElem_cons_succ, List.setIfInBounds_toArray, List.set_cons_zero, List.set_cons_succ])
              clear hC
              have hC := hC8
              (refine wpM_take (i := 10) (v := ?_) rfl (by kernel_rfl) (by kernel_rfl) (by kernel_rfl) (by decide) (fun _ _ _ h => h) hcl hC (fun _ => hE) (Or.inl ⟨by rfl, ?_⟩) ?_; rotate_left; (· (intro w hSw; (try dsimp only at hSw); go_simp; (try with_reducible rfl))); clear hcl; intro hcl; (try simp only [Act.put, List.getElem_toArray, List.getElem_cons_zero, List.getElem_cons_succ, List.setIfInBounds_toArray, List.set_cons_zero, List.set_cons_succ]))
              refine wpM_done (by kernel_rfl) ?_
              clear hcl
              try simp only [Act.put, List.getElem_toArray, List.getElem_cons_zero, List.getElem_cons_succ, List.setIfInBounds_toArray, List.set_cons_zero, List.set_cons_succ]
              clear hC hC8 hC7 hE s0 s1
              go_wp2
              have hGs : Below w.heap.size w ((w7.setCell ⟨w.heap.size + 1 + 1, 0, none⟩ (.slice A7 (k + 1 + 0) c7)).setCell ⟨w.heap.size + 1 + 1, 1, none⟩ (.slice B m d)) := (hG7.setCell (by dsimp only; omega) _).setCell (by dsimp only; omega) _
              have hr := hrH.out
              subst hr
              have ho8 := (ho7.set_blk hr7H.out (by decide) 0 (.slice A7 (k + 1 + 0) c7)).set_blk (blk_set hr7H.out 0 _) (by decide) 1 (.slice B m d)
              have e7 : (L.take k).map Am.enc ++ [([.int .i64 a.1.1.1, .int .u32 a.1.1.2, .int .i64 a.1.2, .string (bs a.2)] : List Value)] ++ (L.drop k).map Am.enc = I.map Am.enc := by rw [hins.out]; simp [Am.enc]
              rw [e7] at ho8
              exact bodyPost_ret (v := .tuple #[.agg #[.slice A7 (k + 1 + 0) c7, .slice B m d], .int .i64 0]) (by simp [results, Try.results39, go_sem, r0, r1]) rfl ⟨A7, k + 1 + 0, c7, B, m, d, rfl, ho8.rd.1, RdT.more (hBr.out _ hGs) hGs.size, by omega, by omega, ho8.rd.2.2.1, ho8.rd.2.2.2, hmd, hdm2.out, hGs⟩
end Go.Proofs.Ytadldndmmobpdaa
