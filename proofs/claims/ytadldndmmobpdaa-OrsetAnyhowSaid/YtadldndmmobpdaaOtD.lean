/- The document's Compact of sets. -/
import Derived.Test.YtadldndmmobpdaaM10
namespace Go.Proofs.Ytadldndmmobpdaa
open Go.RowKit

set_option maxRecDepth 100000 in
set_option maxHeartbeats 4000000 in
theorem rocompact_any (A : Option Addr) (n c : Nat) (xs : List Am) (B : Option Addr) (m d : Nat) (gs : List Tm) (v : Vm) (w : World) (hA : RdA w w.heap.size A n xs) (hB : RdT w w.heap.size B m gs) (hn : n ≤ 100000) (hm : m ≤ 100000) (hx : ∀ a ∈ xs, a.wf) (hg : ∀ t ∈ gs, t.wf) (hl : ∀ a ∈ xs, a.2.length ≤ maxLen) (hnc : n ≤ c) (hcm : c ≤ maxLen) :
    Calls Try.prog 14 #[.agg #[.slice A n c, .slice B m d], .agg #[.int .u32 v.d0, .int .u32 v.d1, .int .u32 v.d2, .int .u32 v.d3, .int .u32 v.d4, .int .u32 v.d5, .int .u32 v.d6, .int .u32 v.d7]] w (PostO w (compO xs gs v) (oErr xs gs)) := by
  have hb0 : Below w.heap.size w (((w.alloc (.cells #[.slice A n c, .slice B m d] 25)).alloc (.cells #[.int .u32 v.d0, .int .u32 v.d1, .int .u32 v.d2, .int .u32 v.d3, .int .u32 v.d4, .int .u32 v.d5, .int .u32 v.d6, .int .u32 v.d7] 28)).alloc (.cells #[.slice none 0 0, .slice none 0 0] 25)) := (((Below.refl _ w).alloc (Nat.le_refl _) _).alloc (by simp) _).alloc (by simp; omega) _
  have hbx : (((w.alloc (.cells #[.slice A n c, .slice B m d] 25)).alloc (.cells #[.int .u32 v.d0, .int .u32 v.d1, .int .u32 v.d2, .int .u32 v.d3, .int .u32 v.d4, .int .u32 v.d5, .int .u32 v.d6, .int .u32 v.d7] 28)).alloc (.cells #[.slice none 0 0, .slice none 0 0] 25)).heap[w.heap.size]? = some (.cells #[.slice A n c, .slice B m d] 25 (0, 0)) := heap_old _ (by simp; omega) (heap_old _ (by simp) (heap_at _ _ rfl))
  have hbv : (((w.alloc (.cells #[.slice A n c, .slice B m d] 25)).alloc (.cells #[.int .u32 v.d0, .int .u32 v.d1, .int .u32 v.d2, .int .u32 v.d3, .int .u32 v.d4, .int .u32 v.d5, .int .u32 v.d6, .int .u32 v.d7] 28)).alloc (.cells #[.slice none 0 0, .slice none 0 0] 25)).heap[w.heap.size + 1]? = some (.cells #[.int .u32 v.d0, .int .u32 v.d1, .int .u32 v.d2, .int .u32 v.d3, .int .u32 v.d4, .int .u32 v.d5, .int .u32 v.d6, .int .u32 v.d7] 28 (0, 0)) := heap_old _ (by simp) (heap_at _ _ (by simp))
  have hbr : (((w.alloc (.cells #[.slice A n c, .slice B m d] 25)).alloc (.cells #[.int .u32 v.d0, .int .u32 v.d1, .int .u32 v.d2, .int .u32 v.d3, .int .u32 v.d4, .int .u32 v.d5, .int .u32 v.d6, .int .u32 v.d7] 28)).alloc (.cells #[.slice none 0 0, .slice none 0 0] 25)).heap[w.heap.size + 1 + 1]? = some (.cells #[.slice none 0 0, .slice none 0 0] 25 (0, 0)) := heap_at _ _ (by simp)
  generalize hW : (((w.alloc (.cells #[.slice A n c, .slice B m d] 25)).alloc (.cells #[.int .u32 v.d0, .int .u32 v.d1, .int .u32 v.d2, .int .u32 v.d3, .int .u32 v.d4, .int .u32 v.d5, .int .u32 v.d6, .int .u32 v.d7] 28)).alloc (.cells #[.slice none 0 0, .slice none 0 0] 25)) = W at hb0 hbx hbv hbr
  have hbxH := Lib.hid hbx
  have hbvH := Lib.hid hbv
  have hbrH := Lib.hid hbr
  have hltx := blk_lt hbx
  have hltr := blk_lt hbr
  have s0 := blk_cell hbx 0
  have s1 := blk_cell hbx 1
  have r0 := blk_cell hbr 0
  have r1 := blk_cell hbr 1
  simp at s0 s1 r0 r1
  have hfr := blk_frozen hbr
  have hck := Lib.hid (rocheck_any A n c xs B m d gs W ((hA.below hb0).more hb0.size) ((hB.below hb0).more hb0.size) hn (by simp [maxLen]; omega) hx hg hl)
  generalize hr : compO xs gs v = out
  unfold compO at hr
  generalize hpe : oErr xs gs = p at hck hr ⊢
  by_cases hp : p = 0
  case neg =>
    rw [if_pos hp] at hr
    subst hr
    have hpn : (p != 0) = true := by simpa using hp
    clear hpe hp hbx hbv hbr hA hB
    go_enter Try.func14, Try.ntmps14
    go_wp2_with fail
    refine hck.out.mono ?_
    rintro e w1 ⟨rfl, hv1⟩
    have hG := hb0.trans (hv1.mono hb0.size)
    have hr1 := blk_below hbrH.out hv1
    have hlr1 := blk_lt hr1
    clear r0 r1 hfr
    have r0 := blk_cell hr1 0
    have r1 := blk_cell hr1 1
    have hfr := blk_frozen hr1
    simp at r0 r1
    have hGs : Below w.heap.size w ((w1.setCell ⟨w.heap.size + 1 + 1, 0, none⟩ (.slice none 0 0)).setCell ⟨w.heap.size + 1 + 1, 1, none⟩ (.slice none 0 0)) := (hG.setCell (by dsimp only; omega) _).setCell (by dsimp only; omega) _
    go_wp2
    exact bodyPost_ret (v := .tuple #[.agg #[.slice none 0 0, .slice none 0 0], .int .i64 p]) (by simp [results, Try.results14, go_sem, r0, r1]) rfl (PostO.nil_ hGs)
  subst hp
  rw [if_neg (by simp)] at hr
  subst hr
  obtain ⟨hn4, hm4, _⟩ := sErr_zero.1 hpe
  rw [List.length_map, hA.len] at hn4
  rw [hB.len] at hm4
  have hAr := Lib.hid (fun w' (h : Below w.heap.size w w') => hA.below h)
  have hBr := Lib.hid (fun w' (h : Below w.heap.size w w') => hB.below h)
  have hgH := Lib.hid hg
  have hcmH := Lib.hid hcm
  have hzW := hb0.size
  have ch := Lib.hid (fun (t : Tm) (ht : t.wf) => rvhas_any v t.1 ht)
  clear hpe hbx hbv hbr hA hB hx hg hl hcm
  go_enter Try.func14, Try.ntmps14
  go_wp2_with fail
  refine hck.out.mono ?_
  rintro e' w1 ⟨rfl, hv1⟩
  have hG1 := hb0.trans (hv1.mono hzW)
  have hs1 := blk_below hbxH.out hv1
  have hvb1 := blk_below hbvH.out hv1
  have hr1 := blk_below hbrH.out hv1
  clear r0 r1 hfr s0 s1 hltx hltr hck
  have hltx := blk_lt hs1
  have hltr := blk_lt hr1
  have hltv := blk_lt hvb1
  have s0 := blk_cell hs1 0
  have s1 := blk_cell hs1 1
  simp at s0 s1
  have hs1H := Lib.hid hs1
  have hvH := Lib.hid hvb1
  have hrH := Lib.hid hr1
  clear hvb1 hr1 hs1
  have hbO : Below w1.heap.size w1 (w1.alloc (.cells #[.slice A n c, .slice none 0 0] 25)) := (Below.refl _ w1).alloc (Nat.le_refl _) _
  have ho0 : (w1.alloc (.cells #[.slice A n c, .slice none 0 0] 25)).heap[w1.heap.size]? = some (.cells #[.slice A n c, .slice none 0 0] 25 (0, 0)) := heap_at _ _ rfl
  have hv0 := Lib.hid (Below.refl w1.heap.size w1 |>.alloc (Nat.le_refl _) (.cells #[.slice A n c, .slice none 0 0] 25))
  have ho0H := Lib.hid ho0
  clear ho0
  go_wp2_with fail
  clear s0 s1 hltx
  go_loopg [8] (m + 1) (fun g i wr => ∃ (q t : Nat) (G : Option Addr) (d' : Nat), q ≤ m ∧ g = m + 1 - q ∧ i = .int .i64 (q : Int) ∧ wr.heap[w1.heap.size]? = some (.cells #[.slice A n c, .slice G t d'] 25 (0, 0)) ∧ Ow wr (w1.heap.size + 1) 79 3 (.slice G t d') (((gs.take q).filter fun t => !hasV v t.1).map Tm.enc) ∧ Below w1.heap.size w1 wr ∧ w1.heap.size + 1 ≤ wr.heap.size)
  case atStart => exact ⟨0, 0, none, 0, Nat.zero_le _, rfl, rfl, ho0H.out, Ow.nil_ _ _ _ _, hv0.out, by simp⟩
  case round =>
    clear hbO
    obtain ⟨q, t, G, d', hq, rfl, rfl, ho, hown, hbr, hz1⟩ := hrel
    have hz := hbr.size
    have hGw := hG1.trans (hbr.mono hG1.size)
    have hsr := blk_below hs1H.out hbr
    have hvr := blk_below hvH.out hbr
    have hrr := blk_below hrH.out hbr
    have hltx := blk_lt hsr
    have s0 := blk_cell hsr 0
    have s1 := blk_cell hsr 1
    simp at s0 s1
    have hltv := blk_lt hvr
    have hlto := blk_lt ho
    have y0 := blk_cell hvr 0
    have y1 := blk_cell hvr 1
    have y2 := blk_cell hvr 2
    have y3 := blk_cell hvr 3
    have y4 := blk_cell hvr 4
    have y5 := blk_cell hvr 5
    have y6 := blk_cell hvr 6
    have y7 := blk_cell hvr 7
    simp at y0 y1 y2 y3 y4 y5 y6 y7
    have hoH := Lib.hid ho
    have hsrH := Lib.hid hsr
    have hvrH := Lib.hid hvr
    have hrrH := Lib.hid hrr
    by_cases hlt : q < m
    · obtain ⟨bA, oA, u, rfl, hbA, hqu, hcp⟩ := (hBr.out wr hGw).at_ hlt
      have p0 := hcp 0 _ rfl
      have p1 := hcp 1 _ rfl
      have p2 := hcp 2 _ rfl
      rw [Nat.add_zero] at p0
      clear hcp ho hsr hvr hrr
      have hlti : (q : Int) < (m : Int) := by omega
      have hbA2 : bA < w.heap.size := hbA
      have hbA3 : bA < wr.heap.size := by omega
      have hst := Lib.hid (filter_takeG (p := fun t : Tm => !hasV v t.1) hqu)
      have hlt2 : Hid ((((gs.take q).filter fun t => !hasV v t.1).map Tm.enc).length = t) := Lib.hid hown.rd.2.1
      have htk : Hid (t ≤ q) := Lib.hid (by
        have h1 := hown.rd.2.1
        rw [List.length_map] at h1
        have h2 := List.length_filter_le (fun t : Tm => !hasV v t.1) (gs.take q)
        rw [List.length_take] at h2
        omega)
      have cu := Lib.hid (ch.out u (hgH.out u (List.mem_of_getElem? hqu)))
      have hq0 : KQ wr.heap.size wr wr := kq (Below.refl _ _)
      clear hqu
      generalize hasV v u.1 = b at cu hst
      go_upto_region 8 with (fail)
      go_region_held3 (fun w' => KQ wr.heap.size wr w') (first
      | with_reducible exact kq_call (by assumption) (by simp) (by assumption)
      | with_reducible exact kq_alloc (by with_reducible assumption) (Nat.le_refl _) _
      | with_reducible exact kq_alloc (kq_drew (by assumption)) (Nat.le_refl _) _
      | ((with_reducible refine kq ?_); (repeat (first | (with_reducible exact Below.refl _ _) | (with_reducible refine Below.drew ?_) | (with_reducible refine Below.alloc ?_ (by simp) _) | (with_reducible refine Below.setCell ?_ (by simp) _) | (with_reducible exact (by assumption : KQ _ _ _).1))); done))
        (first
          | (go_at_call 62; ((with_reducible refine (cu.out _).mono ?_); rintro e w2 ⟨rfl, hv2⟩)))
      have hF : KQ wr.heap.size wr w2 := by with_reducible assumption
      have ho2 := blk_below hoH.out hF.1
      have hs2 := blk_below hsrH.out hF.1
      have hv2' := blk_below hvrH.out hF.1
      have hr2 := blk_below hrrH.out hF.1
      have hown2 := hown.below hF.1
      have hb2 := hbr.trans (hF.1.mono hz)
      have hz2 := hF.1.size
      cases b
      case true =>
        have hT : Hid ((((gs.take (q + 1)).filter fun t => !hasV v t.1).map Tm.enc) = (((gs.take q).filter fun t => !hasV v t.1).map Tm.enc)) := Lib.hid (by rw [hst.out]; simp)
        clear hF p0 p1 p2 y0 y1 y2 y3 y4 y5 y6 y7 s0 s1
        go_wp2
        go_roundg (m + 1 - (q + 1))
        case measure => omega
        case rel => exact ⟨q + 1, t, G, d', by omega, rfl, by go_num, ho2, by rw [hT.out]; exact hown2, hb2, by omega⟩
      case false =>
        have hT : Hid ((((gs.take (q + 1)).filter fun t => !hasV v t.1).map Tm.enc) = (((gs.take q).filter fun t => !hasV v t.1).map Tm.enc) ++ [[.int .i64 u.1.1, .int .u32 u.1.2, .int .i64 u.2]]) := Lib.hid (by rw [hst.out]; simp [Tm.enc])
        have c0 := (hF.1.cell (p := ⟨bA, _, none⟩) hbA3).trans p0
        have c1 := (hF.1.cell (p := ⟨bA, _, none⟩) hbA3).trans p1
        have c2 := (hF.1.cell (p := ⟨bA, _, none⟩) hbA3).trans p2
        have hbA4 : bA < w2.heap.size := by omega
        clear s0 s1 hltx
        have hltx := blk_lt hs2
        have hlo2 := blk_lt ho2
        have s0 := blk_cell hs2 0
        have s1 := blk_cell hs2 1
        have o0 := blk_cell ho2 0
        have o1 := blk_cell ho2 1
        simp at s0 s1 o0 o1
        have ho2H := Lib.hid ho2
        clear ho2 hs2 hF hv2' y0 y1 y2 y3 y4 y5 y6 y7
        have hlen1 : ∀ y ∈ ([[.int .i64 u.1.1, .int .u32 u.1.2, .int .i64 u.2]] : List (List Value)), y.length = 3 := by simp
        have hone1 : ∀ y ∈ ([[.int .i64 u.1.1, .int .u32 u.1.2, .int .i64 u.2]] : List (List Value)), ∀ v ∈ y, v.oneCell' = true := by simp [Value.oneCell']
        have hx1 : w.heap.size < w1.heap.size := by omega
        have hx2 : bA < w1.heap.size := by omega
        go_upto_region 9 with (fail)
        refine wp_region_M (fun w' => KQ w1.heap.size w2 w') (fun w' => w'.cell? ⟨w1.heap.size, 1, none⟩ = some (.slice G t d')) 10 (by kernel_rfl) (kq (Below.refl _ _).drew |>.1.mono (by omega) |> kq) o1 ?_
        intro hcl
        have hC : KQ w1.heap.size w2 w2.drew := kq ((Below.refl _ _).drew)
        have hE : w2.drew.cell? ⟨w1.heap.size, 1, none⟩ = some (.slice G t d') := o1
        (refine wpM_take (i := 0) (v := ?_) rfl (by kernel_rfl) (by kernel_rfl) (by kernel_rfl) (by decide) (fun _ _ _ h => h) hcl hC (fun _ => hE) (Or.inl ⟨by rfl, ?_⟩) ?_; rotate_left; (· (intro w hSw; (try dsimp only at hSw); go_simp; (try with_reducible rfl))); clear hcl; intro hcl; (try simp only [Act.put, List.getElem_toArray, List.getElem_cons_zero, List.getElem_cons_succ, List.setIfInBounds_toArray, List.set_cons_zero, List.set_cons_succ]))
        (refine wpM_take0c (i := 1) (j := 8) (v := ?_) rfl rfl rfl (by kernel_rfl) (by kernel_rfl) (by kernel_rfl) (by kernel_rfl) (by kernel_rfl) (by decide) (fun _ _ _ h => h) hcl hC (fun _ => hE) (Or.inl ⟨by rfl, ?_⟩) ?_; rotate_left; (· (intro w hSw; (try dsimp only at hSw); go_simp; (try with_reducible rfl))); clear hcl; intro hcl; (try simp only [Act.put, List.getElem_toArray, List.getElem_cons_zero, List.getElem_cons_succ, List.setIfInBounds_toArray, List.set_cons_zero, List.set_cons_succ]))
        (refine wpM_take (i := 2) (v := ?_) rfl (by kernel_rfl) (by kernel_rfl) (by kernel_rfl) (by decide) (fun _ _ _ h => h) hcl hC (fun _ => hE) (Or.inl ⟨by rfl, ?_⟩) ?_; rotate_left; (· (intro w hSw; (try dsimp only at hSw); go_simp; (try with_reducible rfl))); clear hcl; intro hcl; (try simp only [Act.put, List.getElem_toArray, List.getElem_cons_zero, List.getElem_cons_succ, List.setIfInBounds_toArray, List.set_cons_zero, List.set_cons_succ]))
        (refine wpM_take (i := 3) (v := ?_) rfl (by kernel_rfl) (by kernel_rfl) (by kernel_rfl) (by decide) (fun _ _ _ h => h) hcl hC (fun _ => hE) (Or.inl ⟨by rfl, ?_⟩) ?_; rotate_left; (· (intro w hSw; (try dsimp only at hSw); go_simp; (try with_reducible rfl))); clear hcl; intro hcl; (try simp only [Act.put, List.getElem_toArray, List.getElem_cons_zero, List.getElem_cons_succ, List.setIfInBounds_toArray, List.set_cons_zero, List.set_cons_succ]))
        (refine wpM_take (i := 4) (v := ?_) rfl (by kernel_rfl) (by kernel_rfl) (by kernel_rfl) (by decide) (fun _ _ _ h => h) hcl hC (fun _ => hE) (Or.inl ⟨by rfl, ?_⟩) ?_; rotate_left; (· (intro w hSw; (try dsimp only at hSw); go_simp; (try with_reducible rfl))); clear hcl; intro hcl; (try simp only [Act.put, List.getElem_toArray, List.getElem_cons_zero, List.getElem_cons_succ, List.setIfInBounds_toArray, List.set_cons_zero, List.set_cons_succ]))
        (refine wpM_take (i := 5) (v := ?_) rfl (by kernel_rfl) (by kernel_rfl) (by kernel_rfl) (by decide) (fun _ _ _ h => h) hcl hC (fun _ => hE) (Or.inl ⟨by rfl, ?_⟩) ?_; rotate_left; (· (intro w hSw; (try dsimp only at hSw); go_simp; (try with_reducible rfl))); clear hcl; intro hcl; (try simp only [Act.put, List.getElem_toArray, List.getElem_cons_zero, List.getElem_cons_succ, List.setIfInBounds_toArray, List.set_cons_zero, List.set_cons_succ]))
        (refine wpM_take (i := 6) (v := ?_) rfl (by kernel_rfl) (by kernel_rfl) (by kernel_rfl) (by decide) (fun _ _ _ h => h) hcl hC (fun _ => hE) (Or.inl ⟨by rfl, ?_⟩) ?_; rotate_left; (· (intro w hSw; (try dsimp only at hSw); go_simp; (try with_reducible rfl))); clear hcl; intro hcl; (try simp only [Act.put, List.getElem_toArray, List.getElem_cons_zero, List.getElem_cons_succ, List.setIfInBounds_toArray, List.set_cons_zero, List.set_cons_succ]))
        refine wpM_only (i := 7) rfl (by kernel_rfl) hcl (fun K hK => ?_)
        go_simp
        have hW5 : (w2.alloc (.cells #[.int .i64 u.1.1, .int .u32 u.1.2, .int .i64 u.2] 79)).drew.heap[w1.heap.size]? = some (.cells #[.slice A n c, .slice G t d'] 25 (0, 0)) := heap_drew (heap_old _ hlo2 ho2H.out)
        have hC5 : KQ w1.heap.size w2 (w2.alloc (.cells #[.int .i64 u.1.1, .int .u32 u.1.2, .int .i64 u.2] 79)).drew := kq_drew ((Below.refl _ _).alloc (by omega) _)
        have hE5 : (w2.alloc (.cells #[.int .i64 u.1.1, .int .u32 u.1.2, .int .i64 u.2] 79)).drew.cell? ⟨w1.heap.size, 1, none⟩ = some (.slice G t d') := blk_cell hW5 1
        refine hK.out _ _ hC5 hE5 ?_
        clear hK K
        clear hcl
        intro hcl
        (try simp only [Act.put, List.getElem_toArray, List.getElem_cons_zero, List.getElem_cons_succ, List.setIfInBounds_toArray, List.set_cons_zero, List.set_cons_succ])
        clear hC hE
        have hbO : Below w2.heap.size w2 (w2.alloc (.cells #[.int .i64 u.1.1, .int .u32 u.1.2, .int .i64 u.2] 79)).drew := ((Below.refl _ w2).alloc (Nat.le_refl _) _).drew
        refine wpM_only (i := 8) rfl (by kernel_rfl) hcl (fun K hK => ?_)
        refine step_append_rd _ rfl _ _ _ rfl eTag (base := w1.heap.size + 1) (v := .slice G t d') (xs := (((gs.take q).filter fun t => !hasV v t.1).map Tm.enc)) rfl (hown2.below hbO) rfl (Rd.one [.int .i64 u.1.1, .int .u32 u.1.2, .int .i64 u.2] rfl) hlen1 hone1 (by rw [hlt2.out]; have := htk.out; unfold maxLen; omega) (by rw [hlt2.out]; have := htk.out; omega) (by simp; omega) ?_
        intro A2 n2 c2 w4 hn2 hown4 hg4 hat4
        obtain rfl : n2 = t + 1 := by rw [hn2, hlt2.out]
        clear hn2
        have hbk := hown2.block
        have hW6 : w4.heap[w1.heap.size]? = some (.cells #[.slice A n c, .slice G t d'] 25 (0, 0)) := (hg4.block _ (blk_lt hW5) (fun e => by have := (hbk _ e.symm).1; omega)).trans hW5
        have hC6 : KQ w1.heap.size w2 w4 := kq_grown hC5 (by omega) hg4 (fun g e => by have := (hbk g e).1; omega)
        have hE6 : w4.cell? ⟨w1.heap.size, 1, none⟩ = some (.slice G t d') := blk_cell hW6 1
        have hof6 := blk_frozen hW6
        have hl6 := blk_lt hW6
        have hz4 := hg4.size
        have hG6 : Below w1.heap.size w1 w4 := hb2.trans (hC6.1.mono (by omega))
        have hW6H := Lib.hid hW6
        clear hW6 hW5
        refine hK.out _ _ hC6 hE6 ?_
        clear hK K
        clear hcl
        intro hcl
        (try simp only [Act.put, List.getElem_toArray, List.getElem_cons_zero, List.getElem_cons_succ, List.setIfInBounds_toArray, List.set_cons_zero, List.set_cons_succ])
        have hC := hC6
        have hE := hE6
        (refine wpM_take (i := 9) (v := ?_) rfl (by kernel_rfl) (by kernel_rfl) (by kernel_rfl) (by decide) (fun _ _ _ h => h) hcl hC (fun _ => hE) (Or.inl ⟨by rfl, ?_⟩) ?_; rotate_left; (· (intro w hSw; (try dsimp only at hSw); go_simp; (try with_reducible rfl))); clear hcl; intro hcl; (try simp only [Act.put, List.getElem_toArray, List.getElem_cons_zero, List.getElem_cons_succ, List.setIfInBounds_toArray, List.set_cons_zero, List.set_cons_succ]))
        refine wpM_last (i := 10) rfl (by kernel_rfl) hcl (by kernel_rfl) (fun K hK => ?_)
        go_simp
        refine hK.out _ _ (kq_set hC6 (Nat.le_refl _) _) ?_
        clear hK K hcl
        intro hcl
        refine wpM_done (by kernel_rfl) ?_
        clear hcl
        try simp only [Act.put, List.getElem_toArray, List.getElem_cons_zero, List.getElem_cons_succ, List.setIfInBounds_toArray, List.set_cons_zero, List.set_cons_succ]
        clear hC hE hE6 hE5 o0 o1 s0 s1
        go_wp2
        go_roundg (m + 1 - (q + 1))
        case measure => omega
        case rel =>
          refine ⟨q + 1, t + 1, A2, c2, by omega, rfl, by go_num, by rw [blk_set hW6H.out]; rfl, ?_, hG6.setCell (by dsimp only; omega) _, by simp; omega⟩
          rw [hT.out]
          exact hown4.set_blk hW6H.out (by decide) 1 _
    · obtain rfl : q = m := by omega
      have hnli : ¬ (q : Int) < (q : Int) := by omega
      have hlg : gs.length = q := (hBr.out w (Below.refl _ _)).len
      rw [List.take_of_length_le (by omega)] at hown
      have hp4 : t ≤ q := by
        have h1 := hown.rd.2.1
        rw [List.length_map] at h1
        have h2 := List.length_filter_le (fun t : Tm => !hasV v t.1) gs
        omega
      have o0 := blk_cell ho 0
      have o1 := blk_cell ho 1
      simp at o0 o1
      have hltr := blk_lt hrr
      have r0 := blk_cell hrr 0
      have r1 := blk_cell hrr 1
      simp at r0 r1
      have hfr := blk_frozen hrr
      have hb5 := (hown.set_blk hrrH.out (by decide) 0 (.slice A n c)).set_blk (blk_set hrrH.out 0 _) (by decide) 1 (.slice G t d')
      have hGs : Below w.heap.size w ((wr.setCell ⟨w.heap.size + 1 + 1, 0, none⟩ (.slice A n c)).setCell ⟨w.heap.size + 1 + 1, 1, none⟩ (.slice G t d')) := (hGw.setCell (by dsimp only; omega) _).setCell (by dsimp only; omega) _
      have ha5 := (hAr.out _ hGs).more hGs.size
      have hcmm := hcmH.out
      have ha5H := Lib.hid ha5
      have hb5H := Lib.hid hb5
      have hnc' : n ≤ c := hnc
      clear hown ha5 hb5 hoH hlg ho hsr hvr hrr y0 y1 y2 y3 y4 y5 y6 y7
      go_wp2
      exact bodyPost_ret (v := .tuple #[.agg #[.slice A n c, .slice G t d'], .int .i64 0]) (by simp [results, Try.results14, go_sem, r0, r1]) rfl ⟨A, n, c, G, t, d', rfl, ha5H.out, hb5H.out.rd.1, by omega, by omega, hnc', hcmm, hb5H.out.rd.2.2.1, hb5H.out.rd.2.2.2, hGs⟩
end Go.Proofs.Ytadldndmmobpdaa
