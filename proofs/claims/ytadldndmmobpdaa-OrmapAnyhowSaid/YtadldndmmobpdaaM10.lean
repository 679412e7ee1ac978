/- Compact of sets, both: without word of what was taken away within a vector. Rows of additions and of tags beside stores into a set's own box. -/
import Derived.Test.YtadldndmmobpdaaOtA
import Derived.Test.YtadldndmmobpdaaM27
import Derived.Test.YtadldndmmobpdaaDtF
namespace Go.Proofs.Ytadldndmmobpdaa
open Go.RowKit

/-- What a function leaves that gives a set and what is wrong. -/
def PostO (w : World) (X : List Am × List Tm) (er : Int) (e : Ending) (w' : World) : Prop :=
  ∃ A n c B m d, e = .returned (.tuple #[.agg #[.slice A n c, .slice B m d], .int .i64 er]) ∧ RdA w' w'.heap.size A n X.1 ∧ RdT w' w'.heap.size B m X.2 ∧ n ≤ 5000 ∧ m ≤ 9000 ∧ n ≤ c ∧ c ≤ maxLen ∧ m ≤ d ∧ d ≤ maxLen ∧ Below w.heap.size w w'
theorem PostO.nil_ {w w' : World} {er : Int} (hb : Below w.heap.size w w') : PostO w ([], []) er (.returned (.tuple #[.agg #[.slice none 0 0, .slice none 0 0], .int .i64 er])) w' :=
  ⟨none, 0, 0, none, 0, 0, rfl, ⟨rfl, fun h => absurd h (by decide)⟩, ⟨rfl, fun h => absurd h (by decide)⟩, by omega, by omega, by omega, by simp [maxLen], by omega, by simp [maxLen], hb⟩
def compO (xs : List Am) (gs : List Tm) (v : Vm) : List Am × List Tm := if oErr xs gs ≠ 0 then ([], []) else (xs, gs.filter fun t => !hasV v t.1)
set_option maxRecDepth 100000 in
theorem ocomp1_any (vb : Nat) (v : Vm) (t : Tm) (ht : t.wf) (w : World) (hv : w.heap[vb]? = some (.cells #[.int .u32 v.d0, .int .u32 v.d1, .int .u32 v.d2, .int .u32 v.d3, .int .u32 v.d4, .int .u32 v.d5, .int .u32 v.d6, .int .u32 v.d7] 28 (0, 0))) :
    Calls Try.prog 57 #[.agg #[.int .i64 t.1.1, .int .u32 t.1.2, .int .i64 t.2], .pointer (some ⟨vb, 0, none⟩)] w fun e w' => e = .returned (.bool (hasV v t.1)) ∧ Below w.heap.size w w' := by
  have hb0 : Below w.heap.size w (w.alloc (.cells #[.int .i64 t.1.1, .int .u32 t.1.2, .int .i64 t.2] 79)) := (Below.refl _ w).alloc (Nat.le_refl _) _
  have hbx : (w.alloc (.cells #[.int .i64 t.1.1, .int .u32 t.1.2, .int .i64 t.2] 79)).heap[w.heap.size]? = some (.cells #[.int .i64 t.1.1, .int .u32 t.1.2, .int .i64 t.2] 79 (0, 0)) := heap_at _ _ rfl
  have hv0 := blk_below hv hb0
  generalize hW : w.alloc (.cells #[.int .i64 t.1.1, .int .u32 t.1.2, .int .i64 t.2] 79) = W at hb0 hbx hv0
  have hltx := blk_lt hbx
  have hltv := blk_lt hv0
  have p0 := blk_cell hbx 0
  have p1 := blk_cell hbx 1
  have p2 := blk_cell hbx 2
  have v0 := blk_cell hv0 0
  have v1 := blk_cell hv0 1
  have v2 := blk_cell hv0 2
  have v3 := blk_cell hv0 3
  have v4 := blk_cell hv0 4
  have v5 := blk_cell hv0 5
  have v6 := blk_cell hv0 6
  have v7 := blk_cell hv0 7
  simp at p0 p1 p2 v0 v1 v2 v3 v4 v5 v6 v7
  have hc := Lib.hid (vhas_any v t.1 ht)
  generalize hasV v t.1 = r at hc
  clear hbx hv0 hv
  go_enter Try.func57, Try.ntmps57
  go_wp2_with fail
  refine (hc.out _).mono ?_
  rintro e w1 ⟨rfl, hb⟩
  have hG := hb0.trans (hb.mono hb0.size)
  go_wp2
  go_ret
  exact ⟨rfl, hG⟩
set_option maxRecDepth 100000 in
set_option maxHeartbeats 2000000 in
theorem ocompact_any (A : Option Addr) (n c : Nat) (xs : List Am) (B : Option Addr) (m d : Nat) (gs : List Tm) (v : Vm) (w : World) (hA : RdA w w.heap.size A n xs) (hB : RdT w w.heap.size B m gs) (hn : n ≤ 100000) (hm : m ≤ 100000) (hx : ∀ a ∈ xs, a.wf) (hg : ∀ t ∈ gs, t.wf) (hl : ∀ a ∈ xs, a.2.length ≤ maxLen) :
    Calls Try.prog 12 #[.agg #[.slice A n c, .slice B m d], .agg #[.int .u32 v.d0, .int .u32 v.d1, .int .u32 v.d2, .int .u32 v.d3, .int .u32 v.d4, .int .u32 v.d5, .int .u32 v.d6, .int .u32 v.d7]] w (PostO w (compO xs gs v) (oErr xs gs)) := by
  have hb0 : Below w.heap.size w (((w.alloc (.cells #[.slice A n c, .slice B m d] 32)).alloc (.cells #[.int .u32 v.d0, .int .u32 v.d1, .int .u32 v.d2, .int .u32 v.d3, .int .u32 v.d4, .int .u32 v.d5, .int .u32 v.d6, .int .u32 v.d7] 28)).alloc (.cells #[.slice none 0 0, .slice none 0 0] 32)) := (((Below.refl _ w).alloc (Nat.le_refl _) _).alloc (by simp) _).alloc (by simp; omega) _
  have hbx : (((w.alloc (.cells #[.slice A n c, .slice B m d] 32)).alloc (.cells #[.int .u32 v.d0, .int .u32 v.d1, .int .u32 v.d2, .int .u32 v.d3, .int .u32 v.d4, .int .u32 v.d5, .int .u32 v.d6, .int .u32 v.d7] 28)).alloc (.cells #[.slice none 0 0, .slice none 0 0] 32)).heap[w.heap.size]? = some (.cells #[.slice A n c, .slice B m d] 32 (0, 0)) := heap_old _ (by simp; omega) (heap_old _ (by simp) (heap_at _ _ rfl))
  have hbv : (((w.alloc (.cells #[.slice A n c, .slice B m d] 32)).alloc (.cells #[.int .u32 v.d0, .int .u32 v.d1, .int .u32 v.d2, .int .u32 v.d3, .int .u32 v.d4, .int .u32 v.d5, .int .u32 v.d6, .int .u32 v.d7] 28)).alloc (.cells #[.slice none 0 0, .slice none 0 0] 32)).heap[w.heap.size + 1]? = some (.cells #[.int .u32 v.d0, .int .u32 v.d1, .int .u32 v.d2, .int .u32 v.d3, .int .u32 v.d4, .int .u32 v.d5, .int .u32 v.d6, .int .u32 v.d7] 28 (0, 0)) := heap_old _ (by simp) (heap_at _ _ (by simp))
  have hbr : (((w.alloc (.cells #[.slice A n c, .slice B m d] 32)).alloc (.cells #[.int .u32 v.d0, .int .u32 v.d1, .int .u32 v.d2, .int .u32 v.d3, .int .u32 v.d4, .int .u32 v.d5, .int .u32 v.d6, .int .u32 v.d7] 28)).alloc (.cells #[.slice none 0 0, .slice none 0 0] 32)).heap[w.heap.size + 1 + 1]? = some (.cells #[.slice none 0 0, .slice none 0 0] 32 (0, 0)) := heap_at _ _ (by simp)
  generalize hW : (((w.alloc (.cells #[.slice A n c, .slice B m d] 32)).alloc (.cells #[.int .u32 v.d0, .int .u32 v.d1, .int .u32 v.d2, .int .u32 v.d3, .int .u32 v.d4, .int .u32 v.d5, .int .u32 v.d6, .int .u32 v.d7] 28)).alloc (.cells #[.slice none 0 0, .slice none 0 0] 32)) = W at hb0 hbx hbv hbr
  have hbxH := Lib.hid hbx
  have hbvH := Lib.hid hbv
  have hbrH := Lib.hid hbr
  have hltx := blk_lt hbx
  have hltr := blk_lt hbr
  have s0 := blk_cell hbx 0
  have s1 := blk_cell hbx 1
  have r0 := blk_cell hbr 0
  have r1 := blk_cell hbr 1
  simp at s0 s1 r0 r1
  have hfr := blk_frozen hbr
  have hck := Lib.hid (ocheck_any A n c xs B m d gs W ((hA.below hb0).more hb0.size) ((hB.below hb0).more hb0.size) (by simp [maxLen]; omega) (by simp [maxLen]; omega) hx hg hl)
  generalize hr : compO xs gs v = out
  unfold compO at hr
  generalize hpe : oErr xs gs = p at hck hr ⊢
  by_cases hp : p = 0
  case neg =>
    rw [if_pos hp] at hr
    subst hr
    have hpn : (p != 0) = true := by simpa using hp
    clear hpe hp hbx hbv hbr hA hB
    go_enter Try.func12, Try.ntmps12
    go_wp2_with fail
    refine hck.out.mono ?_
    rintro e w1 ⟨rfl, hv1⟩
    have hG := hb0.trans (hv1.mono hb0.size)
    have hr1 := blk_below hbrH.out hv1
    have hlr1 := blk_lt hr1
    clear r0 r1 hfr
    have r0 := blk_cell hr1 0
    have r1 := blk_cell hr1 1
    have hfr := blk_frozen hr1
    simp at r0 r1
    have hGs : Below w.heap.size w ((w1.setCell ⟨w.heap.size + 1 + 1, 0, none⟩ (.slice none 0 0)).setCell ⟨w.heap.size + 1 + 1, 1, none⟩ (.slice none 0 0)) := (hG.setCell (by dsimp only; omega) _).setCell (by dsimp only; omega) _
    go_wp2
    exact bodyPost_ret (v := .tuple #[.agg #[.slice none 0 0, .slice none 0 0], .int .i64 p]) (by simp [results, Try.results12, go_sem, r0, r1]) rfl (PostO.nil_ hGs)
  subst hp
  rw [if_neg (by simp)] at hr
  subst hr
  obtain ⟨hn4, hm4, _⟩ := sErr_zero.1 hpe
  rw [List.length_map, hA.len] at hn4
  rw [hB.len] at hm4
  have hAr := Lib.hid (fun w' (h : Below w.heap.size w w') => hA.below h)
  have hBr := Lib.hid (fun w' (h : Below w.heap.size w w') => hB.below h)
  have hgH := Lib.hid hg
  have hzW := hb0.size
  clear hpe hbx hbv hbr hA hB hx hg hl
  go_enter Try.func12, Try.ntmps12
  go_wp2_with fail
  refine hck.out.mono ?_
  rintro e' w1 ⟨rfl, hv1⟩
  have hG1 := hb0.trans (hv1.mono hzW)
  have hs1 := blk_below hbxH.out hv1
  have hvb1 := blk_below hbvH.out hv1
  have hr1 := blk_below hbrH.out hv1
  clear r0 r1 hfr s0 s1 hltx hltr hck
  have hltx := blk_lt hs1
  have hltr := blk_lt hr1
  have s0 := blk_cell hs1 0
  have s1 := blk_cell hs1 1
  simp at s0 s1
  have hvH := Lib.hid hvb1
  have hrH := Lib.hid hr1
  clear hvb1 hr1 hs1
  go_upto_region 5 with (fail)
  refine wp_region_M (fun w' => KQ (w.heap.size + 2) w1 w') (fun _ => True) 99 (by kernel_rfl) (kq (Below.refl _ _).drew) trivial ?_
  intro hcl
  have hC : KQ (w.heap.size + 2) w1 w1.drew := kq (Below.refl _ _).drew
  have hE := trivial
  (refine wpM_take (i := 0) (v := ?_) rfl (by kernel_rfl) (by kernel_rfl) (by kernel_rfl) (by decide) (fun _ _ _ h => h) hcl hC (fun _ => hE) (Or.inl ⟨by rfl, ?_⟩) ?_; rotate_left; (· (intro w hSw; (try dsimp only at hSw); go_simp; (try with_reducible rfl))); clear hcl; intro hcl; (try simp only [Act.put, List.getElem_toArray, List.getElem_cons_zero, List.setIfInBounds_toArray, List.set_cons_zero, List.set_cons_succ]))
  (refine wpM_take (i := 1) (v := ?_) rfl (by kernel_rfl) (by kernel_rfl) (by kernel_rfl) (by decide) (fun _ _ _ h => h) hcl hC (fun _ => hE) (Or.inl ⟨by rfl, ?_⟩) ?_; rotate_left; (· (intro w hSw; (try dsimp only at hSw); go_simp; (try with_reducible rfl))); clear hcl; intro hcl; (try simp only [Act.put, List.getElem_toArray, List.getElem_cons_zero, List.getElem_cons_succ, List.setIfInBounds_toArray, List.set_cons_zero, List.set_cons_succ]))
  (refine wpM_take (i := 3) (v := ?_) rfl (by kernel_rfl) (by kernel_rfl) (by kernel_rfl) (by decide) (fun _ _ _ h => h) hcl hC (fun _ => hE) (Or.inl ⟨by rfl, ?_⟩) ?_; rotate_left; (· (intro w hSw; (try dsimp only at hSw); go_simp; (try with_reducible rfl))); clear hcl; intro hcl; (try simp only [Act.put, List.getElem_toArray, List.getElem_cons_zero, List.getElem_cons_succ, List.setIfInBounds_toArray, List.set_cons_zero, List.set_cons_succ]))
  (refine wpM_take (i := 4) (v := ?_) rfl (by kernel_rfl) (by kernel_rfl) (by kernel_rfl) (by decide) (fun _ _ _ h => h) hcl hC (fun _ => hE) (Or.inl ⟨by rfl, ?_⟩) ?_; rotate_left; (· (intro w hSw; (try dsimp only at hSw); go_simp; (try with_reducible rfl))); clear hcl; intro hcl; (try simp only [Act.put, List.getElem_toArray, List.getElem_cons_zero, List.getElem_cons_succ, List.setIfInBounds_toArray, List.set_cons_zero, List.set_cons_succ]))
  (refine wpM_take (i := 6) (v := ?_) rfl (by kernel_rfl) (by kernel_rfl) (by kernel_rfl) (by decide) (fun _ _ _ h => h) hcl hC (fun _ => hE) (Or.inl ⟨by rfl, ?_⟩) ?_; rotate_left; (· (intro w hSw; (try dsimp only at hSw); go_simp; (try with_reducible rfl))); clear hcl; intro hcl; (try simp only [Act.put, List.getElem_toArray, List.getElem_cons_zero, List.getElem_cons_succ, List.setIfInBounds_toArray, List.set_cons_zero, List.set_cons_succ]))
  refine wpM_only (i := 2) rfl (by kernel_rfl) hcl (fun K hK => ?_)
  go_simp
  have hGd := hG1.drew
  have hzd : w.heap.size + 1 + 1 < w1.drew.heap.size := hltr
  refine (cloneA_any A n c xs w1.drew ((hAr.out _ hGd).more (by simpa using hG1.size)) hn).mono ?_
  rintro e v2 ⟨A2, c2, rfl, o2, hv2⟩
  have hz2 := hv2.size
  have hC2 : KQ (w.heap.size + 2) w1 v2 := kq_call hC (by omega) hv2
  have hG2 := hGd.trans (hv2.mono (by simpa using hG1.size))
  refine hK.out _ _ hC2 trivial ?_
  clear hK K
  clear hcl
  intro hcl
  (try simp only [Act.put, List.getElem_toArray, List.getElem_cons_zero, List.getElem_cons_succ, List.setIfInBounds_toArray, List.set_cons_zero, List.set_cons_succ])
  clear hC
  have hC := hC2
  refine wpM_only (i := 5) rfl (by kernel_rfl) hcl (fun K hK => ?_)
  go_simp
  refine (cloneT_any B m d gs v2 ((hBr.out _ hG2).more hG2.size) hm).mono ?_
  rintro e v3 ⟨B3, d3, rfl, o3, hv3⟩
  have hz3 := hv3.size
  have hC3 : KQ (w.heap.size + 2) w1 v3 := kq_call hC (by omega) hv3
  have hG3 := hG2.trans (hv3.mono hG2.size)
  have hvb3 : v3.heap[w.heap.size + 1]? = some (.cells #[.int .u32 v.d0, .int .u32 v.d1, .int .u32 v.d2, .int .u32 v.d3, .int .u32 v.d4, .int .u32 v.d5, .int .u32 v.d6, .int .u32 v.d7] 28 (0, 0)) := blk_below (blk_below (heap_drew hvH.out) hv2) hv3
  have hrb3 : v3.heap[w.heap.size + 1 + 1]? = some (.cells #[.slice none 0 0, .slice none 0 0] 32 (0, 0)) := blk_below (blk_below (heap_drew hrH.out) hv2) hv3
  have o23 := o2.below hv3
  refine hK.out _ _ hC3 trivial ?_
  clear hK K
  clear hcl
  intro hcl
  (try simp only [Act.put, List.getElem_toArray, List.getElem_cons_zero, List.getElem_cons_succ, List.setIfInBounds_toArray, List.set_cons_zero, List.set_cons_succ])
  clear hC
  have hC := hC3
  refine wpM_only (i := 7) rfl (by kernel_rfl) hcl (fun K hK => ?_)
  go_simp
  have hvl : w.heap.size + 1 < v2.heap.size := by simp at hzd hz2; omega
  refine (delfT_gen 57 #[.pointer (some ⟨w.heap.size + 1, 0, none⟩)] (fun t => hasV v t.1) (enters_of Try.func57 (by kernel_rfl) rfl) v2.heap.size B3 m d3 gs v3 o3 hm (fun t ht w' hbw => ocomp1_any (w.heap.size + 1) v t (hgH.out t ht) w' ((hbw.block _ hvl).trans hvb3)) hz3).mono ?_
  rintro e v4 ⟨m4, rfl, o4, hg4⟩
  have hrow : ∀ k, (Value.slice B3 m d3).ownBlock = some k → v2.heap.size ≤ k := fun k hk => (o3.block k hk).1
  have hC4 : KQ (w.heap.size + 2) w1 v4 := kq_grown hC (by omega) hg4 (fun k hk => by have := hrow k hk; simp at hzd hz2; omega)
  have hG4 : Below w.heap.size w v4 := hG3.grown hg4 hG3.size (fun k hk => by have := hrow k hk; simp at hzd hz2; omega)
  have hrb4 : v4.heap[w.heap.size + 1 + 1]? = some (.cells #[.slice none 0 0, .slice none 0 0] 32 (0, 0)) := (hg4.block _ (blk_lt hrb3) (fun e => by have := hrow _ e.symm; simp at hzd hz2; omega)).trans hrb3
  have o24 : Ow v4 w1.drew.heap.size 83 4 (.slice A2 n c2) (xs.map Am.enc) := o23.other o3 (by decide) hg4
  clear hg4 hvb3 hrb3 o23 o3 o2 hv2 hv3
  refine hK.out _ _ hC4 trivial ?_
  clear hK K
  clear hcl
  intro hcl
  (try simp only [Act.put, List.getElem_toArray, List.getElem_cons_zero, List.getElem_cons_succ, List.setIfInBounds_toArray, List.set_cons_zero, List.set_cons_succ])
  clear hC
  have hC := hC4
  (refine wpM_take (i := 8) (v := ?_) rfl (by kernel_rfl) (by kernel_rfl) (by kernel_rfl) (by decide) (fun _ _ _ h => h) hcl hC (fun _ => hE) (Or.inl ⟨by rfl, ?_⟩) ?_; rotate_left; (· (intro w hSw; (try dsimp only at hSw); go_simp; (try with_reducible rfl))); clear hcl; intro hcl; (try simp only [Act.put, List.getElem_toArray, List.getElem_cons_zero, List.getElem_cons_succ, List.setIfInBounds_toArray, List.set_cons_zero, List.set_cons_succ]))
  have hlr4 := blk_lt hrb4
  have r0 := blk_cell hrb4 0
  have r1 := blk_cell hrb4 1
  simp at r0 r1
  have hfr4 := blk_frozen hrb4
  refine wpM_only (i := 9) rfl (by kernel_rfl) hcl (fun K hK => ?_)
  go_simp
  have hC5 : KQ (w.heap.size + 2) w1 ((v4.setCell ⟨w.heap.size + 1 + 1, 0, none⟩ (.slice A2 n c2)).setCell ⟨w.heap.size + 1 + 1, 1, none⟩ (.slice B3 m4 d3)) := kq_set (kq_set hC (by dsimp only; omega) _) (by dsimp only; omega) _
  refine hK.out _ _ hC5 trivial ?_
  clear hK K
  clear hcl
  intro hcl
  (try simp only [Act.put, List.getElem_toArray, List.getElem_cons_zero, List.getElem_cons_succ, List.setIfInBounds_toArray, List.set_cons_zero, List.set_cons_succ])
  clear hC
  have hC := hC5
  (refine wpM_take (i := 10) (v := ?_) rfl (by kernel_rfl) (by kernel_rfl) (by kernel_rfl) (by decide) (fun _ _ _ h => h) hcl hC (fun _ => hE) (Or.inl ⟨by rfl, ?_⟩) ?_; rotate_left; (· (intro w hSw; (try dsimp only at hSw); go_simp; (try with_reducible rfl))); clear hcl; intro hcl; (try simp only [Act.put, List.getElem_toArray, List.getElem_cons_zero, List.getElem_cons_succ, List.setIfInBounds_toArray, List.set_cons_zero, List.set_cons_succ]))
  refine wpM_done (by kernel_rfl) ?_
  clear hcl
  try simp only [Act.put, List.getElem_toArray, List.getElem_cons_zero, List.getElem_cons_succ, List.setIfInBounds_toArray, List.set_cons_zero, List.set_cons_succ]
  go_wp2
  have hp4 : m4 ≤ m := by
    have h1 := o4.rd.2.1
    rw [List.length_map] at h1
    have h2 := List.length_filter_le (fun t : Tm => !hasV v t.1) gs
    have h3 := (hBr.out w (Below.refl _ _)).len
    omega
  have ha5 := (o24.set_blk hrb4 (by decide) 0 (.slice A2 n c2)).set_blk (blk_set hrb4 0 _) (by decide) 1 (.slice B3 m4 d3)
  have hb5 := (o4.set_blk hrb4 (by decide) 0 (.slice A2 n c2)).set_blk (blk_set hrb4 0 _) (by decide) 1 (.slice B3 m4 d3)
  exact bodyPost_ret (v := .tuple #[.agg #[.slice A2 n c2, .slice B3 m4 d3], .int .i64 0]) (by simp [results, Try.results12, go_sem, r0, r1]) rfl ⟨A2, n, c2, B3, m4, d3, rfl, ha5.rd.1, hb5.rd.1, by omega, by omega, ha5.rd.2.2.1, ha5.rd.2.2.2, hb5.rd.2.2.1, hb5.rd.2.2.2, (hG4.setCell (by dsimp only; omega) _).setCell (by dsimp only; omega) _⟩
end Go.Proofs.Ytadldndmmobpdaa
namespace Go.Proofs.Ytadldndmmobpdaa
open Go.RowKit

theorem RdA.set_other {w : World} {B n g : Nat} {A : Option Addr} {xs : List Am} {t : TypeId} {a b : Option Addr} {p q r s : Nat} (h : RdA w B A n xs) (hg : w.heap[g]? = some (.cells #[.slice a p q, .slice b r s] t (0, 0))) (i : Nat) (u : Value) : RdA (w.setCell ⟨g, i, none⟩ u) B A n xs :=
  ⟨h.1, fun hn => by
    obtain ⟨b', o, e, hb, hc⟩ := h.2 hn
    refine ⟨b', o, e, hb, fun k x hx j v hv => ?_⟩
    have hne : b' ≠ g := by
      rintro rfl
      have hl := h.1
      obtain ⟨x0, hx0⟩ : ∃ x0, (xs.map Am.enc)[0]? = some x0 := ⟨_, List.getElem?_eq_getElem (by omega)⟩
      rw [List.getElem?_map] at hx0
      obtain ⟨y, hy, rfl⟩ := Option.map_eq_some_iff.1 hx0
      have h0 := hc 0 (Am.enc y) (by rw [List.getElem?_map, hy]; rfl) 0 _ rfl
      rw [blk_cell hg] at h0
      rcases Nat.lt_or_ge (o + 0 * 4 + 0) 2 with h2 | h2
      · have h3 : o = 0 ∨ o = 1 := by omega
        rcases h3 with rfl | rfl <;> simp at h0
      · rw [Array.getElem?_eq_none (by simpa using h2)] at h0; cases h0
    have h9 := hc k x hx j v hv
    refine (World.cell?_setCell_other _ ⟨g, i, none⟩ _ u (fun e => hne (congrArg Addr.block e).symm)).trans ?_
    exact h9⟩
theorem Ow.rdA {w : World} {base n c : Nat} {e : TypeId} {A : Option Addr} {xs : List Am} (h : Ow w base e 4 (.slice A n c) (xs.map Am.enc)) : RdA w w.heap.size A n xs := h.rd.1
theorem Ow.rdT {w : World} {base n c : Nat} {e : TypeId} {A : Option Addr} {xs : List Tm} (h : Ow w base e 3 (.slice A n c) (xs.map Tm.enc)) : RdT w w.heap.size A n xs := h.rd.1
theorem RdT.set_other {w : World} {B n g : Nat} {A : Option Addr} {xs : List Tm} {t : TypeId} {a b : Option Addr} {p q r s : Nat} (h : RdT w B A n xs) (hg : w.heap[g]? = some (.cells #[.slice a p q, .slice b r s] t (0, 0))) (i : Nat) (u : Value) : RdT (w.setCell ⟨g, i, none⟩ u) B A n xs :=
  ⟨h.1, fun hn => by
    obtain ⟨b', o, e, hb, hc⟩ := h.2 hn
    refine ⟨b', o, e, hb, fun k x hx j v hv => ?_⟩
    have hne : b' ≠ g := by
      rintro rfl
      have hl := h.1
      obtain ⟨x0, hx0⟩ : ∃ x0, (xs.map Tm.enc)[0]? = some x0 := ⟨_, List.getElem?_eq_getElem (by omega)⟩
      rw [List.getElem?_map] at hx0
      obtain ⟨y, hy, rfl⟩ := Option.map_eq_some_iff.1 hx0
      have h0 := hc 0 (Tm.enc y) (by rw [List.getElem?_map, hy]; rfl) 0 _ rfl
      rw [blk_cell hg] at h0
      rcases Nat.lt_or_ge (o + 0 * 3 + 0) 2 with h2 | h2
      · have h3 : o = 0 ∨ o = 1 := by omega
        rcases h3 with rfl | rfl <;> simp at h0
      · rw [Array.getElem?_eq_none (by simpa using h2)] at h0; cases h0
    have h9 := hc k x hx j v hv
    refine (World.cell?_setCell_other _ ⟨g, i, none⟩ _ u (fun e => hne (congrArg Addr.block e).symm)).trans ?_
    exact h9⟩
theorem Ow.ne_blk {w : World} {base g sz : Nat} {e t : TypeId} {v : Value} {xs : List (List Value)} {cs : Array Value} (h : Ow w base e sz v xs) (hg : w.heap[g]? = some (.cells cs t (0, 0))) (hne : e ≠ t) : v.ownBlock ≠ some g := by
  rcases h.2.2 with ⟨rfl, _⟩ | ⟨g', cap, cur, rfl, _, hh, _⟩
  · simp [Value.ownBlock]
  · intro e1
    injection e1 with e1
    dsimp only at e1
    subst e1
    rw [hh] at hg
    injection hg with hg
    injection hg with _ h2
    exact hne h2
end Go.Proofs.Ytadldndmmobpdaa
