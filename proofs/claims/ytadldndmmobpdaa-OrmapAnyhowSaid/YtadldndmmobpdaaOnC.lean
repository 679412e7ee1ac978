/- Compact of maps: without word of what was taken away within a vector. -/
import Derived.Test.YtadldndmmobpdaaM21
import Derived.Test.YtadldndmmobpdaaM13
import Derived.Test.YtadldndmmobpdaaM10
namespace Go.Proofs.Ytadldndmmobpdaa
open Go.RowKit

/-- What a function leaves that gives a map and what is wrong. -/
def PostM (w : World) (X : List Pm × List Tm) (er : Int) (e : Ending) (w' : World) : Prop :=
  ∃ A n c B m d, e = .returned (.tuple #[.agg #[.slice A n c, .slice B m d], .int .i64 er]) ∧ RdP w' w'.heap.size A n X.1 ∧ RdT w' w'.heap.size B m X.2 ∧ n ≤ 5000 ∧ m ≤ 9000 ∧ n ≤ c ∧ c ≤ maxLen ∧ m ≤ d ∧ d ≤ maxLen ∧ Below w.heap.size w w'
theorem PostM.nil_ {w w' : World} {er : Int} (hb : Below w.heap.size w w') : PostM w ([], []) er (.returned (.tuple #[.agg #[.slice none 0 0, .slice none 0 0], .int .i64 er])) w' :=
  ⟨none, 0, 0, none, 0, 0, rfl, ⟨rfl, fun h => absurd h (by decide)⟩, ⟨rfl, fun h => absurd h (by decide)⟩, by omega, by omega, by omega, by simp [maxLen], by omega, by simp [maxLen], hb⟩
def compM (xs : List Pm) (gs : List Tm) (v : Vm) : List Pm × List Tm := if mErr xs gs ≠ 0 then ([], []) else (xs, gs.filter fun t => !hasV v t.1)
set_option maxRecDepth 100000 in
theorem mcomp1_any (vb : Nat) (v : Vm) (t : Tm) (ht : t.wf) (w : World) (hv : w.heap[vb]? = some (.cells #[.int .u32 v.d0, .int .u32 v.d1, .int .u32 v.d2, .int .u32 v.d3, .int .u32 v.d4, .int .u32 v.d5, .int .u32 v.d6, .int .u32 v.d7] 28 (0, 0))) :
    Calls Try.prog 66 #[.agg #[.int .i64 t.1.1, .int .u32 t.1.2, .int .i64 t.2], .pointer (some ⟨vb, 0, none⟩)] w fun e w' => e = .returned (.bool (hasV v t.1)) ∧ Below w.heap.size w w' := by
  have hb0 : Below w.heap.size w (w.alloc (.cells #[.int .i64 t.1.1, .int .u32 t.1.2, .int .i64 t.2] 79)) := (Below.refl _ w).alloc (Nat.le_refl _) _
  have hbx : (w.alloc (.cells #[.int .i64 t.1.1, .int .u32 t.1.2, .int .i64 t.2] 79)).heap[w.heap.size]? = some (.cells #[.int .i64 t.1.1, .int .u32 t.1.2, .int .i64 t.2] 79 (0, 0)) := heap_at _ _ rfl
  have hv0 := blk_below hv hb0
  generalize hW : w.alloc (.cells #[.int .i64 t.1.1, .int .u32 t.1.2, .int .i64 t.2] 79) = W at hb0 hbx hv0
  have hltx := blk_lt hbx
  have hltv := blk_lt hv0
  have p0 := blk_cell hbx 0
  have p1 := blk_cell hbx 1
  have p2 := blk_cell hbx 2
  have v0 := blk_cell hv0 0
  have v1 := blk_cell hv0 1
  have v2 := blk_cell hv0 2
  have v3 := blk_cell hv0 3
  have v4 := blk_cell hv0 4
  have v5 := blk_cell hv0 5
  have v6 := blk_cell hv0 6
  have v7 := blk_cell hv0 7
  simp at p0 p1 p2 v0 v1 v2 v3 v4 v5 v6 v7
  have hc := Lib.hid (vhas_any v t.1 ht)
  generalize hasV v t.1 = r at hc
  clear hbx hv0 hv
  go_enter Try.func66, Try.ntmps66
  go_wp2_with fail
  refine (hc.out _).mono ?_
  rintro e w1 ⟨rfl, hb⟩
  have hG := hb0.trans (hb.mono hb0.size)
  go_wp2
  go_ret
  exact ⟨rfl, hG⟩
set_option maxRecDepth 100000 in
set_option maxHeartbeats 1000000 in
theorem mown_any (A : Option Addr) (n c : Nat) (xs : List Pm) (B : Option Addr) (m d : Nat) (gs : List Tm) (w : World) (hA : RdP w w.heap.size A n xs) (hB : RdT w w.heap.size B m gs) (hn : n ≤ 100000) (hm : m ≤ 100000) :
    Calls Try.prog 65 #[.agg #[.slice A n c, .slice B m d]] w fun e w' => ∃ A' c' B' d', e = .returned (.agg #[.slice A' n c', .slice B' m d']) ∧ Ow w' w.heap.size 96 7 (.slice A' n c') (xs.map Pm.enc) ∧ Ow w' w.heap.size 79 3 (.slice B' m d') (gs.map Tm.enc) ∧ Below w.heap.size w w' := by
  have hb0 : Below w.heap.size w ((w.alloc (.cells #[.slice A n c, .slice B m d] 56)).alloc (.cells #[.slice none 0 0, .slice none 0 0] 56)) := ((Below.refl _ w).alloc (Nat.le_refl _) _).alloc (by simp) _
  have hbx : ((w.alloc (.cells #[.slice A n c, .slice B m d] 56)).alloc (.cells #[.slice none 0 0, .slice none 0 0] 56)).heap[w.heap.size]? = some (.cells #[.slice A n c, .slice B m d] 56 (0, 0)) := heap_old _ (by simp) (heap_at _ _ rfl)
  have hbr : ((w.alloc (.cells #[.slice A n c, .slice B m d] 56)).alloc (.cells #[.slice none 0 0, .slice none 0 0] 56)).heap[w.heap.size + 1]? = some (.cells #[.slice none 0 0, .slice none 0 0] 56 (0, 0)) := heap_at _ _ (by simp)
  generalize hW : ((w.alloc (.cells #[.slice A n c, .slice B m d] 56)).alloc (.cells #[.slice none 0 0, .slice none 0 0] 56)) = W at hb0 hbx hbr
  have hltx := blk_lt hbx
  have hltr := blk_lt hbr
  have s0 := blk_cell hbx 0
  have s1 := blk_cell hbx 1
  simp at s0 s1
  have hrH := Lib.hid hbr
  have hAr := Lib.hid (fun w' (h : Below w.heap.size w w') => hA.below h)
  have hBr := Lib.hid (fun w' (h : Below w.heap.size w w') => hB.below h)
  clear hbx hbr hA hB
  go_enter Try.func65, Try.ntmps65
  go_wp2_with fail
  try rw [hW]
  clear hW
  refine wp_region_M (fun w' => KQ (w.heap.size + 1) W w') (fun _ => True) 99 (by kernel_rfl) (kq (Below.refl _ _).drew) trivial ?_
  intro hcl
  have hC : KQ (w.heap.size + 1) W W.drew := kq (Below.refl _ _).drew
  have hE := trivial
  (refine wpM_take (i := 0) (v := ?_) rfl (by kernel_rfl) (by kernel_rfl) (by kernel_rfl) (by decide) (fun _ _ _ h => h) hcl hC (fun _ => hE) (Or.inl ⟨by rfl, ?_⟩) ?_; rotate_left; (· (intro w hSw; (try dsimp only at hSw); go_simp; (try with_reducible rfl))); clear hcl; intro hcl; (try simp only [Act.put, List.getElem_toArray, List.getElem_cons_zero, List.setIfInBounds_toArray, List.set_cons_zero, List.set_cons_succ]))
  (refine wpM_take (i := 1) (v := ?_) rfl (by kernel_rfl) (by kernel_rfl) (by kernel_rfl) (by decide) (fun _ _ _ h => h) hcl hC (fun _ => hE) (Or.inl ⟨by rfl, ?_⟩) ?_; rotate_left; (· (intro w hSw; (try dsimp only at hSw); go_simp; (try with_reducible rfl))); clear hcl; intro hcl; (try simp only [Act.put, List.getElem_toArray, List.getElem_cons_zero, List.getElem_cons_succ, List.setIfInBounds_toArray, List.set_cons_zero, List.set_cons_succ]))
  (refine wpM_take (i := 3) (v := ?_) rfl (by kernel_rfl) (by kernel_rfl) (by kernel_rfl) (by decide) (fun _ _ _ h => h) hcl hC (fun _ => hE) (Or.inl ⟨by rfl, ?_⟩) ?_; rotate_left; (· (intro w hSw; (try dsimp only at hSw); go_simp; (try with_reducible rfl))); clear hcl; intro hcl; (try simp only [Act.put, List.getElem_toArray, List.getElem_cons_zero, List.getElem_cons_succ, List.setIfInBounds_toArray, List.set_cons_zero, List.set_cons_succ]))
  (refine wpM_take (i := 4) (v := ?_) rfl (by kernel_rfl) (by kernel_rfl) (by kernel_rfl) (by decide) (fun _ _ _ h => h) hcl hC (fun _ => hE) (Or.inl ⟨by rfl, ?_⟩) ?_; rotate_left; (· (intro w hSw; (try dsimp only at hSw); go_simp; (try with_reducible rfl))); clear hcl; intro hcl; (try simp only [Act.put, List.getElem_toArray, List.getElem_cons_zero, List.getElem_cons_succ, List.setIfInBounds_toArray, List.set_cons_zero, List.set_cons_succ]))
  refine wpM_only (i := 2) rfl (by kernel_rfl) hcl (fun K hK => ?_)
  go_simp
  have hGd := hb0.drew
  have hzd : w.heap.size + 1 < W.drew.heap.size := hltr
  refine (cloneP_any A n c xs W.drew ((hAr.out _ hGd).more (by simpa using hb0.size)) hn).mono ?_
  rintro e v2 ⟨A2, c2, rfl, o2, hv2⟩
  have hz2 := hv2.size
  have hC2 : KQ (w.heap.size + 1) W v2 := kq_call hC (by omega) hv2
  have hG2 := hGd.trans (hv2.mono (by simpa using hb0.size))
  refine hK.out _ _ hC2 trivial ?_
  clear hK K
  clear hcl
  intro hcl
  (try simp only [Act.put, List.getElem_toArray, List.getElem_cons_zero, List.getElem_cons_succ, List.setIfInBounds_toArray, List.set_cons_zero, List.set_cons_succ])
  clear hC
  have hC := hC2
  refine wpM_only (i := 5) rfl (by kernel_rfl) hcl (fun K hK => ?_)
  go_simp
  refine (cloneT_any B m d gs v2 ((hBr.out _ hG2).more hG2.size) hm).mono ?_
  rintro e v3 ⟨B3, d3, rfl, o3, hv3⟩
  have hz3 := hv3.size
  have hC3 : KQ (w.heap.size + 1) W v3 := kq_call hC (by omega) hv3
  have hG3 := hG2.trans (hv3.mono hG2.size)
  have hrb3 : v3.heap[w.heap.size + 1]? = some (.cells #[.slice none 0 0, .slice none 0 0] 56 (0, 0)) := blk_below (blk_below (heap_drew hrH.out) hv2) hv3
  have o23 := o2.below hv3
  refine hK.out _ _ hC3 trivial ?_
  clear hK K
  clear hcl
  intro hcl
  (try simp only [Act.put, List.getElem_toArray, List.getElem_cons_zero, List.getElem_cons_succ, List.setIfInBounds_toArray, List.set_cons_zero, List.set_cons_succ])
  clear hC
  have hC := hC3
  (refine wpM_take (i := 6) (v := ?_) rfl (by kernel_rfl) (by kernel_rfl) (by kernel_rfl) (by decide) (fun _ _ _ h => h) hcl hC (fun _ => hE) (Or.inl ⟨by rfl, ?_⟩) ?_; rotate_left; (· (intro w hSw; (try dsimp only at hSw); go_simp; (try with_reducible rfl))); clear hcl; intro hcl; (try simp only [Act.put, List.getElem_toArray, List.getElem_cons_zero, List.getElem_cons_succ, List.setIfInBounds_toArray, List.set_cons_zero, List.set_cons_succ]))
  have hlr4 := blk_lt hrb3
  have r0 := blk_cell hrb3 0
  have r1 := blk_cell hrb3 1
  simp at r0 r1
  have hfr4 := blk_frozen hrb3
  refine wpM_only (i := 7) rfl (by kernel_rfl) hcl (fun K hK => ?_)
  go_simp
  have hC5 : KQ (w.heap.size + 1) W ((v3.setCell ⟨w.heap.size + 1, 0, none⟩ (.slice A2 n c2)).setCell ⟨w.heap.size + 1, 1, none⟩ (.slice B3 m d3)) := kq_set (kq_set hC (by dsimp only; omega) _) (by dsimp only; omega) _
  refine hK.out _ _ hC5 trivial ?_
  clear hK K
  clear hcl
  intro hcl
  (try simp only [Act.put, List.getElem_toArray, List.getElem_cons_zero, List.getElem_cons_succ, List.setIfInBounds_toArray, List.set_cons_zero, List.set_cons_succ])
  clear hC
  have hC := hC5
  refine wpM_done (by kernel_rfl) ?_
  clear hcl
  try simp only [Act.put, List.getElem_toArray, List.getElem_cons_zero, List.getElem_cons_succ, List.setIfInBounds_toArray, List.set_cons_zero, List.set_cons_succ]
  go_wp2
  have hzw : W.drew.heap.size = W.heap.size := rfl
  have hzb := hb0.size
  have ha5 := ((o23.set_blk hrb3 (by decide) 0 (.slice A2 n c2)).set_blk (blk_set hrb3 0 _) (by decide) 1 (.slice B3 m d3)).base (base' := w.heap.size) (by omega)
  have hb5 := ((o3.set_blk hrb3 (by decide) 0 (.slice A2 n c2)).set_blk (blk_set hrb3 0 _) (by decide) 1 (.slice B3 m d3)).base (base' := w.heap.size) (by omega)
  exact bodyPost_ret (v := .agg #[.slice A2 n c2, .slice B3 m d3]) (by simp [results, Try.results65, go_sem, r0, r1]) rfl ⟨A2, c2, B3, d3, rfl, ha5, hb5, (hG3.setCell (by dsimp only; omega) _).setCell (by dsimp only; omega) _⟩
set_option maxRecDepth 100000 in
set_option maxHeartbeats 2000000 in
theorem mcompact_any (A : Option Addr) (n c : Nat) (xs : List Pm) (B : Option Addr) (m d : Nat) (gs : List Tm) (v : Vm) (w : World) (hA : RdP w w.heap.size A n xs) (hB : RdT w w.heap.size B m gs) (hn : n ≤ 100000) (hm : m ≤ 100000) (hx : ∀ a ∈ xs, a.wf) (hg : ∀ t ∈ gs, t.wf) (hl : ∀ a ∈ xs, a.2.1.length ≤ maxLen) :
    Calls Try.prog 25 #[.agg #[.slice A n c, .slice B m d], .agg #[.int .u32 v.d0, .int .u32 v.d1, .int .u32 v.d2, .int .u32 v.d3, .int .u32 v.d4, .int .u32 v.d5, .int .u32 v.d6, .int .u32 v.d7]] w (PostM w (compM xs gs v) (mErr xs gs)) := by
  have hb0 : Below w.heap.size w (((w.alloc (.cells #[.slice A n c, .slice B m d] 56)).alloc (.cells #[.int .u32 v.d0, .int .u32 v.d1, .int .u32 v.d2, .int .u32 v.d3, .int .u32 v.d4, .int .u32 v.d5, .int .u32 v.d6, .int .u32 v.d7] 28)).alloc (.cells #[.slice none 0 0, .slice none 0 0] 56)) := (((Below.refl _ w).alloc (Nat.le_refl _) _).alloc (by simp) _).alloc (by simp; omega) _
  have hbx : (((w.alloc (.cells #[.slice A n c, .slice B m d] 56)).alloc (.cells #[.int .u32 v.d0, .int .u32 v.d1, .int .u32 v.d2, .int .u32 v.d3, .int .u32 v.d4, .int .u32 v.d5, .int .u32 v.d6, .int .u32 v.d7] 28)).alloc (.cells #[.slice none 0 0, .slice none 0 0] 56)).heap[w.heap.size]? = some (.cells #[.slice A n c, .slice B m d] 56 (0, 0)) := heap_old _ (by simp; omega) (heap_old _ (by simp) (heap_at _ _ rfl))
  have hbv : (((w.alloc (.cells #[.slice A n c, .slice B m d] 56)).alloc (.cells #[.int .u32 v.d0, .int .u32 v.d1, .int .u32 v.d2, .int .u32 v.d3, .int .u32 v.d4, .int .u32 v.d5, .int .u32 v.d6, .int .u32 v.d7] 28)).alloc (.cells #[.slice none 0 0, .slice none 0 0] 56)).heap[w.heap.size + 1]? = some (.cells #[.int .u32 v.d0, .int .u32 v.d1, .int .u32 v.d2, .int .u32 v.d3, .int .u32 v.d4, .int .u32 v.d5, .int .u32 v.d6, .int .u32 v.d7] 28 (0, 0)) := heap_old _ (by simp) (heap_at _ _ (by simp))
  have hbr : (((w.alloc (.cells #[.slice A n c, .slice B m d] 56)).alloc (.cells #[.int .u32 v.d0, .int .u32 v.d1, .int .u32 v.d2, .int .u32 v.d3, .int .u32 v.d4, .int .u32 v.d5, .int .u32 v.d6, .int .u32 v.d7] 28)).alloc (.cells #[.slice none 0 0, .slice none 0 0] 56)).heap[w.heap.size + 1 + 1]? = some (.cells #[.slice none 0 0, .slice none 0 0] 56 (0, 0)) := heap_at _ _ (by simp)
  generalize hW : (((w.alloc (.cells #[.slice A n c, .slice B m d] 56)).alloc (.cells #[.int .u32 v.d0, .int .u32 v.d1, .int .u32 v.d2, .int .u32 v.d3, .int .u32 v.d4, .int .u32 v.d5, .int .u32 v.d6, .int .u32 v.d7] 28)).alloc (.cells #[.slice none 0 0, .slice none 0 0] 56)) = W at hb0 hbx hbv hbr
  have hbxH := Lib.hid hbx
  have hbvH := Lib.hid hbv
  have hbrH := Lib.hid hbr
  have hltx := blk_lt hbx
  have hltr := blk_lt hbr
  have s0 := blk_cell hbx 0
  have s1 := blk_cell hbx 1
  have r0 := blk_cell hbr 0
  have r1 := blk_cell hbr 1
  simp at s0 s1 r0 r1
  have hfr := blk_frozen hbr
  have hck := Lib.hid (mcheck_any A n c xs B m d gs W ((hA.below hb0).more hb0.size) ((hB.below hb0).more hb0.size) (by simp [maxLen]; omega) (by simp [maxLen]; omega) hx hg hl)
  generalize hr : compM xs gs v = out
  unfold compM at hr
  generalize hpe : mErr xs gs = p at hck hr ⊢
  by_cases hp : p = 0
  case neg =>
    rw [if_pos hp] at hr
    subst hr
    have hpn : (p != 0) = true := by simpa using hp
    clear hpe hp hbx hbv hbr hA hB
    go_enter Try.func25, Try.ntmps25
    go_wp2_with fail
    refine hck.out.mono ?_
    rintro e w1 ⟨rfl, hv1⟩
    have hG := hb0.trans (hv1.mono hb0.size)
    have hr1 := blk_below hbrH.out hv1
    have hlr1 := blk_lt hr1
    clear r0 r1 hfr
    have r0 := blk_cell hr1 0
    have r1 := blk_cell hr1 1
    have hfr := blk_frozen hr1
    simp at r0 r1
    have hGs : Below w.heap.size w ((w1.setCell ⟨w.heap.size + 1 + 1, 0, none⟩ (.slice none 0 0)).setCell ⟨w.heap.size + 1 + 1, 1, none⟩ (.slice none 0 0)) := (hG.setCell (by dsimp only; omega) _).setCell (by dsimp only; omega) _
    go_wp2
    exact bodyPost_ret (v := .tuple #[.agg #[.slice none 0 0, .slice none 0 0], .int .i64 p]) (by simp [results, Try.results25, go_sem, r0, r1]) rfl (PostM.nil_ hGs)
  subst hp
  rw [if_neg (by simp)] at hr
  subst hr
  obtain ⟨hn4, hm4, _⟩ := sErr_zero.1 hpe
  rw [List.length_map, hA.len] at hn4
  rw [hB.len] at hm4
  have hAr := Lib.hid (fun w' (h : Below w.heap.size w w') => hA.below h)
  have hBr := Lib.hid (fun w' (h : Below w.heap.size w w') => hB.below h)
  have hgH := Lib.hid hg
  have hzW := hb0.size
  clear hpe hbx hbv hbr hA hB hx hg hl
  go_enter Try.func25, Try.ntmps25
  go_wp2_with fail
  refine hck.out.mono ?_
  rintro e' w1 ⟨rfl, hv1⟩
  have hG1 := hb0.trans (hv1.mono hzW)
  have hs1 := blk_below hbxH.out hv1
  have hvb1 := blk_below hbvH.out hv1
  have hr1 := blk_below hbrH.out hv1
  clear r0 r1 hfr s0 s1 hltx hltr hck
  have hltx := blk_lt hs1
  have hltr := blk_lt hr1
  have s0 := blk_cell hs1 0
  have s1 := blk_cell hs1 1
  simp at s0 s1
  have hvH := Lib.hid hvb1
  have hrH := Lib.hid hr1
  clear hvb1 hr1 hs1
  go_wp2_with fail
  refine (mown_any A n c xs B m d gs w1 ((hAr.out _ hG1).more hG1.size) ((hBr.out _ hG1).more hG1.size) hn hm).mono ?_
  rintro e w2 ⟨A2, c2, B2, d2, rfl, oA, oB, hv2⟩
  have hG2 := hG1.trans (hv2.mono hG1.size)
  have hz2 := hv2.size
  have hz1 := hG1.size
  go_upto_region 5 with (fail)
  obtain ⟨w3, hwn⟩ : ∃ w9, w2.alloc (.cells #[.slice A2 n c2, .slice B2 m d2] 56) = w9 := ⟨_, rfl⟩
  have hbo : w3.heap[w2.heap.size]? = some (.cells #[.slice A2 n c2, .slice B2 m d2] 56 (0, 0)) := by rw [← hwn]; exact heap_at _ _ rfl
  have hb23 : Below w2.heap.size w2 w3 := by rw [← hwn]; exact (Below.refl _ w2).alloc (Nat.le_refl _) _
  rw [hwn]
  clear hwn
  have hz3 := hb23.size
  have hltv1 := blk_lt hvH.out
  have hG3 := hG2.trans (hb23.mono hG2.size)
  have hlto := blk_lt hbo
  have b0 := blk_cell hbo 0
  have b1 := blk_cell hbo 1
  simp at b0 b1
  have hvb3 := blk_below (blk_below hvH.out hv2) hb23
  have hrb3 := blk_below (blk_below hrH.out hv2) hb23
  have oA3 := oA.below hb23
  have oB3 := oB.below hb23
  have hltr3 := blk_lt hrb3
  clear s0 s1 hltx hltr oA oB
  have hboH := Lib.hid hbo
  have hrb3H := Lib.hid hrb3
  have hvb3H := Lib.hid hvb3
  clear hbo hrb3 hvb3
  go_wp2_with fail
  refine (delfT_gen 66 #[.pointer (some ⟨w.heap.size + 1, 0, none⟩)] (fun t => hasV v t.1) (enters_of Try.func66 (by kernel_rfl) rfl) w1.heap.size B2 m d2 gs w3 oB3 hm (fun t ht w' hbw => mcomp1_any (w.heap.size + 1) v t (hgH.out t ht) w' ((hbw.block _ (by omega)).trans hvb3H.out)) (by omega)).mono ?_
  rintro e w4 ⟨m4, rfl, o4, hg4⟩
  have hrow : ∀ k, (Value.slice B2 m d2).ownBlock = some k → w1.heap.size ≤ k := fun k hk => (oB3.block k hk).1
  have hG4 : Below w.heap.size w w4 := hG3.grown hg4 hG3.size (fun k hk => by have := hrow k hk; omega)
  have hrb4 : w4.heap[w.heap.size + 1 + 1]? = some (.cells #[.slice none 0 0, .slice none 0 0] 56 (0, 0)) := (hg4.block _ (blk_lt hrb3H.out) (fun e => by have := hrow _ e.symm; have := blk_lt hrH.out; omega)).trans hrb3H.out
  have hbo4 : w4.heap[w2.heap.size]? = some (.cells #[.slice A2 n c2, .slice B2 m d2] 56 (0, 0)) := (hg4.block _ (blk_lt hboH.out) (fun e => oB3.ne_blk hboH.out (by decide) e.symm)).trans hboH.out
  have oA4 : Ow w4 w1.heap.size 96 7 (.slice A2 n c2) (xs.map Pm.enc) := oA3.other oB3 (by decide) hg4
  have hne : w.heap.size + 1 + 1 ≠ w2.heap.size := by have := blk_lt hrH.out; omega
  have hne2 : w2.heap.size ≠ w.heap.size + 1 + 1 := fun e => hne e.symm
  clear hg4 hrow b0 b1 hlto
  have hlto := blk_lt hbo4
  have b0 := blk_cell hbo4 0
  have b1 := blk_cell hbo4 1
  have hltr := blk_lt hrb4
  have r0 := blk_cell hrb4 0
  have r1 := blk_cell hrb4 1
  simp at b0 b1 r0 r1
  have hfo := blk_frozen hbo4
  have hfr := blk_frozen hrb4
  have hB1 : Below w.heap.size w (w4.setCell ⟨w2.heap.size, 1, none⟩ (.slice B2 m4 d2)) := hG4.setCell (by dsimp only; omega) _
  have hr9 : (w4.setCell ⟨w2.heap.size, 1, none⟩ (.slice B2 m4 d2)).heap[w.heap.size + 1 + 1]? = some (.cells #[.slice none 0 0, .slice none 0 0] 56 (0, 0)) := (Below.heap_setCell _ _ _ _ (by simpa using hne)).trans hrb4
  have ha9 := ((oA4.set_blk hbo4 (by decide) 1 (.slice B2 m4 d2)).set_blk hr9 (by decide) 0 (.slice A2 n c2)).set_blk (blk_set hr9 0 _) (by decide) 1 (.slice B2 m4 d2)
  have hb9 := ((o4.set_blk hbo4 (by decide) 1 (.slice B2 m4 d2)).set_blk hr9 (by decide) 0 (.slice A2 n c2)).set_blk (blk_set hr9 0 _) (by decide) 1 (.slice B2 m4 d2)
  have hp4 : Hid (m4 ≤ m) := Lib.hid (by
    have h1 := o4.rd.2.1
    rw [List.length_map] at h1
    have h2 := List.length_filter_le (fun t : Tm => !hasV v t.1) gs
    have h3 := (hBr.out w (Below.refl _ _)).len
    omega)
  have oH := Lib.hid (And.intro ha9 hb9)
  have hB1H := Lib.hid hB1
  clear ha9 hb9 hbo4 hrb4 hr9 hB1 o4 oA4 oA3 oB3
  go_wp2
  have hp4 := hp4.out
  exact bodyPost_ret (v := .tuple #[.agg #[.slice A2 n c2, .slice B2 m4 d2], .int .i64 0]) (by simp [results, Try.results25, go_sem, r0, r1]) rfl ⟨A2, n, c2, B2, m4, d2, rfl, oH.out.1.rd.1, oH.out.2.rd.1, by omega, by omega, oH.out.1.rd.2.2.1, oH.out.1.rd.2.2.2, oH.out.2.rd.2.2.1, oH.out.2.rd.2.2.2, (hB1H.out.setCell (by dsimp only; omega) _).setCell (by dsimp only; omega) _⟩
end Go.Proofs.Ytadldndmmobpdaa
