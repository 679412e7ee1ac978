/- An object behind an effect: obj.Apply. -/
import Derived.Test.YtffnpfponnhddaaGreatCoG
import Derived.Test.YtffnpfponnhddaaGreatCoC
import Derived.Test.YtffnpfponnhddaaGreatCoE
import Derived.Test.YtffnpfponnhddaaGreatFn
import Derived.Test.YtffnpfponnhddaaGreatM23
import Derived.Test.YtffnpfponnhddaaGreatM33
namespace Go.Proofs.YtffnpfponnhddaaGreat
open Go.RowKit

/-- What an effect makes of an object. -/
def ApR (o : Ob) (E : Ef) (o' : Ob) : Prop :=
  kindA E.act = o.kd ∧ ((E.act = 1 ∧ o'.kd = o.kd ∧ o'.S = o.S ∧ o'.M = o.M) ∨ (E.act = 2 ∧ ∃ q, cntC o.pl o.mi E.val = some q ∧ o' = o.setN q) ∨
    (E.act = 3 ∧ (putO o.S.1 o.S.2 (E.tag, E.name)).2 = 0 ∧ o' = o.setS (putO o.S.1 o.S.2 (E.tag, E.name)).1) ∨ (E.act = 4 ∧ (dropO o.S.1 o.S.2 E.tags).2 = 0 ∧ o' = o.setS (dropO o.S.1 o.S.2 E.tags).1) ∨
    (E.act = 5 ∧ (putM o.M.1 o.M.2 (E.tag, (E.name, (E.val, E.st)))).2 = 0 ∧ o' = o.setM (putM o.M.1 o.M.2 (E.tag, (E.name, (E.val, E.st)))).1) ∨ (E.act = 6 ∧ (dropM o.M.1 o.M.2 E.tags).2 = 0 ∧ o' = o.setM (dropM o.M.1 o.M.2 E.tags).1))
def PostB (w : World) (o : Ob) (E : Ef) (e : Ending) (w' : World) : Prop :=
  ∃ (o' : Ob) (r' : Rw) (er : Int), e = .returned (.tuple #[.agg #[.int .i64 o'.kd, .int .i64 o'.rv, .int .u32 o'.rt, .int .i64 o'.ro, .int .i64 o'.pl, .int .i64 o'.mi, .slice r'.A r'.n r'.c, .slice r'.B r'.m r'.d, .slice r'.P r'.k r'.e, .slice r'.Q r'.l r'.f], .int .i64 er]) ∧ Below w.heap.size w w' ∧ (er = 0 → ApR o E o' ∧ ObIn w' o' r' ∧ ObTy w' r')
def zOb : Ob := ⟨0, 0, 0, 0, 0, 0, ([], []), ([], [])⟩
def zRw : Rw := ⟨none, 0, 0, none, 0, 0, none, 0, 0, none, 0, 0⟩
theorem PostB.no {w w' : World} {o : Ob} {E : Ef} {er : Int} (h : er ≠ 0) (hb : Below w.heap.size w w') : PostB w o E (.returned (.tuple #[.agg #[.int .i64 0, .int .i64 0, .int .u32 0, .int .i64 0, .int .i64 0, .int .i64 0, .slice none 0 0, .slice none 0 0, .slice none 0 0, .slice none 0 0], .int .i64 er])) w' :=
  ⟨zOb, zRw, er, rfl, hb, fun h2 => absurd h2 h⟩
set_option maxRecDepth 100000 in
set_option maxHeartbeats 16000000 in
theorem applyOb_any (o : Ob) (r : Rw) (E : Ef) (T : Option Addr) (t c : Nat) (w : World) (h : ObIn w o r) (hok : o.Ok) (hT : RdT w w.heap.size T t E.tags) (ht : t ≤ 100000) (hE : E.wf) (hl : E.name.length ≤ maxLen) :
    Calls Tryz.prog 17 #[.agg #[.int .i64 o.kd, .int .i64 o.rv, .int .u32 o.rt, .int .i64 o.ro, .int .i64 o.pl, .int .i64 o.mi, .slice r.A r.n r.c, .slice r.B r.m r.d, .slice r.P r.k r.e, .slice r.Q r.l r.f], .agg #[.int .i64 E.act, .string (bs E.name), .int .i64 E.val, .int .i64 E.tag.1.1, .int .u32 E.tag.1.2, .int .i64 E.tag.2, .int .u32 E.st.1, .int .i64 E.st.2, .slice T t c]] w (PostB w o E) := by
  have c1 := Lib.hid (fun w' (hb : Below w.heap.size w w') => ocheck_e_any E T t c w' ((hT.below hb).more hb.size) ht hE hl)
  generalize hER : errE E = er0 at c1
  obtain ⟨hw1, hw2, hw3, hw4, hw5, hw6⟩ := hE
  obtain ⟨act, nm, v, ⟨⟨tO, tS⟩, tN⟩, ⟨sT, sO⟩, tags⟩ := E
  dsimp only at hw1 hw2 hw3 hw4 hw5 hw6 hl hT c1 ⊢
  have c2 := Lib.hid (fun w' => okind_any act w')
  have c3 := Lib.hid (fun w' (hb : Below w.heap.size w w') => ownOb_any o r w' (h.below hb))
  have hTr := Lib.hid (fun w' (hb : Below w.heap.size w w') => (hT.below hb).more hb.size)
  have hokH := Lib.hid hok
  have hwH := Lib.hid (And.intro hw1 (And.intro hw2 (And.intro hw3 hw4)))
  have hERH := Lib.hid hER
  clear hok h hT hER hw1 hw2 hw3 hw4 hw5 hw6
  have hb0 : Below w.heap.size w (((w.alloc (.cells #[.int .i64 o.kd, .int .i64 o.rv, .int .u32 o.rt, .int .i64 o.ro, .int .i64 o.pl, .int .i64 o.mi, .slice r.A r.n r.c, .slice r.B r.m r.d, .slice r.P r.k r.e, .slice r.Q r.l r.f] 64)).alloc (.cells #[.int .i64 act, .string (bs nm), .int .i64 v, .int .i64 tO, .int .u32 tS, .int .i64 tN, .int .u32 sT, .int .i64 sO, .slice T t c] 87)).alloc (.cells #[.int .i64 0, .int .i64 0, .int .u32 0, .int .i64 0, .int .i64 0, .int .i64 0, .slice none 0 0, .slice none 0 0, .slice none 0 0, .slice none 0 0] 64)) := (((Below.refl _ w).alloc (by first | (simp; done) | (simp; omega) | omega) _).alloc (by first | (simp; done) | (simp; omega) | omega) _).alloc (by first | (simp; done) | (simp; omega) | omega) _
  have hx0 : (((w.alloc (.cells #[.int .i64 o.kd, .int .i64 o.rv, .int .u32 o.rt, .int .i64 o.ro, .int .i64 o.pl, .int .i64 o.mi, .slice r.A r.n r.c, .slice r.B r.m r.d, .slice r.P r.k r.e, .slice r.Q r.l r.f] 64)).alloc (.cells #[.int .i64 act, .string (bs nm), .int .i64 v, .int .i64 tO, .int .u32 tS, .int .i64 tN, .int .u32 sT, .int .i64 sO, .slice T t c] 87)).alloc (.cells #[.int .i64 0, .int .i64 0, .int .u32 0, .int .i64 0, .int .i64 0, .int .i64 0, .slice none 0 0, .slice none 0 0, .slice none 0 0, .slice none 0 0] 64)).heap[w.heap.size]? = some (.cells #[.int .i64 o.kd, .int .i64 o.rv, .int .u32 o.rt, .int .i64 o.ro, .int .i64 o.pl, .int .i64 o.mi, .slice r.A r.n r.c, .slice r.B r.m r.d, .slice r.P r.k r.e, .slice r.Q r.l r.f] 64 (0, 0)) := heap_old _ (by first | (simp; done) | (simp; omega) | omega) (heap_old _ (by first | (simp; done) | (simp; omega) | omega) (heap_at _ _ rfl))
  have hx1 : (((w.alloc (.cells #[.int .i64 o.kd, .int .i64 o.rv, .int .u32 o.rt, .int .i64 o.ro, .int .i64 o.pl, .int .i64 o.mi, .slice r.A r.n r.c, .slice r.B r.m r.d, .slice r.P r.k r.e, .slice r.Q r.l r.f] 64)).alloc (.cells #[.int .i64 act, .string (bs nm), .int .i64 v, .int .i64 tO, .int .u32 tS, .int .i64 tN, .int .u32 sT, .int .i64 sO, .slice T t c] 87)).alloc (.cells #[.int .i64 0, .int .i64 0, .int .u32 0, .int .i64 0, .int .i64 0, .int .i64 0, .slice none 0 0, .slice none 0 0, .slice none 0 0, .slice none 0 0] 64)).heap[w.heap.size + 1]? = some (.cells #[.int .i64 act, .string (bs nm), .int .i64 v, .int .i64 tO, .int .u32 tS, .int .i64 tN, .int .u32 sT, .int .i64 sO, .slice T t c] 87 (0, 0)) := heap_old _ (by first | (simp; done) | (simp; omega) | omega) (heap_at _ _ (by simp))
  have hx2 : (((w.alloc (.cells #[.int .i64 o.kd, .int .i64 o.rv, .int .u32 o.rt, .int .i64 o.ro, .int .i64 o.pl, .int .i64 o.mi, .slice r.A r.n r.c, .slice r.B r.m r.d, .slice r.P r.k r.e, .slice r.Q r.l r.f] 64)).alloc (.cells #[.int .i64 act, .string (bs nm), .int .i64 v, .int .i64 tO, .int .u32 tS, .int .i64 tN, .int .u32 sT, .int .i64 sO, .slice T t c] 87)).alloc (.cells #[.int .i64 0, .int .i64 0, .int .u32 0, .int .i64 0, .int .i64 0, .int .i64 0, .slice none 0 0, .slice none 0 0, .slice none 0 0, .slice none 0 0] 64)).heap[w.heap.size + 1 + 1]? = some (.cells #[.int .i64 0, .int .i64 0, .int .u32 0, .int .i64 0, .int .i64 0, .int .i64 0, .slice none 0 0, .slice none 0 0, .slice none 0 0, .slice none 0 0] 64 (0, 0)) := heap_at _ _ (by simp)
  have hzW : (((w.alloc (.cells #[.int .i64 o.kd, .int .i64 o.rv, .int .u32 o.rt, .int .i64 o.ro, .int .i64 o.pl, .int .i64 o.mi, .slice r.A r.n r.c, .slice r.B r.m r.d, .slice r.P r.k r.e, .slice r.Q r.l r.f] 64)).alloc (.cells #[.int .i64 act, .string (bs nm), .int .i64 v, .int .i64 tO, .int .u32 tS, .int .i64 tN, .int .u32 sT, .int .i64 sO, .slice T t c] 87)).alloc (.cells #[.int .i64 0, .int .i64 0, .int .u32 0, .int .i64 0, .int .i64 0, .int .i64 0, .slice none 0 0, .slice none 0 0, .slice none 0 0, .slice none 0 0] 64)).heap.size = w.heap.size + 1 + 1 + 1 := by simp
  generalize hW : (((w.alloc (.cells #[.int .i64 o.kd, .int .i64 o.rv, .int .u32 o.rt, .int .i64 o.ro, .int .i64 o.pl, .int .i64 o.mi, .slice r.A r.n r.c, .slice r.B r.m r.d, .slice r.P r.k r.e, .slice r.Q r.l r.f] 64)).alloc (.cells #[.int .i64 act, .string (bs nm), .int .i64 v, .int .i64 tO, .int .u32 tS, .int .i64 tN, .int .u32 sT, .int .i64 sO, .slice T t c] 87)).alloc (.cells #[.int .i64 0, .int .i64 0, .int .u32 0, .int .i64 0, .int .i64 0, .int .i64 0, .slice none 0 0, .slice none 0 0, .slice none 0 0, .slice none 0 0] 64)) = W at hb0 hx0 hx1 hx2 hzW
  have hk0 := Lib.hid hx0
  have hk1 := Lib.hid hx1
  have hk2 := Lib.hid hx2
  clear hx0 hx1 hx2
  have hy0 := hk0.out
  have hl0 := blk_lt hy0
  have f0_0 := blk_cell hy0 0
  have f0_1 := blk_cell hy0 1
  have f0_2 := blk_cell hy0 2
  have f0_3 := blk_cell hy0 3
  have f0_4 := blk_cell hy0 4
  have f0_5 := blk_cell hy0 5
  have f0_6 := blk_cell hy0 6
  have f0_7 := blk_cell hy0 7
  have f0_8 := blk_cell hy0 8
  have f0_9 := blk_cell hy0 9
  have hy1 := hk1.out
  have hl1 := blk_lt hy1
  have f1_0 := blk_cell hy1 0
  have f1_1 := blk_cell hy1 1
  have f1_2 := blk_cell hy1 2
  have f1_3 := blk_cell hy1 3
  have f1_4 := blk_cell hy1 4
  have f1_5 := blk_cell hy1 5
  have f1_6 := blk_cell hy1 6
  have f1_7 := blk_cell hy1 7
  have f1_8 := blk_cell hy1 8
  have hy2 := hk2.out
  have hl2 := blk_lt hy2
  have f2_0 := blk_cell hy2 0
  have f2_1 := blk_cell hy2 1
  have f2_2 := blk_cell hy2 2
  have f2_3 := blk_cell hy2 3
  have f2_4 := blk_cell hy2 4
  have f2_5 := blk_cell hy2 5
  have f2_6 := blk_cell hy2 6
  have f2_7 := blk_cell hy2 7
  have f2_8 := blk_cell hy2 8
  have f2_9 := blk_cell hy2 9
  have hfr0 := blk_frozen hy0
  have hfr2 := blk_frozen hy2
  simp at f0_0 f0_1 f0_2 f0_3 f0_4 f0_5 f0_6 f0_7 f0_8 f0_9 f1_0 f1_1 f1_2 f1_3 f1_4 f1_5 f1_6 f1_7 f1_8 f2_0 f2_1 f2_2 f2_3 f2_4 f2_5 f2_6 f2_7 f2_8 f2_9
  clear hy0 hy1 hy2
  go_enter Tryz.func17, Tryz.ntmps17
  go_wp2_with fail
  clear hW
  refine (c1.out _ hb0).mono ?_
  rintro e w1 ⟨rfl, hv1⟩
  have hG1 := hb0.trans (hv1.mono hb0.size)
  clear f0_0 f0_1 f0_2 f0_3 f0_4 f0_5 f0_6 f0_7 f0_8 f0_9 f1_0 f1_1 f1_2 f1_3 f1_4 f1_5 f1_6 f1_7 f1_8 f2_0 f2_1 f2_2 f2_3 f2_4 f2_5 f2_6 f2_7 f2_8 f2_9 hl0 hl1 hl2 hfr0 hfr2
  have hy0 := blk_below hk0.out hv1
  have hl0 := blk_lt hy0
  have f0_0 := blk_cell hy0 0
  have f0_1 := blk_cell hy0 1
  have f0_2 := blk_cell hy0 2
  have f0_3 := blk_cell hy0 3
  have f0_4 := blk_cell hy0 4
  have f0_5 := blk_cell hy0 5
  have f0_6 := blk_cell hy0 6
  have f0_7 := blk_cell hy0 7
  have f0_8 := blk_cell hy0 8
  have f0_9 := blk_cell hy0 9
  have hy1 := blk_below hk1.out hv1
  have hl1 := blk_lt hy1
  have f1_0 := blk_cell hy1 0
  have f1_1 := blk_cell hy1 1
  have f1_2 := blk_cell hy1 2
  have f1_3 := blk_cell hy1 3
  have f1_4 := blk_cell hy1 4
  have f1_5 := blk_cell hy1 5
  have f1_6 := blk_cell hy1 6
  have f1_7 := blk_cell hy1 7
  have f1_8 := blk_cell hy1 8
  have hy2 := blk_below hk2.out hv1
  have hl2 := blk_lt hy2
  have f2_0 := blk_cell hy2 0
  have f2_1 := blk_cell hy2 1
  have f2_2 := blk_cell hy2 2
  have f2_3 := blk_cell hy2 3
  have f2_4 := blk_cell hy2 4
  have f2_5 := blk_cell hy2 5
  have f2_6 := blk_cell hy2 6
  have f2_7 := blk_cell hy2 7
  have f2_8 := blk_cell hy2 8
  have f2_9 := blk_cell hy2 9
  have hfr0 := blk_frozen hy0
  have hfr2 := blk_frozen hy2
  simp at f0_0 f0_1 f0_2 f0_3 f0_4 f0_5 f0_6 f0_7 f0_8 f0_9 f1_0 f1_1 f1_2 f1_3 f1_4 f1_5 f1_6 f1_7 f1_8 f2_0 f2_1 f2_2 f2_3 f2_4 f2_5 f2_6 f2_7 f2_8 f2_9
  clear hy0 hy1 hy2
  by_cases he : er0 = 0
  case neg =>
    have hd : (er0 != 0) = true := by simpa using he
    have hGs : Below w.heap.size w ((((((((((w1.setCell ⟨w.heap.size + 1 + 1, 0, none⟩ (.int .i64 0)).setCell ⟨w.heap.size + 1 + 1, 1, none⟩ (.int .i64 0)).setCell ⟨w.heap.size + 1 + 1, 2, none⟩ (.int .u32 0)).setCell ⟨w.heap.size + 1 + 1, 3, none⟩ (.int .i64 0)).setCell ⟨w.heap.size + 1 + 1, 4, none⟩ (.int .i64 0)).setCell ⟨w.heap.size + 1 + 1, 5, none⟩ (.int .i64 0)).setCell ⟨w.heap.size + 1 + 1, 6, none⟩ (.slice none 0 0)).setCell ⟨w.heap.size + 1 + 1, 7, none⟩ (.slice none 0 0)).setCell ⟨w.heap.size + 1 + 1, 8, none⟩ (.slice none 0 0)).setCell ⟨w.heap.size + 1 + 1, 9, none⟩ (.slice none 0 0)) := ((((((((((hG1.setCell (by dsimp only; omega) _).setCell (by dsimp only; omega) _).setCell (by dsimp only; omega) _).setCell (by dsimp only; omega) _).setCell (by dsimp only; omega) _).setCell (by dsimp only; omega) _).setCell (by dsimp only; omega) _).setCell (by dsimp only; omega) _).setCell (by dsimp only; omega) _).setCell (by dsimp only; omega) _)
    go_wp2_with fail
    exact bodyPost_ret (v := .tuple #[.agg #[.int .i64 0, .int .i64 0, .int .u32 0, .int .i64 0, .int .i64 0, .int .i64 0, .slice none 0 0, .slice none 0 0, .slice none 0 0, .slice none 0 0], .int .i64 er0]) (by simp [results, Tryz.results17, go_sem, f2_0, f2_1, f2_2, f2_3, f2_4, f2_5, f2_6, f2_7, f2_8, f2_9]) rfl (PostB.no he hGs)
  subst he
  by_cases hkd : kindA act = o.kd
  case neg =>
    generalize kindA act = ka at *
    have hd : (ka != o.kd) = true := by simpa using hkd
    go_upto_region 4 with (fail)
    refine wp_region_M (fun w' => w'.cell? ⟨w.heap.size + 1, 0, none⟩ = some (.int .i64 act) ∧ w'.cell? ⟨w.heap.size, 0, none⟩ = some (.int .i64 o.kd)) (fun _ => True) 99 (by kernel_rfl) ⟨f1_0, f0_0⟩ trivial ?_
    intro hcl
    have hC : w1.drew.cell? ⟨w.heap.size + 1, 0, none⟩ = some (.int .i64 act) ∧ w1.drew.cell? ⟨w.heap.size, 0, none⟩ = some (.int .i64 o.kd) := ⟨f1_0, f0_0⟩
    have hE := trivial
    (refine wpM_take (i := 0) (v := ?_) rfl (by kernel_rfl) (by kernel_rfl) (by kernel_rfl) (by decide) (fun _ _ _ h => h) hcl hC (fun _ => hE) (Or.inl ⟨by rfl, ?_⟩) ?_; rotate_left; (· (intro w hSw; (try dsimp only at hSw); go_simp; (try with_reducible rfl))); clear hcl; intro hcl; (try simp only [Act.put, List.getElem_toArray, List.getElem_cons_zero, List.setIfInBounds_toArray, List.set_cons_zero, List.set_cons_succ]))
    (refine wpM_take (i := 1) (v := ?_) rfl (by kernel_rfl) (by kernel_rfl) (by kernel_rfl) (by decide) (fun _ _ _ h => h) hcl hC (fun _ => hE) (Or.inl ⟨by rfl, ?_⟩) ?_; rotate_left; (· (intro w hSw; (try dsimp only at hSw); go_simp; (try with_reducible rfl))); clear hcl; intro hcl; (try simp only [Act.put, List.getElem_toArray, List.getElem_cons_zero, List.getElem_cons_succ, List.setIfInBounds_toArray, List.set_cons_zero, List.set_cons_succ]))
    (refine wpM_take (i := 3) (v := ?_) rfl (by kernel_rfl) (by kernel_rfl) (by kernel_rfl) (by decide) (fun _ _ _ h => h) hcl hC (fun _ => hE) (Or.inl ⟨by rfl, ?_⟩) ?_; rotate_left; (· (intro w hSw; (try dsimp only at hSw); go_simp; (try with_reducible rfl))); clear hcl; intro hcl; (try simp only [Act.put, List.getElem_toArray, List.getElem_cons_zero, List.getElem_cons_succ, List.setIfInBounds_toArray, List.set_cons_zero, List.set_cons_succ]))
    (refine wpM_take (i := 4) (v := ?_) rfl (by kernel_rfl) (by kernel_rfl) (by kernel_rfl) (by decide) (fun _ _ _ h => h) hcl hC (fun _ => hE) (Or.inl ⟨by rfl, ?_⟩) ?_; rotate_left; (· (intro w hSw; (try dsimp only at hSw); go_simp; (try with_reducible rfl))); clear hcl; intro hcl; (try simp only [Act.put, List.getElem_toArray, List.getElem_cons_zero, List.getElem_cons_succ, List.setIfInBounds_toArray, List.set_cons_zero, List.set_cons_succ]))
    refine wpM_only (i := 2) rfl (by kernel_rfl) hcl (fun K hK => ?_)
    go_simp
    refine (c2.out _).mono ?_
    rintro e w2 ⟨rfl, rfl⟩
    refine hK.out _ _ hC trivial ?_
    clear hK K
    clear hcl
    intro hcl
    (try simp only [Act.put, List.getElem_toArray, List.getElem_cons_zero, List.getElem_cons_succ, List.setIfInBounds_toArray, List.set_cons_zero, List.set_cons_succ])
    (refine wpM_take (i := 5) (v := ?_) rfl (by kernel_rfl) (by kernel_rfl) (by kernel_rfl) (by decide) (fun _ _ _ h => h) hcl hC (fun _ => hE) (Or.inl ⟨by rfl, ?_⟩) ?_; rotate_left; (· (intro w hSw; (try dsimp only at hSw); go_simp; (try with_reducible rfl))); clear hcl; intro hcl; (try simp only [Act.put, List.getElem_toArray, List.getElem_cons_zero, List.getElem_cons_succ, List.setIfInBounds_toArray, List.set_cons_zero, List.set_cons_succ]))
    refine wpM_done (by kernel_rfl) ?_
    clear hcl hC hE
    (try simp only [Act.put, List.getElem_toArray, List.getElem_cons_zero, List.getElem_cons_succ, List.setIfInBounds_toArray, List.set_cons_zero, List.set_cons_succ])
    have hv2 := hv1.drew
    generalize w1.drew = w2 at hv2 ⊢
    have hG2 := hb0.trans (hv2.mono hb0.size)
    clear f0_0 f0_1 f0_2 f0_3 f0_4 f0_5 f0_6 f0_7 f0_8 f0_9 f1_0 f1_1 f1_2 f1_3 f1_4 f1_5 f1_6 f1_7 f1_8 f2_0 f2_1 f2_2 f2_3 f2_4 f2_5 f2_6 f2_7 f2_8 f2_9 hl0 hl1 hl2 hfr0 hfr2
    have hy0 := blk_below hk0.out hv2
    have hl0 := blk_lt hy0
    have f0_0 := blk_cell hy0 0
    have f0_1 := blk_cell hy0 1
    have f0_2 := blk_cell hy0 2
    have f0_3 := blk_cell hy0 3
    have f0_4 := blk_cell hy0 4
    have f0_5 := blk_cell hy0 5
    have f0_6 := blk_cell hy0 6
    have f0_7 := blk_cell hy0 7
    have f0_8 := blk_cell hy0 8
    have f0_9 := blk_cell hy0 9
    have hy1 := blk_below hk1.out hv2
    have hl1 := blk_lt hy1
    have f1_0 := blk_cell hy1 0
    have f1_1 := blk_cell hy1 1
    have f1_2 := blk_cell hy1 2
    have f1_3 := blk_cell hy1 3
    have f1_4 := blk_cell hy1 4
    have f1_5 := blk_cell hy1 5
    have f1_6 := blk_cell hy1 6
    have f1_7 := blk_cell hy1 7
    have f1_8 := blk_cell hy1 8
    have hy2 := blk_below hk2.out hv2
    have hl2 := blk_lt hy2
    have f2_0 := blk_cell hy2 0
    have f2_1 := blk_cell hy2 1
    have f2_2 := blk_cell hy2 2
    have f2_3 := blk_cell hy2 3
    have f2_4 := blk_cell hy2 4
    have f2_5 := blk_cell hy2 5
    have f2_6 := blk_cell hy2 6
    have f2_7 := blk_cell hy2 7
    have f2_8 := blk_cell hy2 8
    have f2_9 := blk_cell hy2 9
    have hfr0 := blk_frozen hy0
    have hfr2 := blk_frozen hy2
    simp at f0_0 f0_1 f0_2 f0_3 f0_4 f0_5 f0_6 f0_7 f0_8 f0_9 f1_0 f1_1 f1_2 f1_3 f1_4 f1_5 f1_6 f1_7 f1_8 f2_0 f2_1 f2_2 f2_3 f2_4 f2_5 f2_6 f2_7 f2_8 f2_9
    clear hy0 hy1 hy2
    have hGs : Below w.heap.size w ((((((((((w2.setCell ⟨w.heap.size + 1 + 1, 0, none⟩ (.int .i64 0)).setCell ⟨w.heap.size + 1 + 1, 1, none⟩ (.int .i64 0)).setCell ⟨w.heap.size + 1 + 1, 2, none⟩ (.int .u32 0)).setCell ⟨w.heap.size + 1 + 1, 3, none⟩ (.int .i64 0)).setCell ⟨w.heap.size + 1 + 1, 4, none⟩ (.int .i64 0)).setCell ⟨w.heap.size + 1 + 1, 5, none⟩ (.int .i64 0)).setCell ⟨w.heap.size + 1 + 1, 6, none⟩ (.slice none 0 0)).setCell ⟨w.heap.size + 1 + 1, 7, none⟩ (.slice none 0 0)).setCell ⟨w.heap.size + 1 + 1, 8, none⟩ (.slice none 0 0)).setCell ⟨w.heap.size + 1 + 1, 9, none⟩ (.slice none 0 0)) := ((((((((((hG2.setCell (by dsimp only; omega) _).setCell (by dsimp only; omega) _).setCell (by dsimp only; omega) _).setCell (by dsimp only; omega) _).setCell (by dsimp only; omega) _).setCell (by dsimp only; omega) _).setCell (by dsimp only; omega) _).setCell (by dsimp only; omega) _).setCell (by dsimp only; omega) _).setCell (by dsimp only; omega) _)
    go_wp2_with fail
    exact bodyPost_ret (v := .tuple #[.agg #[.int .i64 0, .int .i64 0, .int .u32 0, .int .i64 0, .int .i64 0, .int .i64 0, .slice none 0 0, .slice none 0 0, .slice none 0 0, .slice none 0 0], .int .i64 5]) (by simp [results, Tryz.results17, go_sem, f2_0, f2_1, f2_2, f2_3, f2_4, f2_5, f2_6, f2_7, f2_8, f2_9]) rfl (PostB.no (by decide) hGs)
  have hkH := Lib.hid hkd
  rw [hkd] at c2
  clear hkd
  go_upto_region 4 with (fail)
  refine wp_region_M (fun w' => w'.cell? ⟨w.heap.size + 1, 0, none⟩ = some (.int .i64 act) ∧ w'.cell? ⟨w.heap.size, 0, none⟩ = some (.int .i64 o.kd)) (fun _ => True) 99 (by kernel_rfl) ⟨f1_0, f0_0⟩ trivial ?_
  intro hcl
  have hC : w1.drew.cell? ⟨w.heap.size + 1, 0, none⟩ = some (.int .i64 act) ∧ w1.drew.cell? ⟨w.heap.size, 0, none⟩ = some (.int .i64 o.kd) := ⟨f1_0, f0_0⟩
  have hE := trivial
  (refine wpM_take (i := 0) (v := ?_) rfl (by kernel_rfl) (by kernel_rfl) (by kernel_rfl) (by decide) (fun _ _ _ h => h) hcl hC (fun _ => hE) (Or.inl ⟨by rfl, ?_⟩) ?_; rotate_left; (· (intro w hSw; (try dsimp only at hSw); go_simp; (try with_reducible rfl))); clear hcl; intro hcl; (try simp only [Act.put, List.getElem_toArray, List.getElem_cons_zero, List.setIfInBounds_toArray, List.set_cons_zero, List.set_cons_succ]))
  (refine wpM_take (i := 1) (v := ?_) rfl (by kernel_rfl) (by kernel_rfl) (by kernel_rfl) (by decide) (fun _ _ _ h => h) hcl hC (fun _ => hE) (Or.inl ⟨by rfl, ?_⟩) ?_; rotate_left; (· (intro w hSw; (try dsimp only at hSw); go_simp; (try with_reducible rfl))); clear hcl; intro hcl; (try simp only [Act.put, List.getElem_toArray, List.getElem_cons_zero, List.getElem_cons_succ, List.setIfInBounds_toArray, List.set_cons_zero, List.set_cons_succ]))
  (refine wpM_take (i := 3) (v := ?_) rfl (by kernel_rfl) (by kernel_rfl) (by kernel_rfl) (by decide) (fun _ _ _ h => h) hcl hC (fun _ => hE) (Or.inl ⟨by rfl, ?_⟩) ?_; rotate_left; (· (intro w hSw; (try dsimp only at hSw); go_simp; (try with_reducible rfl))); clear hcl; intro hcl; (try simp only [Act.put, List.getElem_toArray, List.getElem_cons_zero, List.getElem_cons_succ, List.setIfInBounds_toArray, List.set_cons_zero, List.set_cons_succ]))
  (refine wpM_take (i := 4) (v := ?_) rfl (by kernel_rfl) (by kernel_rfl) (by kernel_rfl) (by decide) (fun _ _ _ h => h) hcl hC (fun _ => hE) (Or.inl ⟨by rfl, ?_⟩) ?_; rotate_left; (· (intro w hSw; (try dsimp only at hSw); go_simp; (try with_reducible rfl))); clear hcl; intro hcl; (try simp only [Act.put, List.getElem_toArray, List.getElem_cons_zero, List.getElem_cons_succ, List.setIfInBounds_toArray, List.set_cons_zero, List.set_cons_succ]))
  refine wpM_only (i := 2) rfl (by kernel_rfl) hcl (fun K hK => ?_)
  go_simp
  refine (c2.out _).mono ?_
  rintro e w2 ⟨rfl, rfl⟩
  refine hK.out _ _ hC trivial ?_
  clear hK K
  clear hcl
  intro hcl
  (try simp only [Act.put, List.getElem_toArray, List.getElem_cons_zero, List.getElem_cons_succ, List.setIfInBounds_toArray, List.set_cons_zero, List.set_cons_succ])
  (refine wpM_take (i := 5) (v := ?_) rfl (by kernel_rfl) (by kernel_rfl) (by kernel_rfl) (by decide) (fun _ _ _ h => h) hcl hC (fun _ => hE) (Or.inl ⟨by rfl, ?_⟩) ?_; rotate_left; (· (intro w hSw; (try dsimp only at hSw); go_simp; (try with_reducible rfl))); clear hcl; intro hcl; (try simp only [Act.put, List.getElem_toArray, List.getElem_cons_zero, List.getElem_cons_succ, List.setIfInBounds_toArray, List.set_cons_zero, List.set_cons_succ]))
  refine wpM_done (by kernel_rfl) ?_
  clear hcl hC hE
  (try simp only [Act.put, List.getElem_toArray, List.getElem_cons_zero, List.getElem_cons_succ, List.setIfInBounds_toArray, List.set_cons_zero, List.set_cons_succ])
  have hv2 := hv1.drew
  generalize w1.drew = w2 at hv2 ⊢
  have hG2 := hb0.trans (hv2.mono hb0.size)
  clear hv1 hG1
  clear f0_0 f0_1 f0_2 f0_3 f0_4 f0_5 f0_6 f0_7 f0_8 f0_9 f1_0 f1_1 f1_2 f1_3 f1_4 f1_5 f1_6 f1_7 f1_8 f2_0 f2_1 f2_2 f2_3 f2_4 f2_5 f2_6 f2_7 f2_8 f2_9 hl0 hl1 hl2 hfr0 hfr2
  have hy0 := blk_below hk0.out hv2
  have hl0 := blk_lt hy0
  have f0_0 := blk_cell hy0 0
  have f0_1 := blk_cell hy0 1
  have f0_2 := blk_cell hy0 2
  have f0_3 := blk_cell hy0 3
  have f0_4 := blk_cell hy0 4
  have f0_5 := blk_cell hy0 5
  have f0_6 := blk_cell hy0 6
  have f0_7 := blk_cell hy0 7
  have f0_8 := blk_cell hy0 8
  have f0_9 := blk_cell hy0 9
  have hy1 := blk_below hk1.out hv2
  have hl1 := blk_lt hy1
  have f1_0 := blk_cell hy1 0
  have f1_1 := blk_cell hy1 1
  have f1_2 := blk_cell hy1 2
  have f1_3 := blk_cell hy1 3
  have f1_4 := blk_cell hy1 4
  have f1_5 := blk_cell hy1 5
  have f1_6 := blk_cell hy1 6
  have f1_7 := blk_cell hy1 7
  have f1_8 := blk_cell hy1 8
  have hy2 := blk_below hk2.out hv2
  have hl2 := blk_lt hy2
  have f2_0 := blk_cell hy2 0
  have f2_1 := blk_cell hy2 1
  have f2_2 := blk_cell hy2 2
  have f2_3 := blk_cell hy2 3
  have f2_4 := blk_cell hy2 4
  have f2_5 := blk_cell hy2 5
  have f2_6 := blk_cell hy2 6
  have f2_7 := blk_cell hy2 7
  have f2_8 := blk_cell hy2 8
  have f2_9 := blk_cell hy2 9
  have hfr0 := blk_frozen hy0
  have hfr2 := blk_frozen hy2
  simp at f0_0 f0_1 f0_2 f0_3 f0_4 f0_5 f0_6 f0_7 f0_8 f0_9 f1_0 f1_1 f1_2 f1_3 f1_4 f1_5 f1_6 f1_7 f1_8 f2_0 f2_1 f2_2 f2_3 f2_4 f2_5 f2_6 f2_7 f2_8 f2_9
  clear hy0 hy1 hy2
  go_wp2_with fail
  refine (c3.out _ hG2).mono ?_
  rintro e w3 ⟨r1, rfl, hI3, hT3, hv3⟩
  have hv3 := hv2.trans (hv3.mono hv2.size)
  have hG3 := hb0.trans (hv3.mono hb0.size)
  clear hv2 hG2 c1 c2 c3
  clear f0_0 f0_1 f0_2 f0_3 f0_4 f0_5 f0_6 f0_7 f0_8 f0_9 f1_0 f1_1 f1_2 f1_3 f1_4 f1_5 f1_6 f1_7 f1_8 f2_0 f2_1 f2_2 f2_3 f2_4 f2_5 f2_6 f2_7 f2_8 f2_9 hl0 hl1 hl2 hfr0 hfr2
  have hy0 := blk_below hk0.out hv3
  have hl0 := blk_lt hy0
  have f0_0 := blk_cell hy0 0
  have f0_1 := blk_cell hy0 1
  have f0_2 := blk_cell hy0 2
  have f0_3 := blk_cell hy0 3
  have f0_4 := blk_cell hy0 4
  have f0_5 := blk_cell hy0 5
  have f0_6 := blk_cell hy0 6
  have f0_7 := blk_cell hy0 7
  have f0_8 := blk_cell hy0 8
  have f0_9 := blk_cell hy0 9
  have hy1 := blk_below hk1.out hv3
  have hl1 := blk_lt hy1
  have f1_0 := blk_cell hy1 0
  have f1_1 := blk_cell hy1 1
  have f1_2 := blk_cell hy1 2
  have f1_3 := blk_cell hy1 3
  have f1_4 := blk_cell hy1 4
  have f1_5 := blk_cell hy1 5
  have f1_6 := blk_cell hy1 6
  have f1_7 := blk_cell hy1 7
  have f1_8 := blk_cell hy1 8
  have hy2 := blk_below hk2.out hv3
  have hl2 := blk_lt hy2
  have f2_0 := blk_cell hy2 0
  have f2_1 := blk_cell hy2 1
  have f2_2 := blk_cell hy2 2
  have f2_3 := blk_cell hy2 3
  have f2_4 := blk_cell hy2 4
  have f2_5 := blk_cell hy2 5
  have f2_6 := blk_cell hy2 6
  have f2_7 := blk_cell hy2 7
  have f2_8 := blk_cell hy2 8
  have f2_9 := blk_cell hy2 9
  have hfr0 := blk_frozen hy0
  have hfr2 := blk_frozen hy2
  simp at f0_0 f0_1 f0_2 f0_3 f0_4 f0_5 f0_6 f0_7 f0_8 f0_9 f1_0 f1_1 f1_2 f1_3 f1_4 f1_5 f1_6 f1_7 f1_8 f2_0 f2_1 f2_2 f2_3 f2_4 f2_5 f2_6 f2_7 f2_8 f2_9
  clear hy0 hy1 hy2
  have hG4 : Below w.heap.size w ((((((((((w3.setCell ⟨w.heap.size, 0, none⟩ (.int .i64 o.kd)).setCell ⟨w.heap.size, 1, none⟩ (.int .i64 o.rv)).setCell ⟨w.heap.size, 2, none⟩ (.int .u32 o.rt)).setCell ⟨w.heap.size, 3, none⟩ (.int .i64 o.ro)).setCell ⟨w.heap.size, 4, none⟩ (.int .i64 o.pl)).setCell ⟨w.heap.size, 5, none⟩ (.int .i64 o.mi)).setCell ⟨w.heap.size, 6, none⟩ (.slice r1.A r1.n r1.c)).setCell ⟨w.heap.size, 7, none⟩ (.slice r1.B r1.m r1.d)).setCell ⟨w.heap.size, 8, none⟩ (.slice r1.P r1.k r1.e)).setCell ⟨w.heap.size, 9, none⟩ (.slice r1.Q r1.l r1.f)) := ((((((((((hG3.setCell (by dsimp only; omega) _).setCell (by dsimp only; omega) _).setCell (by dsimp only; omega) _).setCell (by dsimp only; omega) _).setCell (by dsimp only; omega) _).setCell (by dsimp only; omega) _).setCell (by dsimp only; omega) _).setCell (by dsimp only; omega) _).setCell (by dsimp only; omega) _).setCell (by dsimp only; omega) _)
  have hy0 := blk_below hk0.out hv3
  have hF := ObIn.other (w' := ((((((((((w3.setCell ⟨w.heap.size, 0, none⟩ (.int .i64 o.kd)).setCell ⟨w.heap.size, 1, none⟩ (.int .i64 o.rv)).setCell ⟨w.heap.size, 2, none⟩ (.int .u32 o.rt)).setCell ⟨w.heap.size, 3, none⟩ (.int .i64 o.ro)).setCell ⟨w.heap.size, 4, none⟩ (.int .i64 o.pl)).setCell ⟨w.heap.size, 5, none⟩ (.int .i64 o.mi)).setCell ⟨w.heap.size, 6, none⟩ (.slice r1.A r1.n r1.c)).setCell ⟨w.heap.size, 7, none⟩ (.slice r1.B r1.m r1.d)).setCell ⟨w.heap.size, 8, none⟩ (.slice r1.P r1.k r1.e)).setCell ⟨w.heap.size, 9, none⟩ (.slice r1.Q r1.l r1.f))) hI3 hT3 hy0 (by decide) (by decide) (by decide) (fun b hb => by repeat (first | rw [heap_set_of b hb] | rfl)) (by simp)
  have hx0 : ((((((((((w3.setCell ⟨w.heap.size, 0, none⟩ (.int .i64 o.kd)).setCell ⟨w.heap.size, 1, none⟩ (.int .i64 o.rv)).setCell ⟨w.heap.size, 2, none⟩ (.int .u32 o.rt)).setCell ⟨w.heap.size, 3, none⟩ (.int .i64 o.ro)).setCell ⟨w.heap.size, 4, none⟩ (.int .i64 o.pl)).setCell ⟨w.heap.size, 5, none⟩ (.int .i64 o.mi)).setCell ⟨w.heap.size, 6, none⟩ (.slice r1.A r1.n r1.c)).setCell ⟨w.heap.size, 7, none⟩ (.slice r1.B r1.m r1.d)).setCell ⟨w.heap.size, 8, none⟩ (.slice r1.P r1.k r1.e)).setCell ⟨w.heap.size, 9, none⟩ (.slice r1.Q r1.l r1.f)).heap[w.heap.size]? = some (.cells #[.int .i64 o.kd, .int .i64 o.rv, .int .u32 o.rt, .int .i64 o.ro, .int .i64 o.pl, .int .i64 o.mi, .slice r1.A r1.n r1.c, .slice r1.B r1.m r1.d, .slice r1.P r1.k r1.e, .slice r1.Q r1.l r1.f] 64 (0, 0)) := by
    have := blk_set (blk_set (blk_set (blk_set (blk_set (blk_set (blk_set (blk_set (blk_set (blk_set hy0 0 (.int .i64 o.kd)) 1 (.int .i64 o.rv)) 2 (.int .u32 o.rt)) 3 (.int .i64 o.ro)) 4 (.int .i64 o.pl)) 5 (.int .i64 o.mi)) 6 (.slice r1.A r1.n r1.c)) 7 (.slice r1.B r1.m r1.d)) 8 (.slice r1.P r1.k r1.e)) 9 (.slice r1.Q r1.l r1.f)
    simpa using this
  have hx1 : ((((((((((w3.setCell ⟨w.heap.size, 0, none⟩ (.int .i64 o.kd)).setCell ⟨w.heap.size, 1, none⟩ (.int .i64 o.rv)).setCell ⟨w.heap.size, 2, none⟩ (.int .u32 o.rt)).setCell ⟨w.heap.size, 3, none⟩ (.int .i64 o.ro)).setCell ⟨w.heap.size, 4, none⟩ (.int .i64 o.pl)).setCell ⟨w.heap.size, 5, none⟩ (.int .i64 o.mi)).setCell ⟨w.heap.size, 6, none⟩ (.slice r1.A r1.n r1.c)).setCell ⟨w.heap.size, 7, none⟩ (.slice r1.B r1.m r1.d)).setCell ⟨w.heap.size, 8, none⟩ (.slice r1.P r1.k r1.e)).setCell ⟨w.heap.size, 9, none⟩ (.slice r1.Q r1.l r1.f)).heap[w.heap.size + 1]? = some (.cells #[.int .i64 act, .string (bs nm), .int .i64 v, .int .i64 tO, .int .u32 tS, .int .i64 tN, .int .u32 sT, .int .i64 sO, .slice T t c] 87 (0, 0)) := by (repeat rw [heap_set_of _ (by omega)]); exact blk_below hk1.out hv3
  have hx2 : ((((((((((w3.setCell ⟨w.heap.size, 0, none⟩ (.int .i64 o.kd)).setCell ⟨w.heap.size, 1, none⟩ (.int .i64 o.rv)).setCell ⟨w.heap.size, 2, none⟩ (.int .u32 o.rt)).setCell ⟨w.heap.size, 3, none⟩ (.int .i64 o.ro)).setCell ⟨w.heap.size, 4, none⟩ (.int .i64 o.pl)).setCell ⟨w.heap.size, 5, none⟩ (.int .i64 o.mi)).setCell ⟨w.heap.size, 6, none⟩ (.slice r1.A r1.n r1.c)).setCell ⟨w.heap.size, 7, none⟩ (.slice r1.B r1.m r1.d)).setCell ⟨w.heap.size, 8, none⟩ (.slice r1.P r1.k r1.e)).setCell ⟨w.heap.size, 9, none⟩ (.slice r1.Q r1.l r1.f)).heap[w.heap.size + 1 + 1]? = some (.cells #[.int .i64 0, .int .i64 0, .int .u32 0, .int .i64 0, .int .i64 0, .int .i64 0, .slice none 0 0, .slice none 0 0, .slice none 0 0, .slice none 0 0] 64 (0, 0)) := by (repeat rw [heap_set_of _ (by omega)]); exact blk_below hk2.out hv3
  go_upto_region 7 with (fail)
  generalize ((((((((((w3.setCell ⟨w.heap.size, 0, none⟩ (.int .i64 o.kd)).setCell ⟨w.heap.size, 1, none⟩ (.int .i64 o.rv)).setCell ⟨w.heap.size, 2, none⟩ (.int .u32 o.rt)).setCell ⟨w.heap.size, 3, none⟩ (.int .i64 o.ro)).setCell ⟨w.heap.size, 4, none⟩ (.int .i64 o.pl)).setCell ⟨w.heap.size, 5, none⟩ (.int .i64 o.mi)).setCell ⟨w.heap.size, 6, none⟩ (.slice r1.A r1.n r1.c)).setCell ⟨w.heap.size, 7, none⟩ (.slice r1.B r1.m r1.d)).setCell ⟨w.heap.size, 8, none⟩ (.slice r1.P r1.k r1.e)).setCell ⟨w.heap.size, 9, none⟩ (.slice r1.Q r1.l r1.f)) = w4 at hG4 hF hx0 hx1 hx2 ⊢
  have hk0 := Lib.hid hx0
  have hk1 := Lib.hid hx1
  have hk2 := Lib.hid hx2
  obtain ⟨hI4, hT4⟩ := hF
  have hTg := hTr.out _ hG4
  clear hx0 hx1 hx2 hI3 hT3 hv3 hG3 hTr
  clear f0_0 f0_1 f0_2 f0_3 f0_4 f0_5 f0_6 f0_7 f0_8 f0_9 f1_0 f1_1 f1_2 f1_3 f1_4 f1_5 f1_6 f1_7 f1_8 f2_0 f2_1 f2_2 f2_3 f2_4 f2_5 f2_6 f2_7 f2_8 f2_9 hl0 hl1 hl2 hfr0 hfr2 hy0
  have hy0 := hk0.out
  have hl0 := blk_lt hy0
  have f0_0 := blk_cell hy0 0
  have f0_1 := blk_cell hy0 1
  have f0_2 := blk_cell hy0 2
  have f0_3 := blk_cell hy0 3
  have f0_4 := blk_cell hy0 4
  have f0_5 := blk_cell hy0 5
  have f0_6 := blk_cell hy0 6
  have f0_7 := blk_cell hy0 7
  have f0_8 := blk_cell hy0 8
  have f0_9 := blk_cell hy0 9
  have hy1 := hk1.out
  have hl1 := blk_lt hy1
  have f1_0 := blk_cell hy1 0
  have f1_1 := blk_cell hy1 1
  have f1_2 := blk_cell hy1 2
  have f1_3 := blk_cell hy1 3
  have f1_4 := blk_cell hy1 4
  have f1_5 := blk_cell hy1 5
  have f1_6 := blk_cell hy1 6
  have f1_7 := blk_cell hy1 7
  have f1_8 := blk_cell hy1 8
  have hy2 := hk2.out
  have hl2 := blk_lt hy2
  have f2_0 := blk_cell hy2 0
  have f2_1 := blk_cell hy2 1
  have f2_2 := blk_cell hy2 2
  have f2_3 := blk_cell hy2 3
  have f2_4 := blk_cell hy2 4
  have f2_5 := blk_cell hy2 5
  have f2_6 := blk_cell hy2 6
  have f2_7 := blk_cell hy2 7
  have f2_8 := blk_cell hy2 8
  have f2_9 := blk_cell hy2 9
  have hfr0 := blk_frozen hy0
  have hfr2 := blk_frozen hy2
  simp at f0_0 f0_1 f0_2 f0_3 f0_4 f0_5 f0_6 f0_7 f0_8 f0_9 f1_0 f1_1 f1_2 f1_3 f1_4 f1_5 f1_6 f1_7 f1_8 f2_0 f2_1 f2_2 f2_3 f2_4 f2_5 f2_6 f2_7 f2_8 f2_9
  clear hy0 hy1 hy2
  have hok := hokH.out
  obtain ⟨hw1, hw2, hw3, hw4⟩ := hwH.out
  rcases act7 act with rfl | rfl | rfl | rfl | rfl | rfl | ⟨ha0, _⟩
  · have cc := Lib.hid (lapply_any o.rv (o.rt, o.ro) v (sT, sO) hok.rg hw2 w4)
    go_wp2_with fail
    refine cc.out.mono ?_
    rintro e w5 ⟨v', t', o', er, rfl, hv5⟩
    have hG5 := hG4.trans (hv5.mono hG4.size)
    have hy5 := blk_below hk0.out hv5
    have hz1 := blk_below hk1.out hv5
    have hz2 := blk_below hk2.out hv5
    clear cc
    clear f0_0 f0_1 f0_2 f0_3 f0_4 f0_5 f0_6 f0_7 f0_8 f0_9 f1_0 f1_1 f1_2 f1_3 f1_4 f1_5 f1_6 f1_7 f1_8 f2_0 f2_1 f2_2 f2_3 f2_4 f2_5 f2_6 f2_7 f2_8 f2_9 hl0 hl1 hl2 hfr0 hfr2
    have hy0 := hy5
    have hl0 := blk_lt hy0
    have f0_0 := blk_cell hy0 0
    have f0_1 := blk_cell hy0 1
    have f0_2 := blk_cell hy0 2
    have f0_3 := blk_cell hy0 3
    have f0_4 := blk_cell hy0 4
    have f0_5 := blk_cell hy0 5
    have f0_6 := blk_cell hy0 6
    have f0_7 := blk_cell hy0 7
    have f0_8 := blk_cell hy0 8
    have f0_9 := blk_cell hy0 9
    have hy1 := hz1
    have hl1 := blk_lt hy1
    have f1_0 := blk_cell hy1 0
    have f1_1 := blk_cell hy1 1
    have f1_2 := blk_cell hy1 2
    have f1_3 := blk_cell hy1 3
    have f1_4 := blk_cell hy1 4
    have f1_5 := blk_cell hy1 5
    have f1_6 := blk_cell hy1 6
    have f1_7 := blk_cell hy1 7
    have f1_8 := blk_cell hy1 8
    have hy2 := hz2
    have hl2 := blk_lt hy2
    have f2_0 := blk_cell hy2 0
    have f2_1 := blk_cell hy2 1
    have f2_2 := blk_cell hy2 2
    have f2_3 := blk_cell hy2 3
    have f2_4 := blk_cell hy2 4
    have f2_5 := blk_cell hy2 5
    have f2_6 := blk_cell hy2 6
    have f2_7 := blk_cell hy2 7
    have f2_8 := blk_cell hy2 8
    have f2_9 := blk_cell hy2 9
    have hfr0 := blk_frozen hy0
    have hfr2 := blk_frozen hy2
    simp at f0_0 f0_1 f0_2 f0_3 f0_4 f0_5 f0_6 f0_7 f0_8 f0_9 f1_0 f1_1 f1_2 f1_3 f1_4 f1_5 f1_6 f1_7 f1_8 f2_0 f2_1 f2_2 f2_3 f2_4 f2_5 f2_6 f2_7 f2_8 f2_9
    clear hy0 hy1 hy2
    have hI5 : ObIn w5 ⟨o.kd, v', t', o', o.pl, o.mi, o.S, o.M⟩ r1 := ⟨(hI4.below hv5).ra, (hI4.below hv5).rb, (hI4.below hv5).rp, (hI4.below hv5).rq, hI4.hn, hI4.hm, hI4.hk, hI4.hl⟩
    have hT5 : ObTy w5 r1 := hT4.below hv5
    have hG6 : Below w.heap.size w (((w5.setCell ⟨w.heap.size, 1, none⟩ (.int .i64 v')).setCell ⟨w.heap.size, 2, none⟩ (.int .u32 t')).setCell ⟨w.heap.size, 3, none⟩ (.int .i64 o')) := (((hG5.setCell (by dsimp only; omega) _).setCell (by dsimp only; omega) _).setCell (by dsimp only; omega) _)
    have hF6 := ObIn.other (w' := (((w5.setCell ⟨w.heap.size, 1, none⟩ (.int .i64 v')).setCell ⟨w.heap.size, 2, none⟩ (.int .u32 t')).setCell ⟨w.heap.size, 3, none⟩ (.int .i64 o'))) hI5 hT5 hy5 (by decide) (by decide) (by decide) (fun b hb => by repeat (first | rw [heap_set_of b hb] | rfl)) (by simp)
    have hx0 : (((w5.setCell ⟨w.heap.size, 1, none⟩ (.int .i64 v')).setCell ⟨w.heap.size, 2, none⟩ (.int .u32 t')).setCell ⟨w.heap.size, 3, none⟩ (.int .i64 o')).heap[w.heap.size]? = some (.cells #[.int .i64 o.kd, .int .i64 v', .int .u32 t', .int .i64 o', .int .i64 o.pl, .int .i64 o.mi, .slice r1.A r1.n r1.c, .slice r1.B r1.m r1.d, .slice r1.P r1.k r1.e, .slice r1.Q r1.l r1.f] 64 (0, 0)) := by simpa using (blk_set (blk_set (blk_set hy5 1 (.int .i64 v')) 2 (.int .u32 t')) 3 (.int .i64 o'))
    have hx1 : (((w5.setCell ⟨w.heap.size, 1, none⟩ (.int .i64 v')).setCell ⟨w.heap.size, 2, none⟩ (.int .u32 t')).setCell ⟨w.heap.size, 3, none⟩ (.int .i64 o')).heap[w.heap.size + 1]? = some (.cells #[.int .i64 1, .string (bs nm), .int .i64 v, .int .i64 tO, .int .u32 tS, .int .i64 tN, .int .u32 sT, .int .i64 sO, .slice T t c] 87 (0, 0)) := by (repeat rw [heap_set_of _ (by omega)]); exact hz1
    have hx2 : (((w5.setCell ⟨w.heap.size, 1, none⟩ (.int .i64 v')).setCell ⟨w.heap.size, 2, none⟩ (.int .u32 t')).setCell ⟨w.heap.size, 3, none⟩ (.int .i64 o')).heap[w.heap.size + 1 + 1]? = some (.cells #[.int .i64 0, .int .i64 0, .int .u32 0, .int .i64 0, .int .i64 0, .int .i64 0, .slice none 0 0, .slice none 0 0, .slice none 0 0, .slice none 0 0] 64 (0, 0)) := by (repeat rw [heap_set_of _ (by omega)]); exact hz2
    go_upto_region 20 with (fail)
    generalize (((w5.setCell ⟨w.heap.size, 1, none⟩ (.int .i64 v')).setCell ⟨w.heap.size, 2, none⟩ (.int .u32 t')).setCell ⟨w.heap.size, 3, none⟩ (.int .i64 o')) = w6 at hG6 hF6 hx0 hx1 hx2 ⊢
    have hx2H := Lib.hid hx2
    have hF6H := Lib.hid hF6
    clear hI5 hT5 hy5 hz1 hz2 hI4 hT4 hTg hok hw1 hw2 hw3 hw4 hF6
    clear f0_0 f0_1 f0_2 f0_3 f0_4 f0_5 f0_6 f0_7 f0_8 f0_9 f1_0 f1_1 f1_2 f1_3 f1_4 f1_5 f1_6 f1_7 f1_8 f2_0 f2_1 f2_2 f2_3 f2_4 f2_5 f2_6 f2_7 f2_8 f2_9 hl0 hl1 hl2 hfr0 hfr2
    have hy0 := hx0
    have hl0 := blk_lt hy0
    have f0_0 := blk_cell hy0 0
    have f0_1 := blk_cell hy0 1
    have f0_2 := blk_cell hy0 2
    have f0_3 := blk_cell hy0 3
    have f0_4 := blk_cell hy0 4
    have f0_5 := blk_cell hy0 5
    have f0_6 := blk_cell hy0 6
    have f0_7 := blk_cell hy0 7
    have f0_8 := blk_cell hy0 8
    have f0_9 := blk_cell hy0 9
    have hy1 := hx1
    have hl1 := blk_lt hy1
    have f1_0 := blk_cell hy1 0
    have f1_1 := blk_cell hy1 1
    have f1_2 := blk_cell hy1 2
    have f1_3 := blk_cell hy1 3
    have f1_4 := blk_cell hy1 4
    have f1_5 := blk_cell hy1 5
    have f1_6 := blk_cell hy1 6
    have f1_7 := blk_cell hy1 7
    have f1_8 := blk_cell hy1 8
    have hy2 := hx2
    have hl2 := blk_lt hy2
    have f2_0 := blk_cell hy2 0
    have f2_1 := blk_cell hy2 1
    have f2_2 := blk_cell hy2 2
    have f2_3 := blk_cell hy2 3
    have f2_4 := blk_cell hy2 4
    have f2_5 := blk_cell hy2 5
    have f2_6 := blk_cell hy2 6
    have f2_7 := blk_cell hy2 7
    have f2_8 := blk_cell hy2 8
    have f2_9 := blk_cell hy2 9
    have hfr0 := blk_frozen hy0
    have hfr2 := blk_frozen hy2
    simp at f0_0 f0_1 f0_2 f0_3 f0_4 f0_5 f0_6 f0_7 f0_8 f0_9 f1_0 f1_1 f1_2 f1_3 f1_4 f1_5 f1_6 f1_7 f1_8 f2_0 f2_1 f2_2 f2_3 f2_4 f2_5 f2_6 f2_7 f2_8 f2_9
    clear hy0 hy1 hy2
    clear hx0 hx1 hx2
    by_cases he : er = 0
    case neg =>
      have hd : (er != 0) = true := by simpa using he
      have hGs : Below w.heap.size w ((((((((((w6.setCell ⟨w.heap.size + 1 + 1, 0, none⟩ (.int .i64 0)).setCell ⟨w.heap.size + 1 + 1, 1, none⟩ (.int .i64 0)).setCell ⟨w.heap.size + 1 + 1, 2, none⟩ (.int .u32 0)).setCell ⟨w.heap.size + 1 + 1, 3, none⟩ (.int .i64 0)).setCell ⟨w.heap.size + 1 + 1, 4, none⟩ (.int .i64 0)).setCell ⟨w.heap.size + 1 + 1, 5, none⟩ (.int .i64 0)).setCell ⟨w.heap.size + 1 + 1, 6, none⟩ (.slice none 0 0)).setCell ⟨w.heap.size + 1 + 1, 7, none⟩ (.slice none 0 0)).setCell ⟨w.heap.size + 1 + 1, 8, none⟩ (.slice none 0 0)).setCell ⟨w.heap.size + 1 + 1, 9, none⟩ (.slice none 0 0)) := ((((((((((hG6.setCell (by dsimp only; omega) _).setCell (by dsimp only; omega) _).setCell (by dsimp only; omega) _).setCell (by dsimp only; omega) _).setCell (by dsimp only; omega) _).setCell (by dsimp only; omega) _).setCell (by dsimp only; omega) _).setCell (by dsimp only; omega) _).setCell (by dsimp only; omega) _).setCell (by dsimp only; omega) _)
      go_wp2_with fail
      exact bodyPost_ret (v := .tuple #[.agg #[.int .i64 0, .int .i64 0, .int .u32 0, .int .i64 0, .int .i64 0, .int .i64 0, .slice none 0 0, .slice none 0 0, .slice none 0 0, .slice none 0 0], .int .i64 er]) (by simp [results, Tryz.results17, go_sem, f2_0, f2_1, f2_2, f2_3, f2_4, f2_5, f2_6, f2_7, f2_8, f2_9]) rfl (PostB.no he hGs)
    have hd : (er != 0) = false := by rw [he]; rfl
    have hGs : Below w.heap.size w ((((((((((w6.setCell ⟨w.heap.size + 1 + 1, 0, none⟩ (.int .i64 o.kd)).setCell ⟨w.heap.size + 1 + 1, 1, none⟩ (.int .i64 v')).setCell ⟨w.heap.size + 1 + 1, 2, none⟩ (.int .u32 t')).setCell ⟨w.heap.size + 1 + 1, 3, none⟩ (.int .i64 o')).setCell ⟨w.heap.size + 1 + 1, 4, none⟩ (.int .i64 o.pl)).setCell ⟨w.heap.size + 1 + 1, 5, none⟩ (.int .i64 o.mi)).setCell ⟨w.heap.size + 1 + 1, 6, none⟩ (.slice r1.A r1.n r1.c)).setCell ⟨w.heap.size + 1 + 1, 7, none⟩ (.slice r1.B r1.m r1.d)).setCell ⟨w.heap.size + 1 + 1, 8, none⟩ (.slice r1.P r1.k r1.e)).setCell ⟨w.heap.size + 1 + 1, 9, none⟩ (.slice r1.Q r1.l r1.f)) := ((((((((((hG6.setCell (by dsimp only; omega) _).setCell (by dsimp only; omega) _).setCell (by dsimp only; omega) _).setCell (by dsimp only; omega) _).setCell (by dsimp only; omega) _).setCell (by dsimp only; omega) _).setCell (by dsimp only; omega) _).setCell (by dsimp only; omega) _).setCell (by dsimp only; omega) _).setCell (by dsimp only; omega) _)
    have hF7 := Lib.hid (ObIn.other (w' := ((((((((((w6.setCell ⟨w.heap.size + 1 + 1, 0, none⟩ (.int .i64 o.kd)).setCell ⟨w.heap.size + 1 + 1, 1, none⟩ (.int .i64 v')).setCell ⟨w.heap.size + 1 + 1, 2, none⟩ (.int .u32 t')).setCell ⟨w.heap.size + 1 + 1, 3, none⟩ (.int .i64 o')).setCell ⟨w.heap.size + 1 + 1, 4, none⟩ (.int .i64 o.pl)).setCell ⟨w.heap.size + 1 + 1, 5, none⟩ (.int .i64 o.mi)).setCell ⟨w.heap.size + 1 + 1, 6, none⟩ (.slice r1.A r1.n r1.c)).setCell ⟨w.heap.size + 1 + 1, 7, none⟩ (.slice r1.B r1.m r1.d)).setCell ⟨w.heap.size + 1 + 1, 8, none⟩ (.slice r1.P r1.k r1.e)).setCell ⟨w.heap.size + 1 + 1, 9, none⟩ (.slice r1.Q r1.l r1.f))) hF6H.out.1 hF6H.out.2 hx2H.out (by decide) (by decide) (by decide) (fun b hb => by repeat (first | rw [heap_set_of b hb] | rfl)) (by simp))
    go_wp2_with fail
    exact bodyPost_ret (v := .tuple #[.agg #[.int .i64 o.kd, .int .i64 v', .int .u32 t', .int .i64 o', .int .i64 o.pl, .int .i64 o.mi, .slice r1.A r1.n r1.c, .slice r1.B r1.m r1.d, .slice r1.P r1.k r1.e, .slice r1.Q r1.l r1.f], .int .i64 0]) (by simp [results, Tryz.results17, go_sem, f2_0, f2_1, f2_2, f2_3, f2_4, f2_5, f2_6, f2_7, f2_8, f2_9]) rfl ⟨⟨o.kd, v', t', o', o.pl, o.mi, o.S, o.M⟩, r1, 0, rfl, hGs, fun _ => ⟨⟨hkH.out, .inl ⟨rfl, rfl, rfl, rfl⟩⟩, hF7.out.1, hF7.out.2⟩⟩
  · have cc := Lib.hid (napply_any o.pl o.mi v w4)
    go_wp2_with fail
    refine cc.out.mono ?_
    rintro e w5 ⟨p', m', er, rfl, hq, hv5⟩
    have hqH := Lib.hid hq
    clear hq
    have hG5 := hG4.trans (hv5.mono hG4.size)
    have hy5 := blk_below hk0.out hv5
    have hz1 := blk_below hk1.out hv5
    have hz2 := blk_below hk2.out hv5
    clear cc
    clear f0_0 f0_1 f0_2 f0_3 f0_4 f0_5 f0_6 f0_7 f0_8 f0_9 f1_0 f1_1 f1_2 f1_3 f1_4 f1_5 f1_6 f1_7 f1_8 f2_0 f2_1 f2_2 f2_3 f2_4 f2_5 f2_6 f2_7 f2_8 f2_9 hl0 hl1 hl2 hfr0 hfr2
    have hy0 := hy5
    have hl0 := blk_lt hy0
    have f0_0 := blk_cell hy0 0
    have f0_1 := blk_cell hy0 1
    have f0_2 := blk_cell hy0 2
    have f0_3 := blk_cell hy0 3
    have f0_4 := blk_cell hy0 4
    have f0_5 := blk_cell hy0 5
    have f0_6 := blk_cell hy0 6
    have f0_7 := blk_cell hy0 7
    have f0_8 := blk_cell hy0 8
    have f0_9 := blk_cell hy0 9
    have hy1 := hz1
    have hl1 := blk_lt hy1
    have f1_0 := blk_cell hy1 0
    have f1_1 := blk_cell hy1 1
    have f1_2 := blk_cell hy1 2
    have f1_3 := blk_cell hy1 3
    have f1_4 := blk_cell hy1 4
    have f1_5 := blk_cell hy1 5
    have f1_6 := blk_cell hy1 6
    have f1_7 := blk_cell hy1 7
    have f1_8 := blk_cell hy1 8
    have hy2 := hz2
    have hl2 := blk_lt hy2
    have f2_0 := blk_cell hy2 0
    have f2_1 := blk_cell hy2 1
    have f2_2 := blk_cell hy2 2
    have f2_3 := blk_cell hy2 3
    have f2_4 := blk_cell hy2 4
    have f2_5 := blk_cell hy2 5
    have f2_6 := blk_cell hy2 6
    have f2_7 := blk_cell hy2 7
    have f2_8 := blk_cell hy2 8
    have f2_9 := blk_cell hy2 9
    have hfr0 := blk_frozen hy0
    have hfr2 := blk_frozen hy2
    simp at f0_0 f0_1 f0_2 f0_3 f0_4 f0_5 f0_6 f0_7 f0_8 f0_9 f1_0 f1_1 f1_2 f1_3 f1_4 f1_5 f1_6 f1_7 f1_8 f2_0 f2_1 f2_2 f2_3 f2_4 f2_5 f2_6 f2_7 f2_8 f2_9
    clear hy0 hy1 hy2
    have hI5 : ObIn w5 (o.setN (p', m')) r1 := ⟨(hI4.below hv5).ra, (hI4.below hv5).rb, (hI4.below hv5).rp, (hI4.below hv5).rq, hI4.hn, hI4.hm, hI4.hk, hI4.hl⟩
    have hT5 : ObTy w5 r1 := hT4.below hv5
    have hG6 : Below w.heap.size w ((w5.setCell ⟨w.heap.size, 4, none⟩ (.int .i64 p')).setCell ⟨w.heap.size, 5, none⟩ (.int .i64 m')) := ((hG5.setCell (by dsimp only; omega) _).setCell (by dsimp only; omega) _)
    have hF6 := ObIn.other (w' := ((w5.setCell ⟨w.heap.size, 4, none⟩ (.int .i64 p')).setCell ⟨w.heap.size, 5, none⟩ (.int .i64 m'))) hI5 hT5 hy5 (by decide) (by decide) (by decide) (fun b hb => by repeat (first | rw [heap_set_of b hb] | rfl)) (by simp)
    have hx0 : ((w5.setCell ⟨w.heap.size, 4, none⟩ (.int .i64 p')).setCell ⟨w.heap.size, 5, none⟩ (.int .i64 m')).heap[w.heap.size]? = some (.cells #[.int .i64 o.kd, .int .i64 o.rv, .int .u32 o.rt, .int .i64 o.ro, .int .i64 p', .int .i64 m', .slice r1.A r1.n r1.c, .slice r1.B r1.m r1.d, .slice r1.P r1.k r1.e, .slice r1.Q r1.l r1.f] 64 (0, 0)) := by simpa using (blk_set (blk_set hy5 4 (.int .i64 p')) 5 (.int .i64 m'))
    have hx1 : ((w5.setCell ⟨w.heap.size, 4, none⟩ (.int .i64 p')).setCell ⟨w.heap.size, 5, none⟩ (.int .i64 m')).heap[w.heap.size + 1]? = some (.cells #[.int .i64 2, .string (bs nm), .int .i64 v, .int .i64 tO, .int .u32 tS, .int .i64 tN, .int .u32 sT, .int .i64 sO, .slice T t c] 87 (0, 0)) := by (repeat rw [heap_set_of _ (by omega)]); exact hz1
    have hx2 : ((w5.setCell ⟨w.heap.size, 4, none⟩ (.int .i64 p')).setCell ⟨w.heap.size, 5, none⟩ (.int .i64 m')).heap[w.heap.size + 1 + 1]? = some (.cells #[.int .i64 0, .int .i64 0, .int .u32 0, .int .i64 0, .int .i64 0, .int .i64 0, .slice none 0 0, .slice none 0 0, .slice none 0 0, .slice none 0 0] 64 (0, 0)) := by (repeat rw [heap_set_of _ (by omega)]); exact hz2
    go_upto_region 20 with (fail)
    generalize ((w5.setCell ⟨w.heap.size, 4, none⟩ (.int .i64 p')).setCell ⟨w.heap.size, 5, none⟩ (.int .i64 m')) = w6 at hG6 hF6 hx0 hx1 hx2 ⊢
    have hx2H := Lib.hid hx2
    have hF6H := Lib.hid hF6
    clear hI5 hT5 hy5 hz1 hz2 hI4 hT4 hTg hok hw1 hw2 hw3 hw4 hF6
    clear f0_0 f0_1 f0_2 f0_3 f0_4 f0_5 f0_6 f0_7 f0_8 f0_9 f1_0 f1_1 f1_2 f1_3 f1_4 f1_5 f1_6 f1_7 f1_8 f2_0 f2_1 f2_2 f2_3 f2_4 f2_5 f2_6 f2_7 f2_8 f2_9 hl0 hl1 hl2 hfr0 hfr2
    have hy0 := hx0
    have hl0 := blk_lt hy0
    have f0_0 := blk_cell hy0 0
    have f0_1 := blk_cell hy0 1
    have f0_2 := blk_cell hy0 2
    have f0_3 := blk_cell hy0 3
    have f0_4 := blk_cell hy0 4
    have f0_5 := blk_cell hy0 5
    have f0_6 := blk_cell hy0 6
    have f0_7 := blk_cell hy0 7
    have f0_8 := blk_cell hy0 8
    have f0_9 := blk_cell hy0 9
    have hy1 := hx1
    have hl1 := blk_lt hy1
    have f1_0 := blk_cell hy1 0
    have f1_1 := blk_cell hy1 1
    have f1_2 := blk_cell hy1 2
    have f1_3 := blk_cell hy1 3
    have f1_4 := blk_cell hy1 4
    have f1_5 := blk_cell hy1 5
    have f1_6 := blk_cell hy1 6
    have f1_7 := blk_cell hy1 7
    have f1_8 := blk_cell hy1 8
    have hy2 := hx2
    have hl2 := blk_lt hy2
    have f2_0 := blk_cell hy2 0
    have f2_1 := blk_cell hy2 1
    have f2_2 := blk_cell hy2 2
    have f2_3 := blk_cell hy2 3
    have f2_4 := blk_cell hy2 4
    have f2_5 := blk_cell hy2 5
    have f2_6 := blk_cell hy2 6
    have f2_7 := blk_cell hy2 7
    have f2_8 := blk_cell hy2 8
    have f2_9 := blk_cell hy2 9
    have hfr0 := blk_frozen hy0
    have hfr2 := blk_frozen hy2
    simp at f0_0 f0_1 f0_2 f0_3 f0_4 f0_5 f0_6 f0_7 f0_8 f0_9 f1_0 f1_1 f1_2 f1_3 f1_4 f1_5 f1_6 f1_7 f1_8 f2_0 f2_1 f2_2 f2_3 f2_4 f2_5 f2_6 f2_7 f2_8 f2_9
    clear hy0 hy1 hy2
    clear hx0 hx1 hx2
    by_cases he : er = 0
    case neg =>
      have hd : (er != 0) = true := by simpa using he
      have hGs : Below w.heap.size w ((((((((((w6.setCell ⟨w.heap.size + 1 + 1, 0, none⟩ (.int .i64 0)).setCell ⟨w.heap.size + 1 + 1, 1, none⟩ (.int .i64 0)).setCell ⟨w.heap.size + 1 + 1, 2, none⟩ (.int .u32 0)).setCell ⟨w.heap.size + 1 + 1, 3, none⟩ (.int .i64 0)).setCell ⟨w.heap.size + 1 + 1, 4, none⟩ (.int .i64 0)).setCell ⟨w.heap.size + 1 + 1, 5, none⟩ (.int .i64 0)).setCell ⟨w.heap.size + 1 + 1, 6, none⟩ (.slice none 0 0)).setCell ⟨w.heap.size + 1 + 1, 7, none⟩ (.slice none 0 0)).setCell ⟨w.heap.size + 1 + 1, 8, none⟩ (.slice none 0 0)).setCell ⟨w.heap.size + 1 + 1, 9, none⟩ (.slice none 0 0)) := ((((((((((hG6.setCell (by dsimp only; omega) _).setCell (by dsimp only; omega) _).setCell (by dsimp only; omega) _).setCell (by dsimp only; omega) _).setCell (by dsimp only; omega) _).setCell (by dsimp only; omega) _).setCell (by dsimp only; omega) _).setCell (by dsimp only; omega) _).setCell (by dsimp only; omega) _).setCell (by dsimp only; omega) _)
      go_wp2_with fail
      exact bodyPost_ret (v := .tuple #[.agg #[.int .i64 0, .int .i64 0, .int .u32 0, .int .i64 0, .int .i64 0, .int .i64 0, .slice none 0 0, .slice none 0 0, .slice none 0 0, .slice none 0 0], .int .i64 er]) (by simp [results, Tryz.results17, go_sem, f2_0, f2_1, f2_2, f2_3, f2_4, f2_5, f2_6, f2_7, f2_8, f2_9]) rfl (PostB.no he hGs)
    have hd : (er != 0) = false := by rw [he]; rfl
    have hGs : Below w.heap.size w ((((((((((w6.setCell ⟨w.heap.size + 1 + 1, 0, none⟩ (.int .i64 o.kd)).setCell ⟨w.heap.size + 1 + 1, 1, none⟩ (.int .i64 o.rv)).setCell ⟨w.heap.size + 1 + 1, 2, none⟩ (.int .u32 o.rt)).setCell ⟨w.heap.size + 1 + 1, 3, none⟩ (.int .i64 o.ro)).setCell ⟨w.heap.size + 1 + 1, 4, none⟩ (.int .i64 p')).setCell ⟨w.heap.size + 1 + 1, 5, none⟩ (.int .i64 m')).setCell ⟨w.heap.size + 1 + 1, 6, none⟩ (.slice r1.A r1.n r1.c)).setCell ⟨w.heap.size + 1 + 1, 7, none⟩ (.slice r1.B r1.m r1.d)).setCell ⟨w.heap.size + 1 + 1, 8, none⟩ (.slice r1.P r1.k r1.e)).setCell ⟨w.heap.size + 1 + 1, 9, none⟩ (.slice r1.Q r1.l r1.f)) := ((((((((((hG6.setCell (by dsimp only; omega) _).setCell (by dsimp only; omega) _).setCell (by dsimp only; omega) _).setCell (by dsimp only; omega) _).setCell (by dsimp only; omega) _).setCell (by dsimp only; omega) _).setCell (by dsimp only; omega) _).setCell (by dsimp only; omega) _).setCell (by dsimp only; omega) _).setCell (by dsimp only; omega) _)
    have hF7 := Lib.hid (ObIn.other (w' := ((((((((((w6.setCell ⟨w.heap.size + 1 + 1, 0, none⟩ (.int .i64 o.kd)).setCell ⟨w.heap.size + 1 + 1, 1, none⟩ (.int .i64 o.rv)).setCell ⟨w.heap.size + 1 + 1, 2, none⟩ (.int .u32 o.rt)).setCell ⟨w.heap.size + 1 + 1, 3, none⟩ (.int .i64 o.ro)).setCell ⟨w.heap.size + 1 + 1, 4, none⟩ (.int .i64 p')).setCell ⟨w.heap.size + 1 + 1, 5, none⟩ (.int .i64 m')).setCell ⟨w.heap.size + 1 + 1, 6, none⟩ (.slice r1.A r1.n r1.c)).setCell ⟨w.heap.size + 1 + 1, 7, none⟩ (.slice r1.B r1.m r1.d)).setCell ⟨w.heap.size + 1 + 1, 8, none⟩ (.slice r1.P r1.k r1.e)).setCell ⟨w.heap.size + 1 + 1, 9, none⟩ (.slice r1.Q r1.l r1.f))) hF6H.out.1 hF6H.out.2 hx2H.out (by decide) (by decide) (by decide) (fun b hb => by repeat (first | rw [heap_set_of b hb] | rfl)) (by simp))
    go_wp2_with fail
    exact bodyPost_ret (v := .tuple #[.agg #[.int .i64 o.kd, .int .i64 o.rv, .int .u32 o.rt, .int .i64 o.ro, .int .i64 p', .int .i64 m', .slice r1.A r1.n r1.c, .slice r1.B r1.m r1.d, .slice r1.P r1.k r1.e, .slice r1.Q r1.l r1.f], .int .i64 0]) (by simp [results, Tryz.results17, go_sem, f2_0, f2_1, f2_2, f2_3, f2_4, f2_5, f2_6, f2_7, f2_8, f2_9]) rfl ⟨(o.setN (p', m')), r1, 0, rfl, hGs, fun _ => ⟨⟨hkH.out, .inr (.inl ⟨rfl, (p', m'), hqH.out he, rfl⟩)⟩, hF7.out.1, hF7.out.2⟩⟩
  · have cc := oputT_any r1.A r1.n r1.c o.S.1 r1.B r1.m r1.d o.S.2 (((tO, tS), tN), nm) w4 hI4.ra hI4.rb hI4.hn hI4.hm hok.wx hok.wg hok.wl hw1 hl
    try dsimp only at cc
    generalize hq : putO o.S.1 o.S.2 (((tO, tS), tN), nm) = q at cc
    obtain ⟨X, er⟩ := q
    try dsimp only at cc
    have hqH := Lib.hid hq
    clear hq
    have cc := Lib.hid cc
    go_wp2_with fail
    refine cc.out.mono ?_
    rintro e w5 ⟨A5, n5, c5, B5, m5, d5, rfl, ha5, hb5, hn5, hm5, _, _, _, _, hv5, ta5, tb5⟩
    have hG5 := hG4.trans (hv5.mono hG4.size)
    have hy5 := blk_below hk0.out hv5
    have hz1 := blk_below hk1.out hv5
    have hz2 := blk_below hk2.out hv5
    clear cc
    clear f0_0 f0_1 f0_2 f0_3 f0_4 f0_5 f0_6 f0_7 f0_8 f0_9 f1_0 f1_1 f1_2 f1_3 f1_4 f1_5 f1_6 f1_7 f1_8 f2_0 f2_1 f2_2 f2_3 f2_4 f2_5 f2_6 f2_7 f2_8 f2_9 hl0 hl1 hl2 hfr0 hfr2
    have hy0 := hy5
    have hl0 := blk_lt hy0
    have f0_0 := blk_cell hy0 0
    have f0_1 := blk_cell hy0 1
    have f0_2 := blk_cell hy0 2
    have f0_3 := blk_cell hy0 3
    have f0_4 := blk_cell hy0 4
    have f0_5 := blk_cell hy0 5
    have f0_6 := blk_cell hy0 6
    have f0_7 := blk_cell hy0 7
    have f0_8 := blk_cell hy0 8
    have f0_9 := blk_cell hy0 9
    have hy1 := hz1
    have hl1 := blk_lt hy1
    have f1_0 := blk_cell hy1 0
    have f1_1 := blk_cell hy1 1
    have f1_2 := blk_cell hy1 2
    have f1_3 := blk_cell hy1 3
    have f1_4 := blk_cell hy1 4
    have f1_5 := blk_cell hy1 5
    have f1_6 := blk_cell hy1 6
    have f1_7 := blk_cell hy1 7
    have f1_8 := blk_cell hy1 8
    have hy2 := hz2
    have hl2 := blk_lt hy2
    have f2_0 := blk_cell hy2 0
    have f2_1 := blk_cell hy2 1
    have f2_2 := blk_cell hy2 2
    have f2_3 := blk_cell hy2 3
    have f2_4 := blk_cell hy2 4
    have f2_5 := blk_cell hy2 5
    have f2_6 := blk_cell hy2 6
    have f2_7 := blk_cell hy2 7
    have f2_8 := blk_cell hy2 8
    have f2_9 := blk_cell hy2 9
    have hfr0 := blk_frozen hy0
    have hfr2 := blk_frozen hy2
    simp at f0_0 f0_1 f0_2 f0_3 f0_4 f0_5 f0_6 f0_7 f0_8 f0_9 f1_0 f1_1 f1_2 f1_3 f1_4 f1_5 f1_6 f1_7 f1_8 f2_0 f2_1 f2_2 f2_3 f2_4 f2_5 f2_6 f2_7 f2_8 f2_9
    clear hy0 hy1 hy2
    have hI5 : ObIn w5 (o.setS X) ⟨A5, n5, c5, B5, m5, d5, r1.P, r1.k, r1.e, r1.Q, r1.l, r1.f⟩ := ⟨ha5, hb5, (hI4.below hv5).rp, (hI4.below hv5).rq, by dsimp only; omega, by dsimp only; omega, hI4.hk, hI4.hl⟩
    have hT5 : ObTy w5 ⟨A5, n5, c5, B5, m5, d5, r1.P, r1.k, r1.e, r1.Q, r1.l, r1.f⟩ := ⟨ta5, tb5, (hT4.below hv5).tp, (hT4.below hv5).tq⟩
    have hG6 : Below w.heap.size w ((w5.setCell ⟨w.heap.size, 6, none⟩ (.slice A5 n5 c5)).setCell ⟨w.heap.size, 7, none⟩ (.slice B5 m5 d5)) := ((hG5.setCell (by dsimp only; omega) _).setCell (by dsimp only; omega) _)
    have hF6 := ObIn.other (w' := ((w5.setCell ⟨w.heap.size, 6, none⟩ (.slice A5 n5 c5)).setCell ⟨w.heap.size, 7, none⟩ (.slice B5 m5 d5))) hI5 hT5 hy5 (by decide) (by decide) (by decide) (fun b hb => by repeat (first | rw [heap_set_of b hb] | rfl)) (by simp)
    have hx0 : ((w5.setCell ⟨w.heap.size, 6, none⟩ (.slice A5 n5 c5)).setCell ⟨w.heap.size, 7, none⟩ (.slice B5 m5 d5)).heap[w.heap.size]? = some (.cells #[.int .i64 o.kd, .int .i64 o.rv, .int .u32 o.rt, .int .i64 o.ro, .int .i64 o.pl, .int .i64 o.mi, .slice A5 n5 c5, .slice B5 m5 d5, .slice r1.P r1.k r1.e, .slice r1.Q r1.l r1.f] 64 (0, 0)) := by simpa using (blk_set (blk_set hy5 6 (.slice A5 n5 c5)) 7 (.slice B5 m5 d5))
    have hx1 : ((w5.setCell ⟨w.heap.size, 6, none⟩ (.slice A5 n5 c5)).setCell ⟨w.heap.size, 7, none⟩ (.slice B5 m5 d5)).heap[w.heap.size + 1]? = some (.cells #[.int .i64 3, .string (bs nm), .int .i64 v, .int .i64 tO, .int .u32 tS, .int .i64 tN, .int .u32 sT, .int .i64 sO, .slice T t c] 87 (0, 0)) := by (repeat rw [heap_set_of _ (by omega)]); exact hz1
    have hx2 : ((w5.setCell ⟨w.heap.size, 6, none⟩ (.slice A5 n5 c5)).setCell ⟨w.heap.size, 7, none⟩ (.slice B5 m5 d5)).heap[w.heap.size + 1 + 1]? = some (.cells #[.int .i64 0, .int .i64 0, .int .u32 0, .int .i64 0, .int .i64 0, .int .i64 0, .slice none 0 0, .slice none 0 0, .slice none 0 0, .slice none 0 0] 64 (0, 0)) := by (repeat rw [heap_set_of _ (by omega)]); exact hz2
    go_upto_region 20 with (fail)
    generalize ((w5.setCell ⟨w.heap.size, 6, none⟩ (.slice A5 n5 c5)).setCell ⟨w.heap.size, 7, none⟩ (.slice B5 m5 d5)) = w6 at hG6 hF6 hx0 hx1 hx2 ⊢
    have hx2H := Lib.hid hx2
    have hF6H := Lib.hid hF6
    clear hI5 hT5 hy5 hz1 hz2 hI4 hT4 hTg hok hw1 hw2 hw3 hw4 hF6
    clear f0_0 f0_1 f0_2 f0_3 f0_4 f0_5 f0_6 f0_7 f0_8 f0_9 f1_0 f1_1 f1_2 f1_3 f1_4 f1_5 f1_6 f1_7 f1_8 f2_0 f2_1 f2_2 f2_3 f2_4 f2_5 f2_6 f2_7 f2_8 f2_9 hl0 hl1 hl2 hfr0 hfr2
    have hy0 := hx0
    have hl0 := blk_lt hy0
    have f0_0 := blk_cell hy0 0
    have f0_1 := blk_cell hy0 1
    have f0_2 := blk_cell hy0 2
    have f0_3 := blk_cell hy0 3
    have f0_4 := blk_cell hy0 4
    have f0_5 := blk_cell hy0 5
    have f0_6 := blk_cell hy0 6
    have f0_7 := blk_cell hy0 7
    have f0_8 := blk_cell hy0 8
    have f0_9 := blk_cell hy0 9
    have hy1 := hx1
    have hl1 := blk_lt hy1
    have f1_0 := blk_cell hy1 0
    have f1_1 := blk_cell hy1 1
    have f1_2 := blk_cell hy1 2
    have f1_3 := blk_cell hy1 3
    have f1_4 := blk_cell hy1 4
    have f1_5 := blk_cell hy1 5
    have f1_6 := blk_cell hy1 6
    have f1_7 := blk_cell hy1 7
    have f1_8 := blk_cell hy1 8
    have hy2 := hx2
    have hl2 := blk_lt hy2
    have f2_0 := blk_cell hy2 0
    have f2_1 := blk_cell hy2 1
    have f2_2 := blk_cell hy2 2
    have f2_3 := blk_cell hy2 3
    have f2_4 := blk_cell hy2 4
    have f2_5 := blk_cell hy2 5
    have f2_6 := blk_cell hy2 6
    have f2_7 := blk_cell hy2 7
    have f2_8 := blk_cell hy2 8
    have f2_9 := blk_cell hy2 9
    have hfr0 := blk_frozen hy0
    have hfr2 := blk_frozen hy2
    simp at f0_0 f0_1 f0_2 f0_3 f0_4 f0_5 f0_6 f0_7 f0_8 f0_9 f1_0 f1_1 f1_2 f1_3 f1_4 f1_5 f1_6 f1_7 f1_8 f2_0 f2_1 f2_2 f2_3 f2_4 f2_5 f2_6 f2_7 f2_8 f2_9
    clear hy0 hy1 hy2
    clear hx0 hx1 hx2
    by_cases he : er = 0
    case neg =>
      have hd : (er != 0) = true := by simpa using he
      have hGs : Below w.heap.size w ((((((((((w6.setCell ⟨w.heap.size + 1 + 1, 0, none⟩ (.int .i64 0)).setCell ⟨w.heap.size + 1 + 1, 1, none⟩ (.int .i64 0)).setCell ⟨w.heap.size + 1 + 1, 2, none⟩ (.int .u32 0)).setCell ⟨w.heap.size + 1 + 1, 3, none⟩ (.int .i64 0)).setCell ⟨w.heap.size + 1 + 1, 4, none⟩ (.int .i64 0)).setCell ⟨w.heap.size + 1 + 1, 5, none⟩ (.int .i64 0)).setCell ⟨w.heap.size + 1 + 1, 6, none⟩ (.slice none 0 0)).setCell ⟨w.heap.size + 1 + 1, 7, none⟩ (.slice none 0 0)).setCell ⟨w.heap.size + 1 + 1, 8, none⟩ (.slice none 0 0)).setCell ⟨w.heap.size + 1 + 1, 9, none⟩ (.slice none 0 0)) := ((((((((((hG6.setCell (by dsimp only; omega) _).setCell (by dsimp only; omega) _).setCell (by dsimp only; omega) _).setCell (by dsimp only; omega) _).setCell (by dsimp only; omega) _).setCell (by dsimp only; omega) _).setCell (by dsimp only; omega) _).setCell (by dsimp only; omega) _).setCell (by dsimp only; omega) _).setCell (by dsimp only; omega) _)
      go_wp2_with fail
      exact bodyPost_ret (v := .tuple #[.agg #[.int .i64 0, .int .i64 0, .int .u32 0, .int .i64 0, .int .i64 0, .int .i64 0, .slice none 0 0, .slice none 0 0, .slice none 0 0, .slice none 0 0], .int .i64 er]) (by simp [results, Tryz.results17, go_sem, f2_0, f2_1, f2_2, f2_3, f2_4, f2_5, f2_6, f2_7, f2_8, f2_9]) rfl (PostB.no he hGs)
    have hd : (er != 0) = false := by rw [he]; rfl
    have hGs : Below w.heap.size w ((((((((((w6.setCell ⟨w.heap.size + 1 + 1, 0, none⟩ (.int .i64 o.kd)).setCell ⟨w.heap.size + 1 + 1, 1, none⟩ (.int .i64 o.rv)).setCell ⟨w.heap.size + 1 + 1, 2, none⟩ (.int .u32 o.rt)).setCell ⟨w.heap.size + 1 + 1, 3, none⟩ (.int .i64 o.ro)).setCell ⟨w.heap.size + 1 + 1, 4, none⟩ (.int .i64 o.pl)).setCell ⟨w.heap.size + 1 + 1, 5, none⟩ (.int .i64 o.mi)).setCell ⟨w.heap.size + 1 + 1, 6, none⟩ (.slice A5 n5 c5)).setCell ⟨w.heap.size + 1 + 1, 7, none⟩ (.slice B5 m5 d5)).setCell ⟨w.heap.size + 1 + 1, 8, none⟩ (.slice r1.P r1.k r1.e)).setCell ⟨w.heap.size + 1 + 1, 9, none⟩ (.slice r1.Q r1.l r1.f)) := ((((((((((hG6.setCell (by dsimp only; omega) _).setCell (by dsimp only; omega) _).setCell (by dsimp only; omega) _).setCell (by dsimp only; omega) _).setCell (by dsimp only; omega) _).setCell (by dsimp only; omega) _).setCell (by dsimp only; omega) _).setCell (by dsimp only; omega) _).setCell (by dsimp only; omega) _).setCell (by dsimp only; omega) _)
    have hF7 := Lib.hid (ObIn.other (w' := ((((((((((w6.setCell ⟨w.heap.size + 1 + 1, 0, none⟩ (.int .i64 o.kd)).setCell ⟨w.heap.size + 1 + 1, 1, none⟩ (.int .i64 o.rv)).setCell ⟨w.heap.size + 1 + 1, 2, none⟩ (.int .u32 o.rt)).setCell ⟨w.heap.size + 1 + 1, 3, none⟩ (.int .i64 o.ro)).setCell ⟨w.heap.size + 1 + 1, 4, none⟩ (.int .i64 o.pl)).setCell ⟨w.heap.size + 1 + 1, 5, none⟩ (.int .i64 o.mi)).setCell ⟨w.heap.size + 1 + 1, 6, none⟩ (.slice A5 n5 c5)).setCell ⟨w.heap.size + 1 + 1, 7, none⟩ (.slice B5 m5 d5)).setCell ⟨w.heap.size + 1 + 1, 8, none⟩ (.slice r1.P r1.k r1.e)).setCell ⟨w.heap.size + 1 + 1, 9, none⟩ (.slice r1.Q r1.l r1.f))) hF6H.out.1 hF6H.out.2 hx2H.out (by decide) (by decide) (by decide) (fun b hb => by repeat (first | rw [heap_set_of b hb] | rfl)) (by simp))
    go_wp2_with fail
    exact bodyPost_ret (v := .tuple #[.agg #[.int .i64 o.kd, .int .i64 o.rv, .int .u32 o.rt, .int .i64 o.ro, .int .i64 o.pl, .int .i64 o.mi, .slice A5 n5 c5, .slice B5 m5 d5, .slice r1.P r1.k r1.e, .slice r1.Q r1.l r1.f], .int .i64 0]) (by simp [results, Tryz.results17, go_sem, f2_0, f2_1, f2_2, f2_3, f2_4, f2_5, f2_6, f2_7, f2_8, f2_9]) rfl ⟨(o.setS X), ⟨A5, n5, c5, B5, m5, d5, r1.P, r1.k, r1.e, r1.Q, r1.l, r1.f⟩, 0, rfl, hGs, fun _ => ⟨⟨hkH.out, .inr (.inr (.inl ⟨rfl, by show (putO o.S.1 o.S.2 (((tO, tS), tN), nm)).2 = 0; rw [hqH.out]; exact he, by show o.setS X = o.setS (putO o.S.1 o.S.2 (((tO, tS), tN), nm)).1; rw [hqH.out]⟩))⟩, hF7.out.1, hF7.out.2⟩⟩
  · have cc := odropT_any r1.A r1.n r1.c o.S.1 r1.B r1.m r1.d o.S.2 T t c tags w4 hI4.ra hI4.rb hTg hI4.hn hI4.hm ht hok.wx hok.wg hw4 hok.wl
    try dsimp only at cc
    generalize hq : dropO o.S.1 o.S.2 tags = q at cc
    obtain ⟨X, er⟩ := q
    try dsimp only at cc
    have hqH := Lib.hid hq
    clear hq
    have cc := Lib.hid cc
    go_wp2_with fail
    refine cc.out.mono ?_
    rintro e w5 ⟨A5, n5, c5, B5, m5, d5, rfl, ha5, hb5, hn5, hm5, _, _, _, _, hv5, ta5, tb5⟩
    have hG5 := hG4.trans (hv5.mono hG4.size)
    have hy5 := blk_below hk0.out hv5
    have hz1 := blk_below hk1.out hv5
    have hz2 := blk_below hk2.out hv5
    clear cc
    clear f0_0 f0_1 f0_2 f0_3 f0_4 f0_5 f0_6 f0_7 f0_8 f0_9 f1_0 f1_1 f1_2 f1_3 f1_4 f1_5 f1_6 f1_7 f1_8 f2_0 f2_1 f2_2 f2_3 f2_4 f2_5 f2_6 f2_7 f2_8 f2_9 hl0 hl1 hl2 hfr0 hfr2
    have hy0 := hy5
    have hl0 := blk_lt hy0
    have f0_0 := blk_cell hy0 0
    have f0_1 := blk_cell hy0 1
    have f0_2 := blk_cell hy0 2
    have f0_3 := blk_cell hy0 3
    have f0_4 := blk_cell hy0 4
    have f0_5 := blk_cell hy0 5
    have f0_6 := blk_cell hy0 6
    have f0_7 := blk_cell hy0 7
    have f0_8 := blk_cell hy0 8
    have f0_9 := blk_cell hy0 9
    have hy1 := hz1
    have hl1 := blk_lt hy1
    have f1_0 := blk_cell hy1 0
    have f1_1 := blk_cell hy1 1
    have f1_2 := blk_cell hy1 2
    have f1_3 := blk_cell hy1 3
    have f1_4 := blk_cell hy1 4
    have f1_5 := blk_cell hy1 5
    have f1_6 := blk_cell hy1 6
    have f1_7 := blk_cell hy1 7
    have f1_8 := blk_cell hy1 8
    have hy2 := hz2
    have hl2 := blk_lt hy2
    have f2_0 := blk_cell hy2 0
    have f2_1 := blk_cell hy2 1
    have f2_2 := blk_cell hy2 2
    have f2_3 := blk_cell hy2 3
    have f2_4 := blk_cell hy2 4
    have f2_5 := blk_cell hy2 5
    have f2_6 := blk_cell hy2 6
    have f2_7 := blk_cell hy2 7
    have f2_8 := blk_cell hy2 8
    have f2_9 := blk_cell hy2 9
    have hfr0 := blk_frozen hy0
    have hfr2 := blk_frozen hy2
    simp at f0_0 f0_1 f0_2 f0_3 f0_4 f0_5 f0_6 f0_7 f0_8 f0_9 f1_0 f1_1 f1_2 f1_3 f1_4 f1_5 f1_6 f1_7 f1_8 f2_0 f2_1 f2_2 f2_3 f2_4 f2_5 f2_6 f2_7 f2_8 f2_9
    clear hy0 hy1 hy2
    have hI5 : ObIn w5 (o.setS X) ⟨A5, n5, c5, B5, m5, d5, r1.P, r1.k, r1.e, r1.Q, r1.l, r1.f⟩ := ⟨ha5, hb5, (hI4.below hv5).rp, (hI4.below hv5).rq, by dsimp only; omega, by dsimp only; omega, hI4.hk, hI4.hl⟩
    have hT5 : ObTy w5 ⟨A5, n5, c5, B5, m5, d5, r1.P, r1.k, r1.e, r1.Q, r1.l, r1.f⟩ := ⟨ta5, tb5, (hT4.below hv5).tp, (hT4.below hv5).tq⟩
    have hG6 : Below w.heap.size w ((w5.setCell ⟨w.heap.size, 6, none⟩ (.slice A5 n5 c5)).setCell ⟨w.heap.size, 7, none⟩ (.slice B5 m5 d5)) := ((hG5.setCell (by dsimp only; omega) _).setCell (by dsimp only; omega) _)
    have hF6 := ObIn.other (w' := ((w5.setCell ⟨w.heap.size, 6, none⟩ (.slice A5 n5 c5)).setCell ⟨w.heap.size, 7, none⟩ (.slice B5 m5 d5))) hI5 hT5 hy5 (by decide) (by decide) (by decide) (fun b hb => by repeat (first | rw [heap_set_of b hb] | rfl)) (by simp)
    have hx0 : ((w5.setCell ⟨w.heap.size, 6, none⟩ (.slice A5 n5 c5)).setCell ⟨w.heap.size, 7, none⟩ (.slice B5 m5 d5)).heap[w.heap.size]? = some (.cells #[.int .i64 o.kd, .int .i64 o.rv, .int .u32 o.rt, .int .i64 o.ro, .int .i64 o.pl, .int .i64 o.mi, .slice A5 n5 c5, .slice B5 m5 d5, .slice r1.P r1.k r1.e, .slice r1.Q r1.l r1.f] 64 (0, 0)) := by simpa using (blk_set (blk_set hy5 6 (.slice A5 n5 c5)) 7 (.slice B5 m5 d5))
    have hx1 : ((w5.setCell ⟨w.heap.size, 6, none⟩ (.slice A5 n5 c5)).setCell ⟨w.heap.size, 7, none⟩ (.slice B5 m5 d5)).heap[w.heap.size + 1]? = some (.cells #[.int .i64 4, .string (bs nm), .int .i64 v, .int .i64 tO, .int .u32 tS, .int .i64 tN, .int .u32 sT, .int .i64 sO, .slice T t c] 87 (0, 0)) := by (repeat rw [heap_set_of _ (by omega)]); exact hz1
    have hx2 : ((w5.setCell ⟨w.heap.size, 6, none⟩ (.slice A5 n5 c5)).setCell ⟨w.heap.size, 7, none⟩ (.slice B5 m5 d5)).heap[w.heap.size + 1 + 1]? = some (.cells #[.int .i64 0, .int .i64 0, .int .u32 0, .int .i64 0, .int .i64 0, .int .i64 0, .slice none 0 0, .slice none 0 0, .slice none 0 0, .slice none 0 0] 64 (0, 0)) := by (repeat rw [heap_set_of _ (by omega)]); exact hz2
    go_upto_region 20 with (fail)
    generalize ((w5.setCell ⟨w.heap.size, 6, none⟩ (.slice A5 n5 c5)).setCell ⟨w.heap.size, 7, none⟩ (.slice B5 m5 d5)) = w6 at hG6 hF6 hx0 hx1 hx2 ⊢
    have hx2H := Lib.hid hx2
    have hF6H := Lib.hid hF6
    clear hI5 hT5 hy5 hz1 hz2 hI4 hT4 hTg hok hw1 hw2 hw3 hw4 hF6
    clear f0_0 f0_1 f0_2 f0_3 f0_4 f0_5 f0_6 f0_7 f0_8 f0_9 f1_0 f1_1 f1_2 f1_3 f1_4 f1_5 f1_6 f1_7 f1_8 f2_0 f2_1 f2_2 f2_3 f2_4 f2_5 f2_6 f2_7 f2_8 f2_9 hl0 hl1 hl2 hfr0 hfr2
    have hy0 := hx0
    have hl0 := blk_lt hy0
    have f0_0 := blk_cell hy0 0
    have f0_1 := blk_cell hy0 1
    have f0_2 := blk_cell hy0 2
    have f0_3 := blk_cell hy0 3
    have f0_4 := blk_cell hy0 4
    have f0_5 := blk_cell hy0 5
    have f0_6 := blk_cell hy0 6
    have f0_7 := blk_cell hy0 7
    have f0_8 := blk_cell hy0 8
    have f0_9 := blk_cell hy0 9
    have hy1 := hx1
    have hl1 := blk_lt hy1
    have f1_0 := blk_cell hy1 0
    have f1_1 := blk_cell hy1 1
    have f1_2 := blk_cell hy1 2
    have f1_3 := blk_cell hy1 3
    have f1_4 := blk_cell hy1 4
    have f1_5 := blk_cell hy1 5
    have f1_6 := blk_cell hy1 6
    have f1_7 := blk_cell hy1 7
    have f1_8 := blk_cell hy1 8
    have hy2 := hx2
    have hl2 := blk_lt hy2
    have f2_0 := blk_cell hy2 0
    have f2_1 := blk_cell hy2 1
    have f2_2 := blk_cell hy2 2
    have f2_3 := blk_cell hy2 3
    have f2_4 := blk_cell hy2 4
    have f2_5 := blk_cell hy2 5
    have f2_6 := blk_cell hy2 6
    have f2_7 := blk_cell hy2 7
    have f2_8 := blk_cell hy2 8
    have f2_9 := blk_cell hy2 9
    have hfr0 := blk_frozen hy0
    have hfr2 := blk_frozen hy2
    simp at f0_0 f0_1 f0_2 f0_3 f0_4 f0_5 f0_6 f0_7 f0_8 f0_9 f1_0 f1_1 f1_2 f1_3 f1_4 f1_5 f1_6 f1_7 f1_8 f2_0 f2_1 f2_2 f2_3 f2_4 f2_5 f2_6 f2_7 f2_8 f2_9
    clear hy0 hy1 hy2
    clear hx0 hx1 hx2
    by_cases he : er = 0
    case neg =>
      have hd : (er != 0) = true := by simpa using he
      have hGs : Below w.heap.size w ((((((((((w6.setCell ⟨w.heap.size + 1 + 1, 0, none⟩ (.int .i64 0)).setCell ⟨w.heap.size + 1 + 1, 1, none⟩ (.int .i64 0)).setCell ⟨w.heap.size + 1 + 1, 2, none⟩ (.int .u32 0)).setCell ⟨w.heap.size + 1 + 1, 3, none⟩ (.int .i64 0)).setCell ⟨w.heap.size + 1 + 1, 4, none⟩ (.int .i64 0)).setCell ⟨w.heap.size + 1 + 1, 5, none⟩ (.int .i64 0)).setCell ⟨w.heap.size + 1 + 1, 6, none⟩ (.slice none 0 0)).setCell ⟨w.heap.size + 1 + 1, 7, none⟩ (.slice none 0 0)).setCell ⟨w.heap.size + 1 + 1, 8, none⟩ (.slice none 0 0)).setCell ⟨w.heap.size + 1 + 1, 9, none⟩ (.slice none 0 0)) := ((((((((((hG6.setCell (by dsimp only; omega) _).setCell (by dsimp only; omega) _).setCell (by dsimp only; omega) _).setCell (by dsimp only; omega) _).setCell (by dsimp only; omega) _).setCell (by dsimp only; omega) _).setCell (by dsimp only; omega) _).setCell (by dsimp only; omega) _).setCell (by dsimp only; omega) _).setCell (by dsimp only; omega) _)
      go_wp2_with fail
      exact bodyPost_ret (v := .tuple #[.agg #[.int .i64 0, .int .i64 0, .int .u32 0, .int .i64 0, .int .i64 0, .int .i64 0, .slice none 0 0, .slice none 0 0, .slice none 0 0, .slice none 0 0], .int .i64 er]) (by simp [results, Tryz.results17, go_sem, f2_0, f2_1, f2_2, f2_3, f2_4, f2_5, f2_6, f2_7, f2_8, f2_9]) rfl (PostB.no he hGs)
    have hd : (er != 0) = false := by rw [he]; rfl
    have hGs : Below w.heap.size w ((((((((((w6.setCell ⟨w.heap.size + 1 + 1, 0, none⟩ (.int .i64 o.kd)).setCell ⟨w.heap.size + 1 + 1, 1, none⟩ (.int .i64 o.rv)).setCell ⟨w.heap.size + 1 + 1, 2, none⟩ (.int .u32 o.rt)).setCell ⟨w.heap.size + 1 + 1, 3, none⟩ (.int .i64 o.ro)).setCell ⟨w.heap.size + 1 + 1, 4, none⟩ (.int .i64 o.pl)).setCell ⟨w.heap.size + 1 + 1, 5, none⟩ (.int .i64 o.mi)).setCell ⟨w.heap.size + 1 + 1, 6, none⟩ (.slice A5 n5 c5)).setCell ⟨w.heap.size + 1 + 1, 7, none⟩ (.slice B5 m5 d5)).setCell ⟨w.heap.size + 1 + 1, 8, none⟩ (.slice r1.P r1.k r1.e)).setCell ⟨w.heap.size + 1 + 1, 9, none⟩ (.slice r1.Q r1.l r1.f)) := ((((((((((hG6.setCell (by dsimp only; omega) _).setCell (by dsimp only; omega) _).setCell (by dsimp only; omega) _).setCell (by dsimp only; omega) _).setCell (by dsimp only; omega) _).setCell (by dsimp only; omega) _).setCell (by dsimp only; omega) _).setCell (by dsimp only; omega) _).setCell (by dsimp only; omega) _).setCell (by dsimp only; omega) _)
    have hF7 := Lib.hid (ObIn.other (w' := ((((((((((w6.setCell ⟨w.heap.size + 1 + 1, 0, none⟩ (.int .i64 o.kd)).setCell ⟨w.heap.size + 1 + 1, 1, none⟩ (.int .i64 o.rv)).setCell ⟨w.heap.size + 1 + 1, 2, none⟩ (.int .u32 o.rt)).setCell ⟨w.heap.size + 1 + 1, 3, none⟩ (.int .i64 o.ro)).setCell ⟨w.heap.size + 1 + 1, 4, none⟩ (.int .i64 o.pl)).setCell ⟨w.heap.size + 1 + 1, 5, none⟩ (.int .i64 o.mi)).setCell ⟨w.heap.size + 1 + 1, 6, none⟩ (.slice A5 n5 c5)).setCell ⟨w.heap.size + 1 + 1, 7, none⟩ (.slice B5 m5 d5)).setCell ⟨w.heap.size + 1 + 1, 8, none⟩ (.slice r1.P r1.k r1.e)).setCell ⟨w.heap.size + 1 + 1, 9, none⟩ (.slice r1.Q r1.l r1.f))) hF6H.out.1 hF6H.out.2 hx2H.out (by decide) (by decide) (by decide) (fun b hb => by repeat (first | rw [heap_set_of b hb] | rfl)) (by simp))
    go_wp2_with fail
    exact bodyPost_ret (v := .tuple #[.agg #[.int .i64 o.kd, .int .i64 o.rv, .int .u32 o.rt, .int .i64 o.ro, .int .i64 o.pl, .int .i64 o.mi, .slice A5 n5 c5, .slice B5 m5 d5, .slice r1.P r1.k r1.e, .slice r1.Q r1.l r1.f], .int .i64 0]) (by simp [results, Tryz.results17, go_sem, f2_0, f2_1, f2_2, f2_3, f2_4, f2_5, f2_6, f2_7, f2_8, f2_9]) rfl ⟨(o.setS X), ⟨A5, n5, c5, B5, m5, d5, r1.P, r1.k, r1.e, r1.Q, r1.l, r1.f⟩, 0, rfl, hGs, fun _ => ⟨⟨hkH.out, .inr (.inr (.inr (.inl ⟨rfl, by show (dropO o.S.1 o.S.2 tags).2 = 0; rw [hqH.out]; exact he, by show o.setS X = o.setS (dropO o.S.1 o.S.2 tags).1; rw [hqH.out]⟩)))⟩, hF7.out.1, hF7.out.2⟩⟩
  · have cc := mapplyT_any r1.P r1.k r1.e o.M.1 r1.Q r1.l r1.f o.M.2 (((tO, tS), tN), (nm, (v, (sT, sO)))) w4 hI4.rp hI4.rq hI4.hk hI4.hl hok.px hok.pg hok.pl ⟨hw1, hw2, hw3.1, hw3.2⟩ hl
    try dsimp only at cc
    generalize hq : putM o.M.1 o.M.2 (((tO, tS), tN), (nm, (v, (sT, sO)))) = q at cc
    obtain ⟨X, er⟩ := q
    try dsimp only at cc
    have hqH := Lib.hid hq
    clear hq
    have cc := Lib.hid cc
    go_wp2_with fail
    refine cc.out.mono ?_
    rintro e w5 ⟨A5, n5, c5, B5, m5, d5, rfl, ha5, hb5, hn5, hm5, _, _, _, _, hv5, ta5, tb5⟩
    have hG5 := hG4.trans (hv5.mono hG4.size)
    have hy5 := blk_below hk0.out hv5
    have hz1 := blk_below hk1.out hv5
    have hz2 := blk_below hk2.out hv5
    clear cc
    clear f0_0 f0_1 f0_2 f0_3 f0_4 f0_5 f0_6 f0_7 f0_8 f0_9 f1_0 f1_1 f1_2 f1_3 f1_4 f1_5 f1_6 f1_7 f1_8 f2_0 f2_1 f2_2 f2_3 f2_4 f2_5 f2_6 f2_7 f2_8 f2_9 hl0 hl1 hl2 hfr0 hfr2
    have hy0 := hy5
    have hl0 := blk_lt hy0
    have f0_0 := blk_cell hy0 0
    have f0_1 := blk_cell hy0 1
    have f0_2 := blk_cell hy0 2
    have f0_3 := blk_cell hy0 3
    have f0_4 := blk_cell hy0 4
    have f0_5 := blk_cell hy0 5
    have f0_6 := blk_cell hy0 6
    have f0_7 := blk_cell hy0 7
    have f0_8 := blk_cell hy0 8
    have f0_9 := blk_cell hy0 9
    have hy1 := hz1
    have hl1 := blk_lt hy1
    have f1_0 := blk_cell hy1 0
    have f1_1 := blk_cell hy1 1
    have f1_2 := blk_cell hy1 2
    have f1_3 := blk_cell hy1 3
    have f1_4 := blk_cell hy1 4
    have f1_5 := blk_cell hy1 5
    have f1_6 := blk_cell hy1 6
    have f1_7 := blk_cell hy1 7
    have f1_8 := blk_cell hy1 8
    have hy2 := hz2
    have hl2 := blk_lt hy2
    have f2_0 := blk_cell hy2 0
    have f2_1 := blk_cell hy2 1
    have f2_2 := blk_cell hy2 2
    have f2_3 := blk_cell hy2 3
    have f2_4 := blk_cell hy2 4
    have f2_5 := blk_cell hy2 5
    have f2_6 := blk_cell hy2 6
    have f2_7 := blk_cell hy2 7
    have f2_8 := blk_cell hy2 8
    have f2_9 := blk_cell hy2 9
    have hfr0 := blk_frozen hy0
    have hfr2 := blk_frozen hy2
    simp at f0_0 f0_1 f0_2 f0_3 f0_4 f0_5 f0_6 f0_7 f0_8 f0_9 f1_0 f1_1 f1_2 f1_3 f1_4 f1_5 f1_6 f1_7 f1_8 f2_0 f2_1 f2_2 f2_3 f2_4 f2_5 f2_6 f2_7 f2_8 f2_9
    clear hy0 hy1 hy2
    have hI5 : ObIn w5 (o.setM X) ⟨r1.A, r1.n, r1.c, r1.B, r1.m, r1.d, A5, n5, c5, B5, m5, d5⟩ := ⟨(hI4.below hv5).ra, (hI4.below hv5).rb, ha5, hb5, hI4.hn, hI4.hm, by dsimp only; omega, by dsimp only; omega⟩
    have hT5 : ObTy w5 ⟨r1.A, r1.n, r1.c, r1.B, r1.m, r1.d, A5, n5, c5, B5, m5, d5⟩ := ⟨(hT4.below hv5).ta, (hT4.below hv5).tb, ta5, tb5⟩
    have hG6 : Below w.heap.size w ((w5.setCell ⟨w.heap.size, 8, none⟩ (.slice A5 n5 c5)).setCell ⟨w.heap.size, 9, none⟩ (.slice B5 m5 d5)) := ((hG5.setCell (by dsimp only; omega) _).setCell (by dsimp only; omega) _)
    have hF6 := ObIn.other (w' := ((w5.setCell ⟨w.heap.size, 8, none⟩ (.slice A5 n5 c5)).setCell ⟨w.heap.size, 9, none⟩ (.slice B5 m5 d5))) hI5 hT5 hy5 (by decide) (by decide) (by decide) (fun b hb => by repeat (first | rw [heap_set_of b hb] | rfl)) (by simp)
    have hx0 : ((w5.setCell ⟨w.heap.size, 8, none⟩ (.slice A5 n5 c5)).setCell ⟨w.heap.size, 9, none⟩ (.slice B5 m5 d5)).heap[w.heap.size]? = some (.cells #[.int .i64 o.kd, .int .i64 o.rv, .int .u32 o.rt, .int .i64 o.ro, .int .i64 o.pl, .int .i64 o.mi, .slice r1.A r1.n r1.c, .slice r1.B r1.m r1.d, .slice A5 n5 c5, .slice B5 m5 d5] 64 (0, 0)) := by simpa using (blk_set (blk_set hy5 8 (.slice A5 n5 c5)) 9 (.slice B5 m5 d5))
    have hx1 : ((w5.setCell ⟨w.heap.size, 8, none⟩ (.slice A5 n5 c5)).setCell ⟨w.heap.size, 9, none⟩ (.slice B5 m5 d5)).heap[w.heap.size + 1]? = some (.cells #[.int .i64 5, .string (bs nm), .int .i64 v, .int .i64 tO, .int .u32 tS, .int .i64 tN, .int .u32 sT, .int .i64 sO, .slice T t c] 87 (0, 0)) := by (repeat rw [heap_set_of _ (by omega)]); exact hz1
    have hx2 : ((w5.setCell ⟨w.heap.size, 8, none⟩ (.slice A5 n5 c5)).setCell ⟨w.heap.size, 9, none⟩ (.slice B5 m5 d5)).heap[w.heap.size + 1 + 1]? = some (.cells #[.int .i64 0, .int .i64 0, .int .u32 0, .int .i64 0, .int .i64 0, .int .i64 0, .slice none 0 0, .slice none 0 0, .slice none 0 0, .slice none 0 0] 64 (0, 0)) := by (repeat rw [heap_set_of _ (by omega)]); exact hz2
    go_upto_region 20 with (fail)
    generalize ((w5.setCell ⟨w.heap.size, 8, none⟩ (.slice A5 n5 c5)).setCell ⟨w.heap.size, 9, none⟩ (.slice B5 m5 d5)) = w6 at hG6 hF6 hx0 hx1 hx2 ⊢
    have hx2H := Lib.hid hx2
    have hF6H := Lib.hid hF6
    clear hI5 hT5 hy5 hz1 hz2 hI4 hT4 hTg hok hw1 hw2 hw3 hw4 hF6
    clear f0_0 f0_1 f0_2 f0_3 f0_4 f0_5 f0_6 f0_7 f0_8 f0_9 f1_0 f1_1 f1_2 f1_3 f1_4 f1_5 f1_6 f1_7 f1_8 f2_0 f2_1 f2_2 f2_3 f2_4 f2_5 f2_6 f2_7 f2_8 f2_9 hl0 hl1 hl2 hfr0 hfr2
    have hy0 := hx0
    have hl0 := blk_lt hy0
    have f0_0 := blk_cell hy0 0
    have f0_1 := blk_cell hy0 1
    have f0_2 := blk_cell hy0 2
    have f0_3 := blk_cell hy0 3
    have f0_4 := blk_cell hy0 4
    have f0_5 := blk_cell hy0 5
    have f0_6 := blk_cell hy0 6
    have f0_7 := blk_cell hy0 7
    have f0_8 := blk_cell hy0 8
    have f0_9 := blk_cell hy0 9
    have hy1 := hx1
    have hl1 := blk_lt hy1
    have f1_0 := blk_cell hy1 0
    have f1_1 := blk_cell hy1 1
    have f1_2 := blk_cell hy1 2
    have f1_3 := blk_cell hy1 3
    have f1_4 := blk_cell hy1 4
    have f1_5 := blk_cell hy1 5
    have f1_6 := blk_cell hy1 6
    have f1_7 := blk_cell hy1 7
    have f1_8 := blk_cell hy1 8
    have hy2 := hx2
    have hl2 := blk_lt hy2
    have f2_0 := blk_cell hy2 0
    have f2_1 := blk_cell hy2 1
    have f2_2 := blk_cell hy2 2
    have f2_3 := blk_cell hy2 3
    have f2_4 := blk_cell hy2 4
    have f2_5 := blk_cell hy2 5
    have f2_6 := blk_cell hy2 6
    have f2_7 := blk_cell hy2 7
    have f2_8 := blk_cell hy2 8
    have f2_9 := blk_cell hy2 9
    have hfr0 := blk_frozen hy0
    have hfr2 := blk_frozen hy2
    simp at f0_0 f0_1 f0_2 f0_3 f0_4 f0_5 f0_6 f0_7 f0_8 f0_9 f1_0 f1_1 f1_2 f1_3 f1_4 f1_5 f1_6 f1_7 f1_8 f2_0 f2_1 f2_2 f2_3 f2_4 f2_5 f2_6 f2_7 f2_8 f2_9
    clear hy0 hy1 hy2
    clear hx0 hx1 hx2
    by_cases he : er = 0
    case neg =>
      have hd : (er != 0) = true := by simpa using he
      have hGs : Below w.heap.size w ((((((((((w6.setCell ⟨w.heap.size + 1 + 1, 0, none⟩ (.int .i64 0)).setCell ⟨w.heap.size + 1 + 1, 1, none⟩ (.int .i64 0)).setCell ⟨w.heap.size + 1 + 1, 2, none⟩ (.int .u32 0)).setCell ⟨w.heap.size + 1 + 1, 3, none⟩ (.int .i64 0)).setCell ⟨w.heap.size + 1 + 1, 4, none⟩ (.int .i64 0)).setCell ⟨w.heap.size + 1 + 1, 5, none⟩ (.int .i64 0)).setCell ⟨w.heap.size + 1 + 1, 6, none⟩ (.slice none 0 0)).setCell ⟨w.heap.size + 1 + 1, 7, none⟩ (.slice none 0 0)).setCell ⟨w.heap.size + 1 + 1, 8, none⟩ (.slice none 0 0)).setCell ⟨w.heap.size + 1 + 1, 9, none⟩ (.slice none 0 0)) := ((((((((((hG6.setCell (by dsimp only; omega) _).setCell (by dsimp only; omega) _).setCell (by dsimp only; omega) _).setCell (by dsimp only; omega) _).setCell (by dsimp only; omega) _).setCell (by dsimp only; omega) _).setCell (by dsimp only; omega) _).setCell (by dsimp only; omega) _).setCell (by dsimp only; omega) _).setCell (by dsimp only; omega) _)
      go_wp2_with fail
      exact bodyPost_ret (v := .tuple #[.agg #[.int .i64 0, .int .i64 0, .int .u32 0, .int .i64 0, .int .i64 0, .int .i64 0, .slice none 0 0, .slice none 0 0, .slice none 0 0, .slice none 0 0], .int .i64 er]) (by simp [results, Tryz.results17, go_sem, f2_0, f2_1, f2_2, f2_3, f2_4, f2_5, f2_6, f2_7, f2_8, f2_9]) rfl (PostB.no he hGs)
    have hd : (er != 0) = false := by rw [he]; rfl
    have hGs : Below w.heap.size w ((((((((((w6.setCell ⟨w.heap.size + 1 + 1, 0, none⟩ (.int .i64 o.kd)).setCell ⟨w.heap.size + 1 + 1, 1, none⟩ (.int .i64 o.rv)).setCell ⟨w.heap.size + 1 + 1, 2, none⟩ (.int .u32 o.rt)).setCell ⟨w.heap.size + 1 + 1, 3, none⟩ (.int .i64 o.ro)).setCell ⟨w.heap.size + 1 + 1, 4, none⟩ (.int .i64 o.pl)).setCell ⟨w.heap.size + 1 + 1, 5, none⟩ (.int .i64 o.mi)).setCell ⟨w.heap.size + 1 + 1, 6, none⟩ (.slice r1.A r1.n r1.c)).setCell ⟨w.heap.size + 1 + 1, 7, none⟩ (.slice r1.B r1.m r1.d)).setCell ⟨w.heap.size + 1 + 1, 8, none⟩ (.slice A5 n5 c5)).setCell ⟨w.heap.size + 1 + 1, 9, none⟩ (.slice B5 m5 d5)) := ((((((((((hG6.setCell (by dsimp only; omega) _).setCell (by dsimp only; omega) _).setCell (by dsimp only; omega) _).setCell (by dsimp only; omega) _).setCell (by dsimp only; omega) _).setCell (by dsimp only; omega) _).setCell (by dsimp only; omega) _).setCell (by dsimp only; omega) _).setCell (by dsimp only; omega) _).setCell (by dsimp only; omega) _)
    have hF7 := Lib.hid (ObIn.other (w' := ((((((((((w6.setCell ⟨w.heap.size + 1 + 1, 0, none⟩ (.int .i64 o.kd)).setCell ⟨w.heap.size + 1 + 1, 1, none⟩ (.int .i64 o.rv)).setCell ⟨w.heap.size + 1 + 1, 2, none⟩ (.int .u32 o.rt)).setCell ⟨w.heap.size + 1 + 1, 3, none⟩ (.int .i64 o.ro)).setCell ⟨w.heap.size + 1 + 1, 4, none⟩ (.int .i64 o.pl)).setCell ⟨w.heap.size + 1 + 1, 5, none⟩ (.int .i64 o.mi)).setCell ⟨w.heap.size + 1 + 1, 6, none⟩ (.slice r1.A r1.n r1.c)).setCell ⟨w.heap.size + 1 + 1, 7, none⟩ (.slice r1.B r1.m r1.d)).setCell ⟨w.heap.size + 1 + 1, 8, none⟩ (.slice A5 n5 c5)).setCell ⟨w.heap.size + 1 + 1, 9, none⟩ (.slice B5 m5 d5))) hF6H.out.1 hF6H.out.2 hx2H.out (by decide) (by decide) (by decide) (fun b hb => by repeat (first | rw [heap_set_of b hb] | rfl)) (by simp))
    go_wp2_with fail
    exact bodyPost_ret (v := .tuple #[.agg #[.int .i64 o.kd, .int .i64 o.rv, .int .u32 o.rt, .int .i64 o.ro, .int .i64 o.pl, .int .i64 o.mi, .slice r1.A r1.n r1.c, .slice r1.B r1.m r1.d, .slice A5 n5 c5, .slice B5 m5 d5], .int .i64 0]) (by simp [results, Tryz.results17, go_sem, f2_0, f2_1, f2_2, f2_3, f2_4, f2_5, f2_6, f2_7, f2_8, f2_9]) rfl ⟨(o.setM X), ⟨r1.A, r1.n, r1.c, r1.B, r1.m, r1.d, A5, n5, c5, B5, m5, d5⟩, 0, rfl, hGs, fun _ => ⟨⟨hkH.out, .inr (.inr (.inr (.inr (.inl ⟨rfl, by show (putM o.M.1 o.M.2 (((tO, tS), tN), (nm, (v, (sT, sO))))).2 = 0; rw [hqH.out]; exact he, by show o.setM X = o.setM (putM o.M.1 o.M.2 (((tO, tS), tN), (nm, (v, (sT, sO))))).1; rw [hqH.out]⟩))))⟩, hF7.out.1, hF7.out.2⟩⟩
  · have cc := mdropT_any r1.P r1.k r1.e o.M.1 r1.Q r1.l r1.f o.M.2 T t c tags w4 hI4.rp hI4.rq hTg hI4.hk hI4.hl ht hok.px hok.pg hw4 hok.pl
    try dsimp only at cc
    generalize hq : dropM o.M.1 o.M.2 tags = q at cc
    obtain ⟨X, er⟩ := q
    try dsimp only at cc
    have hqH := Lib.hid hq
    clear hq
    have cc := Lib.hid cc
    go_wp2_with fail
    refine cc.out.mono ?_
    rintro e w5 ⟨A5, n5, c5, B5, m5, d5, rfl, ha5, hb5, hn5, hm5, _, _, _, _, hv5, ta5, tb5⟩
    have hG5 := hG4.trans (hv5.mono hG4.size)
    have hy5 := blk_below hk0.out hv5
    have hz1 := blk_below hk1.out hv5
    have hz2 := blk_below hk2.out hv5
    clear cc
    clear f0_0 f0_1 f0_2 f0_3 f0_4 f0_5 f0_6 f0_7 f0_8 f0_9 f1_0 f1_1 f1_2 f1_3 f1_4 f1_5 f1_6 f1_7 f1_8 f2_0 f2_1 f2_2 f2_3 f2_4 f2_5 f2_6 f2_7 f2_8 f2_9 hl0 hl1 hl2 hfr0 hfr2
    have hy0 := hy5
    have hl0 := blk_lt hy0
    have f0_0 := blk_cell hy0 0
    have f0_1 := blk_cell hy0 1
    have f0_2 := blk_cell hy0 2
    have f0_3 := blk_cell hy0 3
    have f0_4 := blk_cell hy0 4
    have f0_5 := blk_cell hy0 5
    have f0_6 := blk_cell hy0 6
    have f0_7 := blk_cell hy0 7
    have f0_8 := blk_cell hy0 8
    have f0_9 := blk_cell hy0 9
    have hy1 := hz1
    have hl1 := blk_lt hy1
    have f1_0 := blk_cell hy1 0
    have f1_1 := blk_cell hy1 1
    have f1_2 := blk_cell hy1 2
    have f1_3 := blk_cell hy1 3
    have f1_4 := blk_cell hy1 4
    have f1_5 := blk_cell hy1 5
    have f1_6 := blk_cell hy1 6
    have f1_7 := blk_cell hy1 7
    have f1_8 := blk_cell hy1 8
    have hy2 := hz2
    have hl2 := blk_lt hy2
    have f2_0 := blk_cell hy2 0
    have f2_1 := blk_cell hy2 1
    have f2_2 := blk_cell hy2 2
    have f2_3 := blk_cell hy2 3
    have f2_4 := blk_cell hy2 4
    have f2_5 := blk_cell hy2 5
    have f2_6 := blk_cell hy2 6
    have f2_7 := blk_cell hy2 7
    have f2_8 := blk_cell hy2 8
    have f2_9 := blk_cell hy2 9
    have hfr0 := blk_frozen hy0
    have hfr2 := blk_frozen hy2
    simp at f0_0 f0_1 f0_2 f0_3 f0_4 f0_5 f0_6 f0_7 f0_8 f0_9 f1_0 f1_1 f1_2 f1_3 f1_4 f1_5 f1_6 f1_7 f1_8 f2_0 f2_1 f2_2 f2_3 f2_4 f2_5 f2_6 f2_7 f2_8 f2_9
    clear hy0 hy1 hy2
    have hI5 : ObIn w5 (o.setM X) ⟨r1.A, r1.n, r1.c, r1.B, r1.m, r1.d, A5, n5, c5, B5, m5, d5⟩ := ⟨(hI4.below hv5).ra, (hI4.below hv5).rb, ha5, hb5, hI4.hn, hI4.hm, by dsimp only; omega, by dsimp only; omega⟩
    have hT5 : ObTy w5 ⟨r1.A, r1.n, r1.c, r1.B, r1.m, r1.d, A5, n5, c5, B5, m5, d5⟩ := ⟨(hT4.below hv5).ta, (hT4.below hv5).tb, ta5, tb5⟩
    have hG6 : Below w.heap.size w ((w5.setCell ⟨w.heap.size, 8, none⟩ (.slice A5 n5 c5)).setCell ⟨w.heap.size, 9, none⟩ (.slice B5 m5 d5)) := ((hG5.setCell (by dsimp only; omega) _).setCell (by dsimp only; omega) _)
    have hF6 := ObIn.other (w' := ((w5.setCell ⟨w.heap.size, 8, none⟩ (.slice A5 n5 c5)).setCell ⟨w.heap.size, 9, none⟩ (.slice B5 m5 d5))) hI5 hT5 hy5 (by decide) (by decide) (by decide) (fun b hb => by repeat (first | rw [heap_set_of b hb] | rfl)) (by simp)
    have hx0 : ((w5.setCell ⟨w.heap.size, 8, none⟩ (.slice A5 n5 c5)).setCell ⟨w.heap.size, 9, none⟩ (.slice B5 m5 d5)).heap[w.heap.size]? = some (.cells #[.int .i64 o.kd, .int .i64 o.rv, .int .u32 o.rt, .int .i64 o.ro, .int .i64 o.pl, .int .i64 o.mi, .slice r1.A r1.n r1.c, .slice r1.B r1.m r1.d, .slice A5 n5 c5, .slice B5 m5 d5] 64 (0, 0)) := by simpa using (blk_set (blk_set hy5 8 (.slice A5 n5 c5)) 9 (.slice B5 m5 d5))
    have hx1 : ((w5.setCell ⟨w.heap.size, 8, none⟩ (.slice A5 n5 c5)).setCell ⟨w.heap.size, 9, none⟩ (.slice B5 m5 d5)).heap[w.heap.size + 1]? = some (.cells #[.int .i64 6, .string (bs nm), .int .i64 v, .int .i64 tO, .int .u32 tS, .int .i64 tN, .int .u32 sT, .int .i64 sO, .slice T t c] 87 (0, 0)) := by (repeat rw [heap_set_of _ (by omega)]); exact hz1
    have hx2 : ((w5.setCell ⟨w.heap.size, 8, none⟩ (.slice A5 n5 c5)).setCell ⟨w.heap.size, 9, none⟩ (.slice B5 m5 d5)).heap[w.heap.size + 1 + 1]? = some (.cells #[.int .i64 0, .int .i64 0, .int .u32 0, .int .i64 0, .int .i64 0, .int .i64 0, .slice none 0 0, .slice none 0 0, .slice none 0 0, .slice none 0 0] 64 (0, 0)) := by (repeat rw [heap_set_of _ (by omega)]); exact hz2
    go_upto_region 20 with (fail)
    generalize ((w5.setCell ⟨w.heap.size, 8, none⟩ (.slice A5 n5 c5)).setCell ⟨w.heap.size, 9, none⟩ (.slice B5 m5 d5)) = w6 at hG6 hF6 hx0 hx1 hx2 ⊢
    have hx2H := Lib.hid hx2
    have hF6H := Lib.hid hF6
    clear hI5 hT5 hy5 hz1 hz2 hI4 hT4 hTg hok hw1 hw2 hw3 hw4 hF6
    clear f0_0 f0_1 f0_2 f0_3 f0_4 f0_5 f0_6 f0_7 f0_8 f0_9 f1_0 f1_1 f1_2 f1_3 f1_4 f1_5 f1_6 f1_7 f1_8 f2_0 f2_1 f2_2 f2_3 f2_4 f2_5 f2_6 f2_7 f2_8 f2_9 hl0 hl1 hl2 hfr0 hfr2
    have hy0 := hx0
    have hl0 := blk_lt hy0
    have f0_0 := blk_cell hy0 0
    have f0_1 := blk_cell hy0 1
    have f0_2 := blk_cell hy0 2
    have f0_3 := blk_cell hy0 3
    have f0_4 := blk_cell hy0 4
    have f0_5 := blk_cell hy0 5
    have f0_6 := blk_cell hy0 6
    have f0_7 := blk_cell hy0 7
    have f0_8 := blk_cell hy0 8
    have f0_9 := blk_cell hy0 9
    have hy1 := hx1
    have hl1 := blk_lt hy1
    have f1_0 := blk_cell hy1 0
    have f1_1 := blk_cell hy1 1
    have f1_2 := blk_cell hy1 2
    have f1_3 := blk_cell hy1 3
    have f1_4 := blk_cell hy1 4
    have f1_5 := blk_cell hy1 5
    have f1_6 := blk_cell hy1 6
    have f1_7 := blk_cell hy1 7
    have f1_8 := blk_cell hy1 8
    have hy2 := hx2
    have hl2 := blk_lt hy2
    have f2_0 := blk_cell hy2 0
    have f2_1 := blk_cell hy2 1
    have f2_2 := blk_cell hy2 2
    have f2_3 := blk_cell hy2 3
    have f2_4 := blk_cell hy2 4
    have f2_5 := blk_cell hy2 5
    have f2_6 := blk_cell hy2 6
    have f2_7 := blk_cell hy2 7
    have f2_8 := blk_cell hy2 8
    have f2_9 := blk_cell hy2 9
    have hfr0 := blk_frozen hy0
    have hfr2 := blk_frozen hy2
    simp at f0_0 f0_1 f0_2 f0_3 f0_4 f0_5 f0_6 f0_7 f0_8 f0_9 f1_0 f1_1 f1_2 f1_3 f1_4 f1_5 f1_6 f1_7 f1_8 f2_0 f2_1 f2_2 f2_3 f2_4 f2_5 f2_6 f2_7 f2_8 f2_9
    clear hy0 hy1 hy2
    clear hx0 hx1 hx2
    by_cases he : er = 0
    case neg =>
      have hd : (er != 0) = true := by simpa using he
      have hGs : Below w.heap.size w ((((((((((w6.setCell ⟨w.heap.size + 1 + 1, 0, none⟩ (.int .i64 0)).setCell ⟨w.heap.size + 1 + 1, 1, none⟩ (.int .i64 0)).setCell ⟨w.heap.size + 1 + 1, 2, none⟩ (.int .u32 0)).setCell ⟨w.heap.size + 1 + 1, 3, none⟩ (.int .i64 0)).setCell ⟨w.heap.size + 1 + 1, 4, none⟩ (.int .i64 0)).setCell ⟨w.heap.size + 1 + 1, 5, none⟩ (.int .i64 0)).setCell ⟨w.heap.size + 1 + 1, 6, none⟩ (.slice none 0 0)).setCell ⟨w.heap.size + 1 + 1, 7, none⟩ (.slice none 0 0)).setCell ⟨w.heap.size + 1 + 1, 8, none⟩ (.slice none 0 0)).setCell ⟨w.heap.size + 1 + 1, 9, none⟩ (.slice none 0 0)) := ((((((((((hG6.setCell (by dsimp only; omega) _).setCell (by dsimp only; omega) _).setCell (by dsimp only; omega) _).setCell (by dsimp only; omega) _).setCell (by dsimp only; omega) _).setCell (by dsimp only; omega) _).setCell (by dsimp only; omega) _).setCell (by dsimp only; omega) _).setCell (by dsimp only; omega) _).setCell (by dsimp only; omega) _)
      go_wp2_with fail
      exact bodyPost_ret (v := .tuple #[.agg #[.int .i64 0, .int .i64 0, .int .u32 0, .int .i64 0, .int .i64 0, .int .i64 0, .slice none 0 0, .slice none 0 0, .slice none 0 0, .slice none 0 0], .int .i64 er]) (by simp [results, Tryz.results17, go_sem, f2_0, f2_1, f2_2, f2_3, f2_4, f2_5, f2_6, f2_7, f2_8, f2_9]) rfl (PostB.no he hGs)
    have hd : (er != 0) = false := by rw [he]; rfl
    have hGs : Below w.heap.size w ((((((((((w6.setCell ⟨w.heap.size + 1 + 1, 0, none⟩ (.int .i64 o.kd)).setCell ⟨w.heap.size + 1 + 1, 1, none⟩ (.int .i64 o.rv)).setCell ⟨w.heap.size + 1 + 1, 2, none⟩ (.int .u32 o.rt)).setCell ⟨w.heap.size + 1 + 1, 3, none⟩ (.int .i64 o.ro)).setCell ⟨w.heap.size + 1 + 1, 4, none⟩ (.int .i64 o.pl)).setCell ⟨w.heap.size + 1 + 1, 5, none⟩ (.int .i64 o.mi)).setCell ⟨w.heap.size + 1 + 1, 6, none⟩ (.slice r1.A r1.n r1.c)).setCell ⟨w.heap.size + 1 + 1, 7, none⟩ (.slice r1.B r1.m r1.d)).setCell ⟨w.heap.size + 1 + 1, 8, none⟩ (.slice A5 n5 c5)).setCell ⟨w.heap.size + 1 + 1, 9, none⟩ (.slice B5 m5 d5)) := ((((((((((hG6.setCell (by dsimp only; omega) _).setCell (by dsimp only; omega) _).setCell (by dsimp only; omega) _).setCell (by dsimp only; omega) _).setCell (by dsimp only; omega) _).setCell (by dsimp only; omega) _).setCell (by dsimp only; omega) _).setCell (by dsimp only; omega) _).setCell (by dsimp only; omega) _).setCell (by dsimp only; omega) _)
    have hF7 := Lib.hid (ObIn.other (w' := ((((((((((w6.setCell ⟨w.heap.size + 1 + 1, 0, none⟩ (.int .i64 o.kd)).setCell ⟨w.heap.size + 1 + 1, 1, none⟩ (.int .i64 o.rv)).setCell ⟨w.heap.size + 1 + 1, 2, none⟩ (.int .u32 o.rt)).setCell ⟨w.heap.size + 1 + 1, 3, none⟩ (.int .i64 o.ro)).setCell ⟨w.heap.size + 1 + 1, 4, none⟩ (.int .i64 o.pl)).setCell ⟨w.heap.size + 1 + 1, 5, none⟩ (.int .i64 o.mi)).setCell ⟨w.heap.size + 1 + 1, 6, none⟩ (.slice r1.A r1.n r1.c)).setCell ⟨w.heap.size + 1 + 1, 7, none⟩ (.slice r1.B r1.m r1.d)).setCell ⟨w.heap.size + 1 + 1, 8, none⟩ (.slice A5 n5 c5)).setCell ⟨w.heap.size + 1 + 1, 9, none⟩ (.slice B5 m5 d5))) hF6H.out.1 hF6H.out.2 hx2H.out (by decide) (by decide) (by decide) (fun b hb => by repeat (first | rw [heap_set_of b hb] | rfl)) (by simp))
    go_wp2_with fail
    exact bodyPost_ret (v := .tuple #[.agg #[.int .i64 o.kd, .int .i64 o.rv, .int .u32 o.rt, .int .i64 o.ro, .int .i64 o.pl, .int .i64 o.mi, .slice r1.A r1.n r1.c, .slice r1.B r1.m r1.d, .slice A5 n5 c5, .slice B5 m5 d5], .int .i64 0]) (by simp [results, Tryz.results17, go_sem, f2_0, f2_1, f2_2, f2_3, f2_4, f2_5, f2_6, f2_7, f2_8, f2_9]) rfl ⟨(o.setM X), ⟨r1.A, r1.n, r1.c, r1.B, r1.m, r1.d, A5, n5, c5, B5, m5, d5⟩, 0, rfl, hGs, fun _ => ⟨⟨hkH.out, .inr (.inr (.inr (.inr (.inr ⟨rfl, by show (dropM o.M.1 o.M.2 tags).2 = 0; rw [hqH.out]; exact he, by show o.setM X = o.setM (dropM o.M.1 o.M.2 tags).1; rw [hqH.out]⟩))))⟩, hF7.out.1, hF7.out.2⟩⟩
  · exact absurd hERH.out (by unfold errE errOp; dsimp only; rw [if_pos ha0, if_pos (by decide)]; decide)
end Go.Proofs.YtffnpfponnhddaaGreat
