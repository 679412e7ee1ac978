/- selkielaw24.does: an object behind an act that sees all of it. -/
import Derived.Test.YtffnpfponnhddaaGreatCoH
import Derived.Test.YtffnpfponnhddaaGreatCoI
namespace Go.Proofs.YtffnpfponnhddaaGreat
open Go.RowKit

def StepR (o : Ob) (a : Int) (nm : List UInt8) (v n : Int) (o' : Ob) : Prop := errOp a nm v = 0 ∧ ApR o (effC o a nm v n) o'
def PostD (w : World) (o : Ob) (a : Int) (nm : List UInt8) (v n : Int) (e : Ending) (w' : World) : Prop :=
  ∃ (o' : Ob) (r' : Rw) (ok : Bool), e = .returned (.tuple #[.agg #[.int .i64 o'.kd, .int .i64 o'.rv, .int .u32 o'.rt, .int .i64 o'.ro, .int .i64 o'.pl, .int .i64 o'.mi, .slice r'.A r'.n r'.c, .slice r'.B r'.m r'.d, .slice r'.P r'.k r'.e, .slice r'.Q r'.l r'.f], .bool ok]) ∧ Below w.heap.size w w' ∧ (ok = true → StepR o a nm v n o' ∧ ObIn w' o' r' ∧ ObTy w' r')
theorem tagsO_sub {xs : List Am} {gs : List Tm} {e : List UInt8} : (tagsO xs gs e).length ≤ xs.length ∧ ∀ t ∈ tagsO xs gs e, ∃ a ∈ xs, a.1 = t := by
  unfold tagsO
  split
  · exact ⟨Nat.zero_le _, fun t h => absurd h (by simp)⟩
  · refine ⟨by rw [List.length_map]; exact List.length_filter_le _ _, fun t h => ?_⟩
    obtain ⟨a, ha, rfl⟩ := List.mem_map.1 h
    exact ⟨a, (List.mem_filter.1 ha).1, rfl⟩
theorem tagsM_sub {xs : List Pm} {gs : List Tm} {e : List UInt8} : (tagsM xs gs e).length ≤ xs.length ∧ ∀ t ∈ tagsM xs gs e, ∃ a ∈ xs, a.1 = t := by
  unfold tagsM
  split
  · exact ⟨Nat.zero_le _, fun t h => absurd h (by simp)⟩
  · refine ⟨by rw [List.length_map]; exact List.length_filter_le _ _, fun t h => ?_⟩
    obtain ⟨a, ha, rfl⟩ := List.mem_map.1 h
    exact ⟨a, (List.mem_filter.1 ha).1, rfl⟩
theorem effC_ok {w : World} {o : Ob} {r : Rw} {a v n : Int} {nm : List UInt8} (h : ObIn w o r) (hok : o.Ok) (hn : n = 0 ∨ n = 1) (ha : -9223372036854775808 ≤ a ∧ a ≤ 9223372036854775807) (hv : -9223372036854775808 ≤ v ∧ v ≤ 9223372036854775807) :
    (effC o a nm v n).wf ∧ (effC o a nm v n).tags.length ≤ 100000 := by
  have hS := @tagsO_sub o.S.1 o.S.2 nm
  have hM := @tagsM_sub o.M.1 o.M.2 nm
  have l1 := h.ra.len
  have l2 := h.rp.len
  have hn1 := h.hn
  have hk1 := h.hk
  refine ⟨⟨?_, ?_, hv, ?_, ha.1, ha.2⟩, ?_⟩
  · show Tm.wf (tagC n)
    rcases hn with rfl | rfl <;> constructor <;> decide
  · show Sm.wf (if a = 1 ∨ a = 5 then stampC n else (0, 0))
    split
    · rcases hn with rfl | rfl <;> constructor <;> decide
    · constructor <;> decide
  · show ∀ t ∈ (if a = 4 then tagsO o.S.1 o.S.2 nm else if a = 6 then tagsM o.M.1 o.M.2 nm else []), t.wf
    split
    · intro t ht
      obtain ⟨x, hx, rfl⟩ := hS.2 t ht
      exact hok.wx x hx
    · split
      · intro t ht
        obtain ⟨x, hx, rfl⟩ := hM.2 t ht
        exact (hok.px x hx).1
      · intro t ht
        exact absurd ht (by simp)
  · show (if a = 4 then tagsO o.S.1 o.S.2 nm else if a = 6 then tagsM o.M.1 o.M.2 nm else []).length ≤ 100000
    split
    · omega
    · split
      · omega
      · simp
set_option maxRecDepth 100000 in
set_option maxHeartbeats 16000000 in
theorem does_any (o : Ob) (r : Rw) (a : Int) (nm : List UInt8) (v n : Int) (w : World) (h : ObIn w o r) (hok : o.Ok) (hl : nm.length ≤ maxLen) (hn : n = 0 ∨ n = 1) (ha : -9223372036854775808 ≤ a ∧ a ≤ 9223372036854775807) (hv : -9223372036854775808 ≤ v ∧ v ≤ 9223372036854775807) :
    Calls Tryz.prog 8 #[.agg #[.int .i64 o.kd, .int .i64 o.rv, .int .u32 o.rt, .int .i64 o.ro, .int .i64 o.pl, .int .i64 o.mi, .slice r.A r.n r.c, .slice r.B r.m r.d, .slice r.P r.k r.e, .slice r.Q r.l r.f], .agg #[.int .i64 a, .string (bs nm), .int .i64 v], .int .i64 n] w (PostD w o a nm v n) := by
  have c1 := Lib.hid (fun w' (hb : Below w.heap.size w w') => prepare_any o r a nm v n w' (h.below hb) hok hl hn)
  have c2 := Lib.hid (fun T t c w' (hb : Below w.heap.size w w') (hT : RdT w' w'.heap.size T t (effC o a nm v n).tags) => applyOb_any o r (effC o a nm v n) T t c w' (h.below hb) hok hT (by have h1 := hT.len; have h2 := (effC_ok (nm := nm) h hok hn ha hv).2; omega) (effC_ok (nm := nm) h hok hn ha hv).1 hl)
  have w1 : IntKind.u32.wrap n = n := by rcases hn with rfl | rfl <;> decide
  have w2 : IntKind.u32.wrap (1048574 + n) = 1048574 + n := by rcases hn with rfl | rfl <;> decide
  clear h hok hl ha hv
  have hb0 : Below w.heap.size w (((w.alloc (.cells #[.int .i64 o.kd, .int .i64 o.rv, .int .u32 o.rt, .int .i64 o.ro, .int .i64 o.pl, .int .i64 o.mi, .slice r.A r.n r.c, .slice r.B r.m r.d, .slice r.P r.k r.e, .slice r.Q r.l r.f] 64)).alloc (.cells #[.int .i64 a, .string (bs nm), .int .i64 v] 49)).alloc (.cells #[.int .i64 0, .int .i64 0, .int .u32 0, .int .i64 0, .int .i64 0, .int .i64 0, .slice none 0 0, .slice none 0 0, .slice none 0 0, .slice none 0 0] 64)) := (((Below.refl _ w).alloc (by first | (simp; done) | (simp; omega) | omega) _).alloc (by first | (simp; done) | (simp; omega) | omega) _).alloc (by first | (simp; done) | (simp; omega) | omega) _
  have hx0 : (((w.alloc (.cells #[.int .i64 o.kd, .int .i64 o.rv, .int .u32 o.rt, .int .i64 o.ro, .int .i64 o.pl, .int .i64 o.mi, .slice r.A r.n r.c, .slice r.B r.m r.d, .slice r.P r.k r.e, .slice r.Q r.l r.f] 64)).alloc (.cells #[.int .i64 a, .string (bs nm), .int .i64 v] 49)).alloc (.cells #[.int .i64 0, .int .i64 0, .int .u32 0, .int .i64 0, .int .i64 0, .int .i64 0, .slice none 0 0, .slice none 0 0, .slice none 0 0, .slice none 0 0] 64)).heap[w.heap.size]? = some (.cells #[.int .i64 o.kd, .int .i64 o.rv, .int .u32 o.rt, .int .i64 o.ro, .int .i64 o.pl, .int .i64 o.mi, .slice r.A r.n r.c, .slice r.B r.m r.d, .slice r.P r.k r.e, .slice r.Q r.l r.f] 64 (0, 0)) := heap_old _ (by first | (simp; done) | (simp; omega) | omega) (heap_old _ (by first | (simp; done) | (simp; omega) | omega) (heap_at _ _ rfl))
  have hx1 : (((w.alloc (.cells #[.int .i64 o.kd, .int .i64 o.rv, .int .u32 o.rt, .int .i64 o.ro, .int .i64 o.pl, .int .i64 o.mi, .slice r.A r.n r.c, .slice r.B r.m r.d, .slice r.P r.k r.e, .slice r.Q r.l r.f] 64)).alloc (.cells #[.int .i64 a, .string (bs nm), .int .i64 v] 49)).alloc (.cells #[.int .i64 0, .int .i64 0, .int .u32 0, .int .i64 0, .int .i64 0, .int .i64 0, .slice none 0 0, .slice none 0 0, .slice none 0 0, .slice none 0 0] 64)).heap[w.heap.size + 1]? = some (.cells #[.int .i64 a, .string (bs nm), .int .i64 v] 49 (0, 0)) := heap_old _ (by first | (simp; done) | (simp; omega) | omega) (heap_at _ _ (by simp))
  have hx2 : (((w.alloc (.cells #[.int .i64 o.kd, .int .i64 o.rv, .int .u32 o.rt, .int .i64 o.ro, .int .i64 o.pl, .int .i64 o.mi, .slice r.A r.n r.c, .slice r.B r.m r.d, .slice r.P r.k r.e, .slice r.Q r.l r.f] 64)).alloc (.cells #[.int .i64 a, .string (bs nm), .int .i64 v] 49)).alloc (.cells #[.int .i64 0, .int .i64 0, .int .u32 0, .int .i64 0, .int .i64 0, .int .i64 0, .slice none 0 0, .slice none 0 0, .slice none 0 0, .slice none 0 0] 64)).heap[w.heap.size + 1 + 1]? = some (.cells #[.int .i64 0, .int .i64 0, .int .u32 0, .int .i64 0, .int .i64 0, .int .i64 0, .slice none 0 0, .slice none 0 0, .slice none 0 0, .slice none 0 0] 64 (0, 0)) := heap_at _ _ (by simp)
  have hzW : (((w.alloc (.cells #[.int .i64 o.kd, .int .i64 o.rv, .int .u32 o.rt, .int .i64 o.ro, .int .i64 o.pl, .int .i64 o.mi, .slice r.A r.n r.c, .slice r.B r.m r.d, .slice r.P r.k r.e, .slice r.Q r.l r.f] 64)).alloc (.cells #[.int .i64 a, .string (bs nm), .int .i64 v] 49)).alloc (.cells #[.int .i64 0, .int .i64 0, .int .u32 0, .int .i64 0, .int .i64 0, .int .i64 0, .slice none 0 0, .slice none 0 0, .slice none 0 0, .slice none 0 0] 64)).heap.size = w.heap.size + 1 + 1 + 1 := by simp
  generalize hW : (((w.alloc (.cells #[.int .i64 o.kd, .int .i64 o.rv, .int .u32 o.rt, .int .i64 o.ro, .int .i64 o.pl, .int .i64 o.mi, .slice r.A r.n r.c, .slice r.B r.m r.d, .slice r.P r.k r.e, .slice r.Q r.l r.f] 64)).alloc (.cells #[.int .i64 a, .string (bs nm), .int .i64 v] 49)).alloc (.cells #[.int .i64 0, .int .i64 0, .int .u32 0, .int .i64 0, .int .i64 0, .int .i64 0, .slice none 0 0, .slice none 0 0, .slice none 0 0, .slice none 0 0] 64)) = W at hb0 hx0 hx1 hx2 hzW
  have hk0 := Lib.hid hx0
  have hk1 := Lib.hid hx1
  have hk2 := Lib.hid hx2
  clear hx0 hx1 hx2
  have hy0 := hk0.out
  have hl0 := blk_lt hy0
  have f0_0 := blk_cell hy0 0
  have f0_1 := blk_cell hy0 1
  have f0_2 := blk_cell hy0 2
  have f0_3 := blk_cell hy0 3
  have f0_4 := blk_cell hy0 4
  have f0_5 := blk_cell hy0 5
  have f0_6 := blk_cell hy0 6
  have f0_7 := blk_cell hy0 7
  have f0_8 := blk_cell hy0 8
  have f0_9 := blk_cell hy0 9
  have hy1 := hk1.out
  have hl1 := blk_lt hy1
  have f1_0 := blk_cell hy1 0
  have f1_1 := blk_cell hy1 1
  have f1_2 := blk_cell hy1 2
  have hy2 := hk2.out
  have hl2 := blk_lt hy2
  have f2_0 := blk_cell hy2 0
  have f2_1 := blk_cell hy2 1
  have f2_2 := blk_cell hy2 2
  have f2_3 := blk_cell hy2 3
  have f2_4 := blk_cell hy2 4
  have f2_5 := blk_cell hy2 5
  have f2_6 := blk_cell hy2 6
  have f2_7 := blk_cell hy2 7
  have f2_8 := blk_cell hy2 8
  have f2_9 := blk_cell hy2 9
  have hfr2 := blk_frozen hy2
  simp at f0_0 f0_1 f0_2 f0_3 f0_4 f0_5 f0_6 f0_7 f0_8 f0_9 f1_0 f1_1 f1_2 f2_0 f2_1 f2_2 f2_3 f2_4 f2_5 f2_6 f2_7 f2_8 f2_9
  clear hy0 hy1 hy2
  go_enter Tryz.func8, Tryz.ntmps8
  go_wp2_with fail
  clear hW
  refine (c1.out _ hb0).mono ?_
  rintro e w3 ⟨E, T, t, c, er, rfl, hv3, hP⟩
  have hG3 := hb0.trans (hv3.mono hb0.size)
  clear f0_0 f0_1 f0_2 f0_3 f0_4 f0_5 f0_6 f0_7 f0_8 f0_9 f1_0 f1_1 f1_2 f2_0 f2_1 f2_2 f2_3 f2_4 f2_5 f2_6 f2_7 f2_8 f2_9 hl0 hl1 hl2 hfr2
  have hy0 := blk_below hk0.out hv3
  have hl0 := blk_lt hy0
  have f0_0 := blk_cell hy0 0
  have f0_1 := blk_cell hy0 1
  have f0_2 := blk_cell hy0 2
  have f0_3 := blk_cell hy0 3
  have f0_4 := blk_cell hy0 4
  have f0_5 := blk_cell hy0 5
  have f0_6 := blk_cell hy0 6
  have f0_7 := blk_cell hy0 7
  have f0_8 := blk_cell hy0 8
  have f0_9 := blk_cell hy0 9
  have hy1 := blk_below hk1.out hv3
  have hl1 := blk_lt hy1
  have f1_0 := blk_cell hy1 0
  have f1_1 := blk_cell hy1 1
  have f1_2 := blk_cell hy1 2
  have hy2 := blk_below hk2.out hv3
  have hl2 := blk_lt hy2
  have f2_0 := blk_cell hy2 0
  have f2_1 := blk_cell hy2 1
  have f2_2 := blk_cell hy2 2
  have f2_3 := blk_cell hy2 3
  have f2_4 := blk_cell hy2 4
  have f2_5 := blk_cell hy2 5
  have f2_6 := blk_cell hy2 6
  have f2_7 := blk_cell hy2 7
  have f2_8 := blk_cell hy2 8
  have f2_9 := blk_cell hy2 9
  have hfr2 := blk_frozen hy2
  simp at f0_0 f0_1 f0_2 f0_3 f0_4 f0_5 f0_6 f0_7 f0_8 f0_9 f1_0 f1_1 f1_2 f2_0 f2_1 f2_2 f2_3 f2_4 f2_5 f2_6 f2_7 f2_8 f2_9
  clear hy0 hy1 hy2
  have hPH := Lib.hid hP
  clear hP
  by_cases he : er = 0
  case neg =>
    have hd : (er != 0) = true := by simpa using he
    have hv4 : Below w3.heap.size w3 (w3.alloc (.cells #[.int .i64 E.act, .string (bs E.name), .int .i64 E.val, .int .i64 E.tag.1.1, .int .u32 E.tag.1.2, .int .i64 E.tag.2, .int .u32 E.st.1, .int .i64 E.st.2, .slice T t c] 87)) := (Below.refl _ w3).alloc (Nat.le_refl _) _
    go_upto_region 2 with (fail)
    generalize w3.alloc (.cells #[.int .i64 E.act, .string (bs E.name), .int .i64 E.val, .int .i64 E.tag.1.1, .int .u32 E.tag.1.2, .int .i64 E.tag.2, .int .u32 E.st.1, .int .i64 E.st.2, .slice T t c] 87) = w4 at hv4 ⊢
    have hG4 := hG3.trans (hv4.mono hG3.size)
    clear f0_0 f0_1 f0_2 f0_3 f0_4 f0_5 f0_6 f0_7 f0_8 f0_9 f1_0 f1_1 f1_2 f2_0 f2_1 f2_2 f2_3 f2_4 f2_5 f2_6 f2_7 f2_8 f2_9 hl0 hl1 hl2 hfr2
    have hy0 := blk_below (blk_below hk0.out hv3) hv4
    have hl0 := blk_lt hy0
    have f0_0 := blk_cell hy0 0
    have f0_1 := blk_cell hy0 1
    have f0_2 := blk_cell hy0 2
    have f0_3 := blk_cell hy0 3
    have f0_4 := blk_cell hy0 4
    have f0_5 := blk_cell hy0 5
    have f0_6 := blk_cell hy0 6
    have f0_7 := blk_cell hy0 7
    have f0_8 := blk_cell hy0 8
    have f0_9 := blk_cell hy0 9
    have hy1 := blk_below (blk_below hk1.out hv3) hv4
    have hl1 := blk_lt hy1
    have f1_0 := blk_cell hy1 0
    have f1_1 := blk_cell hy1 1
    have f1_2 := blk_cell hy1 2
    have hy2 := blk_below (blk_below hk2.out hv3) hv4
    have hl2 := blk_lt hy2
    have f2_0 := blk_cell hy2 0
    have f2_1 := blk_cell hy2 1
    have f2_2 := blk_cell hy2 2
    have f2_3 := blk_cell hy2 3
    have f2_4 := blk_cell hy2 4
    have f2_5 := blk_cell hy2 5
    have f2_6 := blk_cell hy2 6
    have f2_7 := blk_cell hy2 7
    have f2_8 := blk_cell hy2 8
    have f2_9 := blk_cell hy2 9
    have hfr2 := blk_frozen hy2
    simp at f0_0 f0_1 f0_2 f0_3 f0_4 f0_5 f0_6 f0_7 f0_8 f0_9 f1_0 f1_1 f1_2 f2_0 f2_1 f2_2 f2_3 f2_4 f2_5 f2_6 f2_7 f2_8 f2_9
    clear hy0 hy1 hy2
    have hGs : Below w.heap.size w ((((((((((w4.setCell ⟨w.heap.size + 1 + 1, 0, none⟩ (.int .i64 o.kd)).setCell ⟨w.heap.size + 1 + 1, 1, none⟩ (.int .i64 o.rv)).setCell ⟨w.heap.size + 1 + 1, 2, none⟩ (.int .u32 o.rt)).setCell ⟨w.heap.size + 1 + 1, 3, none⟩ (.int .i64 o.ro)).setCell ⟨w.heap.size + 1 + 1, 4, none⟩ (.int .i64 o.pl)).setCell ⟨w.heap.size + 1 + 1, 5, none⟩ (.int .i64 o.mi)).setCell ⟨w.heap.size + 1 + 1, 6, none⟩ (.slice r.A r.n r.c)).setCell ⟨w.heap.size + 1 + 1, 7, none⟩ (.slice r.B r.m r.d)).setCell ⟨w.heap.size + 1 + 1, 8, none⟩ (.slice r.P r.k r.e)).setCell ⟨w.heap.size + 1 + 1, 9, none⟩ (.slice r.Q r.l r.f)) := ((((((((((hG4.setCell (by dsimp only; omega) _).setCell (by dsimp only; omega) _).setCell (by dsimp only; omega) _).setCell (by dsimp only; omega) _).setCell (by dsimp only; omega) _).setCell (by dsimp only; omega) _).setCell (by dsimp only; omega) _).setCell (by dsimp only; omega) _).setCell (by dsimp only; omega) _).setCell (by dsimp only; omega) _)
    go_wp2_with fail
    exact bodyPost_ret (v := .tuple #[.agg #[.int .i64 o.kd, .int .i64 o.rv, .int .u32 o.rt, .int .i64 o.ro, .int .i64 o.pl, .int .i64 o.mi, .slice r.A r.n r.c, .slice r.B r.m r.d, .slice r.P r.k r.e, .slice r.Q r.l r.f], .bool false]) (by simp [results, Tryz.results8, go_sem, f2_0, f2_1, f2_2, f2_3, f2_4, f2_5, f2_6, f2_7, f2_8, f2_9]) rfl ⟨o, r, false, rfl, hGs, fun h => absurd h (by decide)⟩
  obtain ⟨p1, p2, p3, p4, p5⟩ := hPH.out he
  subst p3
  subst he
  have heH := Lib.hid p1
  clear hPH p1 p2 p5
  have hv4 : Below w3.heap.size w3 (w3.alloc (.cells #[.int .i64 (effC o a nm v n).act, .string (bs (effC o a nm v n).name), .int .i64 (effC o a nm v n).val, .int .i64 (effC o a nm v n).tag.1.1, .int .u32 (effC o a nm v n).tag.1.2, .int .i64 (effC o a nm v n).tag.2, .int .u32 (effC o a nm v n).st.1, .int .i64 (effC o a nm v n).st.2, .slice T t c] 87)) := (Below.refl _ w3).alloc (Nat.le_refl _) _
  have hg : (w3.alloc (.cells #[.int .i64 (effC o a nm v n).act, .string (bs (effC o a nm v n).name), .int .i64 (effC o a nm v n).val, .int .i64 (effC o a nm v n).tag.1.1, .int .u32 (effC o a nm v n).tag.1.2, .int .i64 (effC o a nm v n).tag.2, .int .u32 (effC o a nm v n).st.1, .int .i64 (effC o a nm v n).st.2, .slice T t c] 87)).heap[w3.heap.size]? = some (.cells #[.int .i64 (effC o a nm v n).act, .string (bs (effC o a nm v n).name), .int .i64 (effC o a nm v n).val, .int .i64 (effC o a nm v n).tag.1.1, .int .u32 (effC o a nm v n).tag.1.2, .int .i64 (effC o a nm v n).tag.2, .int .u32 (effC o a nm v n).st.1, .int .i64 (effC o a nm v n).st.2, .slice T t c] 87 (0, 0)) := heap_at _ _ rfl
  have hT4 : RdT (w3.alloc (.cells #[.int .i64 (effC o a nm v n).act, .string (bs (effC o a nm v n).name), .int .i64 (effC o a nm v n).val, .int .i64 (effC o a nm v n).tag.1.1, .int .u32 (effC o a nm v n).tag.1.2, .int .i64 (effC o a nm v n).tag.2, .int .u32 (effC o a nm v n).st.1, .int .i64 (effC o a nm v n).st.2, .slice T t c] 87)) (w3.alloc (.cells #[.int .i64 (effC o a nm v n).act, .string (bs (effC o a nm v n).name), .int .i64 (effC o a nm v n).val, .int .i64 (effC o a nm v n).tag.1.1, .int .u32 (effC o a nm v n).tag.1.2, .int .i64 (effC o a nm v n).tag.2, .int .u32 (effC o a nm v n).st.1, .int .i64 (effC o a nm v n).st.2, .slice T t c] 87)).heap.size T t (effC o a nm v n).tags := (p4.below hv4).more hv4.size
  go_upto_region 2 with (fail)
  generalize w3.alloc (.cells #[.int .i64 (effC o a nm v n).act, .string (bs (effC o a nm v n).name), .int .i64 (effC o a nm v n).val, .int .i64 (effC o a nm v n).tag.1.1, .int .u32 (effC o a nm v n).tag.1.2, .int .i64 (effC o a nm v n).tag.2, .int .u32 (effC o a nm v n).st.1, .int .i64 (effC o a nm v n).st.2, .slice T t c] 87) = w4 at hv4 hg hT4 ⊢
  have hG4 := hG3.trans (hv4.mono hG3.size)
  have cA := Lib.hid (c2.out T t c w4 hG4 hT4)
  clear c1 c2 hT4 p4
  clear f0_0 f0_1 f0_2 f0_3 f0_4 f0_5 f0_6 f0_7 f0_8 f0_9 f1_0 f1_1 f1_2 f2_0 f2_1 f2_2 f2_3 f2_4 f2_5 f2_6 f2_7 f2_8 f2_9 hl0 hl1 hl2 hfr2
  have hy0 := blk_below (blk_below hk0.out hv3) hv4
  have hl0 := blk_lt hy0
  have f0_0 := blk_cell hy0 0
  have f0_1 := blk_cell hy0 1
  have f0_2 := blk_cell hy0 2
  have f0_3 := blk_cell hy0 3
  have f0_4 := blk_cell hy0 4
  have f0_5 := blk_cell hy0 5
  have f0_6 := blk_cell hy0 6
  have f0_7 := blk_cell hy0 7
  have f0_8 := blk_cell hy0 8
  have f0_9 := blk_cell hy0 9
  have hy1 := blk_below (blk_below hk1.out hv3) hv4
  have hl1 := blk_lt hy1
  have f1_0 := blk_cell hy1 0
  have f1_1 := blk_cell hy1 1
  have f1_2 := blk_cell hy1 2
  have hy2 := blk_below (blk_below hk2.out hv3) hv4
  have hl2 := blk_lt hy2
  have f2_0 := blk_cell hy2 0
  have f2_1 := blk_cell hy2 1
  have f2_2 := blk_cell hy2 2
  have f2_3 := blk_cell hy2 3
  have f2_4 := blk_cell hy2 4
  have f2_5 := blk_cell hy2 5
  have f2_6 := blk_cell hy2 6
  have f2_7 := blk_cell hy2 7
  have f2_8 := blk_cell hy2 8
  have f2_9 := blk_cell hy2 9
  have hfr2 := blk_frozen hy2
  simp at f0_0 f0_1 f0_2 f0_3 f0_4 f0_5 f0_6 f0_7 f0_8 f0_9 f1_0 f1_1 f1_2 f2_0 f2_1 f2_2 f2_3 f2_4 f2_5 f2_6 f2_7 f2_8 f2_9
  clear hy0 hy1 hy2
  have hltg := blk_lt hg
  have e0 := blk_cell hg 0
  have e1 := blk_cell hg 1
  have e2 := blk_cell hg 2
  have e3 := blk_cell hg 3
  have e4 := blk_cell hg 4
  have e5 := blk_cell hg 5
  have e6 := blk_cell hg 6
  have e7 := blk_cell hg 7
  have e8 := blk_cell hg 8
  simp at e0 e1 e2 e3 e4 e5 e6 e7 e8
  clear hg
  go_wp2_with fail
  refine cA.out.mono ?_
  rintro e w5 ⟨o', r', er, rfl, hv5, hQ⟩
  have hG5 := hG4.trans (hv5.mono hG4.size)
  clear e0 e1 e2 e3 e4 e5 e6 e7 e8 hltg
  clear f0_0 f0_1 f0_2 f0_3 f0_4 f0_5 f0_6 f0_7 f0_8 f0_9 f1_0 f1_1 f1_2 f2_0 f2_1 f2_2 f2_3 f2_4 f2_5 f2_6 f2_7 f2_8 f2_9 hl0 hl1 hl2 hfr2
  have hy0 := blk_below (blk_below (blk_below hk0.out hv3) hv4) hv5
  have hl0 := blk_lt hy0
  have f0_0 := blk_cell hy0 0
  have f0_1 := blk_cell hy0 1
  have f0_2 := blk_cell hy0 2
  have f0_3 := blk_cell hy0 3
  have f0_4 := blk_cell hy0 4
  have f0_5 := blk_cell hy0 5
  have f0_6 := blk_cell hy0 6
  have f0_7 := blk_cell hy0 7
  have f0_8 := blk_cell hy0 8
  have f0_9 := blk_cell hy0 9
  have hy1 := blk_below (blk_below (blk_below hk1.out hv3) hv4) hv5
  have hl1 := blk_lt hy1
  have f1_0 := blk_cell hy1 0
  have f1_1 := blk_cell hy1 1
  have f1_2 := blk_cell hy1 2
  have hy2 := blk_below (blk_below (blk_below hk2.out hv3) hv4) hv5
  have hl2 := blk_lt hy2
  have f2_0 := blk_cell hy2 0
  have f2_1 := blk_cell hy2 1
  have f2_2 := blk_cell hy2 2
  have f2_3 := blk_cell hy2 3
  have f2_4 := blk_cell hy2 4
  have f2_5 := blk_cell hy2 5
  have f2_6 := blk_cell hy2 6
  have f2_7 := blk_cell hy2 7
  have f2_8 := blk_cell hy2 8
  have f2_9 := blk_cell hy2 9
  have hfr2 := blk_frozen hy2
  simp at f0_0 f0_1 f0_2 f0_3 f0_4 f0_5 f0_6 f0_7 f0_8 f0_9 f1_0 f1_1 f1_2 f2_0 f2_1 f2_2 f2_3 f2_4 f2_5 f2_6 f2_7 f2_8 f2_9
  clear hy0 hy1 hy2
  have hQH := Lib.hid hQ
  clear hQ
  have hv6 : Below w5.heap.size w5 (w5.alloc (.cells #[.int .i64 o'.kd, .int .i64 o'.rv, .int .u32 o'.rt, .int .i64 o'.ro, .int .i64 o'.pl, .int .i64 o'.mi, .slice r'.A r'.n r'.c, .slice r'.B r'.m r'.d, .slice r'.P r'.k r'.e, .slice r'.Q r'.l r'.f] 64)) := (Below.refl _ w5).alloc (Nat.le_refl _) _
  have hg6 : (w5.alloc (.cells #[.int .i64 o'.kd, .int .i64 o'.rv, .int .u32 o'.rt, .int .i64 o'.ro, .int .i64 o'.pl, .int .i64 o'.mi, .slice r'.A r'.n r'.c, .slice r'.B r'.m r'.d, .slice r'.P r'.k r'.e, .slice r'.Q r'.l r'.f] 64)).heap[w5.heap.size]? = some (.cells #[.int .i64 o'.kd, .int .i64 o'.rv, .int .u32 o'.rt, .int .i64 o'.ro, .int .i64 o'.pl, .int .i64 o'.mi, .slice r'.A r'.n r'.c, .slice r'.B r'.m r'.d, .slice r'.P r'.k r'.e, .slice r'.Q r'.l r'.f] 64 (0, 0)) := heap_at _ _ rfl
  go_upto_region 5 with (fail)
  generalize w5.alloc (.cells #[.int .i64 o'.kd, .int .i64 o'.rv, .int .u32 o'.rt, .int .i64 o'.ro, .int .i64 o'.pl, .int .i64 o'.mi, .slice r'.A r'.n r'.c, .slice r'.B r'.m r'.d, .slice r'.P r'.k r'.e, .slice r'.Q r'.l r'.f] 64) = w6 at hv6 hg6 ⊢
  have hG6 := hG5.trans (hv6.mono hG5.size)
  clear f0_0 f0_1 f0_2 f0_3 f0_4 f0_5 f0_6 f0_7 f0_8 f0_9 f1_0 f1_1 f1_2 f2_0 f2_1 f2_2 f2_3 f2_4 f2_5 f2_6 f2_7 f2_8 f2_9 hl0 hl1 hl2 hfr2
  have hy0 := blk_below (blk_below (blk_below (blk_below hk0.out hv3) hv4) hv5) hv6
  have hl0 := blk_lt hy0
  have f0_0 := blk_cell hy0 0
  have f0_1 := blk_cell hy0 1
  have f0_2 := blk_cell hy0 2
  have f0_3 := blk_cell hy0 3
  have f0_4 := blk_cell hy0 4
  have f0_5 := blk_cell hy0 5
  have f0_6 := blk_cell hy0 6
  have f0_7 := blk_cell hy0 7
  have f0_8 := blk_cell hy0 8
  have f0_9 := blk_cell hy0 9
  have hy1 := blk_below (blk_below (blk_below (blk_below hk1.out hv3) hv4) hv5) hv6
  have hl1 := blk_lt hy1
  have f1_0 := blk_cell hy1 0
  have f1_1 := blk_cell hy1 1
  have f1_2 := blk_cell hy1 2
  have hy2 := blk_below (blk_below (blk_below (blk_below hk2.out hv3) hv4) hv5) hv6
  have hl2 := blk_lt hy2
  have f2_0 := blk_cell hy2 0
  have f2_1 := blk_cell hy2 1
  have f2_2 := blk_cell hy2 2
  have f2_3 := blk_cell hy2 3
  have f2_4 := blk_cell hy2 4
  have f2_5 := blk_cell hy2 5
  have f2_6 := blk_cell hy2 6
  have f2_7 := blk_cell hy2 7
  have f2_8 := blk_cell hy2 8
  have f2_9 := blk_cell hy2 9
  have hfr2 := blk_frozen hy2
  simp at f0_0 f0_1 f0_2 f0_3 f0_4 f0_5 f0_6 f0_7 f0_8 f0_9 f1_0 f1_1 f1_2 f2_0 f2_1 f2_2 f2_3 f2_4 f2_5 f2_6 f2_7 f2_8 f2_9
  clear hy0 hy1 hy2
  have hltg := blk_lt hg6
  have e0 := blk_cell hg6 0
  have e1 := blk_cell hg6 1
  have e2 := blk_cell hg6 2
  have e3 := blk_cell hg6 3
  have e4 := blk_cell hg6 4
  have e5 := blk_cell hg6 5
  have e6 := blk_cell hg6 6
  have e7 := blk_cell hg6 7
  have e8 := blk_cell hg6 8
  have e9 := blk_cell hg6 9
  simp at e0 e1 e2 e3 e4 e5 e6 e7 e8 e9
  have hk26 := blk_below (blk_below (blk_below (blk_below hk2.out hv3) hv4) hv5) hv6
  have hGs : Below w.heap.size w ((((((((((w6.setCell ⟨w.heap.size + 1 + 1, 0, none⟩ (.int .i64 o'.kd)).setCell ⟨w.heap.size + 1 + 1, 1, none⟩ (.int .i64 o'.rv)).setCell ⟨w.heap.size + 1 + 1, 2, none⟩ (.int .u32 o'.rt)).setCell ⟨w.heap.size + 1 + 1, 3, none⟩ (.int .i64 o'.ro)).setCell ⟨w.heap.size + 1 + 1, 4, none⟩ (.int .i64 o'.pl)).setCell ⟨w.heap.size + 1 + 1, 5, none⟩ (.int .i64 o'.mi)).setCell ⟨w.heap.size + 1 + 1, 6, none⟩ (.slice r'.A r'.n r'.c)).setCell ⟨w.heap.size + 1 + 1, 7, none⟩ (.slice r'.B r'.m r'.d)).setCell ⟨w.heap.size + 1 + 1, 8, none⟩ (.slice r'.P r'.k r'.e)).setCell ⟨w.heap.size + 1 + 1, 9, none⟩ (.slice r'.Q r'.l r'.f)) := ((((((((((hG6.setCell (by dsimp only; omega) _).setCell (by dsimp only; omega) _).setCell (by dsimp only; omega) _).setCell (by dsimp only; omega) _).setCell (by dsimp only; omega) _).setCell (by dsimp only; omega) _).setCell (by dsimp only; omega) _).setCell (by dsimp only; omega) _).setCell (by dsimp only; omega) _).setCell (by dsimp only; omega) _)
  have hF := Lib.hid (fun (h : er = 0) => ObIn.other (w' := ((((((((((w6.setCell ⟨w.heap.size + 1 + 1, 0, none⟩ (.int .i64 o'.kd)).setCell ⟨w.heap.size + 1 + 1, 1, none⟩ (.int .i64 o'.rv)).setCell ⟨w.heap.size + 1 + 1, 2, none⟩ (.int .u32 o'.rt)).setCell ⟨w.heap.size + 1 + 1, 3, none⟩ (.int .i64 o'.ro)).setCell ⟨w.heap.size + 1 + 1, 4, none⟩ (.int .i64 o'.pl)).setCell ⟨w.heap.size + 1 + 1, 5, none⟩ (.int .i64 o'.mi)).setCell ⟨w.heap.size + 1 + 1, 6, none⟩ (.slice r'.A r'.n r'.c)).setCell ⟨w.heap.size + 1 + 1, 7, none⟩ (.slice r'.B r'.m r'.d)).setCell ⟨w.heap.size + 1 + 1, 8, none⟩ (.slice r'.P r'.k r'.e)).setCell ⟨w.heap.size + 1 + 1, 9, none⟩ (.slice r'.Q r'.l r'.f))) ((hQH.out h).2.1.below hv6) ((hQH.out h).2.2.below hv6) hk26 (by decide) (by decide) (by decide) (fun b hb => by repeat (first | rw [heap_set_of b hb] | rfl)) (by simp))
  have hSt := Lib.hid (fun (h : er = 0) => (hQH.out h).1)
  clear hg6 hk26 hQH
  go_wp2_with fail
  exact bodyPost_ret (v := .tuple #[.agg #[.int .i64 o'.kd, .int .i64 o'.rv, .int .u32 o'.rt, .int .i64 o'.ro, .int .i64 o'.pl, .int .i64 o'.mi, .slice r'.A r'.n r'.c, .slice r'.B r'.m r'.d, .slice r'.P r'.k r'.e, .slice r'.Q r'.l r'.f], .bool (er == 0)]) (by simp [results, Tryz.results8, go_sem, f2_0, f2_1, f2_2, f2_3, f2_4, f2_5, f2_6, f2_7, f2_8, f2_9]) rfl ⟨o', r', er == 0, rfl, hGs, fun h => ⟨⟨heH.out, hSt.out (by simpa using h)⟩, hF.out (by simpa using h)⟩⟩
end Go.Proofs.YtffnpfponnhddaaGreat
