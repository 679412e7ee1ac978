/- What somebody's act is to do with an object: obj.Prepare. -/
import Derived.Test.YtffnpfponnhddaaGreatCoG
import Derived.Test.YtffnpfponnhddaaGreatN29
import Derived.Test.YtffnpfponnhddaaGreatFn
import Derived.Test.YtffnpfponnhddaaGreatN15
import Derived.Test.YtffnpfponnhddaaGreatM19
namespace Go.Proofs.YtffnpfponnhddaaGreat
open Go.RowKit

/-- An act's effect on an object. -/
def effC (s : Ob) (a : Int) (nm : List UInt8) (v n : Int) : Ef :=
  ⟨a, nm, v, tagC n, if a = 1 ∨ a = 5 then stampC n else (0, 0), if a = 4 then tagsO s.S.1 s.S.2 nm else if a = 6 then tagsM s.M.1 s.M.2 nm else []⟩
def PostP (w : World) (s : Ob) (a : Int) (nm : List UInt8) (v n : Int) (e : Ending) (w' : World) : Prop :=
  ∃ (E : Ef) (T : Option Addr) (t c : Nat) (er : Int), e = .returned (.tuple #[.agg #[.int .i64 E.act, .string (bs E.name), .int .i64 E.val, .int .i64 E.tag.1.1, .int .u32 E.tag.1.2, .int .i64 E.tag.2, .int .u32 E.st.1, .int .i64 E.st.2, .slice T t c], .int .i64 er]) ∧ Below w.heap.size w w' ∧
    (er = 0 → errOp a nm v = 0 ∧ kindA a = s.kd ∧ E = effC s a nm v n ∧ RdT w' w'.heap.size T t E.tags ∧ TyR w' 45 T t)
def zEf : Ef := ⟨0, [], 0, ((0, 0), 0), (0, 0), []⟩
theorem PostP.no {w w' : World} {s : Ob} {a : Int} {nm : List UInt8} {v n er : Int} (h : er ≠ 0) (hb : Below w.heap.size w w') : PostP w s a nm v n (.returned (.tuple #[.agg #[.int .i64 0, .string ⟨#[]⟩, .int .i64 0, .int .i64 0, .int .u32 0, .int .i64 0, .int .u32 0, .int .i64 0, .slice none 0 0], .int .i64 er])) w' :=
  ⟨zEf, none, 0, 0, er, rfl, hb, fun h2 => absurd h2 h⟩
set_option maxRecDepth 100000 in
set_option maxHeartbeats 8000000 in
theorem prepare_any (o : Ob) (r : Rw) (a : Int) (nm : List UInt8) (v n : Int) (w : World) (h : ObIn w o r) (hok : o.Ok) (hl : nm.length ≤ maxLen) (hn : n = 0 ∨ n = 1) :
    Calls Tryz.prog 16 #[.agg #[.int .i64 o.kd, .int .i64 o.rv, .int .u32 o.rt, .int .i64 o.ro, .int .i64 o.pl, .int .i64 o.mi, .slice r.A r.n r.c, .slice r.B r.m r.d, .slice r.P r.k r.e, .slice r.Q r.l r.f], .agg #[.int .i64 a, .string (bs nm), .int .i64 v], .agg #[.int .i64 7, .int .u32 1048576, .int .i64 n], .agg #[.int .u32 (1048574 + n), .int .i64 7]] w (PostP w o a nm v n) := by
  have hch : chkT (tagC n) = true := by rcases hn with rfl | rfl <;> decide
  have hst : (chkS (stampC n) && decide (0 < (stampC n).1)) = true := by rcases hn with rfl | rfl <;> decide
  have c1 := Lib.hid (fun w' => ocheckop_any a nm v hl w')
  have c2 := Lib.hid (fun w' => okind_any a w')
  have c3 := Lib.hid (fun w' => by have := onottag_any (tagC n) (by rcases hn with rfl | rfl <;> constructor <;> decide) w'; rw [hch] at this; exact this)
  have c4 := Lib.hid (fun w' => by have := otimed_any (stampC n) (by rcases hn with rfl | rfl <;> constructor <;> decide) w'; rw [hst] at this; exact this)
  have c5 := Lib.hid (fun w' (hb : Below w.heap.size w w') => otags_any r.A r.n r.c o.S.1 r.B r.m r.d o.S.2 nm w' ((h.ra.below hb).more hb.size) ((h.rb.below hb).more hb.size) h.hn h.hm hok.wx hok.wg hok.wl)
  have c6 := Lib.hid (fun w' (hb : Below w.heap.size w w') => mtagsf_any r.P r.k r.e o.M.1 r.Q r.l r.f o.M.2 nm w' ((h.rp.below hb).more hb.size) ((h.rq.below hb).more hb.size) h.hk h.hl hok.px hok.pg hok.pl)
  unfold tagC at c3
  unfold stampC at c4
  dsimp only at c3 c4
  clear hch hst h hok
  have hb0 : Below w.heap.size w (((((w.alloc (.cells #[.int .i64 o.kd, .int .i64 o.rv, .int .u32 o.rt, .int .i64 o.ro, .int .i64 o.pl, .int .i64 o.mi, .slice r.A r.n r.c, .slice r.B r.m r.d, .slice r.P r.k r.e, .slice r.Q r.l r.f] 64)).alloc (.cells #[.int .i64 a, .string (bs nm), .int .i64 v] 49)).alloc (.cells #[.int .i64 7, .int .u32 1048576, .int .i64 n] 45)).alloc (.cells #[.int .u32 (1048574 + n), .int .i64 7] 24)).alloc (.cells #[.int .i64 0, .string ⟨#[]⟩, .int .i64 0, .int .i64 0, .int .u32 0, .int .i64 0, .int .u32 0, .int .i64 0, .slice none 0 0] 87)) := (((((Below.refl _ w).alloc (by first | (simp; done) | (simp; omega) | omega) _).alloc (by first | (simp; done) | (simp; omega) | omega) _).alloc (by first | (simp; done) | (simp; omega) | omega) _).alloc (by first | (simp; done) | (simp; omega) | omega) _).alloc (by first | (simp; done) | (simp; omega) | omega) _
  have hx0 : (((((w.alloc (.cells #[.int .i64 o.kd, .int .i64 o.rv, .int .u32 o.rt, .int .i64 o.ro, .int .i64 o.pl, .int .i64 o.mi, .slice r.A r.n r.c, .slice r.B r.m r.d, .slice r.P r.k r.e, .slice r.Q r.l r.f] 64)).alloc (.cells #[.int .i64 a, .string (bs nm), .int .i64 v] 49)).alloc (.cells #[.int .i64 7, .int .u32 1048576, .int .i64 n] 45)).alloc (.cells #[.int .u32 (1048574 + n), .int .i64 7] 24)).alloc (.cells #[.int .i64 0, .string ⟨#[]⟩, .int .i64 0, .int .i64 0, .int .u32 0, .int .i64 0, .int .u32 0, .int .i64 0, .slice none 0 0] 87)).heap[w.heap.size]? = some (.cells #[.int .i64 o.kd, .int .i64 o.rv, .int .u32 o.rt, .int .i64 o.ro, .int .i64 o.pl, .int .i64 o.mi, .slice r.A r.n r.c, .slice r.B r.m r.d, .slice r.P r.k r.e, .slice r.Q r.l r.f] 64 (0, 0)) := heap_old _ (by first | (simp; done) | (simp; omega) | omega) (heap_old _ (by first | (simp; done) | (simp; omega) | omega) (heap_old _ (by first | (simp; done) | (simp; omega) | omega) (heap_old _ (by first | (simp; done) | (simp; omega) | omega) (heap_at _ _ rfl))))
  have hx1 : (((((w.alloc (.cells #[.int .i64 o.kd, .int .i64 o.rv, .int .u32 o.rt, .int .i64 o.ro, .int .i64 o.pl, .int .i64 o.mi, .slice r.A r.n r.c, .slice r.B r.m r.d, .slice r.P r.k r.e, .slice r.Q r.l r.f] 64)).alloc (.cells #[.int .i64 a, .string (bs nm), .int .i64 v] 49)).alloc (.cells #[.int .i64 7, .int .u32 1048576, .int .i64 n] 45)).alloc (.cells #[.int .u32 (1048574 + n), .int .i64 7] 24)).alloc (.cells #[.int .i64 0, .string ⟨#[]⟩, .int .i64 0, .int .i64 0, .int .u32 0, .int .i64 0, .int .u32 0, .int .i64 0, .slice none 0 0] 87)).heap[w.heap.size + 1]? = some (.cells #[.int .i64 a, .string (bs nm), .int .i64 v] 49 (0, 0)) := heap_old _ (by first | (simp; done) | (simp; omega) | omega) (heap_old _ (by first | (simp; done) | (simp; omega) | omega) (heap_old _ (by first | (simp; done) | (simp; omega) | omega) (heap_at _ _ (by simp))))
  have hx2 : (((((w.alloc (.cells #[.int .i64 o.kd, .int .i64 o.rv, .int .u32 o.rt, .int .i64 o.ro, .int .i64 o.pl, .int .i64 o.mi, .slice r.A r.n r.c, .slice r.B r.m r.d, .slice r.P r.k r.e, .slice r.Q r.l r.f] 64)).alloc (.cells #[.int .i64 a, .string (bs nm), .int .i64 v] 49)).alloc (.cells #[.int .i64 7, .int .u32 1048576, .int .i64 n] 45)).alloc (.cells #[.int .u32 (1048574 + n), .int .i64 7] 24)).alloc (.cells #[.int .i64 0, .string ⟨#[]⟩, .int .i64 0, .int .i64 0, .int .u32 0, .int .i64 0, .int .u32 0, .int .i64 0, .slice none 0 0] 87)).heap[w.heap.size + 1 + 1]? = some (.cells #[.int .i64 7, .int .u32 1048576, .int .i64 n] 45 (0, 0)) := heap_old _ (by first | (simp; done) | (simp; omega) | omega) (heap_old _ (by first | (simp; done) | (simp; omega) | omega) (heap_at _ _ (by simp)))
  have hx3 : (((((w.alloc (.cells #[.int .i64 o.kd, .int .i64 o.rv, .int .u32 o.rt, .int .i64 o.ro, .int .i64 o.pl, .int .i64 o.mi, .slice r.A r.n r.c, .slice r.B r.m r.d, .slice r.P r.k r.e, .slice r.Q r.l r.f] 64)).alloc (.cells #[.int .i64 a, .string (bs nm), .int .i64 v] 49)).alloc (.cells #[.int .i64 7, .int .u32 1048576, .int .i64 n] 45)).alloc (.cells #[.int .u32 (1048574 + n), .int .i64 7] 24)).alloc (.cells #[.int .i64 0, .string ⟨#[]⟩, .int .i64 0, .int .i64 0, .int .u32 0, .int .i64 0, .int .u32 0, .int .i64 0, .slice none 0 0] 87)).heap[w.heap.size + 1 + 1 + 1]? = some (.cells #[.int .u32 (1048574 + n), .int .i64 7] 24 (0, 0)) := heap_old _ (by first | (simp; done) | (simp; omega) | omega) (heap_at _ _ (by simp))
  have hx4 : (((((w.alloc (.cells #[.int .i64 o.kd, .int .i64 o.rv, .int .u32 o.rt, .int .i64 o.ro, .int .i64 o.pl, .int .i64 o.mi, .slice r.A r.n r.c, .slice r.B r.m r.d, .slice r.P r.k r.e, .slice r.Q r.l r.f] 64)).alloc (.cells #[.int .i64 a, .string (bs nm), .int .i64 v] 49)).alloc (.cells #[.int .i64 7, .int .u32 1048576, .int .i64 n] 45)).alloc (.cells #[.int .u32 (1048574 + n), .int .i64 7] 24)).alloc (.cells #[.int .i64 0, .string ⟨#[]⟩, .int .i64 0, .int .i64 0, .int .u32 0, .int .i64 0, .int .u32 0, .int .i64 0, .slice none 0 0] 87)).heap[w.heap.size + 1 + 1 + 1 + 1]? = some (.cells #[.int .i64 0, .string ⟨#[]⟩, .int .i64 0, .int .i64 0, .int .u32 0, .int .i64 0, .int .u32 0, .int .i64 0, .slice none 0 0] 87 (0, 0)) := heap_at _ _ (by simp)
  have hzW : (((((w.alloc (.cells #[.int .i64 o.kd, .int .i64 o.rv, .int .u32 o.rt, .int .i64 o.ro, .int .i64 o.pl, .int .i64 o.mi, .slice r.A r.n r.c, .slice r.B r.m r.d, .slice r.P r.k r.e, .slice r.Q r.l r.f] 64)).alloc (.cells #[.int .i64 a, .string (bs nm), .int .i64 v] 49)).alloc (.cells #[.int .i64 7, .int .u32 1048576, .int .i64 n] 45)).alloc (.cells #[.int .u32 (1048574 + n), .int .i64 7] 24)).alloc (.cells #[.int .i64 0, .string ⟨#[]⟩, .int .i64 0, .int .i64 0, .int .u32 0, .int .i64 0, .int .u32 0, .int .i64 0, .slice none 0 0] 87)).heap.size = w.heap.size + 1 + 1 + 1 + 1 + 1 := by simp
  generalize hW : (((((w.alloc (.cells #[.int .i64 o.kd, .int .i64 o.rv, .int .u32 o.rt, .int .i64 o.ro, .int .i64 o.pl, .int .i64 o.mi, .slice r.A r.n r.c, .slice r.B r.m r.d, .slice r.P r.k r.e, .slice r.Q r.l r.f] 64)).alloc (.cells #[.int .i64 a, .string (bs nm), .int .i64 v] 49)).alloc (.cells #[.int .i64 7, .int .u32 1048576, .int .i64 n] 45)).alloc (.cells #[.int .u32 (1048574 + n), .int .i64 7] 24)).alloc (.cells #[.int .i64 0, .string ⟨#[]⟩, .int .i64 0, .int .i64 0, .int .u32 0, .int .i64 0, .int .u32 0, .int .i64 0, .slice none 0 0] 87)) = W at hb0 hx0 hx1 hx2 hx3 hx4 hzW
  have hk0 := Lib.hid hx0
  have hk1 := Lib.hid hx1
  have hk2 := Lib.hid hx2
  have hk3 := Lib.hid hx3
  have hk4 := Lib.hid hx4
  clear hx0 hx1 hx2 hx3 hx4
  have hy0 := blk_below hk0.out (Below.refl _ W)
  have hl0 := blk_lt hy0
  have f0_0 := blk_cell hy0 0
  have f0_1 := blk_cell hy0 1
  have f0_2 := blk_cell hy0 2
  have f0_3 := blk_cell hy0 3
  have f0_4 := blk_cell hy0 4
  have f0_5 := blk_cell hy0 5
  have f0_6 := blk_cell hy0 6
  have f0_7 := blk_cell hy0 7
  have f0_8 := blk_cell hy0 8
  have f0_9 := blk_cell hy0 9
  have hy1 := blk_below hk1.out (Below.refl _ W)
  have hl1 := blk_lt hy1
  have f1_0 := blk_cell hy1 0
  have f1_1 := blk_cell hy1 1
  have f1_2 := blk_cell hy1 2
  have hy2 := blk_below hk2.out (Below.refl _ W)
  have hl2 := blk_lt hy2
  have f2_0 := blk_cell hy2 0
  have f2_1 := blk_cell hy2 1
  have f2_2 := blk_cell hy2 2
  have hy3 := blk_below hk3.out (Below.refl _ W)
  have hl3 := blk_lt hy3
  have f3_0 := blk_cell hy3 0
  have f3_1 := blk_cell hy3 1
  have hy4 := blk_below hk4.out (Below.refl _ W)
  have hl4 := blk_lt hy4
  have f4_0 := blk_cell hy4 0
  have f4_1 := blk_cell hy4 1
  have f4_2 := blk_cell hy4 2
  have f4_3 := blk_cell hy4 3
  have f4_4 := blk_cell hy4 4
  have f4_5 := blk_cell hy4 5
  have f4_6 := blk_cell hy4 6
  have f4_7 := blk_cell hy4 7
  have f4_8 := blk_cell hy4 8
  have hfr := blk_frozen hy4
  simp at f0_0 f0_1 f0_2 f0_3 f0_4 f0_5 f0_6 f0_7 f0_8 f0_9 f1_0 f1_1 f1_2 f2_0 f2_1 f2_2 f3_0 f3_1 f4_0 f4_1 f4_2 f4_3 f4_4 f4_5 f4_6 f4_7 f4_8
  clear hy0 hy1 hy2 hy3 hy4
  go_enter Tryz.func16, Tryz.ntmps16
  go_wp2_with fail
  clear hW
  refine (c1.out _).mono ?_
  rintro e w1 ⟨rfl, hv1⟩
  have hG1 := hb0.trans (hv1.mono hb0.size)
  clear f0_0 f0_1 f0_2 f0_3 f0_4 f0_5 f0_6 f0_7 f0_8 f0_9 f1_0 f1_1 f1_2 f2_0 f2_1 f2_2 f3_0 f3_1 f4_0 f4_1 f4_2 f4_3 f4_4 f4_5 f4_6 f4_7 f4_8 hl0 hl1 hl2 hl3 hl4 hfr
  have hy0 := blk_below hk0.out hv1
  have hl0 := blk_lt hy0
  have f0_0 := blk_cell hy0 0
  have f0_1 := blk_cell hy0 1
  have f0_2 := blk_cell hy0 2
  have f0_3 := blk_cell hy0 3
  have f0_4 := blk_cell hy0 4
  have f0_5 := blk_cell hy0 5
  have f0_6 := blk_cell hy0 6
  have f0_7 := blk_cell hy0 7
  have f0_8 := blk_cell hy0 8
  have f0_9 := blk_cell hy0 9
  have hy1 := blk_below hk1.out hv1
  have hl1 := blk_lt hy1
  have f1_0 := blk_cell hy1 0
  have f1_1 := blk_cell hy1 1
  have f1_2 := blk_cell hy1 2
  have hy2 := blk_below hk2.out hv1
  have hl2 := blk_lt hy2
  have f2_0 := blk_cell hy2 0
  have f2_1 := blk_cell hy2 1
  have f2_2 := blk_cell hy2 2
  have hy3 := blk_below hk3.out hv1
  have hl3 := blk_lt hy3
  have f3_0 := blk_cell hy3 0
  have f3_1 := blk_cell hy3 1
  have hy4 := blk_below hk4.out hv1
  have hl4 := blk_lt hy4
  have f4_0 := blk_cell hy4 0
  have f4_1 := blk_cell hy4 1
  have f4_2 := blk_cell hy4 2
  have f4_3 := blk_cell hy4 3
  have f4_4 := blk_cell hy4 4
  have f4_5 := blk_cell hy4 5
  have f4_6 := blk_cell hy4 6
  have f4_7 := blk_cell hy4 7
  have f4_8 := blk_cell hy4 8
  have hfr := blk_frozen hy4
  simp at f0_0 f0_1 f0_2 f0_3 f0_4 f0_5 f0_6 f0_7 f0_8 f0_9 f1_0 f1_1 f1_2 f2_0 f2_1 f2_2 f3_0 f3_1 f4_0 f4_1 f4_2 f4_3 f4_4 f4_5 f4_6 f4_7 f4_8
  clear hy0 hy1 hy2 hy3 hy4
  by_cases he : errOp a nm v = 0
  case neg =>
    generalize errOp a nm v = er at *
    have hd : (er != 0) = true := by simpa using he
    have hGs : Below w.heap.size w (((((((((w1.setCell ⟨w.heap.size + 1 + 1 + 1 + 1, 0, none⟩ (.int .i64 0)).setCell ⟨w.heap.size + 1 + 1 + 1 + 1, 1, none⟩ (.string ⟨#[]⟩)).setCell ⟨w.heap.size + 1 + 1 + 1 + 1, 2, none⟩ (.int .i64 0)).setCell ⟨w.heap.size + 1 + 1 + 1 + 1, 3, none⟩ (.int .i64 0)).setCell ⟨w.heap.size + 1 + 1 + 1 + 1, 4, none⟩ (.int .u32 0)).setCell ⟨w.heap.size + 1 + 1 + 1 + 1, 5, none⟩ (.int .i64 0)).setCell ⟨w.heap.size + 1 + 1 + 1 + 1, 6, none⟩ (.int .u32 0)).setCell ⟨w.heap.size + 1 + 1 + 1 + 1, 7, none⟩ (.int .i64 0)).setCell ⟨w.heap.size + 1 + 1 + 1 + 1, 8, none⟩ (.slice none 0 0)) := (((((((((hG1.setCell (by dsimp only; omega) _).setCell (by dsimp only; omega) _).setCell (by dsimp only; omega) _).setCell (by dsimp only; omega) _).setCell (by dsimp only; omega) _).setCell (by dsimp only; omega) _).setCell (by dsimp only; omega) _).setCell (by dsimp only; omega) _).setCell (by dsimp only; omega) _)
    go_wp2_with fail
    exact bodyPost_ret (v := .tuple #[.agg #[.int .i64 0, .string ⟨#[]⟩, .int .i64 0, .int .i64 0, .int .u32 0, .int .i64 0, .int .u32 0, .int .i64 0, .slice none 0 0], .int .i64 er]) (by simp [results, Tryz.results16, go_sem, f4_0, f4_1, f4_2, f4_3, f4_4, f4_5, f4_6, f4_7, f4_8]) rfl (PostP.no he hGs)
  have heH := Lib.hid he
  rw [he]
  clear he
  by_cases hkd : kindA a = o.kd
  case neg =>
    generalize kindA a = ka at *
    have hd : (ka != o.kd) = true := by simpa using hkd
    go_upto_region 4 with (fail)
    refine wp_region_M (fun w' => w'.cell? ⟨w.heap.size + 1, 0, none⟩ = some (.int .i64 a) ∧ w'.cell? ⟨w.heap.size, 0, none⟩ = some (.int .i64 o.kd)) (fun _ => True) 99 (by kernel_rfl) ⟨f1_0, f0_0⟩ trivial ?_
    intro hcl
    have hC : w1.drew.cell? ⟨w.heap.size + 1, 0, none⟩ = some (.int .i64 a) ∧ w1.drew.cell? ⟨w.heap.size, 0, none⟩ = some (.int .i64 o.kd) := ⟨f1_0, f0_0⟩
    have hE := trivial
    (refine wpM_take (i := 0) (v := ?_) rfl (by kernel_rfl) (by kernel_rfl) (by kernel_rfl) (by decide) (fun _ _ _ h => h) hcl hC (fun _ => hE) (Or.inl ⟨by rfl, ?_⟩) ?_; rotate_left; (· (intro w hSw; (try dsimp only at hSw); go_simp; (try with_reducible rfl))); clear hcl; intro hcl; (try simp only [Act.put, List.getElem_toArray, List.getElem_cons_zero, List.setIfInBounds_toArray, List.set_cons_zero, List.set_cons_succ]))
    (refine wpM_take (i := 1) (v := ?_) rfl (by kernel_rfl) (by kernel_rfl) (by kernel_rfl) (by decide) (fun _ _ _ h => h) hcl hC (fun _ => hE) (Or.inl ⟨by rfl, ?_⟩) ?_; rotate_left; (· (intro w hSw; (try dsimp only at hSw); go_simp; (try with_reducible rfl))); clear hcl; intro hcl; (try simp only [Act.put, List.getElem_toArray, List.getElem_cons_zero, List.getElem_cons_succ, List.setIfInBounds_toArray, List.set_cons_zero, List.set_cons_succ]))
    (refine wpM_take (i := 3) (v := ?_) rfl (by kernel_rfl) (by kernel_rfl) (by kernel_rfl) (by decide) (fun _ _ _ h => h) hcl hC (fun _ => hE) (Or.inl ⟨by rfl, ?_⟩) ?_; rotate_left; (· (intro w hSw; (try dsimp only at hSw); go_simp; (try with_reducible rfl))); clear hcl; intro hcl; (try simp only [Act.put, List.getElem_toArray, List.getElem_cons_zero, List.getElem_cons_succ, List.setIfInBounds_toArray, List.set_cons_zero, List.set_cons_succ]))
    (refine wpM_take (i := 4) (v := ?_) rfl (by kernel_rfl) (by kernel_rfl) (by kernel_rfl) (by decide) (fun _ _ _ h => h) hcl hC (fun _ => hE) (Or.inl ⟨by rfl, ?_⟩) ?_; rotate_left; (· (intro w hSw; (try dsimp only at hSw); go_simp; (try with_reducible rfl))); clear hcl; intro hcl; (try simp only [Act.put, List.getElem_toArray, List.getElem_cons_zero, List.getElem_cons_succ, List.setIfInBounds_toArray, List.set_cons_zero, List.set_cons_succ]))
    refine wpM_only (i := 2) rfl (by kernel_rfl) hcl (fun K hK => ?_)
    go_simp
    refine (c2.out _).mono ?_
    rintro e w2 ⟨rfl, rfl⟩
    refine hK.out _ _ hC trivial ?_
    clear hK K
    clear hcl
    intro hcl
    (try simp only [Act.put, List.getElem_toArray, List.getElem_cons_zero, List.getElem_cons_succ, List.setIfInBounds_toArray, List.set_cons_zero, List.set_cons_succ])
    (refine wpM_take (i := 5) (v := ?_) rfl (by kernel_rfl) (by kernel_rfl) (by kernel_rfl) (by decide) (fun _ _ _ h => h) hcl hC (fun _ => hE) (Or.inl ⟨by rfl, ?_⟩) ?_; rotate_left; (· (intro w hSw; (try dsimp only at hSw); go_simp; (try with_reducible rfl))); clear hcl; intro hcl; (try simp only [Act.put, List.getElem_toArray, List.getElem_cons_zero, List.getElem_cons_succ, List.setIfInBounds_toArray, List.set_cons_zero, List.set_cons_succ]))
    (refine wpM_take (i := 6) (v := ?_) rfl (by kernel_rfl) (by kernel_rfl) (by kernel_rfl) (by decide) (fun _ _ _ h => h) hcl hC (fun _ => hE) (Or.inl ⟨by rfl, ?_⟩) ?_; rotate_left; (· (intro w hSw; (try dsimp only at hSw); go_simp; (try with_reducible rfl))); clear hcl; intro hcl; (try simp only [Act.put, List.getElem_toArray, List.getElem_cons_zero, List.getElem_cons_succ, List.setIfInBounds_toArray, List.set_cons_zero, List.set_cons_succ]))
    refine wpM_done (by kernel_rfl) ?_
    clear hcl hC hE
    (try simp only [Act.put, List.getElem_toArray, List.getElem_cons_zero, List.getElem_cons_succ, List.setIfInBounds_toArray, List.set_cons_zero, List.set_cons_succ])
    have hv2 := hv1.drew
    generalize w1.drew = w2 at hv2 ⊢
    have hG2 := hb0.trans (hv2.mono hb0.size)
    clear f0_0 f0_1 f0_2 f0_3 f0_4 f0_5 f0_6 f0_7 f0_8 f0_9 f1_0 f1_1 f1_2 f2_0 f2_1 f2_2 f3_0 f3_1 f4_0 f4_1 f4_2 f4_3 f4_4 f4_5 f4_6 f4_7 f4_8 hl0 hl1 hl2 hl3 hl4 hfr
    have hy0 := blk_below hk0.out hv2
    have hl0 := blk_lt hy0
    have f0_0 := blk_cell hy0 0
    have f0_1 := blk_cell hy0 1
    have f0_2 := blk_cell hy0 2
    have f0_3 := blk_cell hy0 3
    have f0_4 := blk_cell hy0 4
    have f0_5 := blk_cell hy0 5
    have f0_6 := blk_cell hy0 6
    have f0_7 := blk_cell hy0 7
    have f0_8 := blk_cell hy0 8
    have f0_9 := blk_cell hy0 9
    have hy1 := blk_below hk1.out hv2
    have hl1 := blk_lt hy1
    have f1_0 := blk_cell hy1 0
    have f1_1 := blk_cell hy1 1
    have f1_2 := blk_cell hy1 2
    have hy2 := blk_below hk2.out hv2
    have hl2 := blk_lt hy2
    have f2_0 := blk_cell hy2 0
    have f2_1 := blk_cell hy2 1
    have f2_2 := blk_cell hy2 2
    have hy3 := blk_below hk3.out hv2
    have hl3 := blk_lt hy3
    have f3_0 := blk_cell hy3 0
    have f3_1 := blk_cell hy3 1
    have hy4 := blk_below hk4.out hv2
    have hl4 := blk_lt hy4
    have f4_0 := blk_cell hy4 0
    have f4_1 := blk_cell hy4 1
    have f4_2 := blk_cell hy4 2
    have f4_3 := blk_cell hy4 3
    have f4_4 := blk_cell hy4 4
    have f4_5 := blk_cell hy4 5
    have f4_6 := blk_cell hy4 6
    have f4_7 := blk_cell hy4 7
    have f4_8 := blk_cell hy4 8
    have hfr := blk_frozen hy4
    simp at f0_0 f0_1 f0_2 f0_3 f0_4 f0_5 f0_6 f0_7 f0_8 f0_9 f1_0 f1_1 f1_2 f2_0 f2_1 f2_2 f3_0 f3_1 f4_0 f4_1 f4_2 f4_3 f4_4 f4_5 f4_6 f4_7 f4_8
    clear hy0 hy1 hy2 hy3 hy4
    have hGs : Below w.heap.size w (((((((((w2.setCell ⟨w.heap.size + 1 + 1 + 1 + 1, 0, none⟩ (.int .i64 0)).setCell ⟨w.heap.size + 1 + 1 + 1 + 1, 1, none⟩ (.string ⟨#[]⟩)).setCell ⟨w.heap.size + 1 + 1 + 1 + 1, 2, none⟩ (.int .i64 0)).setCell ⟨w.heap.size + 1 + 1 + 1 + 1, 3, none⟩ (.int .i64 0)).setCell ⟨w.heap.size + 1 + 1 + 1 + 1, 4, none⟩ (.int .u32 0)).setCell ⟨w.heap.size + 1 + 1 + 1 + 1, 5, none⟩ (.int .i64 0)).setCell ⟨w.heap.size + 1 + 1 + 1 + 1, 6, none⟩ (.int .u32 0)).setCell ⟨w.heap.size + 1 + 1 + 1 + 1, 7, none⟩ (.int .i64 0)).setCell ⟨w.heap.size + 1 + 1 + 1 + 1, 8, none⟩ (.slice none 0 0)) := (((((((((hG2.setCell (by dsimp only; omega) _).setCell (by dsimp only; omega) _).setCell (by dsimp only; omega) _).setCell (by dsimp only; omega) _).setCell (by dsimp only; omega) _).setCell (by dsimp only; omega) _).setCell (by dsimp only; omega) _).setCell (by dsimp only; omega) _).setCell (by dsimp only; omega) _)
    go_wp2_with fail
    exact bodyPost_ret (v := .tuple #[.agg #[.int .i64 0, .string ⟨#[]⟩, .int .i64 0, .int .i64 0, .int .u32 0, .int .i64 0, .int .u32 0, .int .i64 0, .slice none 0 0], .int .i64 5]) (by simp [results, Tryz.results16, go_sem, f4_0, f4_1, f4_2, f4_3, f4_4, f4_5, f4_6, f4_7, f4_8]) rfl (PostP.no (by decide) hGs)
  have hkH := Lib.hid hkd
  rw [hkd] at c2
  clear hkd
  go_upto_region 4 with (fail)
  refine wp_region_M (fun w' => w'.cell? ⟨w.heap.size + 1, 0, none⟩ = some (.int .i64 a) ∧ w'.cell? ⟨w.heap.size, 0, none⟩ = some (.int .i64 o.kd)) (fun _ => True) 99 (by kernel_rfl) ⟨f1_0, f0_0⟩ trivial ?_
  intro hcl
  have hC : w1.drew.cell? ⟨w.heap.size + 1, 0, none⟩ = some (.int .i64 a) ∧ w1.drew.cell? ⟨w.heap.size, 0, none⟩ = some (.int .i64 o.kd) := ⟨f1_0, f0_0⟩
  have hE := trivial
  (refine wpM_take (i := 0) (v := ?_) rfl (by kernel_rfl) (by kernel_rfl) (by kernel_rfl) (by decide) (fun _ _ _ h => h) hcl hC (fun _ => hE) (Or.inl ⟨by rfl, ?_⟩) ?_; rotate_left; (· (intro w hSw; (try dsimp only at hSw); go_simp; (try with_reducible rfl))); clear hcl; intro hcl; (try simp only [Act.put, List.getElem_toArray, List.getElem_cons_zero, List.setIfInBounds_toArray, List.set_cons_zero, List.set_cons_succ]))
  (refine wpM_take (i := 1) (v := ?_) rfl (by kernel_rfl) (by kernel_rfl) (by kernel_rfl) (by decide) (fun _ _ _ h => h) hcl hC (fun _ => hE) (Or.inl ⟨by rfl, ?_⟩) ?_; rotate_left; (· (intro w hSw; (try dsimp only at hSw); go_simp; (try with_reducible rfl))); clear hcl; intro hcl; (try simp only [Act.put, List.getElem_toArray, List.getElem_cons_zero, List.getElem_cons_succ, List.setIfInBounds_toArray, List.set_cons_zero, List.set_cons_succ]))
  (refine wpM_take (i := 3) (v := ?_) rfl (by kernel_rfl) (by kernel_rfl) (by kernel_rfl) (by decide) (fun _ _ _ h => h) hcl hC (fun _ => hE) (Or.inl ⟨by rfl, ?_⟩) ?_; rotate_left; (· (intro w hSw; (try dsimp only at hSw); go_simp; (try with_reducible rfl))); clear hcl; intro hcl; (try simp only [Act.put, List.getElem_toArray, List.getElem_cons_zero, List.getElem_cons_succ, List.setIfInBounds_toArray, List.set_cons_zero, List.set_cons_succ]))
  (refine wpM_take (i := 4) (v := ?_) rfl (by kernel_rfl) (by kernel_rfl) (by kernel_rfl) (by decide) (fun _ _ _ h => h) hcl hC (fun _ => hE) (Or.inl ⟨by rfl, ?_⟩) ?_; rotate_left; (· (intro w hSw; (try dsimp only at hSw); go_simp; (try with_reducible rfl))); clear hcl; intro hcl; (try simp only [Act.put, List.getElem_toArray, List.getElem_cons_zero, List.getElem_cons_succ, List.setIfInBounds_toArray, List.set_cons_zero, List.set_cons_succ]))
  refine wpM_only (i := 2) rfl (by kernel_rfl) hcl (fun K hK => ?_)
  go_simp
  refine (c2.out _).mono ?_
  rintro e w2 ⟨rfl, rfl⟩
  refine hK.out _ _ hC trivial ?_
  clear hK K
  clear hcl
  intro hcl
  (try simp only [Act.put, List.getElem_toArray, List.getElem_cons_zero, List.getElem_cons_succ, List.setIfInBounds_toArray, List.set_cons_zero, List.set_cons_succ])
  (refine wpM_take (i := 5) (v := ?_) rfl (by kernel_rfl) (by kernel_rfl) (by kernel_rfl) (by decide) (fun _ _ _ h => h) hcl hC (fun _ => hE) (Or.inl ⟨by rfl, ?_⟩) ?_; rotate_left; (· (intro w hSw; (try dsimp only at hSw); go_simp; (try with_reducible rfl))); clear hcl; intro hcl; (try simp only [Act.put, List.getElem_toArray, List.getElem_cons_zero, List.getElem_cons_succ, List.setIfInBounds_toArray, List.set_cons_zero, List.set_cons_succ]))
  (refine wpM_take (i := 6) (v := ?_) rfl (by kernel_rfl) (by kernel_rfl) (by kernel_rfl) (by decide) (fun _ _ _ h => h) hcl hC (fun _ => hE) (Or.inl ⟨by rfl, ?_⟩) ?_; rotate_left; (· (intro w hSw; (try dsimp only at hSw); go_simp; (try with_reducible rfl))); clear hcl; intro hcl; (try simp only [Act.put, List.getElem_toArray, List.getElem_cons_zero, List.getElem_cons_succ, List.setIfInBounds_toArray, List.set_cons_zero, List.set_cons_succ]))
  refine wpM_done (by kernel_rfl) ?_
  clear hcl hC hE
  (try simp only [Act.put, List.getElem_toArray, List.getElem_cons_zero, List.getElem_cons_succ, List.setIfInBounds_toArray, List.set_cons_zero, List.set_cons_succ])
  have hv2 := hv1.drew
  generalize w1.drew = w2 at hv2 ⊢
  clear hv1 hG1
  clear f0_0 f0_1 f0_2 f0_3 f0_4 f0_5 f0_6 f0_7 f0_8 f0_9 f1_0 f1_1 f1_2 f2_0 f2_1 f2_2 f3_0 f3_1 f4_0 f4_1 f4_2 f4_3 f4_4 f4_5 f4_6 f4_7 f4_8 hl0 hl1 hl2 hl3 hl4 hfr
  have hy0 := blk_below hk0.out hv2
  have hl0 := blk_lt hy0
  have f0_0 := blk_cell hy0 0
  have f0_1 := blk_cell hy0 1
  have f0_2 := blk_cell hy0 2
  have f0_3 := blk_cell hy0 3
  have f0_4 := blk_cell hy0 4
  have f0_5 := blk_cell hy0 5
  have f0_6 := blk_cell hy0 6
  have f0_7 := blk_cell hy0 7
  have f0_8 := blk_cell hy0 8
  have f0_9 := blk_cell hy0 9
  have hy1 := blk_below hk1.out hv2
  have hl1 := blk_lt hy1
  have f1_0 := blk_cell hy1 0
  have f1_1 := blk_cell hy1 1
  have f1_2 := blk_cell hy1 2
  have hy2 := blk_below hk2.out hv2
  have hl2 := blk_lt hy2
  have f2_0 := blk_cell hy2 0
  have f2_1 := blk_cell hy2 1
  have f2_2 := blk_cell hy2 2
  have hy3 := blk_below hk3.out hv2
  have hl3 := blk_lt hy3
  have f3_0 := blk_cell hy3 0
  have f3_1 := blk_cell hy3 1
  have hy4 := blk_below hk4.out hv2
  have hl4 := blk_lt hy4
  have f4_0 := blk_cell hy4 0
  have f4_1 := blk_cell hy4 1
  have f4_2 := blk_cell hy4 2
  have f4_3 := blk_cell hy4 3
  have f4_4 := blk_cell hy4 4
  have f4_5 := blk_cell hy4 5
  have f4_6 := blk_cell hy4 6
  have f4_7 := blk_cell hy4 7
  have f4_8 := blk_cell hy4 8
  have hfr := blk_frozen hy4
  simp at f0_0 f0_1 f0_2 f0_3 f0_4 f0_5 f0_6 f0_7 f0_8 f0_9 f1_0 f1_1 f1_2 f2_0 f2_1 f2_2 f3_0 f3_1 f4_0 f4_1 f4_2 f4_3 f4_4 f4_5 f4_6 f4_7 f4_8
  clear hy0 hy1 hy2 hy3 hy4
  go_wp2_with fail
  refine (c3.out _).mono ?_
  rintro e w3 ⟨rfl, hv3⟩
  have hv3 := hv2.trans (hv3.mono hv2.size)
  have hG3 := hb0.trans (hv3.mono hb0.size)
  clear hv2
  clear f0_0 f0_1 f0_2 f0_3 f0_4 f0_5 f0_6 f0_7 f0_8 f0_9 f1_0 f1_1 f1_2 f2_0 f2_1 f2_2 f3_0 f3_1 f4_0 f4_1 f4_2 f4_3 f4_4 f4_5 f4_6 f4_7 f4_8 hl0 hl1 hl2 hl3 hl4 hfr
  have hy0 := blk_below hk0.out hv3
  have hl0 := blk_lt hy0
  have f0_0 := blk_cell hy0 0
  have f0_1 := blk_cell hy0 1
  have f0_2 := blk_cell hy0 2
  have f0_3 := blk_cell hy0 3
  have f0_4 := blk_cell hy0 4
  have f0_5 := blk_cell hy0 5
  have f0_6 := blk_cell hy0 6
  have f0_7 := blk_cell hy0 7
  have f0_8 := blk_cell hy0 8
  have f0_9 := blk_cell hy0 9
  have hy1 := blk_below hk1.out hv3
  have hl1 := blk_lt hy1
  have f1_0 := blk_cell hy1 0
  have f1_1 := blk_cell hy1 1
  have f1_2 := blk_cell hy1 2
  have hy2 := blk_below hk2.out hv3
  have hl2 := blk_lt hy2
  have f2_0 := blk_cell hy2 0
  have f2_1 := blk_cell hy2 1
  have f2_2 := blk_cell hy2 2
  have hy3 := blk_below hk3.out hv3
  have hl3 := blk_lt hy3
  have f3_0 := blk_cell hy3 0
  have f3_1 := blk_cell hy3 1
  have hy4 := blk_below hk4.out hv3
  have hl4 := blk_lt hy4
  have f4_0 := blk_cell hy4 0
  have f4_1 := blk_cell hy4 1
  have f4_2 := blk_cell hy4 2
  have f4_3 := blk_cell hy4 3
  have f4_4 := blk_cell hy4 4
  have f4_5 := blk_cell hy4 5
  have f4_6 := blk_cell hy4 6
  have f4_7 := blk_cell hy4 7
  have f4_8 := blk_cell hy4 8
  have hfr := blk_frozen hy4
  simp at f0_0 f0_1 f0_2 f0_3 f0_4 f0_5 f0_6 f0_7 f0_8 f0_9 f1_0 f1_1 f1_2 f2_0 f2_1 f2_2 f3_0 f3_1 f4_0 f4_1 f4_2 f4_3 f4_4 f4_5 f4_6 f4_7 f4_8
  clear hy0 hy1 hy2 hy3 hy4
  go_wp2_with fail
  refine (c4.out _).mono ?_
  rintro e w4 ⟨rfl, hv4⟩
  have hv4 := hv3.trans (hv4.mono hv3.size)
  have hG4 := hb0.trans (hv4.mono hb0.size)
  clear hv3 hG3
  clear f0_0 f0_1 f0_2 f0_3 f0_4 f0_5 f0_6 f0_7 f0_8 f0_9 f1_0 f1_1 f1_2 f2_0 f2_1 f2_2 f3_0 f3_1 f4_0 f4_1 f4_2 f4_3 f4_4 f4_5 f4_6 f4_7 f4_8 hl0 hl1 hl2 hl3 hl4 hfr
  have hy0 := blk_below hk0.out hv4
  have hl0 := blk_lt hy0
  have f0_0 := blk_cell hy0 0
  have f0_1 := blk_cell hy0 1
  have f0_2 := blk_cell hy0 2
  have f0_3 := blk_cell hy0 3
  have f0_4 := blk_cell hy0 4
  have f0_5 := blk_cell hy0 5
  have f0_6 := blk_cell hy0 6
  have f0_7 := blk_cell hy0 7
  have f0_8 := blk_cell hy0 8
  have f0_9 := blk_cell hy0 9
  have hy1 := blk_below hk1.out hv4
  have hl1 := blk_lt hy1
  have f1_0 := blk_cell hy1 0
  have f1_1 := blk_cell hy1 1
  have f1_2 := blk_cell hy1 2
  have hy2 := blk_below hk2.out hv4
  have hl2 := blk_lt hy2
  have f2_0 := blk_cell hy2 0
  have f2_1 := blk_cell hy2 1
  have f2_2 := blk_cell hy2 2
  have hy3 := blk_below hk3.out hv4
  have hl3 := blk_lt hy3
  have f3_0 := blk_cell hy3 0
  have f3_1 := blk_cell hy3 1
  have hy4 := blk_below hk4.out hv4
  have hl4 := blk_lt hy4
  have f4_0 := blk_cell hy4 0
  have f4_1 := blk_cell hy4 1
  have f4_2 := blk_cell hy4 2
  have f4_3 := blk_cell hy4 3
  have f4_4 := blk_cell hy4 4
  have f4_5 := blk_cell hy4 5
  have f4_6 := blk_cell hy4 6
  have f4_7 := blk_cell hy4 7
  have f4_8 := blk_cell hy4 8
  have hfr := blk_frozen hy4
  simp at f0_0 f0_1 f0_2 f0_3 f0_4 f0_5 f0_6 f0_7 f0_8 f0_9 f1_0 f1_1 f1_2 f2_0 f2_1 f2_2 f3_0 f3_1 f4_0 f4_1 f4_2 f4_3 f4_4 f4_5 f4_6 f4_7 f4_8
  clear hy0 hy1 hy2 hy3 hy4
  go_upto_region 11 with (fail)
  have hb5 : Below w4.heap.size w4 (w4.alloc (.cells #[.int .i64 a, .string (bs nm), .int .i64 v, .int .i64 7, .int .u32 1048576, .int .i64 n, .int .u32 0, .int .i64 0, .slice none 0 0] 87)) := (Below.refl _ w4).alloc (Nat.le_refl _) _
  have hx5 : (w4.alloc (.cells #[.int .i64 a, .string (bs nm), .int .i64 v, .int .i64 7, .int .u32 1048576, .int .i64 n, .int .u32 0, .int .i64 0, .slice none 0 0] 87)).heap[w4.heap.size]? = some (.cells #[.int .i64 a, .string (bs nm), .int .i64 v, .int .i64 7, .int .u32 1048576, .int .i64 n, .int .u32 0, .int .i64 0, .slice none 0 0] 87 (0, 0)) := heap_at _ _ rfl
  have hz4 : w4.heap.size ≠ w.heap.size + 1 + 1 + 1 + 1 := by omega
  have hz5 : w.heap.size + 1 + 1 + 1 + 1 ≠ w4.heap.size := by omega
  have hw4 : w.heap.size ≤ w4.heap.size := hG4.size
  generalize hg : w4.heap.size = g at *
  generalize w4.alloc (.cells #[.int .i64 a, .string (bs nm), .int .i64 v, .int .i64 7, .int .u32 1048576, .int .i64 n, .int .u32 0, .int .i64 0, .slice none 0 0] 87) = w5 at hb5 hx5 ⊢
  have hv5 : Below W.heap.size W w5 := hv4.trans ((hg ▸ hb5).mono (by have := hv4.size; omega))
  have hG5 := hb0.trans (hv5.mono hb0.size)
  clear hv4 hG4 hb5 hg c1 c2 c3 c4
  clear f0_0 f0_1 f0_2 f0_3 f0_4 f0_5 f0_6 f0_7 f0_8 f0_9 f1_0 f1_1 f1_2 f2_0 f2_1 f2_2 f3_0 f3_1 f4_0 f4_1 f4_2 f4_3 f4_4 f4_5 f4_6 f4_7 f4_8 hl0 hl1 hl2 hl3 hl4 hfr
  have hy0 := blk_below hk0.out hv5
  have hl0 := blk_lt hy0
  have f0_0 := blk_cell hy0 0
  have f0_1 := blk_cell hy0 1
  have f0_2 := blk_cell hy0 2
  have f0_3 := blk_cell hy0 3
  have f0_4 := blk_cell hy0 4
  have f0_5 := blk_cell hy0 5
  have f0_6 := blk_cell hy0 6
  have f0_7 := blk_cell hy0 7
  have f0_8 := blk_cell hy0 8
  have f0_9 := blk_cell hy0 9
  have hy1 := blk_below hk1.out hv5
  have hl1 := blk_lt hy1
  have f1_0 := blk_cell hy1 0
  have f1_1 := blk_cell hy1 1
  have f1_2 := blk_cell hy1 2
  have hy2 := blk_below hk2.out hv5
  have hl2 := blk_lt hy2
  have f2_0 := blk_cell hy2 0
  have f2_1 := blk_cell hy2 1
  have f2_2 := blk_cell hy2 2
  have hy3 := blk_below hk3.out hv5
  have hl3 := blk_lt hy3
  have f3_0 := blk_cell hy3 0
  have f3_1 := blk_cell hy3 1
  have hy4 := blk_below hk4.out hv5
  have hl4 := blk_lt hy4
  have f4_0 := blk_cell hy4 0
  have f4_1 := blk_cell hy4 1
  have f4_2 := blk_cell hy4 2
  have f4_3 := blk_cell hy4 3
  have f4_4 := blk_cell hy4 4
  have f4_5 := blk_cell hy4 5
  have f4_6 := blk_cell hy4 6
  have f4_7 := blk_cell hy4 7
  have f4_8 := blk_cell hy4 8
  have hfr := blk_frozen hy4
  simp at f0_0 f0_1 f0_2 f0_3 f0_4 f0_5 f0_6 f0_7 f0_8 f0_9 f1_0 f1_1 f1_2 f2_0 f2_1 f2_2 f3_0 f3_1 f4_0 f4_1 f4_2 f4_3 f4_4 f4_5 f4_6 f4_7 f4_8
  clear hy0 hy1 hy2 hy3 hy4
  have hx5H := Lib.hid hx5
  have hltg := blk_lt hx5
  have hfg := blk_frozen hx5
  have e0 := blk_cell hx5 0
  have e1 := blk_cell hx5 1
  have e2 := blk_cell hx5 2
  have e3 := blk_cell hx5 3
  have e4 := blk_cell hx5 4
  have e5 := blk_cell hx5 5
  have e6 := blk_cell hx5 6
  have e7 := blk_cell hx5 7
  have e8 := blk_cell hx5 8
  simp at e0 e1 e2 e3 e4 e5 e6 e7 e8
  clear hx5
  rcases act7 a with rfl | rfl | rfl | rfl | rfl | rfl | ⟨ha0, _⟩
  · have hGs : Below w.heap.size w (((((((((((w5.setCell ⟨g, 6, none⟩ (.int .u32 (1048574 + n))).setCell ⟨g, 7, none⟩ (.int .i64 7)).setCell ⟨w.heap.size + 1 + 1 + 1 + 1, 0, none⟩ (.int .i64 1)).setCell ⟨w.heap.size + 1 + 1 + 1 + 1, 1, none⟩ (.string (bs nm))).setCell ⟨w.heap.size + 1 + 1 + 1 + 1, 2, none⟩ (.int .i64 v)).setCell ⟨w.heap.size + 1 + 1 + 1 + 1, 3, none⟩ (.int .i64 7)).setCell ⟨w.heap.size + 1 + 1 + 1 + 1, 4, none⟩ (.int .u32 1048576)).setCell ⟨w.heap.size + 1 + 1 + 1 + 1, 5, none⟩ (.int .i64 n)).setCell ⟨w.heap.size + 1 + 1 + 1 + 1, 6, none⟩ (.int .u32 (1048574 + n))).setCell ⟨w.heap.size + 1 + 1 + 1 + 1, 7, none⟩ (.int .i64 7)).setCell ⟨w.heap.size + 1 + 1 + 1 + 1, 8, none⟩ (.slice none 0 0)) := (((((((((((hG5.setCell (by dsimp only; omega) _).setCell (by dsimp only; omega) _).setCell (by dsimp only; omega) _).setCell (by dsimp only; omega) _).setCell (by dsimp only; omega) _).setCell (by dsimp only; omega) _).setCell (by dsimp only; omega) _).setCell (by dsimp only; omega) _).setCell (by dsimp only; omega) _).setCell (by dsimp only; omega) _).setCell (by dsimp only; omega) _)
    go_wp2_with fail
    exact bodyPost_ret (v := .tuple #[.agg #[.int .i64 1, .string (bs nm), .int .i64 v, .int .i64 7, .int .u32 1048576, .int .i64 n, .int .u32 (1048574 + n), .int .i64 7, .slice none 0 0], .int .i64 0]) (by simp [results, Tryz.results16, go_sem, f4_0, f4_1, f4_2, f4_3, f4_4, f4_5, f4_6, f4_7, f4_8]) rfl ⟨⟨1, nm, v, ((7, 1048576), n), (1048574 + n, 7), []⟩, none, 0, 0, 0, rfl, hGs, fun _ => ⟨heH.out, hkH.out, by simp [effC, tagC, stampC], Rd.nil_, TyR.nil_ _ _ _⟩⟩
  · have hGs : Below w.heap.size w (((((((((w5.setCell ⟨w.heap.size + 1 + 1 + 1 + 1, 0, none⟩ (.int .i64 2)).setCell ⟨w.heap.size + 1 + 1 + 1 + 1, 1, none⟩ (.string (bs nm))).setCell ⟨w.heap.size + 1 + 1 + 1 + 1, 2, none⟩ (.int .i64 v)).setCell ⟨w.heap.size + 1 + 1 + 1 + 1, 3, none⟩ (.int .i64 7)).setCell ⟨w.heap.size + 1 + 1 + 1 + 1, 4, none⟩ (.int .u32 1048576)).setCell ⟨w.heap.size + 1 + 1 + 1 + 1, 5, none⟩ (.int .i64 n)).setCell ⟨w.heap.size + 1 + 1 + 1 + 1, 6, none⟩ (.int .u32 0)).setCell ⟨w.heap.size + 1 + 1 + 1 + 1, 7, none⟩ (.int .i64 0)).setCell ⟨w.heap.size + 1 + 1 + 1 + 1, 8, none⟩ (.slice none 0 0)) := (((((((((hG5.setCell (by dsimp only; omega) _).setCell (by dsimp only; omega) _).setCell (by dsimp only; omega) _).setCell (by dsimp only; omega) _).setCell (by dsimp only; omega) _).setCell (by dsimp only; omega) _).setCell (by dsimp only; omega) _).setCell (by dsimp only; omega) _).setCell (by dsimp only; omega) _)
    go_wp2_with fail
    exact bodyPost_ret (v := .tuple #[.agg #[.int .i64 2, .string (bs nm), .int .i64 v, .int .i64 7, .int .u32 1048576, .int .i64 n, .int .u32 0, .int .i64 0, .slice none 0 0], .int .i64 0]) (by simp [results, Tryz.results16, go_sem, f4_0, f4_1, f4_2, f4_3, f4_4, f4_5, f4_6, f4_7, f4_8]) rfl ⟨⟨2, nm, v, ((7, 1048576), n), (0, 0), []⟩, none, 0, 0, 0, rfl, hGs, fun _ => ⟨heH.out, hkH.out, by simp [effC, tagC], Rd.nil_, TyR.nil_ _ _ _⟩⟩
  · have hGs : Below w.heap.size w (((((((((w5.setCell ⟨w.heap.size + 1 + 1 + 1 + 1, 0, none⟩ (.int .i64 3)).setCell ⟨w.heap.size + 1 + 1 + 1 + 1, 1, none⟩ (.string (bs nm))).setCell ⟨w.heap.size + 1 + 1 + 1 + 1, 2, none⟩ (.int .i64 v)).setCell ⟨w.heap.size + 1 + 1 + 1 + 1, 3, none⟩ (.int .i64 7)).setCell ⟨w.heap.size + 1 + 1 + 1 + 1, 4, none⟩ (.int .u32 1048576)).setCell ⟨w.heap.size + 1 + 1 + 1 + 1, 5, none⟩ (.int .i64 n)).setCell ⟨w.heap.size + 1 + 1 + 1 + 1, 6, none⟩ (.int .u32 0)).setCell ⟨w.heap.size + 1 + 1 + 1 + 1, 7, none⟩ (.int .i64 0)).setCell ⟨w.heap.size + 1 + 1 + 1 + 1, 8, none⟩ (.slice none 0 0)) := (((((((((hG5.setCell (by dsimp only; omega) _).setCell (by dsimp only; omega) _).setCell (by dsimp only; omega) _).setCell (by dsimp only; omega) _).setCell (by dsimp only; omega) _).setCell (by dsimp only; omega) _).setCell (by dsimp only; omega) _).setCell (by dsimp only; omega) _).setCell (by dsimp only; omega) _)
    go_wp2_with fail
    exact bodyPost_ret (v := .tuple #[.agg #[.int .i64 3, .string (bs nm), .int .i64 v, .int .i64 7, .int .u32 1048576, .int .i64 n, .int .u32 0, .int .i64 0, .slice none 0 0], .int .i64 0]) (by simp [results, Tryz.results16, go_sem, f4_0, f4_1, f4_2, f4_3, f4_4, f4_5, f4_6, f4_7, f4_8]) rfl ⟨⟨3, nm, v, ((7, 1048576), n), (0, 0), []⟩, none, 0, 0, 0, rfl, hGs, fun _ => ⟨heH.out, hkH.out, by simp [effC, tagC], Rd.nil_, TyR.nil_ _ _ _⟩⟩
  · go_wp2_with fail
    refine (c5.out _ hG5).mono ?_
    rintro e w6 ⟨T, t, c, rfl, o6, hv6⟩
    have hG6 := hG5.trans (hv6.mono hG5.size)
    have hx6 := blk_below hx5H.out hv6
    have hv6' := hv5.trans (hv6.mono hv5.size)
    clear e0 e1 e2 e3 e4 e5 e6 e7 e8 hltg hfg hv5
    have hltg := blk_lt hx6
    have hfg := blk_frozen hx6
    have e0 := blk_cell hx6 0
    have e1 := blk_cell hx6 1
    have e2 := blk_cell hx6 2
    have e3 := blk_cell hx6 3
    have e4 := blk_cell hx6 4
    have e5 := blk_cell hx6 5
    have e6 := blk_cell hx6 6
    have e7 := blk_cell hx6 7
    have e8 := blk_cell hx6 8
    simp at e0 e1 e2 e3 e4 e5 e6 e7 e8
    clear f0_0 f0_1 f0_2 f0_3 f0_4 f0_5 f0_6 f0_7 f0_8 f0_9 f1_0 f1_1 f1_2 f2_0 f2_1 f2_2 f3_0 f3_1 f4_0 f4_1 f4_2 f4_3 f4_4 f4_5 f4_6 f4_7 f4_8 hl0 hl1 hl2 hl3 hl4 hfr
    have hy0 := blk_below hk0.out hv6'
    have hl0 := blk_lt hy0
    have f0_0 := blk_cell hy0 0
    have f0_1 := blk_cell hy0 1
    have f0_2 := blk_cell hy0 2
    have f0_3 := blk_cell hy0 3
    have f0_4 := blk_cell hy0 4
    have f0_5 := blk_cell hy0 5
    have f0_6 := blk_cell hy0 6
    have f0_7 := blk_cell hy0 7
    have f0_8 := blk_cell hy0 8
    have f0_9 := blk_cell hy0 9
    have hy1 := blk_below hk1.out hv6'
    have hl1 := blk_lt hy1
    have f1_0 := blk_cell hy1 0
    have f1_1 := blk_cell hy1 1
    have f1_2 := blk_cell hy1 2
    have hy2 := blk_below hk2.out hv6'
    have hl2 := blk_lt hy2
    have f2_0 := blk_cell hy2 0
    have f2_1 := blk_cell hy2 1
    have f2_2 := blk_cell hy2 2
    have hy3 := blk_below hk3.out hv6'
    have hl3 := blk_lt hy3
    have f3_0 := blk_cell hy3 0
    have f3_1 := blk_cell hy3 1
    have hy4 := blk_below hk4.out hv6'
    have hl4 := blk_lt hy4
    have f4_0 := blk_cell hy4 0
    have f4_1 := blk_cell hy4 1
    have f4_2 := blk_cell hy4 2
    have f4_3 := blk_cell hy4 3
    have f4_4 := blk_cell hy4 4
    have f4_5 := blk_cell hy4 5
    have f4_6 := blk_cell hy4 6
    have f4_7 := blk_cell hy4 7
    have f4_8 := blk_cell hy4 8
    have hfr := blk_frozen hy4
    simp at f0_0 f0_1 f0_2 f0_3 f0_4 f0_5 f0_6 f0_7 f0_8 f0_9 f1_0 f1_1 f1_2 f2_0 f2_1 f2_2 f3_0 f3_1 f4_0 f4_1 f4_2 f4_3 f4_4 f4_5 f4_6 f4_7 f4_8
    clear hy0 hy1 hy2 hy3 hy4
    have hxg := Lib.hid hx6
    clear hx6
    have hGs : Below w.heap.size w ((((((((((w6.setCell ⟨g, 8, none⟩ (.slice T t c)).setCell ⟨w.heap.size + 1 + 1 + 1 + 1, 0, none⟩ (.int .i64 4)).setCell ⟨w.heap.size + 1 + 1 + 1 + 1, 1, none⟩ (.string (bs nm))).setCell ⟨w.heap.size + 1 + 1 + 1 + 1, 2, none⟩ (.int .i64 v)).setCell ⟨w.heap.size + 1 + 1 + 1 + 1, 3, none⟩ (.int .i64 7)).setCell ⟨w.heap.size + 1 + 1 + 1 + 1, 4, none⟩ (.int .u32 1048576)).setCell ⟨w.heap.size + 1 + 1 + 1 + 1, 5, none⟩ (.int .i64 n)).setCell ⟨w.heap.size + 1 + 1 + 1 + 1, 6, none⟩ (.int .u32 0)).setCell ⟨w.heap.size + 1 + 1 + 1 + 1, 7, none⟩ (.int .i64 0)).setCell ⟨w.heap.size + 1 + 1 + 1 + 1, 8, none⟩ (.slice T t c)) := ((((((((((hG6.setCell (by dsimp only; omega) _).setCell (by dsimp only; omega) _).setCell (by dsimp only; omega) _).setCell (by dsimp only; omega) _).setCell (by dsimp only; omega) _).setCell (by dsimp only; omega) _).setCell (by dsimp only; omega) _).setCell (by dsimp only; omega) _).setCell (by dsimp only; omega) _).setCell (by dsimp only; omega) _)
    have hR0 : RdT w6 w6.heap.size T t (tagsO o.S.1 o.S.2 nm) := o6.rd.1
    have hT0 := o6.ty
    have e1a : ∀ cs, w6.heap[g]? ≠ some (.cells cs 45 (0, 0)) := fun cs h => by rw [hxg.out] at h; injection h with h; injection h with _ h _; exact absurd h (by decide)
    have hR1 := Rd.other (w' := w6.setCell ⟨g, 8, none⟩ (.slice T t c)) hR0 hT0 e1a (fun b hb => heap_set_of b hb)
    have hT1 := TyR.other (w' := w6.setCell ⟨g, 8, none⟩ (.slice T t c)) hT0 e1a (fun b hb => heap_set_of b hb)
    have hr4 : (w6.setCell ⟨g, 8, none⟩ (.slice T t c)).heap[w.heap.size + 1 + 1 + 1 + 1]? = some (.cells #[.int .i64 0, .string ⟨#[]⟩, .int .i64 0, .int .i64 0, .int .u32 0, .int .i64 0, .int .u32 0, .int .i64 0, .slice none 0 0] 87 (0, 0)) := heap_set_ne (p := ⟨g, 8, none⟩) hz4 (blk_below hk4.out hv6')
    have e2a : ∀ cs, (w6.setCell ⟨g, 8, none⟩ (.slice T t c)).heap[w.heap.size + 1 + 1 + 1 + 1]? ≠ some (.cells cs 45 (0, 0)) := fun cs h => by rw [hr4] at h; injection h with h; injection h with _ h _; exact absurd h (by decide)
    have hR2 : Hid (RdT ((((((((((w6.setCell ⟨g, 8, none⟩ (.slice T t c)).setCell ⟨w.heap.size + 1 + 1 + 1 + 1, 0, none⟩ (.int .i64 4)).setCell ⟨w.heap.size + 1 + 1 + 1 + 1, 1, none⟩ (.string (bs nm))).setCell ⟨w.heap.size + 1 + 1 + 1 + 1, 2, none⟩ (.int .i64 v)).setCell ⟨w.heap.size + 1 + 1 + 1 + 1, 3, none⟩ (.int .i64 7)).setCell ⟨w.heap.size + 1 + 1 + 1 + 1, 4, none⟩ (.int .u32 1048576)).setCell ⟨w.heap.size + 1 + 1 + 1 + 1, 5, none⟩ (.int .i64 n)).setCell ⟨w.heap.size + 1 + 1 + 1 + 1, 6, none⟩ (.int .u32 0)).setCell ⟨w.heap.size + 1 + 1 + 1 + 1, 7, none⟩ (.int .i64 0)).setCell ⟨w.heap.size + 1 + 1 + 1 + 1, 8, none⟩ (.slice T t c)) ((((((((((w6.setCell ⟨g, 8, none⟩ (.slice T t c)).setCell ⟨w.heap.size + 1 + 1 + 1 + 1, 0, none⟩ (.int .i64 4)).setCell ⟨w.heap.size + 1 + 1 + 1 + 1, 1, none⟩ (.string (bs nm))).setCell ⟨w.heap.size + 1 + 1 + 1 + 1, 2, none⟩ (.int .i64 v)).setCell ⟨w.heap.size + 1 + 1 + 1 + 1, 3, none⟩ (.int .i64 7)).setCell ⟨w.heap.size + 1 + 1 + 1 + 1, 4, none⟩ (.int .u32 1048576)).setCell ⟨w.heap.size + 1 + 1 + 1 + 1, 5, none⟩ (.int .i64 n)).setCell ⟨w.heap.size + 1 + 1 + 1 + 1, 6, none⟩ (.int .u32 0)).setCell ⟨w.heap.size + 1 + 1 + 1 + 1, 7, none⟩ (.int .i64 0)).setCell ⟨w.heap.size + 1 + 1 + 1 + 1, 8, none⟩ (.slice T t c)).heap.size T t (tagsO o.S.1 o.S.2 nm)) := Lib.hid (by rw [show ((((((((((w6.setCell ⟨g, 8, none⟩ (.slice T t c)).setCell ⟨w.heap.size + 1 + 1 + 1 + 1, 0, none⟩ (.int .i64 4)).setCell ⟨w.heap.size + 1 + 1 + 1 + 1, 1, none⟩ (.string (bs nm))).setCell ⟨w.heap.size + 1 + 1 + 1 + 1, 2, none⟩ (.int .i64 v)).setCell ⟨w.heap.size + 1 + 1 + 1 + 1, 3, none⟩ (.int .i64 7)).setCell ⟨w.heap.size + 1 + 1 + 1 + 1, 4, none⟩ (.int .u32 1048576)).setCell ⟨w.heap.size + 1 + 1 + 1 + 1, 5, none⟩ (.int .i64 n)).setCell ⟨w.heap.size + 1 + 1 + 1 + 1, 6, none⟩ (.int .u32 0)).setCell ⟨w.heap.size + 1 + 1 + 1 + 1, 7, none⟩ (.int .i64 0)).setCell ⟨w.heap.size + 1 + 1 + 1 + 1, 8, none⟩ (.slice T t c)).heap.size = w6.heap.size by simp]; exact Rd.other (w' := ((((((((((w6.setCell ⟨g, 8, none⟩ (.slice T t c)).setCell ⟨w.heap.size + 1 + 1 + 1 + 1, 0, none⟩ (.int .i64 4)).setCell ⟨w.heap.size + 1 + 1 + 1 + 1, 1, none⟩ (.string (bs nm))).setCell ⟨w.heap.size + 1 + 1 + 1 + 1, 2, none⟩ (.int .i64 v)).setCell ⟨w.heap.size + 1 + 1 + 1 + 1, 3, none⟩ (.int .i64 7)).setCell ⟨w.heap.size + 1 + 1 + 1 + 1, 4, none⟩ (.int .u32 1048576)).setCell ⟨w.heap.size + 1 + 1 + 1 + 1, 5, none⟩ (.int .i64 n)).setCell ⟨w.heap.size + 1 + 1 + 1 + 1, 6, none⟩ (.int .u32 0)).setCell ⟨w.heap.size + 1 + 1 + 1 + 1, 7, none⟩ (.int .i64 0)).setCell ⟨w.heap.size + 1 + 1 + 1 + 1, 8, none⟩ (.slice T t c))) hR1 hT1 e2a (fun b hb => by repeat (first | rw [heap_set_of b hb] | rfl)))
    have hT2 := Lib.hid (TyR.other (w' := ((((((((((w6.setCell ⟨g, 8, none⟩ (.slice T t c)).setCell ⟨w.heap.size + 1 + 1 + 1 + 1, 0, none⟩ (.int .i64 4)).setCell ⟨w.heap.size + 1 + 1 + 1 + 1, 1, none⟩ (.string (bs nm))).setCell ⟨w.heap.size + 1 + 1 + 1 + 1, 2, none⟩ (.int .i64 v)).setCell ⟨w.heap.size + 1 + 1 + 1 + 1, 3, none⟩ (.int .i64 7)).setCell ⟨w.heap.size + 1 + 1 + 1 + 1, 4, none⟩ (.int .u32 1048576)).setCell ⟨w.heap.size + 1 + 1 + 1 + 1, 5, none⟩ (.int .i64 n)).setCell ⟨w.heap.size + 1 + 1 + 1 + 1, 6, none⟩ (.int .u32 0)).setCell ⟨w.heap.size + 1 + 1 + 1 + 1, 7, none⟩ (.int .i64 0)).setCell ⟨w.heap.size + 1 + 1 + 1 + 1, 8, none⟩ (.slice T t c))) hT1 e2a (fun b hb => by repeat (first | rw [heap_set_of b hb] | rfl)))
    clear hR0 hT0 e1a hR1 hT1 hr4 e2a o6
    go_wp2_with fail
    exact bodyPost_ret (v := .tuple #[.agg #[.int .i64 4, .string (bs nm), .int .i64 v, .int .i64 7, .int .u32 1048576, .int .i64 n, .int .u32 0, .int .i64 0, .slice T t c], .int .i64 0]) (by simp [results, Tryz.results16, go_sem, f4_0, f4_1, f4_2, f4_3, f4_4, f4_5, f4_6, f4_7, f4_8]) rfl ⟨⟨4, nm, v, ((7, 1048576), n), (0, 0), tagsO o.S.1 o.S.2 nm⟩, T, t, c, 0, rfl, hGs, fun _ => ⟨heH.out, hkH.out, by simp [effC, tagC], hR2.out, hT2.out⟩⟩
  · have hGs : Below w.heap.size w (((((((((((w5.setCell ⟨g, 6, none⟩ (.int .u32 (1048574 + n))).setCell ⟨g, 7, none⟩ (.int .i64 7)).setCell ⟨w.heap.size + 1 + 1 + 1 + 1, 0, none⟩ (.int .i64 5)).setCell ⟨w.heap.size + 1 + 1 + 1 + 1, 1, none⟩ (.string (bs nm))).setCell ⟨w.heap.size + 1 + 1 + 1 + 1, 2, none⟩ (.int .i64 v)).setCell ⟨w.heap.size + 1 + 1 + 1 + 1, 3, none⟩ (.int .i64 7)).setCell ⟨w.heap.size + 1 + 1 + 1 + 1, 4, none⟩ (.int .u32 1048576)).setCell ⟨w.heap.size + 1 + 1 + 1 + 1, 5, none⟩ (.int .i64 n)).setCell ⟨w.heap.size + 1 + 1 + 1 + 1, 6, none⟩ (.int .u32 (1048574 + n))).setCell ⟨w.heap.size + 1 + 1 + 1 + 1, 7, none⟩ (.int .i64 7)).setCell ⟨w.heap.size + 1 + 1 + 1 + 1, 8, none⟩ (.slice none 0 0)) := (((((((((((hG5.setCell (by dsimp only; omega) _).setCell (by dsimp only; omega) _).setCell (by dsimp only; omega) _).setCell (by dsimp only; omega) _).setCell (by dsimp only; omega) _).setCell (by dsimp only; omega) _).setCell (by dsimp only; omega) _).setCell (by dsimp only; omega) _).setCell (by dsimp only; omega) _).setCell (by dsimp only; omega) _).setCell (by dsimp only; omega) _)
    go_wp2_with fail
    exact bodyPost_ret (v := .tuple #[.agg #[.int .i64 5, .string (bs nm), .int .i64 v, .int .i64 7, .int .u32 1048576, .int .i64 n, .int .u32 (1048574 + n), .int .i64 7, .slice none 0 0], .int .i64 0]) (by simp [results, Tryz.results16, go_sem, f4_0, f4_1, f4_2, f4_3, f4_4, f4_5, f4_6, f4_7, f4_8]) rfl ⟨⟨5, nm, v, ((7, 1048576), n), (1048574 + n, 7), []⟩, none, 0, 0, 0, rfl, hGs, fun _ => ⟨heH.out, hkH.out, by simp [effC, tagC, stampC], Rd.nil_, TyR.nil_ _ _ _⟩⟩
  · go_wp2_with fail
    refine (c6.out _ hG5).mono ?_
    rintro e w6 ⟨T, t, c, rfl, o6, hv6⟩
    have hG6 := hG5.trans (hv6.mono hG5.size)
    have hx6 := blk_below hx5H.out hv6
    have hv6' := hv5.trans (hv6.mono hv5.size)
    clear e0 e1 e2 e3 e4 e5 e6 e7 e8 hltg hfg hv5
    have hltg := blk_lt hx6
    have hfg := blk_frozen hx6
    have e0 := blk_cell hx6 0
    have e1 := blk_cell hx6 1
    have e2 := blk_cell hx6 2
    have e3 := blk_cell hx6 3
    have e4 := blk_cell hx6 4
    have e5 := blk_cell hx6 5
    have e6 := blk_cell hx6 6
    have e7 := blk_cell hx6 7
    have e8 := blk_cell hx6 8
    simp at e0 e1 e2 e3 e4 e5 e6 e7 e8
    clear f0_0 f0_1 f0_2 f0_3 f0_4 f0_5 f0_6 f0_7 f0_8 f0_9 f1_0 f1_1 f1_2 f2_0 f2_1 f2_2 f3_0 f3_1 f4_0 f4_1 f4_2 f4_3 f4_4 f4_5 f4_6 f4_7 f4_8 hl0 hl1 hl2 hl3 hl4 hfr
    have hy0 := blk_below hk0.out hv6'
    have hl0 := blk_lt hy0
    have f0_0 := blk_cell hy0 0
    have f0_1 := blk_cell hy0 1
    have f0_2 := blk_cell hy0 2
    have f0_3 := blk_cell hy0 3
    have f0_4 := blk_cell hy0 4
    have f0_5 := blk_cell hy0 5
    have f0_6 := blk_cell hy0 6
    have f0_7 := blk_cell hy0 7
    have f0_8 := blk_cell hy0 8
    have f0_9 := blk_cell hy0 9
    have hy1 := blk_below hk1.out hv6'
    have hl1 := blk_lt hy1
    have f1_0 := blk_cell hy1 0
    have f1_1 := blk_cell hy1 1
    have f1_2 := blk_cell hy1 2
    have hy2 := blk_below hk2.out hv6'
    have hl2 := blk_lt hy2
    have f2_0 := blk_cell hy2 0
    have f2_1 := blk_cell hy2 1
    have f2_2 := blk_cell hy2 2
    have hy3 := blk_below hk3.out hv6'
    have hl3 := blk_lt hy3
    have f3_0 := blk_cell hy3 0
    have f3_1 := blk_cell hy3 1
    have hy4 := blk_below hk4.out hv6'
    have hl4 := blk_lt hy4
    have f4_0 := blk_cell hy4 0
    have f4_1 := blk_cell hy4 1
    have f4_2 := blk_cell hy4 2
    have f4_3 := blk_cell hy4 3
    have f4_4 := blk_cell hy4 4
    have f4_5 := blk_cell hy4 5
    have f4_6 := blk_cell hy4 6
    have f4_7 := blk_cell hy4 7
    have f4_8 := blk_cell hy4 8
    have hfr := blk_frozen hy4
    simp at f0_0 f0_1 f0_2 f0_3 f0_4 f0_5 f0_6 f0_7 f0_8 f0_9 f1_0 f1_1 f1_2 f2_0 f2_1 f2_2 f3_0 f3_1 f4_0 f4_1 f4_2 f4_3 f4_4 f4_5 f4_6 f4_7 f4_8
    clear hy0 hy1 hy2 hy3 hy4
    have hxg := Lib.hid hx6
    clear hx6
    have hGs : Below w.heap.size w ((((((((((w6.setCell ⟨g, 8, none⟩ (.slice T t c)).setCell ⟨w.heap.size + 1 + 1 + 1 + 1, 0, none⟩ (.int .i64 6)).setCell ⟨w.heap.size + 1 + 1 + 1 + 1, 1, none⟩ (.string (bs nm))).setCell ⟨w.heap.size + 1 + 1 + 1 + 1, 2, none⟩ (.int .i64 v)).setCell ⟨w.heap.size + 1 + 1 + 1 + 1, 3, none⟩ (.int .i64 7)).setCell ⟨w.heap.size + 1 + 1 + 1 + 1, 4, none⟩ (.int .u32 1048576)).setCell ⟨w.heap.size + 1 + 1 + 1 + 1, 5, none⟩ (.int .i64 n)).setCell ⟨w.heap.size + 1 + 1 + 1 + 1, 6, none⟩ (.int .u32 0)).setCell ⟨w.heap.size + 1 + 1 + 1 + 1, 7, none⟩ (.int .i64 0)).setCell ⟨w.heap.size + 1 + 1 + 1 + 1, 8, none⟩ (.slice T t c)) := ((((((((((hG6.setCell (by dsimp only; omega) _).setCell (by dsimp only; omega) _).setCell (by dsimp only; omega) _).setCell (by dsimp only; omega) _).setCell (by dsimp only; omega) _).setCell (by dsimp only; omega) _).setCell (by dsimp only; omega) _).setCell (by dsimp only; omega) _).setCell (by dsimp only; omega) _).setCell (by dsimp only; omega) _)
    have hR0 : RdT w6 w6.heap.size T t (tagsM o.M.1 o.M.2 nm) := o6.rd.1
    have hT0 := o6.ty
    have e1a : ∀ cs, w6.heap[g]? ≠ some (.cells cs 45 (0, 0)) := fun cs h => by rw [hxg.out] at h; injection h with h; injection h with _ h _; exact absurd h (by decide)
    have hR1 := Rd.other (w' := w6.setCell ⟨g, 8, none⟩ (.slice T t c)) hR0 hT0 e1a (fun b hb => heap_set_of b hb)
    have hT1 := TyR.other (w' := w6.setCell ⟨g, 8, none⟩ (.slice T t c)) hT0 e1a (fun b hb => heap_set_of b hb)
    have hr4 : (w6.setCell ⟨g, 8, none⟩ (.slice T t c)).heap[w.heap.size + 1 + 1 + 1 + 1]? = some (.cells #[.int .i64 0, .string ⟨#[]⟩, .int .i64 0, .int .i64 0, .int .u32 0, .int .i64 0, .int .u32 0, .int .i64 0, .slice none 0 0] 87 (0, 0)) := heap_set_ne (p := ⟨g, 8, none⟩) hz4 (blk_below hk4.out hv6')
    have e2a : ∀ cs, (w6.setCell ⟨g, 8, none⟩ (.slice T t c)).heap[w.heap.size + 1 + 1 + 1 + 1]? ≠ some (.cells cs 45 (0, 0)) := fun cs h => by rw [hr4] at h; injection h with h; injection h with _ h _; exact absurd h (by decide)
    have hR2 : Hid (RdT ((((((((((w6.setCell ⟨g, 8, none⟩ (.slice T t c)).setCell ⟨w.heap.size + 1 + 1 + 1 + 1, 0, none⟩ (.int .i64 6)).setCell ⟨w.heap.size + 1 + 1 + 1 + 1, 1, none⟩ (.string (bs nm))).setCell ⟨w.heap.size + 1 + 1 + 1 + 1, 2, none⟩ (.int .i64 v)).setCell ⟨w.heap.size + 1 + 1 + 1 + 1, 3, none⟩ (.int .i64 7)).setCell ⟨w.heap.size + 1 + 1 + 1 + 1, 4, none⟩ (.int .u32 1048576)).setCell ⟨w.heap.size + 1 + 1 + 1 + 1, 5, none⟩ (.int .i64 n)).setCell ⟨w.heap.size + 1 + 1 + 1 + 1, 6, none⟩ (.int .u32 0)).setCell ⟨w.heap.size + 1 + 1 + 1 + 1, 7, none⟩ (.int .i64 0)).setCell ⟨w.heap.size + 1 + 1 + 1 + 1, 8, none⟩ (.slice T t c)) ((((((((((w6.setCell ⟨g, 8, none⟩ (.slice T t c)).setCell ⟨w.heap.size + 1 + 1 + 1 + 1, 0, none⟩ (.int .i64 6)).setCell ⟨w.heap.size + 1 + 1 + 1 + 1, 1, none⟩ (.string (bs nm))).setCell ⟨w.heap.size + 1 + 1 + 1 + 1, 2, none⟩ (.int .i64 v)).setCell ⟨w.heap.size + 1 + 1 + 1 + 1, 3, none⟩ (.int .i64 7)).setCell ⟨w.heap.size + 1 + 1 + 1 + 1, 4, none⟩ (.int .u32 1048576)).setCell ⟨w.heap.size + 1 + 1 + 1 + 1, 5, none⟩ (.int .i64 n)).setCell ⟨w.heap.size + 1 + 1 + 1 + 1, 6, none⟩ (.int .u32 0)).setCell ⟨w.heap.size + 1 + 1 + 1 + 1, 7, none⟩ (.int .i64 0)).setCell ⟨w.heap.size + 1 + 1 + 1 + 1, 8, none⟩ (.slice T t c)).heap.size T t (tagsM o.M.1 o.M.2 nm)) := Lib.hid (by rw [show ((((((((((w6.setCell ⟨g, 8, none⟩ (.slice T t c)).setCell ⟨w.heap.size + 1 + 1 + 1 + 1, 0, none⟩ (.int .i64 6)).setCell ⟨w.heap.size + 1 + 1 + 1 + 1, 1, none⟩ (.string (bs nm))).setCell ⟨w.heap.size + 1 + 1 + 1 + 1, 2, none⟩ (.int .i64 v)).setCell ⟨w.heap.size + 1 + 1 + 1 + 1, 3, none⟩ (.int .i64 7)).setCell ⟨w.heap.size + 1 + 1 + 1 + 1, 4, none⟩ (.int .u32 1048576)).setCell ⟨w.heap.size + 1 + 1 + 1 + 1, 5, none⟩ (.int .i64 n)).setCell ⟨w.heap.size + 1 + 1 + 1 + 1, 6, none⟩ (.int .u32 0)).setCell ⟨w.heap.size + 1 + 1 + 1 + 1, 7, none⟩ (.int .i64 0)).setCell ⟨w.heap.size + 1 + 1 + 1 + 1, 8, none⟩ (.slice T t c)).heap.size = w6.heap.size by simp]; exact Rd.other (w' := ((((((((((w6.setCell ⟨g, 8, none⟩ (.slice T t c)).setCell ⟨w.heap.size + 1 + 1 + 1 + 1, 0, none⟩ (.int .i64 6)).setCell ⟨w.heap.size + 1 + 1 + 1 + 1, 1, none⟩ (.string (bs nm))).setCell ⟨w.heap.size + 1 + 1 + 1 + 1, 2, none⟩ (.int .i64 v)).setCell ⟨w.heap.size + 1 + 1 + 1 + 1, 3, none⟩ (.int .i64 7)).setCell ⟨w.heap.size + 1 + 1 + 1 + 1, 4, none⟩ (.int .u32 1048576)).setCell ⟨w.heap.size + 1 + 1 + 1 + 1, 5, none⟩ (.int .i64 n)).setCell ⟨w.heap.size + 1 + 1 + 1 + 1, 6, none⟩ (.int .u32 0)).setCell ⟨w.heap.size + 1 + 1 + 1 + 1, 7, none⟩ (.int .i64 0)).setCell ⟨w.heap.size + 1 + 1 + 1 + 1, 8, none⟩ (.slice T t c))) hR1 hT1 e2a (fun b hb => by repeat (first | rw [heap_set_of b hb] | rfl)))
    have hT2 := Lib.hid (TyR.other (w' := ((((((((((w6.setCell ⟨g, 8, none⟩ (.slice T t c)).setCell ⟨w.heap.size + 1 + 1 + 1 + 1, 0, none⟩ (.int .i64 6)).setCell ⟨w.heap.size + 1 + 1 + 1 + 1, 1, none⟩ (.string (bs nm))).setCell ⟨w.heap.size + 1 + 1 + 1 + 1, 2, none⟩ (.int .i64 v)).setCell ⟨w.heap.size + 1 + 1 + 1 + 1, 3, none⟩ (.int .i64 7)).setCell ⟨w.heap.size + 1 + 1 + 1 + 1, 4, none⟩ (.int .u32 1048576)).setCell ⟨w.heap.size + 1 + 1 + 1 + 1, 5, none⟩ (.int .i64 n)).setCell ⟨w.heap.size + 1 + 1 + 1 + 1, 6, none⟩ (.int .u32 0)).setCell ⟨w.heap.size + 1 + 1 + 1 + 1, 7, none⟩ (.int .i64 0)).setCell ⟨w.heap.size + 1 + 1 + 1 + 1, 8, none⟩ (.slice T t c))) hT1 e2a (fun b hb => by repeat (first | rw [heap_set_of b hb] | rfl)))
    clear hR0 hT0 e1a hR1 hT1 hr4 e2a o6
    go_wp2_with fail
    exact bodyPost_ret (v := .tuple #[.agg #[.int .i64 6, .string (bs nm), .int .i64 v, .int .i64 7, .int .u32 1048576, .int .i64 n, .int .u32 0, .int .i64 0, .slice T t c], .int .i64 0]) (by simp [results, Tryz.results16, go_sem, f4_0, f4_1, f4_2, f4_3, f4_4, f4_5, f4_6, f4_7, f4_8]) rfl ⟨⟨6, nm, v, ((7, 1048576), n), (0, 0), tagsM o.M.1 o.M.2 nm⟩, T, t, c, 0, rfl, hGs, fun _ => ⟨heH.out, hkH.out, by simp [effC, tagC], hR2.out, hT2.out⟩⟩
  · exact absurd heH.out (by unfold errOp; rw [if_pos ha0]; decide)
end Go.Proofs.YtffnpfponnhddaaGreat
