/- What an object says: obj.Say. -/
import Derived.Test.YtffnpfponnhddaaGreatN27
import Derived.Test.YtffnpfponnhddaaGreatN29
import Derived.Test.YtffnpfponnhddaaGreatN40
import Derived.Test.YtffnpfponnhddaaGreatOpL
namespace Go.Proofs.YtffnpfponnhddaaGreat
open Go.RowKit

def sayKd (o : Ob) : Int := if o.kd = 1 ∨ o.kd = 2 ∨ o.kd = 3 ∨ o.kd = 4 then o.kd else 0
def sayVl (o : Ob) : Int := if o.kd = 1 then o.rv else if o.kd = 2 then (if chkN o.pl o.mi ≠ 0 then 0 else o.pl - o.mi) else 0
def sayIt (o : Ob) : List Itm := if o.kd = 3 then (elemsO o.S.1 o.S.2).map (fun e => (e, 0)) else if o.kd = 4 then itemsM o.M.1 o.M.2 else []
def PostV (w : World) (o : Ob) (e : Ending) (w' : World) : Prop :=
  ∃ A n c, e = .returned (.agg #[.int .i64 (sayKd o), .int .i64 (sayVl o), .slice A n c]) ∧ RdIt w' w'.heap.size A n (sayIt o) ∧ n ≤ 1000000 ∧ Below w.heap.size w w'
theorem infoItmP : (Tryz.prog.info? 99).map (fun i => (i.zero, i.size, i.bytes)) = some (some (.agg #[.string ⟨#[]⟩, .int .i64 0]), 2, 24) := by kernel_rfl
theorem eItmP : ElemInfo Tryz.prog 73 99 2 24 := by
  obtain ⟨i, hi, h0, h1, h2⟩ := info_parts infoItmP
  exact ⟨Tryz.underlying73, ⟨i, _, hi, h0, h1, h2, rfl⟩, by decide⟩
theorem elemsO_len (xs : List Am) (gs : List Tm) : (elemsO xs gs).length ≤ xs.length := by
  unfold elemsO
  split
  · exact Nat.zero_le _
  · have h := insAll_len (xs.map Prod.snd) []
    rw [List.length_map, List.length_nil] at h
    omega
theorem itemsM_len (xs : List Pm) (gs : List Tm) : (itemsM xs gs).length ≤ xs.length := by
  unfold itemsM
  split
  · exact Nat.zero_le _
  · rw [List.length_map]
    have h := insAll_len ((xs.take xs.length).map fun p => p.2.1) []
    rw [List.length_map, List.length_take, List.length_nil] at h
    unfold fieldsM
    omega
def eI0 (e : List UInt8) : List Value := [.string (bs e), .int .i64 0]
set_option maxRecDepth 100000 in
set_option maxHeartbeats 8000000 in
theorem say_any (o : Ob) (r : Rw) (w : World) (h : ObIn w o r) (hok : o.Ok) :
    Calls Tryz.prog 12 #[.agg #[.int .i64 o.kd, .int .i64 o.rv, .int .u32 o.rt, .int .i64 o.ro, .int .i64 o.pl, .int .i64 o.mi, .slice r.A r.n r.c, .slice r.B r.m r.d, .slice r.P r.k r.e, .slice r.Q r.l r.f]] w (PostV w o) := by
  have cN := Lib.hid (fun w' => nvalue_any o.pl o.mi w')
  have cE := Lib.hid (fun w' (hb : Below w.heap.size w w') => oelems_any r.A r.n r.c o.S.1 r.B r.m r.d o.S.2 w' ((h.ra.below hb).more hb.size) ((h.rb.below hb).more hb.size) h.hn h.hm hok.wx hok.wg hok.wl)
  have cM := Lib.hid (fun w' (hb : Below w.heap.size w w') => mitems_any r.P r.k r.e o.M.1 r.Q r.l r.f o.M.2 w' ((h.rp.below hb).more hb.size) ((h.rq.below hb).more hb.size) h.hk h.hl hok.px hok.pg hok.pl)
  have hEl : (elemsO o.S.1 o.S.2).length ≤ 100000 := by have := elemsO_len o.S.1 o.S.2; have := h.ra.len; have := h.hn; omega
  have hMl : (itemsM o.M.1 o.M.2).length ≤ 100000 := by have := itemsM_len o.M.1 o.M.2; have := h.rp.len; have := h.hk; omega
  clear h hok
  have hb0 : Below w.heap.size w (((w.alloc (.cells #[.int .i64 o.kd, .int .i64 o.rv, .int .u32 o.rt, .int .i64 o.ro, .int .i64 o.pl, .int .i64 o.mi, .slice r.A r.n r.c, .slice r.B r.m r.d, .slice r.P r.k r.e, .slice r.Q r.l r.f] 64)).alloc (.cells #[.int .i64 0, .int .i64 0, .slice none 0 0] 75)).alloc (.cells #[.int .i64 o.kd, .int .i64 0, .slice none 0 0] 75)) := (((Below.refl _ w).alloc (by first | (simp; done) | (simp; omega) | omega) _).alloc (by first | (simp; done) | (simp; omega) | omega) _).alloc (by first | (simp; done) | (simp; omega) | omega) _
  have hx0 : (((w.alloc (.cells #[.int .i64 o.kd, .int .i64 o.rv, .int .u32 o.rt, .int .i64 o.ro, .int .i64 o.pl, .int .i64 o.mi, .slice r.A r.n r.c, .slice r.B r.m r.d, .slice r.P r.k r.e, .slice r.Q r.l r.f] 64)).alloc (.cells #[.int .i64 0, .int .i64 0, .slice none 0 0] 75)).alloc (.cells #[.int .i64 o.kd, .int .i64 0, .slice none 0 0] 75)).heap[w.heap.size]? = some (.cells #[.int .i64 o.kd, .int .i64 o.rv, .int .u32 o.rt, .int .i64 o.ro, .int .i64 o.pl, .int .i64 o.mi, .slice r.A r.n r.c, .slice r.B r.m r.d, .slice r.P r.k r.e, .slice r.Q r.l r.f] 64 (0, 0)) := heap_old _ (by first | (simp; done) | (simp; omega) | omega) (heap_old _ (by first | (simp; done) | (simp; omega) | omega) (heap_at _ _ rfl))
  have hx1 : (((w.alloc (.cells #[.int .i64 o.kd, .int .i64 o.rv, .int .u32 o.rt, .int .i64 o.ro, .int .i64 o.pl, .int .i64 o.mi, .slice r.A r.n r.c, .slice r.B r.m r.d, .slice r.P r.k r.e, .slice r.Q r.l r.f] 64)).alloc (.cells #[.int .i64 0, .int .i64 0, .slice none 0 0] 75)).alloc (.cells #[.int .i64 o.kd, .int .i64 0, .slice none 0 0] 75)).heap[w.heap.size + 1]? = some (.cells #[.int .i64 0, .int .i64 0, .slice none 0 0] 75 (0, 0)) := heap_old _ (by first | (simp; done) | (simp; omega) | omega) (heap_at _ _ (by simp))
  have hx2 : (((w.alloc (.cells #[.int .i64 o.kd, .int .i64 o.rv, .int .u32 o.rt, .int .i64 o.ro, .int .i64 o.pl, .int .i64 o.mi, .slice r.A r.n r.c, .slice r.B r.m r.d, .slice r.P r.k r.e, .slice r.Q r.l r.f] 64)).alloc (.cells #[.int .i64 0, .int .i64 0, .slice none 0 0] 75)).alloc (.cells #[.int .i64 o.kd, .int .i64 0, .slice none 0 0] 75)).heap[w.heap.size + 1 + 1]? = some (.cells #[.int .i64 o.kd, .int .i64 0, .slice none 0 0] 75 (0, 0)) := heap_at _ _ (by simp)
  have hzW : (((w.alloc (.cells #[.int .i64 o.kd, .int .i64 o.rv, .int .u32 o.rt, .int .i64 o.ro, .int .i64 o.pl, .int .i64 o.mi, .slice r.A r.n r.c, .slice r.B r.m r.d, .slice r.P r.k r.e, .slice r.Q r.l r.f] 64)).alloc (.cells #[.int .i64 0, .int .i64 0, .slice none 0 0] 75)).alloc (.cells #[.int .i64 o.kd, .int .i64 0, .slice none 0 0] 75)).heap.size = w.heap.size + 1 + 1 + 1 := by simp
  go_enter Tryz.func12, Tryz.ntmps12
  go_upto_region 2 with (fail)
  generalize hW : (((w.alloc (.cells #[.int .i64 o.kd, .int .i64 o.rv, .int .u32 o.rt, .int .i64 o.ro, .int .i64 o.pl, .int .i64 o.mi, .slice r.A r.n r.c, .slice r.B r.m r.d, .slice r.P r.k r.e, .slice r.Q r.l r.f] 64)).alloc (.cells #[.int .i64 0, .int .i64 0, .slice none 0 0] 75)).alloc (.cells #[.int .i64 o.kd, .int .i64 0, .slice none 0 0] 75)) = W at hb0 hx0 hx1 hx2 hzW ⊢
  have hk0 := Lib.hid hx0
  have hk1 := Lib.hid hx1
  have hk2 := Lib.hid hx2
  clear hx0 hx1 hx2 hW
  have hy0 := hk0.out
  have hl0 := blk_lt hy0
  have f0_0 := blk_cell hy0 0
  have f0_1 := blk_cell hy0 1
  have f0_2 := blk_cell hy0 2
  have f0_3 := blk_cell hy0 3
  have f0_4 := blk_cell hy0 4
  have f0_5 := blk_cell hy0 5
  have f0_6 := blk_cell hy0 6
  have f0_7 := blk_cell hy0 7
  have f0_8 := blk_cell hy0 8
  have f0_9 := blk_cell hy0 9
  have hy1 := hk1.out
  have hl1 := blk_lt hy1
  have f1_0 := blk_cell hy1 0
  have f1_1 := blk_cell hy1 1
  have f1_2 := blk_cell hy1 2
  have hy2 := hk2.out
  have hl2 := blk_lt hy2
  have f2_0 := blk_cell hy2 0
  have f2_1 := blk_cell hy2 1
  have f2_2 := blk_cell hy2 2
  have hfr1 := blk_frozen hy1
  have hfr2 := blk_frozen hy2
  simp at f0_0 f0_1 f0_2 f0_3 f0_4 f0_5 f0_6 f0_7 f0_8 f0_9 f1_0 f1_1 f1_2 f2_0 f2_1 f2_2
  clear hy0 hy1 hy2
  by_cases k1 : o.kd = 1
  · have s1 : Hid (sayKd o = 1) := Lib.hid (by simp [sayKd, k1])
    have s2 : Hid (sayVl o = o.rv) := Lib.hid (by simp [sayVl, k1])
    have s3 : Hid (sayIt o = []) := Lib.hid (by simp [sayIt, k1])
    rw [k1] at f0_0 f2_0
    have hGs : Below w.heap.size w ((((W.setCell ⟨w.heap.size + 1 + 1, 1, none⟩ (.int .i64 o.rv)).setCell ⟨w.heap.size + 1, 0, none⟩ (.int .i64 1)).setCell ⟨w.heap.size + 1, 1, none⟩ (.int .i64 o.rv)).setCell ⟨w.heap.size + 1, 2, none⟩ (.slice none 0 0)) := ((((hb0.setCell (by dsimp only; omega) _).setCell (by dsimp only; omega) _).setCell (by dsimp only; omega) _).setCell (by dsimp only; omega) _)
    go_wp2_with fail
    exact bodyPost_ret (v := .agg #[.int .i64 1, .int .i64 o.rv, .slice none 0 0]) (by simp [results, Tryz.results12, go_sem, f1_0, f1_1, f1_2]) rfl ⟨none, 0, 0, by rw [s1.out, s2.out], by rw [s3.out]; exact Rd.nil_, by omega, hGs⟩
  have d1 : (o.kd == 1) = false := by simpa using k1
  by_cases k2 : o.kd = 2
  · have s1 : Hid (sayKd o = 2) := Lib.hid (by simp [sayKd, k2])
    have s2 : Hid (sayVl o = (if chkN o.pl o.mi ≠ 0 then 0 else o.pl - o.mi)) := Lib.hid (by simp [sayVl, k2])
    have s3 : Hid (sayIt o = []) := Lib.hid (by simp [sayIt, k2])
    generalize (if chkN o.pl o.mi ≠ 0 then 0 else o.pl - o.mi) = q at *
    rw [k2] at f0_0 f2_0
    go_wp2_with fail
    refine (cN.out _).mono ?_
    rintro e w1 ⟨rfl, hv1⟩
    have hG1 := hb0.trans (hv1.mono hb0.size)
    clear f0_0 f0_1 f0_2 f0_3 f0_4 f0_5 f0_6 f0_7 f0_8 f0_9 f1_0 f1_1 f1_2 f2_0 f2_1 f2_2 hl0 hl1 hl2 hfr1 hfr2
    have hy0 := blk_below hk0.out hv1
    have hl0 := blk_lt hy0
    have f0_0 := blk_cell hy0 0
    have f0_1 := blk_cell hy0 1
    have f0_2 := blk_cell hy0 2
    have f0_3 := blk_cell hy0 3
    have f0_4 := blk_cell hy0 4
    have f0_5 := blk_cell hy0 5
    have f0_6 := blk_cell hy0 6
    have f0_7 := blk_cell hy0 7
    have f0_8 := blk_cell hy0 8
    have f0_9 := blk_cell hy0 9
    have hy1 := blk_below hk1.out hv1
    have hl1 := blk_lt hy1
    have f1_0 := blk_cell hy1 0
    have f1_1 := blk_cell hy1 1
    have f1_2 := blk_cell hy1 2
    have hy2 := blk_below hk2.out hv1
    have hl2 := blk_lt hy2
    have f2_0 := blk_cell hy2 0
    have f2_1 := blk_cell hy2 1
    have f2_2 := blk_cell hy2 2
    have hfr1 := blk_frozen hy1
    have hfr2 := blk_frozen hy2
    simp at f0_0 f0_1 f0_2 f0_3 f0_4 f0_5 f0_6 f0_7 f0_8 f0_9 f1_0 f1_1 f1_2 f2_0 f2_1 f2_2
    clear hy0 hy1 hy2
    rw [k2] at f0_0 f2_0
    have hGs : Below w.heap.size w ((((w1.setCell ⟨w.heap.size + 1 + 1, 1, none⟩ (.int .i64 q)).setCell ⟨w.heap.size + 1, 0, none⟩ (.int .i64 2)).setCell ⟨w.heap.size + 1, 1, none⟩ (.int .i64 q)).setCell ⟨w.heap.size + 1, 2, none⟩ (.slice none 0 0)) := ((((hG1.setCell (by dsimp only; omega) _).setCell (by dsimp only; omega) _).setCell (by dsimp only; omega) _).setCell (by dsimp only; omega) _)
    go_wp2_with fail
    exact bodyPost_ret (v := .agg #[.int .i64 2, .int .i64 q, .slice none 0 0]) (by simp [results, Tryz.results12, go_sem, f1_0, f1_1, f1_2]) rfl ⟨none, 0, 0, by rw [s1.out, s2.out], by rw [s3.out]; exact Rd.nil_, by omega, hGs⟩
  have d2 : (o.kd == 2) = false := by simpa using k2
  by_cases k3 : o.kd = 3
  · have s1 : Hid (sayKd o = 3) := Lib.hid (by simp [sayKd, k3])
    have s2 : Hid (sayVl o = 0) := Lib.hid (by simp [sayVl, k3])
    have s3 : Hid (sayIt o = (elemsO o.S.1 o.S.2).map (fun e => (e, 0))) := Lib.hid (by simp [sayIt, k3])
    rw [k3] at f0_0 f2_0
    go_wp2_with fail
    refine (cE.out _ hb0).mono ?_
    rintro e w1 ⟨T, t, c', rfl, o1, hv1⟩
    generalize elemsO o.S.1 o.S.2 = EL at *
    have hEt : EL.length = t := by simpa using o1.rd.2.1
    have hG1 := hb0.trans (hv1.mono hb0.size)
    have hR1 := Lib.hid o1.rd.1
    have hj1 := Lib.hid (blk_below hk1.out hv1)
    have hj2 := Lib.hid (k3 ▸ blk_below hk2.out hv1)
    have hz1 := hv1.size
    clear cE cM cN hv1 hb0 k1 k2 d1 d2 f0_0 f0_1 f0_2 f0_3 f0_4 f0_5 f0_6 f0_7 f0_8 f0_9 f1_0 f1_1 f1_2 f2_0 f2_1 f2_2 hl0 hl1 hl2 hfr1 hfr2
    have ho1 := Lib.hid o1
    clear hR1
    go_upto_region 10 with (fail)
    go_loopg [30] (t + 1) (fun g i wr => ∃ (k : Nat) (A' : Option Addr) (c2 : Nat), k ≤ t ∧ g = t + 1 - k ∧ i = .int .i64 (k : Int) ∧ wr.heap[w.heap.size + 1]? = some (.cells #[.int .i64 0, .int .i64 0, .slice none 0 0] 75 (0, 0)) ∧ wr.heap[w.heap.size + 1 + 1]? = some (.cells #[.int .i64 3, .int .i64 0, .slice A' k c2] 75 (0, 0)) ∧ Ow wr W.heap.size 9 1 (.slice T t c') (EL.map encS) ∧ Ow wr (w.heap.size + 1 + 1 + 1) 99 2 (.slice A' k c2) ((EL.take k).map eI0) ∧ Below w.heap.size w wr)
    case atStart => exact ⟨0, none, 0, Nat.zero_le _, rfl, rfl, hj1.out, hj2.out, ho1.out, Ow.nil_ _ _ _ _, hG1⟩
    case round =>
      obtain ⟨k, A', c2, hk, rfl, rfl, hr, ho, hoT, hown, hbr⟩ := hrel
      have hz := hbr.size
      have hlr := blk_lt hr
      have hlo := blk_lt ho
      have r0 := blk_cell hr 0
      have r1 := blk_cell hr 1
      have r2 := blk_cell hr 2
      have o0 := blk_cell ho 0
      have o1 := blk_cell ho 1
      have o2 := blk_cell ho 2
      have of := blk_frozen ho
      have rf := blk_frozen hr
      simp at r0 r1 r2 o0 o1 o2
      have hrH := Lib.hid hr
      have hoH := Lib.hid ho
      have hoTH := Lib.hid hoT
      clear hr ho
      have htc := hoT.rd.2.2.1
      have htm := hoT.rd.2.2.2
      unfold maxLen at htm
      by_cases hlt : k < t
      · obtain ⟨bA, oA, u, rfl, hbA, hq, hcp⟩ := hoT.rd.1.at_ hlt
        have p0 := hcp 0 (.string (bs u)) rfl
        simp at p0
        clear hcp
        have hst : Hid ((EL.take (k + 1)).map eI0 = (EL.take k).map eI0 ++ [eI0 u]) := Lib.hid (by rw [List.take_add_one, hq]; simp)
        have hlk : Hid (((EL.take k).map eI0).length = k) := Lib.hid (by simp; omega)
        have hlti : (k : Int) < (t : Int) := by omega
        clear hq
        have hlen1 : ∀ y ∈ ([[.string (bs u), .int .i64 0]] : List (List Value)), y.length = 2 := by simp
        have hone1 : ∀ y ∈ ([[.string (bs u), .int .i64 0]] : List (List Value)), ∀ v ∈ y, v.oneCell' = true := by simp [Value.oneCell']
        have hbk := hown.block
        have hbO : Below wr.heap.size wr (wr.alloc (.cells #[.string (bs u), .int .i64 0] 99)) := (Below.refl _ wr).alloc (Nat.le_refl _) _
        go_wp2_with (at_builtin; refine wpList_append_rd _ rfl _ _ _ rfl eItmP (base := w.heap.size + 1 + 1 + 1) (v := .slice A' k c2) (xs := (EL.take k).map eI0) rfl (hown.below hbO) rfl (Rd.one' [.string (bs u), .int .i64 0] rfl) hlen1 hone1 (by rw [hlk.out]; unfold maxLen; omega) (by rw [hlk.out]; omega) (by simp at *; omega) ?_; intro A2 n2 c3 w4 hn2 hown4 hg4 hat4; (obtain rfl : n2 = k + 1 := (by rw [hn2, hlk.out])); clear hn2; have hW5 := blk_below hoH.out hbO; have hR5 := blk_below hrH.out hbO; have hT5 := hoTH.out.below hbO; have hW6 : w4.heap[w.heap.size + 1 + 1]? = some (.cells #[.int .i64 3, .int .i64 0, .slice A' k c2] 75 (0, 0)) := (hg4.block _ (blk_lt hW5) (fun e => by have := (hbk _ e.symm).1; omega)).trans hW5; have hR6 : w4.heap[w.heap.size + 1]? = some (.cells #[.int .i64 0, .int .i64 0, .slice none 0 0] 75 (0, 0)) := (hg4.block _ (blk_lt hR5) (fun e => by have := (hbk _ e.symm).1; omega)).trans hR5; have hT6 := hT5.other (hown.below hbO) (by decide) hg4; have hG6 := (hbr.alloc (by omega) (.cells #[.string (bs u), .int .i64 0] 99)).grown hg4 (by first | (simp; done) | (simp; omega) | omega) (fun g e => by have := (hbk g e).1; omega); have hW6H := Lib.hid hW6; have hR6H := Lib.hid hR6; have hT6H := Lib.hid hT6; have hG6H := Lib.hid hG6; have of6 := blk_frozen hW6; have ol6 := blk_lt hW6; have o60 := blk_cell hW6 2; simp at o60; clear hW5 hR5 hT5 hW6 hR6 hT6 hG6)
        go_roundg (t + 1 - (k + 1))
        case measure => omega
        case rel =>
          refine ⟨k + 1, A2, c3, by omega, rfl, by go_num, heap_set_ne (by dsimp only; omega) hR6H.out, by rw [blk_set hW6H.out]; rfl, hT6H.out.set_blk hW6H.out (by decide) 2 _, ?_, hG6H.out.setCell (by dsimp only; omega) _⟩
          rw [hst.out]
          exact hown4.set_blk hW6H.out (by decide) 2 _
      · obtain rfl : k = t := by omega
        have hfin : Hid ((EL.take k).map eI0 = (EL.map (fun e => (e, (0 : Int)))).map Itm.enc) := Lib.hid (by rw [List.take_of_length_le (by omega), List.map_map]; rfl)
        have hnli : ¬ (k : Int) < (k : Int) := by omega
        have hownH := Lib.hid hown
        have hbrH := Lib.hid hbr
        have hGs : Below w.heap.size w (((wr.setCell ⟨w.heap.size + 1, 0, none⟩ (.int .i64 3)).setCell ⟨w.heap.size + 1, 1, none⟩ (.int .i64 0)).setCell ⟨w.heap.size + 1, 2, none⟩ ((.slice A' k c2))) := (((hbr.setCell (by dsimp only; omega) _).setCell (by dsimp only; omega) _).setCell (by dsimp only; omega) _)
        have hRr := hrH.out
        have hI1 : Rd wr wr.heap.size 2 A' k ((EL.take k).map eI0) := hown.rd.1
        have hT1 := hown.ty
        have e1 : ∀ cs, wr.heap[w.heap.size + 1]? ≠ some (.cells cs 99 (0, 0)) := fun cs h => by rw [hRr] at h; injection h with h; injection h with _ h _; exact absurd h (by decide)
        have hI2 : Hid (RdIt (((wr.setCell ⟨w.heap.size + 1, 0, none⟩ (.int .i64 3)).setCell ⟨w.heap.size + 1, 1, none⟩ (.int .i64 0)).setCell ⟨w.heap.size + 1, 2, none⟩ ((.slice A' k c2))) (((wr.setCell ⟨w.heap.size + 1, 0, none⟩ (.int .i64 3)).setCell ⟨w.heap.size + 1, 1, none⟩ (.int .i64 0)).setCell ⟨w.heap.size + 1, 2, none⟩ ((.slice A' k c2))).heap.size A' k (EL.map (fun e => (e, (0 : Int))))) := Lib.hid (by rw [show (((wr.setCell ⟨w.heap.size + 1, 0, none⟩ (.int .i64 3)).setCell ⟨w.heap.size + 1, 1, none⟩ (.int .i64 0)).setCell ⟨w.heap.size + 1, 2, none⟩ ((.slice A' k c2))).heap.size = wr.heap.size by simp]; unfold RdIt; rw [← hfin.out]; exact Rd.other (w' := (((wr.setCell ⟨w.heap.size + 1, 0, none⟩ (.int .i64 3)).setCell ⟨w.heap.size + 1, 1, none⟩ (.int .i64 0)).setCell ⟨w.heap.size + 1, 2, none⟩ ((.slice A' k c2)))) hI1 hT1 e1 (fun b hb => by repeat (first | rw [heap_set_of b hb] | rfl)))
        clear hI1 hT1 e1 hown hoT hRr
        go_wp2_with fail
        exact bodyPost_ret (v := .agg #[.int .i64 3, .int .i64 0, .slice A' k c2]) (by simp [results, Tryz.results12, go_sem, r0, r1, r2]) rfl ⟨A', k, c2, by rw [s1.out, s2.out], by rw [s3.out]; exact hI2.out, by omega, hGs⟩
  have d3 : (o.kd == 3) = false := by simpa using k3
  by_cases k4 : o.kd = 4
  · have s1 : Hid (sayKd o = 4) := Lib.hid (by simp [sayKd, k4])
    have s2 : Hid (sayVl o = 0) := Lib.hid (by simp [sayVl, k4])
    have s3 : Hid (sayIt o = itemsM o.M.1 o.M.2) := Lib.hid (by simp [sayIt, k4])
    rw [k4] at f0_0 f2_0
    go_wp2_with fail
    refine (cM.out _ hb0).mono ?_
    rintro e w1 ⟨T, t, c', rfl, o1, hv1⟩
    generalize itemsM o.M.1 o.M.2 = IL at *
    have hEt : IL.length = t := by simpa using o1.rd.2.1
    have hG1 := hb0.trans (hv1.mono hb0.size)
    clear f0_0 f0_1 f0_2 f0_3 f0_4 f0_5 f0_6 f0_7 f0_8 f0_9 f1_0 f1_1 f1_2 f2_0 f2_1 f2_2 hl0 hl1 hl2 hfr1 hfr2
    have hy0 := blk_below hk0.out hv1
    have hl0 := blk_lt hy0
    have f0_0 := blk_cell hy0 0
    have f0_1 := blk_cell hy0 1
    have f0_2 := blk_cell hy0 2
    have f0_3 := blk_cell hy0 3
    have f0_4 := blk_cell hy0 4
    have f0_5 := blk_cell hy0 5
    have f0_6 := blk_cell hy0 6
    have f0_7 := blk_cell hy0 7
    have f0_8 := blk_cell hy0 8
    have f0_9 := blk_cell hy0 9
    have hy1 := blk_below hk1.out hv1
    have hl1 := blk_lt hy1
    have f1_0 := blk_cell hy1 0
    have f1_1 := blk_cell hy1 1
    have f1_2 := blk_cell hy1 2
    have hy2 := blk_below hk2.out hv1
    have hl2 := blk_lt hy2
    have f2_0 := blk_cell hy2 0
    have f2_1 := blk_cell hy2 1
    have f2_2 := blk_cell hy2 2
    have hfr1 := blk_frozen hy1
    have hfr2 := blk_frozen hy2
    simp at f0_0 f0_1 f0_2 f0_3 f0_4 f0_5 f0_6 f0_7 f0_8 f0_9 f1_0 f1_1 f1_2 f2_0 f2_1 f2_2
    clear hy0 hy1 hy2
    rw [k4] at f0_0 f2_0
    have hj1 := blk_below hk1.out hv1
    have hj2 := blk_below hk2.out hv1
    have hGs : Below w.heap.size w ((((w1.setCell ⟨w.heap.size + 1 + 1, 2, none⟩ (.slice T t c')).setCell ⟨w.heap.size + 1, 0, none⟩ (.int .i64 4)).setCell ⟨w.heap.size + 1, 1, none⟩ (.int .i64 0)).setCell ⟨w.heap.size + 1, 2, none⟩ (.slice T t c')) := ((((hG1.setCell (by dsimp only; omega) _).setCell (by dsimp only; omega) _).setCell (by dsimp only; omega) _).setCell (by dsimp only; omega) _)
    have hR1 : RdIt w1 w1.heap.size T t IL := o1.rd.1
    have hT1 := o1.ty
    have e1 : ∀ cs, w1.heap[w.heap.size + 1 + 1]? ≠ some (.cells cs 99 (0, 0)) := fun cs h => by rw [hj2] at h; injection h with h; injection h with _ h _; exact absurd h (by decide)
    have hR2 := Rd.other (w' := (w1.setCell ⟨w.heap.size + 1 + 1, 2, none⟩ (.slice T t c'))) hR1 hT1 e1 (fun b hb => heap_set_of b hb)
    have hT2 := TyR.other (w' := (w1.setCell ⟨w.heap.size + 1 + 1, 2, none⟩ (.slice T t c'))) hT1 e1 (fun b hb => heap_set_of b hb)
    have e2 : ∀ cs, ((w1.setCell ⟨w.heap.size + 1 + 1, 2, none⟩ (.slice T t c'))).heap[w.heap.size + 1]? ≠ some (.cells cs 99 (0, 0)) := fun cs h => by rw [heap_set_of _ (by omega), hj1] at h; injection h with h; injection h with _ h _; exact absurd h (by decide)
    have hR3 : Hid (RdIt ((((w1.setCell ⟨w.heap.size + 1 + 1, 2, none⟩ (.slice T t c')).setCell ⟨w.heap.size + 1, 0, none⟩ (.int .i64 4)).setCell ⟨w.heap.size + 1, 1, none⟩ (.int .i64 0)).setCell ⟨w.heap.size + 1, 2, none⟩ (.slice T t c')) ((((w1.setCell ⟨w.heap.size + 1 + 1, 2, none⟩ (.slice T t c')).setCell ⟨w.heap.size + 1, 0, none⟩ (.int .i64 4)).setCell ⟨w.heap.size + 1, 1, none⟩ (.int .i64 0)).setCell ⟨w.heap.size + 1, 2, none⟩ (.slice T t c')).heap.size T t IL) := Lib.hid (by rw [show ((((w1.setCell ⟨w.heap.size + 1 + 1, 2, none⟩ (.slice T t c')).setCell ⟨w.heap.size + 1, 0, none⟩ (.int .i64 4)).setCell ⟨w.heap.size + 1, 1, none⟩ (.int .i64 0)).setCell ⟨w.heap.size + 1, 2, none⟩ (.slice T t c')).heap.size = w1.heap.size by simp]; exact Rd.other (w' := ((((w1.setCell ⟨w.heap.size + 1 + 1, 2, none⟩ (.slice T t c')).setCell ⟨w.heap.size + 1, 0, none⟩ (.int .i64 4)).setCell ⟨w.heap.size + 1, 1, none⟩ (.int .i64 0)).setCell ⟨w.heap.size + 1, 2, none⟩ (.slice T t c'))) hR2 hT2 e2 (fun b hb => by repeat (first | rw [heap_set_of b hb] | rfl)))
    clear o1 hR1 hT1 e1 hR2 hT2 e2 hj1 hj2
    go_wp2_with fail
    exact bodyPost_ret (v := .agg #[.int .i64 4, .int .i64 0, .slice T t c']) (by simp [results, Tryz.results12, go_sem, f1_0, f1_1, f1_2]) rfl ⟨T, t, c', by rw [s1.out, s2.out], by rw [s3.out]; exact hR3.out, by omega, hGs⟩
  have d4 : (o.kd == 4) = false := by simpa using k4
  have s1 : Hid (sayKd o = 0) := Lib.hid (by simp [sayKd, k1, k2, k3, k4])
  have s2 : Hid (sayVl o = 0) := Lib.hid (by simp [sayVl, k1, k2])
  have s3 : Hid (sayIt o = []) := Lib.hid (by simp [sayIt, k3, k4])
  skip
  have hGs : Below w.heap.size w (((W.setCell ⟨w.heap.size + 1, 0, none⟩ (.int .i64 0)).setCell ⟨w.heap.size + 1, 1, none⟩ (.int .i64 0)).setCell ⟨w.heap.size + 1, 2, none⟩ (.slice none 0 0)) := (((hb0.setCell (by dsimp only; omega) _).setCell (by dsimp only; omega) _).setCell (by dsimp only; omega) _)
  clear k1 k2 k3 k4
  go_wp2_with fail
  exact bodyPost_ret (v := .agg #[.int .i64 0, .int .i64 0, .slice none 0 0]) (by simp [results, Tryz.results12, go_sem, f1_0, f1_1, f1_2]) rfl ⟨none, 0, 0, by rw [s1.out, s2.out], by rw [s3.out]; exact Rd.nil_, by omega, hGs⟩
end Go.Proofs.YtffnpfponnhddaaGreat
