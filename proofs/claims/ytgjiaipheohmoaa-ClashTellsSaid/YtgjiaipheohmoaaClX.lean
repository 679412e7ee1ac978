/- The statement ClashBoth, walked. -/
import Derived.Test.YtgjiaipheohmoaaTwo
import Derived.StillTail
namespace Go.Proofs.Ytgjiaipheohmoaa
open Go.RowKit

structure OpM where
  act : Int
  name : ByteArray
  val : Int

/-- Is it asked at all? -/
theorem gr15_false {ps : List Pt} (h : gr15 ps = false) : ps.length ≤ 30 ∧ ∀ p ∈ ps, p.l ≤ 100 := by
  simp only [gr15, gr14, Bool.or_eq_false_iff, decide_eq_false_iff_not, List.any_eq_false, Bool.or_eq_true, decide_eq_true_eq] at h
  refine ⟨by omega, fun p hp => ?_⟩
  have := h.2 p hp
  omega

theorem txsB_nil (ps : List Pt) : txsB ps [] = false := by simp [txsB]
theorem txsB_comm (ps qs : List Pt) : txsB ps qs = txsB qs ps := by
  have h : ∀ p q, ptB p q = ptB q p := fun p q => by unfold ptB; rw [opsB_comm p.act, BEq.comm (a := p.key.toList), BEq.comm (a := p.name.toList)]
  rw [Bool.eq_iff_iff]
  simp only [txsB, List.any_eq_true]
  constructor <;> (rintro ⟨p, hp, q, hq, hpq⟩; exact ⟨q, hq, p, hp, by rw [h]; exact hpq⟩)

set_option maxRecDepth 100000 in
set_option maxHeartbeats 2000000 in
theorem both_any (a b : OpM) (t u : Txm) (w : World) (ht : RdP w w.heap.size t.A t.n t.ps) (hu : RdP w w.heap.size u.A u.n u.ps) (htn : t.n ≤ maxLen) (hun : u.n ≤ maxLen) :
    Calls Try.prog 4 #[.agg #[.int .i64 a.act, .string a.name, .int .i64 a.val], .agg #[.int .i64 b.act, .string b.name, .int .i64 b.val], .agg #[.int .i64 t.h.o, .int .u32 t.h.s, .int .u32 t.h.d0, .int .u32 t.h.d1, .int .u32 t.h.d2, .int .u32 t.h.d3, .int .u32 t.h.d4, .int .u32 t.h.d5, .int .u32 t.h.d6, .int .u32 t.h.d7, .bool t.h.thin, .slice t.A t.n t.c], .agg #[.int .i64 u.h.o, .int .u32 u.h.s, .int .u32 u.h.d0, .int .u32 u.h.d1, .int .u32 u.h.d2, .int .u32 u.h.d3, .int .u32 u.h.d4, .int .u32 u.h.d5, .int .u32 u.h.d6, .int .u32 u.h.d7, .bool u.h.thin, .slice u.A u.n u.c]] w fun e w' => e = .returned (.bool true) ∧ Below w.heap.size w w' := by
  have hB0 : w.heap.size < w.heap.size + 4 := by omega
  have hB1 : w.heap.size + 1 < w.heap.size + 4 := by omega
  have hB2 : w.heap.size + 1 + 1 < w.heap.size + 4 := by omega
  have hB3 : w.heap.size + 1 + 1 + 1 < w.heap.size + 4 := by omega
  have hW : Below w.heap.size w ((((w.alloc (.cells #[.int .i64 a.act, .string a.name, .int .i64 a.val] 23)).alloc (.cells #[.int .i64 b.act, .string b.name, .int .i64 b.val] 23)).alloc (.cells #[.int .i64 t.h.o, .int .u32 t.h.s, .int .u32 t.h.d0, .int .u32 t.h.d1, .int .u32 t.h.d2, .int .u32 t.h.d3, .int .u32 t.h.d4, .int .u32 t.h.d5, .int .u32 t.h.d6, .int .u32 t.h.d7, .bool t.h.thin, .slice t.A t.n t.c] 31)).alloc (.cells #[.int .i64 u.h.o, .int .u32 u.h.s, .int .u32 u.h.d0, .int .u32 u.h.d1, .int .u32 u.h.d2, .int .u32 u.h.d3, .int .u32 u.h.d4, .int .u32 u.h.d5, .int .u32 u.h.d6, .int .u32 u.h.d7, .bool u.h.thin, .slice u.A u.n u.c] 31)) := (((((Below.refl _ w).alloc (by first | (simp; done) | (simp; omega) | omega) _).alloc (by first | (simp; done) | (simp; omega) | omega) _).alloc (by first | (simp; done) | (simp; omega) | omega) _).alloc (by first | (simp; done) | (simp; omega) | omega) _)
  go_enter Try.func4, Try.ntmps4
  go_wp2_with fail
  refine (works_any _).mono ?_
  rintro e w1 ⟨rfl, hb1⟩
  have hb : Below (w.heap.size + 4) ((((w.alloc (.cells #[.int .i64 a.act, .string a.name, .int .i64 a.val] 23)).alloc (.cells #[.int .i64 b.act, .string b.name, .int .i64 b.val] 23)).alloc (.cells #[.int .i64 t.h.o, .int .u32 t.h.s, .int .u32 t.h.d0, .int .u32 t.h.d1, .int .u32 t.h.d2, .int .u32 t.h.d3, .int .u32 t.h.d4, .int .u32 t.h.d5, .int .u32 t.h.d6, .int .u32 t.h.d7, .bool t.h.thin, .slice t.A t.n t.c] 31)).alloc (.cells #[.int .i64 u.h.o, .int .u32 u.h.s, .int .u32 u.h.d0, .int .u32 u.h.d1, .int .u32 u.h.d2, .int .u32 u.h.d3, .int .u32 u.h.d4, .int .u32 u.h.d5, .int .u32 u.h.d6, .int .u32 u.h.d7, .bool u.h.thin, .slice u.A u.n u.c] 31)) w1 := hb1.mono (by first | (simp; done) | (simp; omega) | omega)
  have hc1 := (bcell hb).1
  clear hb1
  have hz1 : w.heap.size + 4 ≤ w1.heap.size := by have := hb.size; simp at this; omega
  go_wp2_with fail
  refine (great15_any _ _ _ _ _ _ _ _ _ _ _ _ _ _ t.ps w1 ((ht.below (hW.trans (hb.mono (by omega)))).more (by omega)).1 htn).mono ?_
  rintro e w2 ⟨rfl, hb2⟩
  replace hb2 := hb.trans (hb2.mono hz1)
  clear hc1 hb
  have hc2 := (bcell hb2).1
  have hz2 : w.heap.size + 4 ≤ w2.heap.size := by have := hb2.size; simp at this; omega
  generalize hg1 : gr15 t.ps = r1
  cases r1
  case true =>
    clear hg1
    go_wp2
    go_ret
    exact ⟨rfl, hW.trans (hb2.mono (by omega))⟩
  obtain ⟨htl, htg⟩ := gr15_false hg1
  clear hg1
  go_wp2_with fail
  refine (great15_any _ _ _ _ _ _ _ _ _ _ _ _ _ _ u.ps w2 ((hu.below (hW.trans (hb2.mono (by omega)))).more (by omega)).1 hun).mono ?_
  rintro e w3 ⟨rfl, hb3⟩
  replace hb3 := hb2.trans (hb3.mono hz2)
  clear hc2 hb2
  have hc3 := (bcell hb3).1
  have hz3 : w.heap.size + 4 ≤ w3.heap.size := by have := hb3.size; simp at this; omega
  generalize hg2 : gr15 u.ps = r2
  cases r2
  case true =>
    clear hg2
    go_wp2
    go_ret
    exact ⟨rfl, hW.trans (hb3.mono (by omega))⟩
  obtain ⟨hul, hug⟩ := gr15_false hg2
  clear hg2
  by_cases hna : 500 < (a.name.size : Int)
  · go_wp2
    go_ret
    exact ⟨rfl, hW.trans (hb3.mono (by omega))⟩
  have hda : decide (500 < (a.name.size : Int)) = false := by simpa using hna
  by_cases hnb : 500 < (b.name.size : Int)
  · go_wp2
    go_ret
    exact ⟨rfl, hW.trans (hb3.mono (by omega))⟩
  have hdb : decide (500 < (b.name.size : Int)) = false := by simpa using hnb
  go_upto_region 5 with fail
  go_ways
  go_cut [9, 10] (fun s9 s10 wx => ∃ g1 g2, s9 = .pointer (some ⟨g1, 0, none⟩) ∧ s10 = .pointer (some ⟨g2, 0, none⟩) ∧ g1 < wx.heap.size ∧ g2 < wx.heap.size ∧ TxB wx (w.heap.size + 4) t g1 ∧ TxB wx (w.heap.size + 4) u g2 ∧ Below (w.heap.size + 4) ((((w.alloc (.cells #[.int .i64 a.act, .string a.name, .int .i64 a.val] 23)).alloc (.cells #[.int .i64 b.act, .string b.name, .int .i64 b.val] 23)).alloc (.cells #[.int .i64 t.h.o, .int .u32 t.h.s, .int .u32 t.h.d0, .int .u32 t.h.d1, .int .u32 t.h.d2, .int .u32 t.h.d3, .int .u32 t.h.d4, .int .u32 t.h.d5, .int .u32 t.h.d6, .int .u32 t.h.d7, .bool t.h.thin, .slice t.A t.n t.c] 31)).alloc (.cells #[.int .i64 u.h.o, .int .u32 u.h.s, .int .u32 u.h.d0, .int .u32 u.h.d1, .int .u32 u.h.d2, .int .u32 u.h.d3, .int .u32 u.h.d4, .int .u32 u.h.d5, .int .u32 u.h.d6, .int .u32 u.h.d7, .bool u.h.thin, .slice u.A u.n u.c] 31)) wx)
  case first =>
    refine wp_region_Ja (fun a0 L a' w' => ∃ v31 v32 v33 v34 v9 v10, a' = (((((a0.put (some 31) v31).put (some 32) v32).put (some 33) v33).put (some 34) v34).put (some 9) v9).put (some 10) v10 ∧ L.size = 8 ∧
      JB t u (w.heap.size + 4) ((((w.alloc (.cells #[.int .i64 a.act, .string a.name, .int .i64 a.val] 23)).alloc (.cells #[.int .i64 b.act, .string b.name, .int .i64 b.val] 23)).alloc (.cells #[.int .i64 t.h.o, .int .u32 t.h.s, .int .u32 t.h.d0, .int .u32 t.h.d1, .int .u32 t.h.d2, .int .u32 t.h.d3, .int .u32 t.h.d4, .int .u32 t.h.d5, .int .u32 t.h.d6, .int .u32 t.h.d7, .bool t.h.thin, .slice t.A t.n t.c] 31)).alloc (.cells #[.int .i64 u.h.o, .int .u32 u.h.s, .int .u32 u.h.d0, .int .u32 u.h.d1, .int .u32 u.h.d2, .int .u32 u.h.d3, .int .u32 u.h.d4, .int .u32 u.h.d5, .int .u32 u.h.d6, .int .u32 u.h.d7, .bool u.h.thin, .slice u.A u.n u.c] 31)) (L.getD 0 false) (L.getD 1 false) (L.getD 2 false) (L.getD 3 false) (L.getD 4 false) (L.getD 5 false) (L.getD 6 false) (L.getD 7 false) v31 v32 v33 v34 v9 v10 w') (by kernel_rfl) ?_ ?_ ?_
    · refine ⟨_, _, _, _, _, _, by simp only [Act.put, List.setIfInBounds_toArray, List.set_cons_zero, List.set_cons_succ]; rfl, rfl, ⟨kq hb3.drew, ?_, ?_, ?_, ?_, ?_, ?_, ?_⟩⟩ <;> intro h <;> cases h
    · rintro L a' w' ⟨v31, v32, v33, v34, v9, v10, rfl, hsz, hJ⟩ hcl hr
      have hall := ready_nil hcl (by decide) hr hsz
      rw [hall 0 (by decide), hall 1 (by decide), hall 2 (by decide), hall 3 (by decide), hall 4 (by decide), hall 5 (by decide), hall 6 (by decide), hall 7 (by decide)] at hJ
      obtain ⟨g1, rfl, _, hl1, _, h6⟩ := hJ.f4 rfl
      obtain ⟨g2, rfl, _, hl2, _, h7⟩ := hJ.f5 rfl
      simp only [Act.put, List.setIfInBounds_toArray, List.set_cons_zero, List.set_cons_succ]
      go_wp2_with fail
      go_meet
      exact ⟨g1, g2, rfl, rfl, hl1, hl2, h6 (by first | trivial | rfl), h7 (by first | trivial | rfl), hJ.kq.1⟩
    · intro i hi
      rcases i with _ | _ | _ | _ | _ | _ | _ | _ | i
      · rintro L a' w' ⟨v31, v32, v33, v34, v9, v10, rfl, hsz, hJ⟩ hcl hr
        obtain ⟨hun, hpre⟩ := ready_pre hr rfl
        have hcz : w.heap.size + 4 ≤ w'.heap.size := by have := hJ.kq.1.size; simp at this; omega
        have hcc := hJ.kq.2
        refine wpOp_step rfl (fun K hK => ?_)
        simp only [Act.put, List.setIfInBounds_toArray, List.set_cons_zero, List.set_cons_succ]
        go_simp
        refine hK _ _ ⟨_, v32, v33, v34, v9, v10, by simp only [Act.put, List.setIfInBounds_toArray, List.set_cons_zero, List.set_cons_succ]; rfl, by simp [hsz], ?_⟩
        rw [getD_set_same hun, getD_set_ne false (show 0 ≠ 1 by decide), getD_set_ne false (show 0 ≠ 2 by decide), getD_set_ne false (show 0 ≠ 3 by decide), getD_set_ne false (show 0 ≠ 4 by decide), getD_set_ne false (show 0 ≠ 5 by decide), getD_set_ne false (show 0 ≠ 6 by decide), getD_set_ne false (show 0 ≠ 7 by decide)]
        exact ⟨hJ.kq, fun _ => rfl, hJ.f1, hJ.f2, hJ.f3, hJ.f4, hJ.f5, hJ.ne⟩
      · rintro L a' w' ⟨v31, v32, v33, v34, v9, v10, rfl, hsz, hJ⟩ hcl hr
        obtain ⟨hun, hpre⟩ := ready_pre hr rfl
        have hcz : w.heap.size + 4 ≤ w'.heap.size := by have := hJ.kq.1.size; simp at this; omega
        have hcc := hJ.kq.2
        refine wpOp_step rfl (fun K hK => ?_)
        simp only [Act.put, List.setIfInBounds_toArray, List.set_cons_zero, List.set_cons_succ]
        obtain rfl := hJ.f0 (hpre ⟨0, .data⟩ (by simp) rfl)
        go_simp
        have hR : RdP w' w'.heap.size t.A t.n t.ps := (ht.below (hW.trans (hJ.kq.1.mono (by omega)))).more (by omega)
        refine (to_any t.h t.A t.n t.c t.ps w' hR (by have := ht.1.len; omega) (fun p hp => by have := htg p hp; omega)).mono ?_
        rintro e w1 ⟨A1, c1, qs, rfl, hq, hcore, hb1⟩
        have hJ' := hJ.below (by first | (simp; done) | (simp; omega) | omega) hb1
        refine hK _ _ ⟨_, _, _, _, _, _, by simp only [Act.put, List.setIfInBounds_toArray, List.set_cons_zero, List.set_cons_succ]; rfl, by simp [hsz], ?_⟩
        rw [getD_set_same hun, getD_set_ne false (show 1 ≠ 0 by decide), getD_set_ne false (show 1 ≠ 2 by decide), getD_set_ne false (show 1 ≠ 3 by decide), getD_set_ne false (show 1 ≠ 4 by decide), getD_set_ne false (show 1 ≠ 5 by decide), getD_set_ne false (show 1 ≠ 6 by decide), getD_set_ne false (show 1 ≠ 7 by decide)]
        exact ⟨hJ'.kq, hJ'.f0, fun _ => ⟨A1, c1, qs, rfl, hq.base hcz, hcore⟩, hJ'.f2, hJ'.f3, hJ'.f4, hJ'.f5, hJ'.ne⟩
      · rintro L a' w' ⟨v31, v32, v33, v34, v9, v10, rfl, hsz, hJ⟩ hcl hr
        obtain ⟨hun, hpre⟩ := ready_pre hr rfl
        have hcz : w.heap.size + 4 ≤ w'.heap.size := by have := hJ.kq.1.size; simp at this; omega
        have hcc := hJ.kq.2
        refine wpOp_step rfl (fun K hK => ?_)
        simp only [Act.put, List.setIfInBounds_toArray, List.set_cons_zero, List.set_cons_succ]
        go_simp
        refine hK _ _ ⟨v31, v32, _, v34, v9, v10, by simp only [Act.put, List.setIfInBounds_toArray, List.set_cons_zero, List.set_cons_succ]; rfl, by simp [hsz], ?_⟩
        rw [getD_set_same hun, getD_set_ne false (show 2 ≠ 0 by decide), getD_set_ne false (show 2 ≠ 1 by decide), getD_set_ne false (show 2 ≠ 3 by decide), getD_set_ne false (show 2 ≠ 4 by decide), getD_set_ne false (show 2 ≠ 5 by decide), getD_set_ne false (show 2 ≠ 6 by decide), getD_set_ne false (show 2 ≠ 7 by decide)]
        exact ⟨hJ.kq, hJ.f0, hJ.f1, fun _ => rfl, hJ.f3, hJ.f4, hJ.f5, hJ.ne⟩
      · rintro L a' w' ⟨v31, v32, v33, v34, v9, v10, rfl, hsz, hJ⟩ hcl hr
        obtain ⟨hun, hpre⟩ := ready_pre hr rfl
        have hcz : w.heap.size + 4 ≤ w'.heap.size := by have := hJ.kq.1.size; simp at this; omega
        have hcc := hJ.kq.2
        refine wpOp_step rfl (fun K hK => ?_)
        simp only [Act.put, List.setIfInBounds_toArray, List.set_cons_zero, List.set_cons_succ]
        obtain rfl := hJ.f2 (hpre ⟨2, .data⟩ (by simp) rfl)
        go_simp
        have hR : RdP w' w'.heap.size u.A u.n u.ps := (hu.below (hW.trans (hJ.kq.1.mono (by omega)))).more (by omega)
        refine (to_any u.h u.A u.n u.c u.ps w' hR (by have := hu.1.len; omega) (fun p hp => by have := hug p hp; omega)).mono ?_
        rintro e w1 ⟨A1, c1, qs, rfl, hq, hcore, hb1⟩
        have hJ' := hJ.below (by first | (simp; done) | (simp; omega) | omega) hb1
        refine hK _ _ ⟨_, _, _, _, _, _, by simp only [Act.put, List.setIfInBounds_toArray, List.set_cons_zero, List.set_cons_succ]; rfl, by simp [hsz], ?_⟩
        rw [getD_set_same hun, getD_set_ne false (show 3 ≠ 0 by decide), getD_set_ne false (show 3 ≠ 1 by decide), getD_set_ne false (show 3 ≠ 2 by decide), getD_set_ne false (show 3 ≠ 4 by decide), getD_set_ne false (show 3 ≠ 5 by decide), getD_set_ne false (show 3 ≠ 6 by decide), getD_set_ne false (show 3 ≠ 7 by decide)]
        exact ⟨hJ'.kq, hJ'.f0, hJ'.f1, hJ'.f2, fun _ => ⟨A1, c1, qs, rfl, hq.base hcz, hcore⟩, hJ'.f4, hJ'.f5, hJ'.ne⟩
      · rintro L a' w' ⟨v31, v32, v33, v34, v9, v10, rfl, hsz, hJ⟩ hcl hr
        obtain ⟨hun, hpre⟩ := ready_pre hr rfl
        have hcz : w.heap.size + 4 ≤ w'.heap.size := by have := hJ.kq.1.size; simp at this; omega
        have hcc := hJ.kq.2
        refine wpOp_step rfl (fun K hK => ?_)
        simp only [Act.put, List.setIfInBounds_toArray, List.set_cons_zero, List.set_cons_succ]
        go_simp
        have hJ' := hJ.below (by first | (simp; done) | (simp; omega) | omega) ((Below.refl _ w').alloc (Nat.le_refl _) zTx)
        refine hK _ _ ⟨v31, v32, v33, v34, _, v10, by simp only [Act.put, List.setIfInBounds_toArray, List.set_cons_zero, List.set_cons_succ]; rfl, by simp [hsz], ?_⟩
        rw [getD_set_same hun, getD_set_ne false (show 4 ≠ 0 by decide), getD_set_ne false (show 4 ≠ 1 by decide), getD_set_ne false (show 4 ≠ 2 by decide), getD_set_ne false (show 4 ≠ 3 by decide), getD_set_ne false (show 4 ≠ 5 by decide), getD_set_ne false (show 4 ≠ 6 by decide), getD_set_ne false (show 4 ≠ 7 by decide)]
        exact ⟨hJ'.kq, hJ'.f0, hJ'.f1, hJ'.f2, hJ'.f3, fun _ => ⟨_, rfl, hcz, by simp, fun _ => heap_at _ _ rfl, fun h => (by have := hcl 6 _ rfl h ⟨4, .data⟩ (by simp) rfl; rw [getD_both hun] at this; cases this)⟩, hJ'.f5, fun _ h5 => by obtain ⟨g, h1, _, h3, _⟩ := hJ.f5 h5; rw [h1]; intro e; simp at e; try omega⟩
      · rintro L a' w' ⟨v31, v32, v33, v34, v9, v10, rfl, hsz, hJ⟩ hcl hr
        obtain ⟨hun, hpre⟩ := ready_pre hr rfl
        have hcz : w.heap.size + 4 ≤ w'.heap.size := by have := hJ.kq.1.size; simp at this; omega
        have hcc := hJ.kq.2
        refine wpOp_step rfl (fun K hK => ?_)
        simp only [Act.put, List.setIfInBounds_toArray, List.set_cons_zero, List.set_cons_succ]
        go_simp
        have hJ' := hJ.below (by first | (simp; done) | (simp; omega) | omega) ((Below.refl _ w').alloc (Nat.le_refl _) zTx)
        refine hK _ _ ⟨v31, v32, v33, v34, v9, _, by simp only [Act.put, List.setIfInBounds_toArray, List.set_cons_zero, List.set_cons_succ]; rfl, by simp [hsz], ?_⟩
        rw [getD_set_same hun, getD_set_ne false (show 5 ≠ 0 by decide), getD_set_ne false (show 5 ≠ 1 by decide), getD_set_ne false (show 5 ≠ 2 by decide), getD_set_ne false (show 5 ≠ 3 by decide), getD_set_ne false (show 5 ≠ 4 by decide), getD_set_ne false (show 5 ≠ 6 by decide), getD_set_ne false (show 5 ≠ 7 by decide)]
        exact ⟨hJ'.kq, hJ'.f0, hJ'.f1, hJ'.f2, hJ'.f3, hJ'.f4, fun _ => ⟨_, rfl, hcz, by simp, fun _ => heap_at _ _ rfl, fun h => (by have := hcl 7 _ rfl h ⟨5, .data⟩ (by simp) rfl; rw [getD_both hun] at this; cases this)⟩, fun h4 _ => by obtain ⟨g, h1, _, h3, _⟩ := hJ.f4 h4; rw [h1]; intro e; simp at e; try omega⟩
      · rintro L a' w' ⟨v31, v32, v33, v34, v9, v10, rfl, hsz, hJ⟩ hcl hr
        obtain ⟨hun, hpre⟩ := ready_pre hr rfl
        have hcz : w.heap.size + 4 ≤ w'.heap.size := by have := hJ.kq.1.size; simp at this; omega
        have hcc := hJ.kq.2
        refine wpOp_step rfl (fun K hK => ?_)
        simp only [Act.put, List.setIfInBounds_toArray, List.set_cons_zero, List.set_cons_succ]
        have hal := hpre ⟨4, .data⟩ (by simp) rfl
        obtain ⟨g, rfl, hg1, hg2, hz, _⟩ := hJ.f4 hal
        replace hz := hz (getD_both hun)
        obtain ⟨A1, c1, qs, rfl, hq, hcore⟩ := hJ.f1 (hpre ⟨1, .data⟩ (by simp) rfl)
        have hfz := blk_frozen hz
        have r0 := blk_cell hz 0
        have r1 := blk_cell hz 1
        have r2 := blk_cell hz 2
        have r3 := blk_cell hz 3
        have r4 := blk_cell hz 4
        have r5 := blk_cell hz 5
        have r6 := blk_cell hz 6
        have r7 := blk_cell hz 7
        have r8 := blk_cell hz 8
        have r9 := blk_cell hz 9
        have r10 := blk_cell hz 10
        have r11 := blk_cell hz 11
        simp at r0 r1 r2 r3 r4 r5 r6 r7 r8 r9 r10 r11
        clear hcc
        go_simp
        have hgr : w'.grownBy (((((((((((((w'.setCell ⟨g, 0, none⟩ (.int .i64 t.h.o)).setCell ⟨g, 1, none⟩ (.int .u32 t.h.s)).setCell ⟨g, 2, none⟩ (.int .u32 t.h.d0)).setCell ⟨g, 3, none⟩ (.int .u32 t.h.d1)).setCell ⟨g, 4, none⟩ (.int .u32 t.h.d2)).setCell ⟨g, 5, none⟩ (.int .u32 t.h.d3)).setCell ⟨g, 6, none⟩ (.int .u32 t.h.d4)).setCell ⟨g, 7, none⟩ (.int .u32 t.h.d5)).setCell ⟨g, 8, none⟩ (.int .u32 t.h.d6)).setCell ⟨g, 9, none⟩ (.int .u32 t.h.d7)).setCell ⟨g, 10, none⟩ (.bool t.h.thin)).setCell ⟨g, 11, none⟩ (.slice A1 t.n c1))) (some g) := by
          repeat (with_reducible refine grown_set ?_ _ _)
          exact World.grownBy.refl w' _
        have hblk : (((((((((((((w'.setCell ⟨g, 0, none⟩ (.int .i64 t.h.o)).setCell ⟨g, 1, none⟩ (.int .u32 t.h.s)).setCell ⟨g, 2, none⟩ (.int .u32 t.h.d0)).setCell ⟨g, 3, none⟩ (.int .u32 t.h.d1)).setCell ⟨g, 4, none⟩ (.int .u32 t.h.d2)).setCell ⟨g, 5, none⟩ (.int .u32 t.h.d3)).setCell ⟨g, 6, none⟩ (.int .u32 t.h.d4)).setCell ⟨g, 7, none⟩ (.int .u32 t.h.d5)).setCell ⟨g, 8, none⟩ (.int .u32 t.h.d6)).setCell ⟨g, 9, none⟩ (.int .u32 t.h.d7)).setCell ⟨g, 10, none⟩ (.bool t.h.thin)).setCell ⟨g, 11, none⟩ (.slice A1 t.n c1))).heap[g]? = some (.cells #[.int .i64 t.h.o, .int .u32 t.h.s, .int .u32 t.h.d0, .int .u32 t.h.d1, .int .u32 t.h.d2, .int .u32 t.h.d3, .int .u32 t.h.d4, .int .u32 t.h.d5, .int .u32 t.h.d6, .int .u32 t.h.d7, .bool t.h.thin, .slice A1 t.n c1] 37 (0, 0)) := by
          simp [World.setCell, Array.getElem?_modify, hz, zTx]
        have hkq : KQ (w.heap.size + 4) ((((w.alloc (.cells #[.int .i64 a.act, .string a.name, .int .i64 a.val] 23)).alloc (.cells #[.int .i64 b.act, .string b.name, .int .i64 b.val] 23)).alloc (.cells #[.int .i64 t.h.o, .int .u32 t.h.s, .int .u32 t.h.d0, .int .u32 t.h.d1, .int .u32 t.h.d2, .int .u32 t.h.d3, .int .u32 t.h.d4, .int .u32 t.h.d5, .int .u32 t.h.d6, .int .u32 t.h.d7, .bool t.h.thin, .slice t.A t.n t.c] 31)).alloc (.cells #[.int .i64 u.h.o, .int .u32 u.h.s, .int .u32 u.h.d0, .int .u32 u.h.d1, .int .u32 u.h.d2, .int .u32 u.h.d3, .int .u32 u.h.d4, .int .u32 u.h.d5, .int .u32 u.h.d6, .int .u32 u.h.d7, .bool u.h.thin, .slice u.A u.n u.c] 31)) (((((((((((((w'.setCell ⟨g, 0, none⟩ (.int .i64 t.h.o)).setCell ⟨g, 1, none⟩ (.int .u32 t.h.s)).setCell ⟨g, 2, none⟩ (.int .u32 t.h.d0)).setCell ⟨g, 3, none⟩ (.int .u32 t.h.d1)).setCell ⟨g, 4, none⟩ (.int .u32 t.h.d2)).setCell ⟨g, 5, none⟩ (.int .u32 t.h.d3)).setCell ⟨g, 6, none⟩ (.int .u32 t.h.d4)).setCell ⟨g, 7, none⟩ (.int .u32 t.h.d5)).setCell ⟨g, 8, none⟩ (.int .u32 t.h.d6)).setCell ⟨g, 9, none⟩ (.int .u32 t.h.d7)).setCell ⟨g, 10, none⟩ (.bool t.h.thin)).setCell ⟨g, 11, none⟩ (.slice A1 t.n c1))) := by
          refine kq ?_
          repeat (with_reducible refine Below.setCell ?_ hg1 _)
          exact hJ.kq.1
        refine hK _ _ ⟨_, _, _, _, _, _, by simp only [Act.put, List.setIfInBounds_toArray, List.set_cons_zero, List.set_cons_succ]; rfl, by simp [hsz], ?_⟩
        rw [getD_set_same hun, getD_set_ne false (show 6 ≠ 0 by decide), getD_set_ne false (show 6 ≠ 1 by decide), getD_set_ne false (show 6 ≠ 2 by decide), getD_set_ne false (show 6 ≠ 3 by decide), getD_set_ne false (show 6 ≠ 4 by decide), getD_set_ne false (show 6 ≠ 5 by decide), getD_set_ne false (show 6 ≠ 7 by decide)]
        exact ⟨hkq, hJ.f0, fun h => (hJ.f1 h).grown hz hgr, hJ.f2, fun h => (hJ.f3 h).grown hz hgr, fun _ => ⟨g, rfl, hg1, by simp [World.setCell]; exact hg2, fun h => (by cases h), fun _ => ⟨A1, c1, qs, hblk, hq.other_blk hz (by decide) (by decide) hgr, hcore⟩⟩, fun h => by obtain ⟨g', h1, h2, h3, h4, h5⟩ := hJ.f5 h; have hne : g' ≠ g := fun e => hJ.ne hal h (by rw [h1, e]); exact ⟨g', h1, h2, by simp [World.setCell]; exact h3, fun e => (hgr.block g' h3 (by simpa using hne)).trans (h4 e), fun e => (h5 e).grown hz hne hgr⟩, hJ.ne⟩
      · rintro L a' w' ⟨v31, v32, v33, v34, v9, v10, rfl, hsz, hJ⟩ hcl hr
        obtain ⟨hun, hpre⟩ := ready_pre hr rfl
        have hcz : w.heap.size + 4 ≤ w'.heap.size := by have := hJ.kq.1.size; simp at this; omega
        have hcc := hJ.kq.2
        refine wpOp_step rfl (fun K hK => ?_)
        simp only [Act.put, List.setIfInBounds_toArray, List.set_cons_zero, List.set_cons_succ]
        have hal := hpre ⟨5, .data⟩ (by simp) rfl
        obtain ⟨g, rfl, hg1, hg2, hz, _⟩ := hJ.f5 hal
        replace hz := hz (getD_both hun)
        obtain ⟨A1, c1, qs, rfl, hq, hcore⟩ := hJ.f3 (hpre ⟨3, .data⟩ (by simp) rfl)
        have hfz := blk_frozen hz
        have r0 := blk_cell hz 0
        have r1 := blk_cell hz 1
        have r2 := blk_cell hz 2
        have r3 := blk_cell hz 3
        have r4 := blk_cell hz 4
        have r5 := blk_cell hz 5
        have r6 := blk_cell hz 6
        have r7 := blk_cell hz 7
        have r8 := blk_cell hz 8
        have r9 := blk_cell hz 9
        have r10 := blk_cell hz 10
        have r11 := blk_cell hz 11
        simp at r0 r1 r2 r3 r4 r5 r6 r7 r8 r9 r10 r11
        clear hcc
        go_simp
        have hgr : w'.grownBy (((((((((((((w'.setCell ⟨g, 0, none⟩ (.int .i64 u.h.o)).setCell ⟨g, 1, none⟩ (.int .u32 u.h.s)).setCell ⟨g, 2, none⟩ (.int .u32 u.h.d0)).setCell ⟨g, 3, none⟩ (.int .u32 u.h.d1)).setCell ⟨g, 4, none⟩ (.int .u32 u.h.d2)).setCell ⟨g, 5, none⟩ (.int .u32 u.h.d3)).setCell ⟨g, 6, none⟩ (.int .u32 u.h.d4)).setCell ⟨g, 7, none⟩ (.int .u32 u.h.d5)).setCell ⟨g, 8, none⟩ (.int .u32 u.h.d6)).setCell ⟨g, 9, none⟩ (.int .u32 u.h.d7)).setCell ⟨g, 10, none⟩ (.bool u.h.thin)).setCell ⟨g, 11, none⟩ (.slice A1 u.n c1))) (some g) := by
          repeat (with_reducible refine grown_set ?_ _ _)
          exact World.grownBy.refl w' _
        have hblk : (((((((((((((w'.setCell ⟨g, 0, none⟩ (.int .i64 u.h.o)).setCell ⟨g, 1, none⟩ (.int .u32 u.h.s)).setCell ⟨g, 2, none⟩ (.int .u32 u.h.d0)).setCell ⟨g, 3, none⟩ (.int .u32 u.h.d1)).setCell ⟨g, 4, none⟩ (.int .u32 u.h.d2)).setCell ⟨g, 5, none⟩ (.int .u32 u.h.d3)).setCell ⟨g, 6, none⟩ (.int .u32 u.h.d4)).setCell ⟨g, 7, none⟩ (.int .u32 u.h.d5)).setCell ⟨g, 8, none⟩ (.int .u32 u.h.d6)).setCell ⟨g, 9, none⟩ (.int .u32 u.h.d7)).setCell ⟨g, 10, none⟩ (.bool u.h.thin)).setCell ⟨g, 11, none⟩ (.slice A1 u.n c1))).heap[g]? = some (.cells #[.int .i64 u.h.o, .int .u32 u.h.s, .int .u32 u.h.d0, .int .u32 u.h.d1, .int .u32 u.h.d2, .int .u32 u.h.d3, .int .u32 u.h.d4, .int .u32 u.h.d5, .int .u32 u.h.d6, .int .u32 u.h.d7, .bool u.h.thin, .slice A1 u.n c1] 37 (0, 0)) := by
          simp [World.setCell, Array.getElem?_modify, hz, zTx]
        have hkq : KQ (w.heap.size + 4) ((((w.alloc (.cells #[.int .i64 a.act, .string a.name, .int .i64 a.val] 23)).alloc (.cells #[.int .i64 b.act, .string b.name, .int .i64 b.val] 23)).alloc (.cells #[.int .i64 t.h.o, .int .u32 t.h.s, .int .u32 t.h.d0, .int .u32 t.h.d1, .int .u32 t.h.d2, .int .u32 t.h.d3, .int .u32 t.h.d4, .int .u32 t.h.d5, .int .u32 t.h.d6, .int .u32 t.h.d7, .bool t.h.thin, .slice t.A t.n t.c] 31)).alloc (.cells #[.int .i64 u.h.o, .int .u32 u.h.s, .int .u32 u.h.d0, .int .u32 u.h.d1, .int .u32 u.h.d2, .int .u32 u.h.d3, .int .u32 u.h.d4, .int .u32 u.h.d5, .int .u32 u.h.d6, .int .u32 u.h.d7, .bool u.h.thin, .slice u.A u.n u.c] 31)) (((((((((((((w'.setCell ⟨g, 0, none⟩ (.int .i64 u.h.o)).setCell ⟨g, 1, none⟩ (.int .u32 u.h.s)).setCell ⟨g, 2, none⟩ (.int .u32 u.h.d0)).setCell ⟨g, 3, none⟩ (.int .u32 u.h.d1)).setCell ⟨g, 4, none⟩ (.int .u32 u.h.d2)).setCell ⟨g, 5, none⟩ (.int .u32 u.h.d3)).setCell ⟨g, 6, none⟩ (.int .u32 u.h.d4)).setCell ⟨g, 7, none⟩ (.int .u32 u.h.d5)).setCell ⟨g, 8, none⟩ (.int .u32 u.h.d6)).setCell ⟨g, 9, none⟩ (.int .u32 u.h.d7)).setCell ⟨g, 10, none⟩ (.bool u.h.thin)).setCell ⟨g, 11, none⟩ (.slice A1 u.n c1))) := by
          refine kq ?_
          repeat (with_reducible refine Below.setCell ?_ hg1 _)
          exact hJ.kq.1
        refine hK _ _ ⟨_, _, _, _, _, _, by simp only [Act.put, List.setIfInBounds_toArray, List.set_cons_zero, List.set_cons_succ]; rfl, by simp [hsz], ?_⟩
        rw [getD_set_same hun, getD_set_ne false (show 7 ≠ 0 by decide), getD_set_ne false (show 7 ≠ 1 by decide), getD_set_ne false (show 7 ≠ 2 by decide), getD_set_ne false (show 7 ≠ 3 by decide), getD_set_ne false (show 7 ≠ 4 by decide), getD_set_ne false (show 7 ≠ 5 by decide), getD_set_ne false (show 7 ≠ 6 by decide)]
        exact ⟨hkq, hJ.f0, fun h => (hJ.f1 h).grown hz hgr, hJ.f2, fun h => (hJ.f3 h).grown hz hgr, fun h => by obtain ⟨g', h1, h2, h3, h4, h5⟩ := hJ.f4 h; have hne : g' ≠ g := fun e => hJ.ne h hal (by rw [h1, e]); exact ⟨g', h1, h2, by simp [World.setCell]; exact h3, fun e => (hgr.block g' h3 (by simpa using hne)).trans (h4 e), fun e => (h5 e).grown hz hne hgr⟩, fun _ => ⟨g, rfl, hg1, by simp [World.setCell]; exact hg2, fun h => (by cases h), fun _ => ⟨A1, c1, qs, hblk, hq.other_blk hz (by decide) (by decide) hgr, hcore⟩⟩, hJ.ne⟩
      · exact absurd hi (by simp; try omega)
  case rest =>
    obtain ⟨g1, g2, rfl, rfl, hl1, hl2, ⟨A1, c1, p1, hk1, ho1, he1⟩, ⟨A2, c2, p2, hk2, ho2, he2⟩, hb⟩ := hcut
    have hcz : w.heap.size + 4 ≤ wc.heap.size := by have := hb.size; simp at this; omega
    have hcc := (bcell hb).1
    have hm0 : w.heap.size < wc.heap.size := by omega
    have hm1 : w.heap.size + 1 < wc.heap.size := by omega
    have r0 := blk_cell hk1 0
    have r1 := blk_cell hk1 1
    have r2 := blk_cell hk1 2
    have r3 := blk_cell hk1 3
    have r4 := blk_cell hk1 4
    have r5 := blk_cell hk1 5
    have r6 := blk_cell hk1 6
    have r7 := blk_cell hk1 7
    have r8 := blk_cell hk1 8
    have r9 := blk_cell hk1 9
    have r10 := blk_cell hk1 10
    have r11 := blk_cell hk1 11
    have q0 := blk_cell hk2 0
    have q1 := blk_cell hk2 1
    have q2 := blk_cell hk2 2
    have q3 := blk_cell hk2 3
    have q4 := blk_cell hk2 4
    have q5 := blk_cell hk2 5
    have q6 := blk_cell hk2 6
    have q7 := blk_cell hk2 7
    have q8 := blk_cell hk2 8
    have q9 := blk_cell hk2 9
    have q10 := blk_cell hk2 10
    have q11 := blk_cell hk2 11
    simp at r0 r1 r2 r3 r4 r5 r6 r7 r8 r9 r10 r11 q0 q1 q2 q3 q4 q5 q6 q7 q8 q9 q10 q11
    have ha : wc.heap[w.heap.size]? = some (.cells #[.int .i64 a.act, .string a.name, .int .i64 a.val] 23 (0, 0)) :=
      (hb.block _ hB0).trans (heap_old _ (by first | (simp; done) | (simp; omega) | omega) (heap_old _ (by first | (simp; done) | (simp; omega) | omega) (heap_old _ (by simp) (heap_at w _ rfl))))
    have hb' : wc.heap[w.heap.size + 1]? = some (.cells #[.int .i64 b.act, .string b.name, .int .i64 b.val] 23 (0, 0)) :=
      (hb.block _ hB1).trans (heap_old _ (by first | (simp; done) | (simp; omega) | omega) (heap_old _ (by first | (simp; done) | (simp; omega) | omega) (heap_at _ _ (by simp))))
    have a0 := blk_cell ha 0
    have a1 := blk_cell ha 1
    have a2 := blk_cell ha 2
    have b0 := blk_cell hb' 0
    have b1 := blk_cell hb' 1
    have b2 := blk_cell hb' 2
    simp at a0 a1 a2 b0 b1 b2
    clear ha hb'
    clear hcc
    have hO1 := fun w' => ops_any a.act a.val b.act b.val a.name b.name w'
    have hO2 := fun w' => ops_any b.act b.val a.act a.val b.name a.name w'
    rw [opsB_comm b.act, BEq.comm (a := b.name.toList)] at hO2
    generalize opsB a.act b.act (a.name.toList == b.name.toList) = rO at hO1 hO2
    have hR1 : Rd wc wc.heap.size 10 A1 t.n (p1.map Pt.enc) := ho1.rdp.1
    have hR2 : Rd wc wc.heap.size 10 A2 u.n (p2.map Pt.enc) := ho2.rdp.1
    have hT1 := fun w' (hq : KQ wc.heap.size wc w') => txs_any (.int .i64 t.h.o) (.int .u32 t.h.s) (.int .u32 t.h.d0) (.int .u32 t.h.d1) (.int .u32 t.h.d2) (.int .u32 t.h.d3) (.int .u32 t.h.d4) (.int .u32 t.h.d5) (.int .u32 t.h.d6) (.int .u32 t.h.d7) (.bool t.h.thin)
        (.int .i64 u.h.o) (.int .u32 u.h.s) (.int .u32 u.h.d0) (.int .u32 u.h.d1) (.int .u32 u.h.d2) (.int .u32 u.h.d3) (.int .u32 u.h.d4) (.int .u32 u.h.d5) (.int .u32 u.h.d6) (.int .u32 u.h.d7) (.bool u.h.thin) A1 A2 t.n u.n c1 c2 p1 p2 w' ((hR1.below hq.1).more hq.1.size) ((hR2.below hq.1).more hq.1.size) htn hun
    have hT2 := fun w' (hq : KQ wc.heap.size wc w') => txs_any (.int .i64 u.h.o) (.int .u32 u.h.s) (.int .u32 u.h.d0) (.int .u32 u.h.d1) (.int .u32 u.h.d2) (.int .u32 u.h.d3) (.int .u32 u.h.d4) (.int .u32 u.h.d5) (.int .u32 u.h.d6) (.int .u32 u.h.d7) (.bool u.h.thin)
        (.int .i64 t.h.o) (.int .u32 t.h.s) (.int .u32 t.h.d0) (.int .u32 t.h.d1) (.int .u32 t.h.d2) (.int .u32 t.h.d3) (.int .u32 t.h.d4) (.int .u32 t.h.d5) (.int .u32 t.h.d6) (.int .u32 t.h.d7) (.bool t.h.thin) A2 A1 u.n t.n c2 c1 p2 p1 w' ((hR2.below hq.1).more hq.1.size) ((hR1.below hq.1).more hq.1.size) hun htn
    have hT3 := fun w' (hq : KQ wc.heap.size wc w') => txs_any (.int .i64 t.h.o) (.int .u32 t.h.s) (.int .u32 t.h.d0) (.int .u32 t.h.d1) (.int .u32 t.h.d2) (.int .u32 t.h.d3) (.int .u32 t.h.d4) (.int .u32 t.h.d5) (.int .u32 t.h.d6) (.int .u32 t.h.d7) (.bool t.h.thin)
        (.int .i64 u.h.o) (.int .u32 u.h.s) (.int .u32 u.h.d0) (.int .u32 u.h.d1) (.int .u32 u.h.d2) (.int .u32 u.h.d3) (.int .u32 u.h.d4) (.int .u32 u.h.d5) (.int .u32 u.h.d6) (.int .u32 u.h.d7) (.bool false) A1 none t.n 0 c1 0 p1 [] w' ((hR1.below hq.1).more hq.1.size) Rd.nil_ htn (Nat.zero_le _)
    rw [txsB_nil] at hT3
    rw [txsB_comm p2 p1] at hT2
    generalize txsB p1 p2 = rT at hT1 hT2
    have hO1 := Lib.hid hO1
    have hO2 := Lib.hid hO2
    have hT1 := Lib.hid hT1
    have hT2 := Lib.hid hT2
    have hT3 := Lib.hid hT3
    have hW2 : Below w.heap.size w wc := hW.trans (hb.mono (by omega))
    clear hk1 hk2 ho1 ho2 he1 he2 hR1 hR2 hb hW hb3 hc3 hz3 ht hu
    clear hB0 hB1 hB2 hB3
    have hq0 : KQ wc.heap.size wc wc := kq (Below.refl _ _)
    go_wp2
    go_region_held3 (fun w' => KQ wc.heap.size wc w') (first
      | with_reducible exact kq_call (by assumption) (by simp) (by assumption)
      | with_reducible exact kq_grown (by assumption) (by simp) (by assumption) (by simp [Value.ownBlock])
      | ((with_reducible refine kq ?_); (repeat (first | (with_reducible exact Below.refl _ _) | (with_reducible refine Below.drew ?_) | (with_reducible refine Below.alloc ?_ (by simp) _) | (with_reducible refine Below.setCell ?_ (by simp) _) | (with_reducible exact (by assumption : KQ _ _ _).1))); done))
      (first
        | (go_at_call 10; refine (op_any _ _ _ _).mono ?_; rintro e w1 ⟨rfl, hb1⟩)
        | (go_at_call 9; (with_reducible refine (hO1.out _).mono ?_); rintro e w1 ⟨rfl, hb1⟩)
        | (go_at_call 9; (with_reducible refine (hO2.out _).mono ?_); rintro e w1 ⟨rfl, hb1⟩)
        | (go_at_call 7; (with_reducible refine (hT1.out _ (by with_reducible assumption)).mono ?_); rintro e w1 ⟨rfl, hb1⟩)
        | (go_at_call 7; (with_reducible refine (hT2.out _ (by with_reducible assumption)).mono ?_); rintro e w1 ⟨rfl, hb1⟩)
        | (go_at_call 7; (with_reducible refine (hT3.out _ (by with_reducible assumption)).mono ?_); rintro e w1 ⟨rfl, hb1⟩))
    have hF : KQ wc.heap.size wc w1 := by with_reducible assumption
    have hG : Below w.heap.size w w1 := hW2.trans (hF.1.mono (by omega))
    clear hF
    go_wp2
    go_ret
    exact ⟨rfl, hG⟩
end Go.Proofs.Ytgjiaipheohmoaa
