/- The document's Only: a transaction with the parts alone that lie within interests. -/
import Derived.Test.YtelipindcacphaaDoorFi
namespace Go.Proofs.YtelipindcacphaaDoor
open Go.RowKit

set_option maxRecDepth 100000 in
set_option maxHeartbeats 2000000 in
theorem rtonly_any (x : Im) (v : Vm) (t : Bool) (A : Option Addr) (n c : Nat) (ps : List Pe) (B : Option Addr) (m d : Nat) (xs : List (List UInt8)) (w : World) (hA : RdE w w.heap.size A n ps) (hn : n ≤ 1000) (hkl : ∀ p ∈ ps, p.key.length ≤ maxLen) (hB : RdS w w.heap.size B m xs) (hm : m ≤ maxLen) (hx : ∀ x ∈ xs, x.length ≤ maxLen) :
    Calls Tryd.prog 16 #[.agg #[.int .i64 x.1, .int .u32 x.2, .int .u32 v.d0, .int .u32 v.d1, .int .u32 v.d2, .int .u32 v.d3, .int .u32 v.d4, .int .u32 v.d5, .int .u32 v.d6, .int .u32 v.d7, .bool t, .slice A n c], .slice B m d] w
      fun e w' => ∃ A' n' c', e = .returned (.agg #[.int .i64 x.1, .int .u32 x.2, .int .u32 v.d0, .int .u32 v.d1, .int .u32 v.d2, .int .u32 v.d3, .int .u32 v.d4, .int .u32 v.d5, .int .u32 v.d6, .int .u32 v.d7, .bool (onlyT t (ps.map Pe.core) xs), .slice A' n' c']) ∧ Ow w' w.heap.size 56 10 (.slice A' n' c') ((ps.filter fun p => hasW xs p.key).map Pe.enc) ∧ Below w.heap.size w w' := by
  generalize htt : onlyT t (ps.map Pe.core) xs = tt
  have httH : Hid ((t || ps.any fun p => !hasW xs p.key) = tt) := Lib.hid (by rw [← htt]; unfold onlyT; rw [List.any_map]; rfl)
  clear htt
  have hb0 : Below w.heap.size w (w.alloc (.cells #[.int .i64 x.1, .int .u32 x.2, .int .u32 v.d0, .int .u32 v.d1, .int .u32 v.d2, .int .u32 v.d3, .int .u32 v.d4, .int .u32 v.d5, .int .u32 v.d6, .int .u32 v.d7, .bool t, .slice A n c] 30)) := (Below.refl _ w).alloc (Nat.le_refl _) _
  have hbt : (w.alloc (.cells #[.int .i64 x.1, .int .u32 x.2, .int .u32 v.d0, .int .u32 v.d1, .int .u32 v.d2, .int .u32 v.d3, .int .u32 v.d4, .int .u32 v.d5, .int .u32 v.d6, .int .u32 v.d7, .bool t, .slice A n c] 30)).heap[w.heap.size]? = some (.cells #[.int .i64 x.1, .int .u32 x.2, .int .u32 v.d0, .int .u32 v.d1, .int .u32 v.d2, .int .u32 v.d3, .int .u32 v.d4, .int .u32 v.d5, .int .u32 v.d6, .int .u32 v.d7, .bool t, .slice A n c] 30 (0, 0)) := heap_at _ _ rfl
  generalize hWe : (w.alloc (.cells #[.int .i64 x.1, .int .u32 x.2, .int .u32 v.d0, .int .u32 v.d1, .int .u32 v.d2, .int .u32 v.d3, .int .u32 v.d4, .int .u32 v.d5, .int .u32 v.d6, .int .u32 v.d7, .bool t, .slice A n c] 30)) = W at hb0 hbt
  have hz0 := hb0.size
  have q0 := blk_cell hbt 0
  have q1 := blk_cell hbt 1
  have q2 := blk_cell hbt 2
  have q3 := blk_cell hbt 3
  have q4 := blk_cell hbt 4
  have q5 := blk_cell hbt 5
  have q6 := blk_cell hbt 6
  have q7 := blk_cell hbt 7
  have q8 := blk_cell hbt 8
  have q9 := blk_cell hbt 9
  have q10 := blk_cell hbt 10
  have q11 := blk_cell hbt 11
  simp at q0 q1 q2 q3 q4 q5 q6 q7 q8 q9 q10 q11
  have hltq := blk_lt hbt
  have hbtH := Lib.hid hbt
  have hAr := Lib.hid (fun w' (h : Below w.heap.size w w') => hA.below h)
  have hBr := Lib.hid (fun w' (h : Below w.heap.size w w') => hB.below h)
  have hal := Lib.hid hA.len
  clear hbt hA hB
  go_enter Tryd.func16, Tryd.ntmps16
  go_wp2_with fail
  clear q0 q1 q2 q3 q4 q5 q6 q7 q8 q9 q10 q11 hltq
  go_loopg [6] (n + 1) (fun g' i wr => ∃ (k n' : Nat) (A' : Option Addr) (c' : Nat) (t' : Bool), k ≤ n ∧ g' = n + 1 - k ∧ i = .int .i64 k ∧ n' ≤ k ∧ t' = (t || (ps.take k).any fun p => !hasW xs p.key) ∧
    wr.heap[W.heap.size + 1]? = some (.cells #[.int .i64 x.1, .int .u32 x.2, .int .u32 v.d0, .int .u32 v.d1, .int .u32 v.d2, .int .u32 v.d3, .int .u32 v.d4, .int .u32 v.d5, .int .u32 v.d6, .int .u32 v.d7, .bool t', .slice A' n' c'] 30 (0, 0)) ∧ Ow wr (W.heap.size + 2) 56 10 (.slice A' n' c') (((ps.take k).filter fun p => hasW xs p.key).map Pe.enc) ∧
    Below (W.heap.size + 1) (W.alloc (.cells #[.int .i64 0, .int .u32 0, .int .u32 0, .int .u32 0, .int .u32 0, .int .u32 0, .int .u32 0, .int .u32 0, .int .u32 0, .int .u32 0, .bool false, .slice none 0 0] 30)) wr)
  case atStart =>
    exact ⟨0, 0, none, 0, t, Nat.zero_le _, rfl, rfl, Nat.le_refl _, by simp, heap_at _ _ (by simp), Ow.nil_ _ _ _ _, (Below.refl _ _).alloc (by simp) _⟩
  case round =>
    obtain ⟨k, n', A', c', t', hk, rfl, rfl, hnk, ht', hblk, hown, hbr⟩ := hrel
    have hbW : Below W.heap.size W wr := ((Below.refl _ W).alloc (Nat.le_refl _) _).trans (hbr.mono (Nat.le_succ _))
    have hbw : Below w.heap.size w wr := hb0.trans (hbW.mono hb0.size)
    have hbl := blk_lt hblk
    have hblH := Lib.hid hbl
    have htH := Lib.hid ht'
    have hblkH := Lib.hid hblk
    have hql : ((ps.take k).filter fun p => hasW xs p.key).length = n' := by simpa using hown.rd.2.1
    have hqlH := Lib.hid hql
    have hbt1 := blk_below hbtH.out hbW
    have hltw : w.heap.size < W.heap.size := blk_lt hbtH.out
    have hlt1 := blk_lt hbt1
    have s11 := blk_cell hbt1 11
    simp at s11
    clear ht' hql
    by_cases hlt : k < n
    · have hAw := hAr.out wr hbw
      obtain ⟨bA, oA, p, rfl, hbA, hp, hcp⟩ := hAw.1.at_ hlt
      have p0 := hcp 0 _ rfl
      have p1 := hcp 1 _ rfl
      have p2 := hcp 2 _ rfl
      have p3 := hcp 3 _ rfl
      have p4 := hcp 4 _ rfl
      have p5 := hcp 5 _ rfl
      have p6 := hcp 6 _ rfl
      have p7 := hcp 7 _ rfl
      have p8 := hcp 8 _ rfl
      have p9 := hcp 9 _ rfl
      rw [Nat.add_zero] at p0
      clear hcp
      have hbA2 : bA < wr.heap.size := by omega
      have hlti : (k : Int) < (n : Int) := by omega
      have hpm := List.mem_of_getElem? hp
      have hpH2 := Lib.hid hp
      have cH := Lib.hid (fun w' (h : Below wr.heap.size wr w') => rhasW_any B m d xs p.key w' ((hBr.out w' (hbw.trans (h.mono (by omega)))).more (by have := h.size; omega)) hm hx (hkl p hpm))
      clear hp hpm hAw
      generalize hpr : hasW xs p.key = b at cH
      cases b with
      | false =>
        have hQ : Hid (((ps.take (k + 1)).filter fun p => hasW xs p.key) = (ps.take k).filter fun p => hasW xs p.key) := Lib.hid (by
          rw [List.take_add_one, hpH2.out, List.filter_append]; simp [hpr])
        have hT : Hid (true = (t || (ps.take (k + 1)).any fun p => !hasW xs p.key)) := Lib.hid (by
          rw [List.take_add_one, hpH2.out]; simp [hpr])
        clear hpr
        go_wp2_with fail
        refine (cH.out wr (Below.refl _ _)).mono ?_
        rintro e w1 ⟨rfl, hv1⟩
        have hblk1 := blk_below hblkH.out hv1
        have hfro1 := blk_frozen hblk1
        have o10 := blk_cell hblk1 10
        simp at o10
        have hbl1 := blk_lt hblk1
        have hbr1 := hbr.trans (hv1.mono (by omega))
        have hown1 := hown.below hv1
        clear hblk hbt1 s11 p0 p1 p2 p3 p4 p5 p6 p7 p8 p9
        go_wp2
        go_roundg (n + 1 - (k + 1))
        case measure => omega
        case rel =>
          refine ⟨k + 1, n', A', c', true, by omega, rfl, by go_num, by omega, hT.out, ?_, by rw [hQ.out]; exact hown1.setCell (by simp) _, hbr1.setCell (by simp) _⟩
          rw [blk_set hblk1 10]; simp
      | true =>
        have hQ : Hid ((((ps.take (k + 1)).filter fun p => hasW xs p.key).map Pe.enc) = (((ps.take k).filter fun p => hasW xs p.key).map Pe.enc) ++ [Pe.enc p]) := Lib.hid (by
          rw [List.take_add_one, hpH2.out, List.filter_append]; simp [hpr])
        have hT : Hid (t' = (t || (ps.take (k + 1)).any fun p => !hasW xs p.key)) := Lib.hid (by
          rw [List.take_add_one, hpH2.out, htH.out]; simp [hpr])
        clear hpr
        go_wp2_with fail
        refine (cH.out wr (Below.refl _ _)).mono ?_
        rintro e w1 ⟨rfl, hv1⟩
        have hblk1 := blk_below hblkH.out hv1
        have hbl1 := blk_lt hblk1
        have hbr1 := hbr.trans (hv1.mono (by omega))
        have hown1 := hown.below hv1
        have hbt2 := blk_below hbt1 hv1
        have hlt2 := blk_lt hbt2
        have hz1 := hv1.size
        clear s11 p0 p1 p2 p3 p4 p5 p6 p7 p8 p9
        obtain ⟨bA', oA', p', hAA, hbA', hp', hcp⟩ := ((hAr.out w1 (hbw.trans (hv1.mono (by omega)))).1.at_ hlt)
        injection hAA with hAA
        injection hAA with h1 h2
        subst h1
        subst h2
        obtain rfl : p = p' := by have := hpH2.out.symm.trans hp'; injection this
        have p0 := hcp 0 _ rfl
        have p1 := hcp 1 _ rfl
        have p2 := hcp 2 _ rfl
        have p3 := hcp 3 _ rfl
        have p4 := hcp 4 _ rfl
        have p5 := hcp 5 _ rfl
        have p6 := hcp 6 _ rfl
        have p7 := hcp 7 _ rfl
        have p8 := hcp 8 _ rfl
        have p9 := hcp 9 _ rfl
        rw [Nat.add_zero] at p0
        have s11 := blk_cell hbt2 11
        have o11 := blk_cell hblk1 11
        simp at s11 o11
        have hbA3 : bA < w1.heap.size := by omega
        have hbA4 : bA < W.heap.size := by omega
        clear hcp hp' hblk hbt1 hlt1 hbt2
        go_upto_region 6 with (fail)
        refine wp_region_M (fun w' => KQ W.heap.size w1 w') (fun w' => w'.cell? ⟨W.heap.size + 1, 11, none⟩ = some (.slice A' n' c')) 8 (by kernel_rfl) (kq (Below.refl _ _).drew) o11 ?_
        intro hcl
        have hC : KQ W.heap.size w1 w1.drew := kq (Below.refl _ _).drew
        have hE : w1.drew.cell? ⟨W.heap.size + 1, 11, none⟩ = some (.slice A' n' c') := o11
        (refine wpM_take (i := 0) (v := ?_) rfl (by kernel_rfl) (by kernel_rfl) (by kernel_rfl) (by decide) (fun _ _ _ h => h) hcl hC (fun _ => hE) (Or.inl ⟨by rfl, ?_⟩) ?_; rotate_left; (· (intro w hSw; (try dsimp only at hSw); go_simp; (try with_reducible rfl))); clear hcl; intro hcl; (try simp only [Act.put, List.getElem_toArray, List.getElem_cons_zero, List.setIfInBounds_toArray, List.set_cons_zero, List.set_cons_succ]))
        (refine wpM_take0 (i := 1) (v := ?_) rfl rfl (by kernel_rfl) (by kernel_rfl) (by kernel_rfl) (by kernel_rfl) (by decide) (fun _ _ _ h => h) hcl hC (fun _ => hE) (Or.inl ⟨by rfl, ?_⟩) ?_; rotate_left; (· (intro w hSw; (try dsimp only at hSw); go_simp; (try with_reducible rfl))); clear hcl; intro hcl; (try simp only [Act.put, List.getElem_toArray, List.getElem_cons_zero, List.getElem_cons_succ, List.setIfInBounds_toArray, List.set_cons_zero, List.set_cons_succ]))
        (refine wpM_take (i := 2) (v := ?_) rfl (by kernel_rfl) (by kernel_rfl) (by kernel_rfl) (by decide) (fun _ _ _ h => h) hcl hC (fun _ => hE) (Or.inl ⟨by rfl, ?_⟩) ?_; rotate_left; (· (intro w hSw; (try dsimp only at hSw); go_simp; (try with_reducible rfl))); clear hcl; intro hcl; (try simp only [Act.put, List.getElem_toArray, List.getElem_cons_zero, List.getElem_cons_succ, List.setIfInBounds_toArray, List.set_cons_zero, List.set_cons_succ]))
        (refine wpM_take (i := 3) (v := ?_) rfl (by kernel_rfl) (by kernel_rfl) (by kernel_rfl) (by decide) (fun _ _ _ h => h) hcl hC (fun _ => hE) (Or.inl ⟨by rfl, ?_⟩) ?_; rotate_left; (· (intro w hSw; (try dsimp only at hSw); go_simp; (try with_reducible rfl))); clear hcl; intro hcl; (try simp only [Act.put, List.getElem_toArray, List.getElem_cons_zero, List.getElem_cons_succ, List.setIfInBounds_toArray, List.set_cons_zero, List.set_cons_succ]))
        (refine wpM_take (i := 4) (v := ?_) rfl (by kernel_rfl) (by kernel_rfl) (by kernel_rfl) (by decide) (fun _ _ _ h => h) hcl hC (fun _ => hE) (Or.inl ⟨by rfl, ?_⟩) ?_; rotate_left; (· (intro w hSw; (try dsimp only at hSw); go_simp; (try with_reducible rfl))); clear hcl; intro hcl; (try simp only [Act.put, List.getElem_toArray, List.getElem_cons_zero, List.getElem_cons_succ, List.setIfInBounds_toArray, List.set_cons_zero, List.set_cons_succ]))
        (refine wpM_take (i := 5) (v := ?_) rfl (by kernel_rfl) (by kernel_rfl) (by kernel_rfl) (by decide) (fun _ _ _ h => h) hcl hC (fun _ => hE) (Or.inl ⟨by rfl, ?_⟩) ?_; rotate_left; (· (intro w hSw; (try dsimp only at hSw); go_simp; (try with_reducible rfl))); clear hcl; intro hcl; (try simp only [Act.put, List.getElem_toArray, List.getElem_cons_zero, List.getElem_cons_succ, List.setIfInBounds_toArray, List.set_cons_zero, List.set_cons_succ]))
        (refine wpM_take (i := 6) (v := ?_) rfl (by kernel_rfl) (by kernel_rfl) (by kernel_rfl) (by decide) (fun _ _ _ h => h) hcl hC (fun _ => hE) (Or.inl ⟨by rfl, ?_⟩) ?_; rotate_left; (· (intro w hSw; (try dsimp only at hSw); go_simp; (try with_reducible rfl))); clear hcl; intro hcl; (try simp only [Act.put, List.getElem_toArray, List.getElem_cons_zero, List.getElem_cons_succ, List.setIfInBounds_toArray, List.set_cons_zero, List.set_cons_succ]))
        refine wpM_only (i := 7) rfl (by kernel_rfl) hcl (fun K hK => ?_)
        go_simp
        have hv3 : Below w1.heap.size w1 (w1.alloc (.cells #[.string (bs p.key), .int .i64 p.e.act, .string (bs p.e.name), .int .i64 p.e.val, .int .i64 p.e.tag.1.1, .int .u32 p.e.tag.1.2, .int .i64 p.e.tag.2, .int .u32 p.e.st.1, .int .i64 p.e.st.2, .slice p.A p.l p.c] 56)).drew := ((Below.refl _ w1).alloc (Nat.le_refl _) _).drew
        have hC3 : KQ W.heap.size w1 (w1.alloc (.cells #[.string (bs p.key), .int .i64 p.e.act, .string (bs p.e.name), .int .i64 p.e.val, .int .i64 p.e.tag.1.1, .int .u32 p.e.tag.1.2, .int .i64 p.e.tag.2, .int .u32 p.e.st.1, .int .i64 p.e.st.2, .slice p.A p.l p.c] 56)).drew := kq (hv3.mono (by omega))
        have hblk3 := blk_below hblk1 hv3
        have hE3 := blk_cell hblk3 11
        simp at hE3
        refine hK.out _ _ hC3 hE3 ?_
        clear hK K hE hC hcl
        intro hcl
        have hC := hC3
        (try simp only [Act.put, List.setIfInBounds_toArray, List.set_cons_zero, List.set_cons_succ])
        have hown3 := hown1.below hv3
        have hlo := blk_lt hblk3
        refine wpM_last (i := 8) rfl (by kernel_rfl) hcl (by kernel_rfl) (fun K hK => ?_)
        refine step_append_rd _ rfl _ _ _ rfl ePartD (base := W.heap.size + 2) (v := .slice A' n' c') (xs := ((ps.take k).filter fun p => hasW xs p.key).map Pe.enc) rfl hown3 rfl (Rd.one [.string (bs p.key), .int .i64 p.e.act, .string (bs p.e.name), .int .i64 p.e.val, .int .i64 p.e.tag.1.1, .int .u32 p.e.tag.1.2, .int .i64 p.e.tag.2, .int .u32 p.e.st.1, .int .i64 p.e.st.2, .slice p.A p.l p.c] rfl) (by simp) (by simp [Value.oneCell'])
          (by rw [List.length_map, hqlH.out]; unfold maxLen; omega) (by rw [List.length_map, hqlH.out]; omega) (by simp; omega) ?_
        intro A2 n2 c2 w4 hn2 hown4 hg4 hat4
        obtain rfl : n2 = n' + 1 := by rw [hn2, List.length_map, hqlH.out]
        clear hn2
        have hblk4 : w4.heap[W.heap.size + 1]? = some (.cells #[.int .i64 x.1, .int .u32 x.2, .int .u32 v.d0, .int .u32 v.d1, .int .u32 v.d2, .int .u32 v.d3, .int .u32 v.d4, .int .u32 v.d5, .int .u32 v.d6, .int .u32 v.d7, .bool t', .slice A' n' c'] 30 (0, 0)) := (hg4.block _ hlo (fun e => by have := (hown3.block _ e.symm).1; omega)).trans hblk3
        have hfr4 := blk_frozen hblk4
        have hlt4 := blk_lt hblk4
        have o114 := blk_cell hblk4 11
        simp at o114
        have hC4 := kq_grown hC (by omega) hg4 (fun g e => by have := (hown3.block g e).1; omega)
        refine hK.out _ _ hC4 ?_
        clear hK K hC hcl
        intro hcl
        have hC := hC4
        (try simp only [Act.put, List.setIfInBounds_toArray])
        (refine wpM_takeX (i := 9) (v := ?_) rfl (by kernel_rfl) (by kernel_rfl) (by kernel_rfl) (by decide) (fun _ _ _ h => h) hcl hC (by kernel_rfl) (Or.inl ⟨by rfl, ?_⟩) ?_; rotate_left; (· (intro w hSw; (try dsimp only at hSw); go_simp; (try with_reducible rfl))); clear hcl; intro hcl; (try simp only [Act.put, List.getElem_toArray, List.getElem_cons_zero, List.getElem_cons_succ, List.setIfInBounds_toArray, List.set_cons_zero, List.set_cons_succ]))
        refine wpM_last (i := 10) rfl (by kernel_rfl) hcl (by kernel_rfl) (fun K hK => ?_)
        go_simp
        refine hK.out _ _ (kq_set hC (by simp) _) ?_
        clear hK K hC hcl
        intro hcl
        refine wpM_done (by kernel_rfl) ?_
        clear hcl
        have hb4 : Below (W.heap.size + 1) w1 w4 := (hv3.mono (by omega)).grown hg4 (by simp; omega) (fun g e => by have := (hown3.block g e).1; omega)
        have hownH : Hid (Ow w4 (W.heap.size + 2) 56 10 (.slice A2 (n' + 1) c2) (((ps.take (k + 1)).filter fun p => hasW xs p.key).map Pe.enc)) := Lib.hid (by rw [hQ.out]; exact hown4)
        have hblkN : Hid ((w4.setCell ⟨W.heap.size + 1, 11, none⟩ (.slice A2 (n' + 1) c2)).heap[W.heap.size + 1]? = some (.cells #[.int .i64 x.1, .int .u32 x.2, .int .u32 v.d0, .int .u32 v.d1, .int .u32 v.d2, .int .u32 v.d3, .int .u32 v.d4, .int .u32 v.d5, .int .u32 v.d6, .int .u32 v.d7, .bool t', .slice A2 (n' + 1) c2] 30 (0, 0))) := Lib.hid (by rw [blk_set hblk4 11]; simp)
        have hbrH := Lib.hid (hbr1.trans hb4)
        clear hown4 hblk4 hb4 hg4 hown3 hv3 hblk3 hC3 hC4 hE3
        go_wp2
        go_roundg (n + 1 - (k + 1))
        case measure => omega
        case rel =>
          exact ⟨k + 1, n' + 1, A2, c2, t', by omega, rfl, by go_num, by omega, hT.out, hblkN.out, hownH.out.setCell (by simp) _, hbrH.out.setCell (by simp) _⟩
    · obtain rfl : k = n := by omega
      have hnli : ¬ (k : Int) < (k : Int) := by omega
      have o0 := blk_cell hblk 0
      have o1 := blk_cell hblk 1
      have o2 := blk_cell hblk 2
      have o3 := blk_cell hblk 3
      have o4 := blk_cell hblk 4
      have o5 := blk_cell hblk 5
      have o6 := blk_cell hblk 6
      have o7 := blk_cell hblk 7
      have o8 := blk_cell hblk 8
      have o9 := blk_cell hblk 9
      have o10 := blk_cell hblk 10
      have o11 := blk_cell hblk 11
      simp at o0 o1 o2 o3 o4 o5 o6 o7 o8 o9 o10 o11
      have hres : wr.heap[W.heap.size]? = some (.cells #[.int .i64 0, .int .u32 0, .int .u32 0, .int .u32 0, .int .u32 0, .int .u32 0, .int .u32 0, .int .u32 0, .int .u32 0, .int .u32 0, .bool false, .slice none 0 0] 30) := (hbr.block _ (by omega)).trans (heap_at _ _ rfl)
      have r0 := blk_cell hres 0
      have r1 := blk_cell hres 1
      have r2 := blk_cell hres 2
      have r3 := blk_cell hres 3
      have r4 := blk_cell hres 4
      have r5 := blk_cell hres 5
      have r6 := blk_cell hres 6
      have r7 := blk_cell hres 7
      have r8 := blk_cell hres 8
      have r9 := blk_cell hres 9
      have r10 := blk_cell hres 10
      have r11 := blk_cell hres 11
      simp at r0 r1 r2 r3 r4 r5 r6 r7 r8 r9 r10 r11
      have hps : Hid (ps.take k = ps) := List.take_of_length_le (by have := hal.out; omega)
      have hT : Hid (t' = tt) := Lib.hid (by rw [htH.out, hps.out]; exact httH.out)
      have hfr := blk_frozen hres
      have hltr := blk_lt hres
      rw [hps.out] at hown
      rw [hT.out] at o10
      go_wp2
      refine bodyPost_ret (v := .agg #[.int .i64 x.1, .int .u32 x.2, .int .u32 v.d0, .int .u32 v.d1, .int .u32 v.d2, .int .u32 v.d3, .int .u32 v.d4, .int .u32 v.d5, .int .u32 v.d6, .int .u32 v.d7, .bool tt, .slice A' n' c']) (by simp [results, Tryd.results16, go_sem, r0, r1, r2, r3, r4, r5, r6, r7, r8, r9, r10, r11]) rfl ⟨A', n', c', rfl, ?_, ?_⟩
      · refine Ow.base (base := W.heap.size + 2) ?_ (by omega)
        (repeat (with_reducible refine Ow.setCell ?_ (by simp) _))
        exact hown
      · repeat (with_reducible refine Below.setCell ?_ (by simp; omega) _)
        exact hbw
end Go.Proofs.YtelipindcacphaaDoor
