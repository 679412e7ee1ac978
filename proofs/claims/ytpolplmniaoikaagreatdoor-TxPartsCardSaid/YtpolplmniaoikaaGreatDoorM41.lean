/- tx.own, tx.Only: a transaction with the parts of some keys alone. selkielaw14.FromEffect, selkielaw15.From: a transaction in the document's words; tx.own; tx.Only. -/
import Derived.Test.YtpolplmniaoikaaGreatDoorM39
import Derived.Test.YtpolplmniaoikaaGreatDoorN21
namespace Go.Proofs.YtpolplmniaoikaaGreatDoor
open Go.RowKit

set_option maxRecDepth 100000 in
set_option maxHeartbeats 1000000 in
theorem txown_any (p : Pe) (w : World) (hT : p.Ok w w.heap.size) (hl : p.l ≤ 100000) :
    Calls Tryz.prog 82 #[.agg #[.string (bs p.key), .int .i64 p.e.act, .string (bs p.e.name), .int .i64 p.e.val, .int .i64 p.e.tag.1.1, .int .u32 p.e.tag.1.2, .int .i64 p.e.tag.2, .int .u32 p.e.st.1, .int .i64 p.e.st.2, .slice p.A p.l p.c]] w fun e w' => ∃ A' c', e = .returned (.agg #[.string (bs p.key), .int .i64 p.e.act, .string (bs p.e.name), .int .i64 p.e.val, .int .i64 p.e.tag.1.1, .int .u32 p.e.tag.1.2, .int .i64 p.e.tag.2, .int .u32 p.e.st.1, .int .i64 p.e.st.2, .slice A' p.l c']) ∧ Ow w' w.heap.size 74 3 (.slice A' p.l c') (p.e.tags.map Tm.enc) ∧ Below w.heap.size w w' := by
  have hb0 : Below w.heap.size w ((w.alloc (.cells #[.string (bs p.key), .int .i64 p.e.act, .string (bs p.e.name), .int .i64 p.e.val, .int .i64 p.e.tag.1.1, .int .u32 p.e.tag.1.2, .int .i64 p.e.tag.2, .int .u32 p.e.st.1, .int .i64 p.e.st.2, .slice p.A p.l p.c] 101)).alloc (.cells #[.string ⟨#[]⟩, .int .i64 0, .string ⟨#[]⟩, .int .i64 0, .int .i64 0, .int .u32 0, .int .i64 0, .int .u32 0, .int .i64 0, .slice none 0 0] 101)) := ((Below.refl _ w).alloc (Nat.le_refl _) _).alloc (by simp) _
  have hbx : ((w.alloc (.cells #[.string (bs p.key), .int .i64 p.e.act, .string (bs p.e.name), .int .i64 p.e.val, .int .i64 p.e.tag.1.1, .int .u32 p.e.tag.1.2, .int .i64 p.e.tag.2, .int .u32 p.e.st.1, .int .i64 p.e.st.2, .slice p.A p.l p.c] 101)).alloc (.cells #[.string ⟨#[]⟩, .int .i64 0, .string ⟨#[]⟩, .int .i64 0, .int .i64 0, .int .u32 0, .int .i64 0, .int .u32 0, .int .i64 0, .slice none 0 0] 101)).heap[w.heap.size]? = some (.cells #[.string (bs p.key), .int .i64 p.e.act, .string (bs p.e.name), .int .i64 p.e.val, .int .i64 p.e.tag.1.1, .int .u32 p.e.tag.1.2, .int .i64 p.e.tag.2, .int .u32 p.e.st.1, .int .i64 p.e.st.2, .slice p.A p.l p.c] 101 (0, 0)) := heap_old _ (by simp) (heap_at _ _ rfl)
  have hbr : ((w.alloc (.cells #[.string (bs p.key), .int .i64 p.e.act, .string (bs p.e.name), .int .i64 p.e.val, .int .i64 p.e.tag.1.1, .int .u32 p.e.tag.1.2, .int .i64 p.e.tag.2, .int .u32 p.e.st.1, .int .i64 p.e.st.2, .slice p.A p.l p.c] 101)).alloc (.cells #[.string ⟨#[]⟩, .int .i64 0, .string ⟨#[]⟩, .int .i64 0, .int .i64 0, .int .u32 0, .int .i64 0, .int .u32 0, .int .i64 0, .slice none 0 0] 101)).heap[w.heap.size + 1]? = some (.cells #[.string ⟨#[]⟩, .int .i64 0, .string ⟨#[]⟩, .int .i64 0, .int .i64 0, .int .u32 0, .int .i64 0, .int .u32 0, .int .i64 0, .slice none 0 0] 101) := heap_at _ _ (by simp)
  have hc := cloneT_any p.A p.l p.c p.e.tags _ ((RdT.below hT hb0).more hb0.size) hl
  generalize hW : ((w.alloc (.cells #[.string (bs p.key), .int .i64 p.e.act, .string (bs p.e.name), .int .i64 p.e.val, .int .i64 p.e.tag.1.1, .int .u32 p.e.tag.1.2, .int .i64 p.e.tag.2, .int .u32 p.e.st.1, .int .i64 p.e.st.2, .slice p.A p.l p.c] 101)).alloc (.cells #[.string ⟨#[]⟩, .int .i64 0, .string ⟨#[]⟩, .int .i64 0, .int .i64 0, .int .u32 0, .int .i64 0, .int .u32 0, .int .i64 0, .slice none 0 0] 101)) = W at hb0 hbx hbr hc
  have hz : W.heap.size = w.heap.size + 2 := by rw [← hW]; simp
  have hbxH := Lib.hid hbx
  have hbrH := Lib.hid hbr
  have hzH := Lib.hid hz
  have hlt := blk_lt hbx
  have q9 := blk_cell hbx 9
  simp at q9
  clear hbx hbr hz
  go_enter Tryz.func82, Tryz.ntmps82
  go_wp2_with fail
  refine hc.mono ?_
  rintro e w1 ⟨A', c', rfl, ho, hb1⟩
  have hx1 := blk_below hbxH.out hb1
  have hr1 := blk_below hbrH.out hb1
  clear q9 hlt
  have hltx := blk_lt hx1
  have hltr := blk_lt hr1
  have hfx := blk_frozen hx1
  have hfr := blk_frozen hr1
  have o0 := blk_cell hx1 0
  have o1 := blk_cell hx1 1
  have o2 := blk_cell hx1 2
  have o3 := blk_cell hx1 3
  have o4 := blk_cell hx1 4
  have o5 := blk_cell hx1 5
  have o6 := blk_cell hx1 6
  have o7 := blk_cell hx1 7
  have o8 := blk_cell hx1 8
  have o9 := blk_cell hx1 9
  simp at o0 o1 o2 o3 o4 o5 o6 o7 o8 o9
  have r0 := blk_cell hr1 0
  have r1 := blk_cell hr1 1
  have r2 := blk_cell hr1 2
  have r3 := blk_cell hr1 3
  have r4 := blk_cell hr1 4
  have r5 := blk_cell hr1 5
  have r6 := blk_cell hr1 6
  have r7 := blk_cell hr1 7
  have r8 := blk_cell hr1 8
  have r9 := blk_cell hr1 9
  simp at r0 r1 r2 r3 r4 r5 r6 r7 r8 r9
  have hG := hb0.trans (hb1.mono hb0.size)
  go_wp2
  refine bodyPost_ret (v := .agg #[.string (bs p.key), .int .i64 p.e.act, .string (bs p.e.name), .int .i64 p.e.val, .int .i64 p.e.tag.1.1, .int .u32 p.e.tag.1.2, .int .i64 p.e.tag.2, .int .u32 p.e.st.1, .int .i64 p.e.st.2, .slice A' p.l c']) (by simp [results, Tryz.results82, go_sem, r0, r1, r2, r3, r4, r5, r6, r7, r8, r9]) rfl ⟨A', c', rfl, ?_, ?_⟩
  · refine Ow.base (base := W.heap.size) ?_ (by have := hzH.out; omega)
    (repeat (with_reducible refine Ow.setCell ?_ (by have := hzH.out; simp; omega) _))
    exact ho
  · repeat (with_reducible refine Below.setCell ?_ (by simp) _)
    exact hG
set_option maxRecDepth 100000 in
set_option maxHeartbeats 1000000 in
theorem txonly_any (g : Nat) (lb : Array Value) (pr : List UInt8 → Bool) (eg : ∀ args w, (callFunc g args).run Tryz.prog w = .ok (.enter g args) w) (B0 : Nat) (x : Im) (v : Vm) (t : Bool) (A : Option Addr) (n c : Nat) (ps : List Pe) (w : World) (hA : RdE w w.heap.size A n ps) (hn : n ≤ 1000) (hl : ∀ p ∈ ps, p.l ≤ 4096)
    (hp : ∀ p ∈ ps, ∀ w', Below B0 w w' → Calls Tryz.prog g (#[.string (bs p.key)] ++ lb) w' fun e w'' => e = .returned (.bool (pr p.key)) ∧ Below w'.heap.size w' w'') (hB : B0 ≤ w.heap.size) :
    Calls Tryz.prog 73 #[.agg #[.int .i64 x.1, .int .u32 x.2, .int .u32 v.d0, .int .u32 v.d1, .int .u32 v.d2, .int .u32 v.d3, .int .u32 v.d4, .int .u32 v.d5, .int .u32 v.d6, .int .u32 v.d7, .bool t, .slice A n c], .func (.func g) #[] lb] w
      fun e w' => ∃ A' n' c' qs, e = .returned (.agg #[.int .i64 x.1, .int .u32 x.2, .int .u32 v.d0, .int .u32 v.d1, .int .u32 v.d2, .int .u32 v.d3, .int .u32 v.d4, .int .u32 v.d5, .int .u32 v.d6, .int .u32 v.d7, .bool (t || ps.any fun p => !pr p.key), .slice A' n' c']) ∧ OwE 101 w' w.heap.size A' n' c' qs ∧ qs.map Pe.core = (ps.map Pe.core).filter (fun p => pr p.1) ∧ Below w.heap.size w w' := by
  have hpH := Lib.hid hp
  clear hp
  go_enter Tryz.func73, Tryz.ntmps73
  go_wp2_with fail
  go_loopg [13] (n + 1) (fun g' i wr => ∃ (k n' : Nat) (A' : Option Addr) (c' : Nat) (qs : List Pe) (t' : Bool), k ≤ n ∧ g' = n + 1 - k ∧ i = .int .i64 k ∧ n' ≤ k ∧ qs.map Pe.core = ((ps.take k).map Pe.core).filter (fun p => pr p.1) ∧ t' = (t || (ps.take k).any fun p => !pr p.key) ∧
    wr.heap[w.heap.size + 1 + 1]? = some (.cells #[.int .i64 x.1, .int .u32 x.2, .int .u32 v.d0, .int .u32 v.d1, .int .u32 v.d2, .int .u32 v.d3, .int .u32 v.d4, .int .u32 v.d5, .int .u32 v.d6, .int .u32 v.d7, .bool t', .slice A' n' c'] 36 (0, 0)) ∧ Ow wr (w.heap.size + 3) 101 10 (.slice A' n' c') (qs.map Pe.enc) ∧
    (∀ q ∈ qs, Ow wr w.heap.size 74 3 (.slice q.A q.l q.c) (q.e.tags.map Tm.enc)) ∧
    Below (w.heap.size + 2) ((w.alloc (.cells #[.int .i64 x.1, .int .u32 x.2, .int .u32 v.d0, .int .u32 v.d1, .int .u32 v.d2, .int .u32 v.d3, .int .u32 v.d4, .int .u32 v.d5, .int .u32 v.d6, .int .u32 v.d7, .bool t, .slice A n c] 36)).alloc (.cells #[.int .i64 0, .int .u32 0, .int .u32 0, .int .u32 0, .int .u32 0, .int .u32 0, .int .u32 0, .int .u32 0, .int .u32 0, .int .u32 0, .bool false, .slice none 0 0] 36)) wr)
  case atStart =>
    exact ⟨0, 0, none, 0, [], t, Nat.zero_le _, rfl, rfl, Nat.le_refl _, rfl, by simp, heap_at _ _ (by simp), Ow.nil_ _ _ _ _, by simp, (Below.refl _ _).alloc (by simp) _⟩
  case round =>
    obtain ⟨k, n', A', c', qs, t', hk, rfl, rfl, hnk, hqs, ht', hblk, hown, hok, hbr⟩ := hrel
    have hb0 : Below (w.heap.size + 1) (w.alloc (.cells #[.int .i64 x.1, .int .u32 x.2, .int .u32 v.d0, .int .u32 v.d1, .int .u32 v.d2, .int .u32 v.d3, .int .u32 v.d4, .int .u32 v.d5, .int .u32 v.d6, .int .u32 v.d7, .bool t, .slice A n c] 36)) wr := ((Below.refl _ _).alloc (by simp) _).trans (hbr.mono (Nat.le_succ _))
    have hbw : Below w.heap.size w wr := ((Below.refl _ w).alloc (Nat.le_refl _) _).trans (hb0.mono (Nat.le_succ _))
    have hbl := blk_lt hblk
    have hql : qs.length = n' := by simpa using hown.rd.2.1
    have hz1 : w.heap.size < wr.heap.size := by omega
    have hz2 : w.heap.size + 1 < wr.heap.size := by omega
    have hfro := blk_frozen hblk
    have hqsH := Lib.hid hqs
    have htH := Lib.hid ht'
    have hblkH := Lib.hid hblk
    have hqlH := Lib.hid hql
    clear hqs ht' hql
    by_cases hlt : k < n
    · obtain ⟨bA, oA, p, rfl, hbA, hp, hcp⟩ := (hA.below hbw).1.at_ hlt
      have p0 := hcp 0 _ rfl
      have p1 := hcp 1 _ rfl
      have p2 := hcp 2 _ rfl
      have p3 := hcp 3 _ rfl
      have p4 := hcp 4 _ rfl
      have p5 := hcp 5 _ rfl
      have p6 := hcp 6 _ rfl
      have p7 := hcp 7 _ rfl
      have p8 := hcp 8 _ rfl
      have p9 := hcp 9 _ rfl
      rw [Nat.add_zero] at p0
      clear hcp
      have hbA2 : bA < wr.heap.size := by omega
      have hlti : (k : Int) < (n : Int) := by omega
      have hpm := List.mem_of_getElem? hp
      have hpl := hl p hpm
      have hTp : p.Ok wr wr.heap.size := ((hA.below hbw).2 p hpm).more (by omega)
      have cg := Lib.hid (fun w' (h : Below wr.heap.size wr w') => hpH.out p hpm w' ((hbw.trans (h.mono (by omega))).mono hB))
      have hpH2 := Lib.hid hp
      have hTpH := Lib.hid hTp
      clear hp hpm hTp
      obtain ⟨wb, hwb⟩ : ∃ wb, wr.alloc (.cells #[.string (bs p.key), .int .i64 p.e.act, .string (bs p.e.name), .int .i64 p.e.val, .int .i64 p.e.tag.1.1, .int .u32 p.e.tag.1.2, .int .i64 p.e.tag.2, .int .u32 p.e.st.1, .int .i64 p.e.st.2, .slice p.A p.l p.c] 101) = wb := ⟨_, rfl⟩
      have hvb : Below wr.heap.size wr wb := by rw [← hwb]; exact (Below.refl _ wr).alloc (Nat.le_refl _) _
      have hbx : wb.heap[wr.heap.size]? = some (.cells #[.string (bs p.key), .int .i64 p.e.act, .string (bs p.e.name), .int .i64 p.e.val, .int .i64 p.e.tag.1.1, .int .u32 p.e.tag.1.2, .int .i64 p.e.tag.2, .int .u32 p.e.st.1, .int .i64 p.e.st.2, .slice p.A p.l p.c] 101 (0, 0)) := by rw [← hwb]; exact heap_at _ _ rfl
      have hbxH := Lib.hid hbx
      have y0 := blk_cell hbx 0
      simp at y0
      have hltx := blk_lt hbx
      go_wp2_with fail
      refine (cg.out wb hvb).mono ?_
      rintro e w1 ⟨rfl, hb1⟩
      have hv1 : Below wr.heap.size wr w1 := hvb.trans (hb1.mono hvb.size)
      have hbx1 := blk_below hbxH.out hb1
      have hblk1 := blk_below (blk_below hblkH.out hvb) hb1
      have hown1 := hown.below hv1
      have hbl1 := blk_lt hblk1
      have hltx1 := blk_lt hbx1
      have hbr1 : Below (w.heap.size + 2) ((w.alloc (.cells #[.int .i64 x.1, .int .u32 x.2, .int .u32 v.d0, .int .u32 v.d1, .int .u32 v.d2, .int .u32 v.d3, .int .u32 v.d4, .int .u32 v.d5, .int .u32 v.d6, .int .u32 v.d7, .bool t, .slice (some ⟨bA, oA, none⟩) n c] 36)).alloc (.cells #[.int .i64 0, .int .u32 0, .int .u32 0, .int .u32 0, .int .u32 0, .int .u32 0, .int .u32 0, .int .u32 0, .int .u32 0, .int .u32 0, .bool false, .slice none 0 0] 36)) w1 := hbr.trans (hv1.mono (by omega))
      have hblH := Lib.hid hbl
      clear hblk hb1 y0 hltx hbx p0 p1 p2 p3 p4 p5 p6 p7 p8 p9 hbl
      generalize hpr : pr p.key = b
      cases b with
      | false =>
        have hQ : Hid (qs.map Pe.core = ((ps.take (k + 1)).map Pe.core).filter (fun p => pr p.1)) := Lib.hid (by
          rw [List.take_add_one, hpH2.out, List.map_append, List.filter_append, ← hqsH.out]
          have : pr p.core.1 = false := hpr
          simp [this])
        have hT : Hid (true = (t || (ps.take (k + 1)).any fun p => !pr p.key)) := Lib.hid (by
          rw [List.take_add_one, hpH2.out]; simp [hpr])
        have hfro1 := blk_frozen hblk1
        have o10 := blk_cell hblk1 10
        simp at o10
        clear hpr
        go_wp2
        go_roundg (n + 1 - (k + 1))
        case measure => omega
        case rel =>
          refine ⟨k + 1, n', A', c', qs, true, by omega, rfl, by go_num, by omega, hQ.out, hT.out, ?_, hown1.setCell (by simp) _, fun q hq => ((hok q hq).below hv1).set_blk hblk1 (by decide) _ _, hbr1.setCell (by simp) _⟩
          rw [blk_set hblk1 10]; simp
      | true =>
        have hT : Hid (t' = (t || (ps.take (k + 1)).any fun p => !pr p.key)) := Lib.hid (by
          rw [List.take_add_one, hpH2.out, htH.out]; simp [hpr])
        have hprH := Lib.hid hpr
        clear hpr
        go_upto_region 7 with (fail)
        have hC0 : ∀ o, w1.drew.cell? ⟨wr.heap.size, o, none⟩ = w1.cell? ⟨wr.heap.size, o, none⟩ := fun _ => rfl
        have o0 := blk_cell hbx1 0
        have o1 := blk_cell hbx1 1
        have o2 := blk_cell hbx1 2
        have o3 := blk_cell hbx1 3
        have o4 := blk_cell hbx1 4
        have o5 := blk_cell hbx1 5
        have o6 := blk_cell hbx1 6
        have o7 := blk_cell hbx1 7
        have o8 := blk_cell hbx1 8
        have o9 := blk_cell hbx1 9
        have o11 := blk_cell hblk1 11
        simp at o0 o1 o2 o3 o4 o5 o6 o7 o8 o9 o11
        have hqle : n' + 1 ≤ 1000 := by omega
        refine wp_region_M (fun w' => ∀ o, w'.cell? ⟨wr.heap.size, o, none⟩ = w1.cell? ⟨wr.heap.size, o, none⟩) (fun w' => w'.cell? ⟨w.heap.size + 1 + 1, 11, none⟩ = some (.slice A' n' c')) 5 (by kernel_rfl) hC0 o11 ?_
        intro hcl
        have hC := hC0
        have hE : w1.drew.cell? ⟨w.heap.size + 1 + 1, 11, none⟩ = some (.slice A' n' c') := o11
        (refine wpM_take (i := 0) (v := ?_) rfl (by kernel_rfl) (by kernel_rfl) (by kernel_rfl) (by decide) (fun _ _ _ h => h) hcl hC (fun _ => hE) (Or.inl ⟨by rfl, ?_⟩) ?_; rotate_left; (· (intro w hSw; (try dsimp only at hSw); go_simp; (try with_reducible rfl))); clear hcl; intro hcl; (try simp only [Act.put, List.getElem_toArray, List.getElem_cons_zero, List.setIfInBounds_toArray, List.set_cons_zero, List.set_cons_succ]))
        (refine wpM_take0 (i := 1) (v := ?_) rfl rfl (by kernel_rfl) (by kernel_rfl) (by kernel_rfl) (by kernel_rfl) (by decide) (fun _ _ _ h => h) hcl hC (fun _ => hE) (Or.inl ⟨by rfl, ?_⟩) ?_; rotate_left; (· (intro w hSw; (try dsimp only at hSw); go_simp; (try with_reducible rfl))); clear hcl; intro hcl; (try simp only [Act.put, List.getElem_toArray, List.getElem_cons_zero, List.getElem_cons_succ, List.setIfInBounds_toArray, List.set_cons_zero, List.set_cons_succ]))
        (refine wpM_take (i := 2) (v := ?_) rfl (by kernel_rfl) (by kernel_rfl) (by kernel_rfl) (by decide) (fun _ _ _ h => h) hcl hC (fun _ => hE) (Or.inl ⟨by rfl, ?_⟩) ?_; rotate_left; (· (intro w hSw; (try dsimp only at hSw); go_simp; (try with_reducible rfl))); clear hcl; intro hcl; (try simp only [Act.put, List.getElem_toArray, List.getElem_cons_zero, List.getElem_cons_succ, List.setIfInBounds_toArray, List.set_cons_zero, List.set_cons_succ]))
        refine wpM_only (i := 3) rfl (by kernel_rfl) hcl (fun K hK => ?_)
        go_simp
        refine (txown_any p _ ((hTpH.out.below (hv1.trans (Below.refl _ _).drew)).more hv1.size) (by omega)).mono ?_
        rintro e w2 ⟨A1, c1, rfl, hr1, hb2⟩
        have hv2 : Below w1.heap.size w1 w2 := ((Below.refl _ w1).drew).trans hb2
        have hblk2 := blk_below hblk1 hv2
        have o11' := blk_cell hblk2 11
        simp at o11'
        have hbl2 := blk_lt hblk2
        have hC2 : ∀ o, w2.cell? ⟨wr.heap.size, o, none⟩ = w1.cell? ⟨wr.heap.size, o, none⟩ := fun o => hv2.cell (p := ⟨wr.heap.size, o, none⟩) hltx1
        refine hK.out _ _ hC2 o11' ?_
        clear hK K
        clear hcl
        intro hcl
        (try simp only [Act.put, List.getElem_toArray, List.getElem_cons_zero, List.getElem_cons_succ, List.setIfInBounds_toArray, List.set_cons_zero, List.set_cons_succ])
        clear hC hE hC0
        have hC := hC2
        have hE := o11'
        refine wpM_only (i := 4) rfl (by kernel_rfl) hcl (fun K hK => ?_)
        go_simp
        have hv3 : Below w1.heap.size w1 (w2.alloc (.cells #[.string (bs p.key), .int .i64 p.e.act, .string (bs p.e.name), .int .i64 p.e.val, .int .i64 p.e.tag.1.1, .int .u32 p.e.tag.1.2, .int .i64 p.e.tag.2, .int .u32 p.e.st.1, .int .i64 p.e.st.2, .slice A1 p.l c1] 101)) := hv2.alloc hv2.size _
        have hC3 : ∀ o, (w2.alloc (.cells #[.string (bs p.key), .int .i64 p.e.act, .string (bs p.e.name), .int .i64 p.e.val, .int .i64 p.e.tag.1.1, .int .u32 p.e.tag.1.2, .int .i64 p.e.tag.2, .int .u32 p.e.st.1, .int .i64 p.e.st.2, .slice A1 p.l c1] 101)).cell? ⟨wr.heap.size, o, none⟩ = w1.cell? ⟨wr.heap.size, o, none⟩ := fun o => hv3.cell (p := ⟨wr.heap.size, o, none⟩) hltx1
        have hblk3 := blk_below hblk1 hv3
        have hE3 := blk_cell hblk3 11
        simp at hE3
        refine hK.out _ _ hC3 hE3 ?_
        clear hK K hE hC hcl
        intro hcl
        have hC := hC3
        (try simp only [Act.put, List.setIfInBounds_toArray, List.set_cons_zero, List.set_cons_succ])
        have hown3 := hown1.below hv3
        have hlo := blk_lt hblk3
        refine wpM_last (i := 5) rfl (by kernel_rfl) hcl (by kernel_rfl) (fun K hK => ?_)
        refine step_append_rd _ rfl _ _ _ rfl ePart (base := w.heap.size + 3) (v := .slice A' n' c') (xs := qs.map Pe.enc) rfl hown3 rfl (Rd.one' [.string (bs p.key), .int .i64 p.e.act, .string (bs p.e.name), .int .i64 p.e.val, .int .i64 p.e.tag.1.1, .int .u32 p.e.tag.1.2, .int .i64 p.e.tag.2, .int .u32 p.e.st.1, .int .i64 p.e.st.2, .slice A1 p.l c1] rfl) (by simp) (by simp [Value.oneCell'])
          (by rw [List.length_map, hqlH.out]; unfold maxLen; omega) (by rw [List.length_map, hqlH.out]; omega) (by simp; omega) ?_
        intro A2 n2 c2 w4 hn2 hown4 hg4 hat4
        obtain rfl : n2 = n' + 1 := by rw [hn2, List.length_map, hqlH.out]
        clear hn2
        have hblk4 : w4.heap[w.heap.size + 1 + 1]? = some (.cells #[.int .i64 x.1, .int .u32 x.2, .int .u32 v.d0, .int .u32 v.d1, .int .u32 v.d2, .int .u32 v.d3, .int .u32 v.d4, .int .u32 v.d5, .int .u32 v.d6, .int .u32 v.d7, .bool t', .slice A' n' c'] 36 (0, 0)) := (hg4.block _ hlo (fun e => by have := (hown3.block _ e.symm).1; omega)).trans hblk3
        have hfr4 := blk_frozen hblk4
        have hlt4 := blk_lt hblk4
        have o114 := blk_cell hblk4 11
        simp at o114
        have hbx3 := blk_below hbx1 hv3
        have hbx4 := (hg4.block _ (blk_lt hbx3) (fun e => by have := (hown.block _ e.symm).2; omega)).trans hbx3
        have hx4 : ∀ o, w4.cell? ⟨wr.heap.size, o, none⟩ = w1.cell? ⟨wr.heap.size, o, none⟩ := fun o => (blk_cell hbx4 o).trans (blk_cell hbx1 o).symm
        have hbx5 := heap_set_ne (p := ⟨w.heap.size + 1 + 1, 11, none⟩) (u := .slice A2 (n' + 1) c2) (show w.heap.size + 1 + 1 ≠ wr.heap.size by have := hblH.out; omega) hbx4
        have hx5 := Lib.hid (fun o => (blk_cell hbx5 o).trans (blk_cell hbx1 o).symm)
        clear hbx5
        refine hK.out _ _ hx4 ?_
        clear hK K hC hcl
        intro hcl
        have hC := hx4
        (try simp only [Act.put, List.setIfInBounds_toArray])
        (refine wpM_takeX (i := 6) (v := ?_) rfl (by kernel_rfl) (by kernel_rfl) (by kernel_rfl) (by decide) (fun _ _ _ h => h) hcl hC (by kernel_rfl) (Or.inl ⟨by rfl, ?_⟩) ?_; rotate_left; (· (intro w hSw; (try dsimp only at hSw); go_simp; (try with_reducible rfl))); clear hcl; intro hcl; (try simp only [Act.put, List.getElem_toArray, List.getElem_cons_zero, List.getElem_cons_succ, List.setIfInBounds_toArray, List.set_cons_zero, List.set_cons_succ]))
        refine wpM_last (i := 7) rfl (by kernel_rfl) hcl (by kernel_rfl) (fun K hK => ?_)
        go_simp
        refine hK.out _ _ hx5.out ?_
        clear hK K hC hcl
        intro hcl
        refine wpM_done (by kernel_rfl) ?_
        clear hcl
        have hb4 : Below (w.heap.size + 2) w1 w4 := (hv3.mono (by omega)).grown hg4 (by simp; omega) (fun g e => by have := (hown3.block g e).1; omega)
        have hq : ∀ q' ∈ qs ++ [({ p with A := A1, c := c1 } : Pe)], Ow w4 w.heap.size 74 3 (.slice q'.A q'.l q'.c) (q'.e.tags.map Tm.enc) := by
          intro q' hq'
          refine Ow.other (w := w2.alloc (.cells #[.string (bs p.key), .int .i64 p.e.act, .string (bs p.e.name), .int .i64 p.e.val, .int .i64 p.e.tag.1.1, .int .u32 p.e.tag.1.2, .int .i64 p.e.tag.2, .int .u32 p.e.st.1, .int .i64 p.e.st.2, .slice A1 p.l c1] 101)) ?_ hown3 (by decide) hg4
          rcases List.mem_append.1 hq' with h1 | h1
          · exact (hok q' h1).below (hv1.trans (hv3.mono hv1.size))
          · obtain rfl := List.mem_singleton.1 h1
            exact (hr1.base (by show _ ≤ w1.heap.size; omega)).below ((Below.refl _ w2).alloc (Nat.le_refl _) _)
        have hQ : Hid ((qs ++ [({ p with A := A1, c := c1 } : Pe)]).map Pe.core = ((ps.take (k + 1)).map Pe.core).filter (fun p => pr p.1)) := Lib.hid (by
          rw [List.map_append, hqsH.out, List.take_add_one, hpH2.out]
          have hpr2 : pr p.core.1 = true := hprH.out
          simp [hpr2]; rfl)
        have hqH := Lib.hid hq
        have hownH : Hid (Ow w4 (w.heap.size + 3) 101 10 (.slice A2 (n' + 1) c2) ((qs ++ [({ p with A := A1, c := c1 } : Pe)]).map Pe.enc)) := Lib.hid (by rw [List.map_append]; exact hown4)
        have hblkN : Hid ((w4.setCell ⟨w.heap.size + 1 + 1, 11, none⟩ (.slice A2 (n' + 1) c2)).heap[w.heap.size + 1 + 1]? = some (.cells #[.int .i64 x.1, .int .u32 x.2, .int .u32 v.d0, .int .u32 v.d1, .int .u32 v.d2, .int .u32 v.d3, .int .u32 v.d4, .int .u32 v.d5, .int .u32 v.d6, .int .u32 v.d7, .bool t', .slice A2 (n' + 1) c2] 36 (0, 0))) := Lib.hid (by rw [blk_set hblk4 11]; simp)
        have hbrH := Lib.hid (hbr1.trans hb4)
        have hblk4H := Lib.hid hblk4
        clear hq hown4 hblk4 hb4 hbx4 hbx3 hx4 hg4 hown3 hv3 hv2 hr1 hblk3 hblk2 hC3 hC2 o11' hE3 hb2
        go_wp2
        go_roundg (n + 1 - (k + 1))
        case measure => omega
        case rel =>
          exact ⟨k + 1, n' + 1, A2, c2, qs ++ [{ p with A := A1, c := c1 }], t', by omega, rfl, by go_num, by omega, hQ.out, hT.out, hblkN.out, hownH.out.setCell (by simp) _, fun q hq => (hqH.out q hq).set_blk hblk4H.out (by decide) _ _, hbrH.out.setCell (by simp) _⟩
    · obtain rfl : k = n := by omega
      have hnli : ¬ (k : Int) < (k : Int) := by omega
      have o0 := blk_cell hblk 0
      have o1 := blk_cell hblk 1
      have o2 := blk_cell hblk 2
      have o3 := blk_cell hblk 3
      have o4 := blk_cell hblk 4
      have o5 := blk_cell hblk 5
      have o6 := blk_cell hblk 6
      have o7 := blk_cell hblk 7
      have o8 := blk_cell hblk 8
      have o9 := blk_cell hblk 9
      have o10 := blk_cell hblk 10
      have o11 := blk_cell hblk 11
      simp at o0 o1 o2 o3 o4 o5 o6 o7 o8 o9 o10 o11
      obtain ⟨hc0, _⟩ := bcell hbr
      have r0 := hc0 (w.heap.size + 1) 0 (by omega)
      have r1 := hc0 (w.heap.size + 1) 1 (by omega)
      have r2 := hc0 (w.heap.size + 1) 2 (by omega)
      have r3 := hc0 (w.heap.size + 1) 3 (by omega)
      have r4 := hc0 (w.heap.size + 1) 4 (by omega)
      have r5 := hc0 (w.heap.size + 1) 5 (by omega)
      have r6 := hc0 (w.heap.size + 1) 6 (by omega)
      have r7 := hc0 (w.heap.size + 1) 7 (by omega)
      have r8 := hc0 (w.heap.size + 1) 8 (by omega)
      have r9 := hc0 (w.heap.size + 1) 9 (by omega)
      have r10 := hc0 (w.heap.size + 1) 10 (by omega)
      have r11 := hc0 (w.heap.size + 1) 11 (by omega)
      simp at r0 r1 r2 r3 r4 r5 r6 r7 r8 r9 r10 r11
      clear hc0
      have hres : wr.heap[w.heap.size + 1]? = some (.cells #[.int .i64 0, .int .u32 0, .int .u32 0, .int .u32 0, .int .u32 0, .int .u32 0, .int .u32 0, .int .u32 0, .int .u32 0, .int .u32 0, .bool false, .slice none 0 0] 36) := (hbr.block _ (by omega)).trans (heap_at _ _ (by simp))
      have hps : Hid (ps.take k = ps) := List.take_of_length_le (by have := hA.len; omega)
      have hT : Hid (t' = (t || ps.any fun p => !pr p.key)) := Lib.hid (by rw [htH.out, hps.out])
      have hfr := blk_frozen hres
      go_wp2
      refine bodyPost_ret (v := .agg #[.int .i64 x.1, .int .u32 x.2, .int .u32 v.d0, .int .u32 v.d1, .int .u32 v.d2, .int .u32 v.d3, .int .u32 v.d4, .int .u32 v.d5, .int .u32 v.d6, .int .u32 v.d7, .bool t', .slice A' n' c']) (by simp [results, Tryz.results73, go_sem, r0, r1, r2, r3, r4, r5, r6, r7, r8, r9, r10, r11]) rfl ?_
      rw [← hT.out]
      refine ⟨A', n', c', ?_⟩
      refine ⟨rfl, qs, ⟨?_, fun q hq => ?_⟩, ?_, ?_⟩
      · refine Ow.base (base := w.heap.size + 3) ?_ (by omega)
        (repeat (with_reducible refine Ow.setCell ?_ (by simp) _))
        exact hown
      · refine Ow.other_blk (hok q hq) hres (by decide) ?_
        (repeat (with_reducible refine grown_set ?_ _ _))
        try exact World.grownBy.refl wr _
      · rw [hqsH.out, hps.out]
      · repeat (with_reducible refine Below.setCell ?_ (by simp) _)
        exact (((Below.refl _ w).alloc (Nat.le_refl _) _).alloc (by simp) _).trans (hbr.mono (by omega))
end Go.Proofs.YtpolplmniaoikaaGreatDoor
namespace Go.Proofs.YtpolplmniaoikaaGreatDoor
open Go.RowKit

set_option maxRecDepth 100000 in
set_option maxHeartbeats 1000000 in
theorem fefrom_any (a v o s n t ao : Int) (nm : ByteArray) (A : Option Addr) (l c : Nat) (w : World) :
    Calls Tryz.prog 46 #[.agg #[.int .i64 a, .string nm, .int .i64 v, .int .i64 o, .int .u32 s, .int .i64 n, .int .u32 t, .int .i64 ao, .slice A l c]] w
      fun e w' => e = .returned (.agg #[.int .i64 a, .string nm, .int .i64 v, .int .i64 o, .int .u32 s, .int .i64 n, .int .u32 t, .int .i64 ao, .slice A l c]) ∧ Below w.heap.size w w' := by
  go_enter Tryz.func46, Tryz.ntmps46
  go_wp2
  refine bodyPost_ret (v := .agg #[.int .i64 a, .string nm, .int .i64 v, .int .i64 o, .int .u32 s, .int .i64 n, .int .u32 t, .int .i64 ao, .slice A l c]) (by simp [results, Tryz.results46, go_sem]) rfl ⟨rfl, ?_⟩
  repeat (with_reducible refine Below.setCell ?_ (by simp) _)
  exact ((Below.refl _ w).alloc (Nat.le_refl _) _).alloc (by simp) _
theorem infoPartD : (Tryz.prog.info? 81).map (fun i => (i.zero, i.size, i.bytes)) = some (some (.agg #[.string ⟨#[]⟩, .int .i64 0, .string ⟨#[]⟩, .int .i64 0, .int .i64 0, .int .u32 0, .int .i64 0, .int .u32 0, .int .i64 0, .slice none 0 0]), 10, 112) := by kernel_rfl
theorem ePartD : ElemInfo Tryz.prog 27 81 10 112 := by
  obtain ⟨i, hi, h0, h1, h2⟩ := info_parts infoPartD
  exact ⟨Tryz.underlying27, ⟨i, _, hi, h0, h1, h2, rfl⟩, by decide⟩
set_option maxRecDepth 100000 in
set_option maxHeartbeats 1000000 in
theorem txfrom_any (x : Im) (v : Vm) (tn : Bool) (A : Option Addr) (n c : Nat) (ps : List Pe) (w : World) (hA : RdE w w.heap.size A n ps) (hn : n ≤ 1000) :
    Calls Tryz.prog 13 #[.agg #[.int .i64 x.1, .int .u32 x.2, .int .u32 v.d0, .int .u32 v.d1, .int .u32 v.d2, .int .u32 v.d3, .int .u32 v.d4, .int .u32 v.d5, .int .u32 v.d6, .int .u32 v.d7, .bool tn, .slice A n c]] w
      fun e w' => ∃ A' c', e = .returned (.agg #[.int .i64 x.1, .int .u32 x.2, .int .u32 v.d0, .int .u32 v.d1, .int .u32 v.d2, .int .u32 v.d3, .int .u32 v.d4, .int .u32 v.d5, .int .u32 v.d6, .int .u32 v.d7, .bool tn, .slice A' n c']) ∧ Ow w' w.heap.size 81 10 (.slice A' n c') (ps.map Pe.enc) ∧ Below w.heap.size w w' := by
  go_enter Tryz.func13, Tryz.ntmps13
  go_wp2
  go_loopg [4] (n + 1) (fun g i wr => ∃ (k : Nat) (A' : Option Addr) (c' : Nat), k ≤ n ∧ g = n + 1 - k ∧ i = .int .i64 k ∧
    wr.heap[w.heap.size + 1 + 1]? = some (.cells #[.int .i64 x.1, .int .u32 x.2, .int .u32 v.d0, .int .u32 v.d1, .int .u32 v.d2, .int .u32 v.d3, .int .u32 v.d4, .int .u32 v.d5, .int .u32 v.d6, .int .u32 v.d7, .bool tn, .slice A' k c'] 29 (0, 0)) ∧ Ow wr (w.heap.size + 3) 81 10 (.slice A' k c') ((ps.take k).map Pe.enc) ∧
    Below (w.heap.size + 2) ((w.alloc (.cells #[.int .i64 x.1, .int .u32 x.2, .int .u32 v.d0, .int .u32 v.d1, .int .u32 v.d2, .int .u32 v.d3, .int .u32 v.d4, .int .u32 v.d5, .int .u32 v.d6, .int .u32 v.d7, .bool tn, .slice A n c] 36)).alloc (.cells #[.int .i64 0, .int .u32 0, .int .u32 0, .int .u32 0, .int .u32 0, .int .u32 0, .int .u32 0, .int .u32 0, .int .u32 0, .int .u32 0, .bool false, .slice none 0 0] 29)) wr)
  case atStart =>
    refine ⟨0, none, 0, Nat.zero_le _, rfl, rfl, heap_at _ _ (by simp), Ow.nil_ _ _ _ _, (Below.refl _ _).alloc (by simp) _⟩
  case round =>
    obtain ⟨k, A', c', hk, rfl, rfl, hblk, hown, hbr⟩ := hrel
    have hb0 : Below (w.heap.size + 1) (w.alloc (.cells #[.int .i64 x.1, .int .u32 x.2, .int .u32 v.d0, .int .u32 v.d1, .int .u32 v.d2, .int .u32 v.d3, .int .u32 v.d4, .int .u32 v.d5, .int .u32 v.d6, .int .u32 v.d7, .bool tn, .slice A n c] 36)) wr := ((Below.refl _ _).alloc (by simp) _).trans (hbr.mono (Nat.le_succ _))
    obtain ⟨hc0, _⟩ := bcell hbr
    have hbl := blk_lt hblk
    have hql : (ps.take k).length = k := by simpa using hown.rd.2.1
    obtain ⟨_, hf0⟩ := bcell hbr
    have hz1 : w.heap.size < wr.heap.size := by omega
    have hz2 : w.heap.size + 1 < wr.heap.size := by omega
    have o11 := blk_cell hblk 11
    simp at o11
    have hfro := blk_frozen hblk
    by_cases hlt : k < n
    · obtain ⟨bA, oA, p, rfl, hbA, hp, hcp⟩ := hA.1.at_ hlt
      have p0 := hcp 0 _ rfl
      have p1 := hcp 1 _ rfl
      have p2 := hcp 2 _ rfl
      have p3 := hcp 3 _ rfl
      have p4 := hcp 4 _ rfl
      have p5 := hcp 5 _ rfl
      have p6 := hcp 6 _ rfl
      have p7 := hcp 7 _ rfl
      have p8 := hcp 8 _ rfl
      have p9 := hcp 9 _ rfl
      rw [Nat.add_zero] at p0
      clear hcp
      have hbA2 : bA < w.heap.size + 2 := by omega
      go_upto_block 1 with fail
      have hpH := Lib.hid hp
      clear hp
      have hqlH := Lib.hid hql
      clear hql
      have hq0 : KQ (w.heap.size + 1) (w.alloc (.cells #[.int .i64 x.1, .int .u32 x.2, .int .u32 v.d0, .int .u32 v.d1, .int .u32 v.d2, .int .u32 v.d3, .int .u32 v.d4, .int .u32 v.d5, .int .u32 v.d6, .int .u32 v.d7, .bool tn, .slice (some ⟨bA, oA, none⟩) n c] 36)) wr := kq hb0
      go_cut [4] (fun s4 wx => s4 = .int .i64 k ∧ ∃ (A2 : Option Addr) (c2 : Nat),
        wx.heap[w.heap.size + 1 + 1]? = some (.cells #[.int .i64 x.1, .int .u32 x.2, .int .u32 v.d0, .int .u32 v.d1, .int .u32 v.d2, .int .u32 v.d3, .int .u32 v.d4, .int .u32 v.d5, .int .u32 v.d6, .int .u32 v.d7, .bool tn, .slice A2 (k + 1) c2] 29 (0, 0)) ∧ Ow wx (w.heap.size + 3) 81 10 (.slice A2 (k + 1) c2) ((ps.take k ++ [p]).map Pe.enc) ∧
        Below (w.heap.size + 2) ((w.alloc (.cells #[.int .i64 x.1, .int .u32 x.2, .int .u32 v.d0, .int .u32 v.d1, .int .u32 v.d2, .int .u32 v.d3, .int .u32 v.d4, .int .u32 v.d5, .int .u32 v.d6, .int .u32 v.d7, .bool tn, .slice (some ⟨bA, oA, none⟩) n c] 36)).alloc (.cells #[.int .i64 0, .int .u32 0, .int .u32 0, .int .u32 0, .int .u32 0, .int .u32 0, .int .u32 0, .int .u32 0, .int .u32 0, .int .u32 0, .bool false, .slice none 0 0] 29)) wx)
      case first =>
        go_wp2_with fail
        refine wp_region_M (fun w' => KQ (w.heap.size + 1) (w.alloc (.cells #[.int .i64 x.1, .int .u32 x.2, .int .u32 v.d0, .int .u32 v.d1, .int .u32 v.d2, .int .u32 v.d3, .int .u32 v.d4, .int .u32 v.d5, .int .u32 v.d6, .int .u32 v.d7, .bool tn, .slice (some ⟨bA, oA, none⟩) n c] 36)) w') (fun w' => w'.cell? ⟨w.heap.size + 1 + 1, 11, none⟩ = some (.slice A' k c')) 17 (by kernel_rfl) (kq hb0.drew) o11 ?_
        intro hcl
        have hC : KQ (w.heap.size + 1) (w.alloc (.cells #[.int .i64 x.1, .int .u32 x.2, .int .u32 v.d0, .int .u32 v.d1, .int .u32 v.d2, .int .u32 v.d3, .int .u32 v.d4, .int .u32 v.d5, .int .u32 v.d6, .int .u32 v.d7, .bool tn, .slice (some ⟨bA, oA, none⟩) n c] 36)) wr.drew := kq hb0.drew
        have hE : wr.drew.cell? ⟨w.heap.size + 1 + 1, 11, none⟩ = some (.slice A' k c') := o11
        (refine wpM_take (i := 0) (v := ?_) rfl (by kernel_rfl) (by kernel_rfl) (by kernel_rfl) (by decide) (fun _ _ _ h => h) hcl hC (fun _ => hE) (Or.inl ⟨by rfl, ?_⟩) ?_; rotate_left; (· (intro w hSw; (try dsimp only at hSw); go_simp; (try with_reducible rfl))); clear hcl; intro hcl; (try simp only [Act.put, List.getElem_toArray, List.getElem_cons_zero, List.setIfInBounds_toArray, List.set_cons_zero, List.set_cons_succ]))
        (refine wpM_take0 (i := 1) (v := ?_) rfl rfl (by kernel_rfl) (by kernel_rfl) (by kernel_rfl) (by kernel_rfl) (by decide) (fun _ _ _ h => h) hcl hC (fun _ => hE) (Or.inl ⟨by rfl, ?_⟩) ?_; rotate_left; (· (intro w hSw; (try dsimp only at hSw); go_simp; (try with_reducible rfl))); clear hcl; intro hcl; (try simp only [Act.put, List.getElem_toArray, List.getElem_cons_zero, List.getElem_cons_succ, List.setIfInBounds_toArray, List.set_cons_zero, List.set_cons_succ]))
        (refine wpM_take (i := 2) (v := ?_) rfl (by kernel_rfl) (by kernel_rfl) (by kernel_rfl) (by decide) (fun _ _ _ h => h) hcl hC (fun _ => hE) (Or.inl ⟨by rfl, ?_⟩) ?_; rotate_left; (· (intro w hSw; (try dsimp only at hSw); go_simp; (try with_reducible rfl))); clear hcl; intro hcl; (try simp only [Act.put, List.getElem_toArray, List.getElem_cons_zero, List.getElem_cons_succ, List.setIfInBounds_toArray, List.set_cons_zero, List.set_cons_succ]))
        (refine wpM_take (i := 3) (v := ?_) rfl (by kernel_rfl) (by kernel_rfl) (by kernel_rfl) (by decide) (fun _ _ _ h => h) hcl hC (fun _ => hE) (Or.inl ⟨by rfl, ?_⟩) ?_; rotate_left; (· (intro w hSw; (try dsimp only at hSw); go_simp; (try with_reducible rfl))); clear hcl; intro hcl; (try simp only [Act.put, List.getElem_toArray, List.getElem_cons_zero, List.getElem_cons_succ, List.setIfInBounds_toArray, List.set_cons_zero, List.set_cons_succ]))
        (refine wpM_take (i := 4) (v := ?_) rfl (by kernel_rfl) (by kernel_rfl) (by kernel_rfl) (by decide) (fun _ _ _ h => h) hcl hC (fun _ => hE) (Or.inl ⟨by rfl, ?_⟩) ?_; rotate_left; (· (intro w hSw; (try dsimp only at hSw); go_simp; (try with_reducible rfl))); clear hcl; intro hcl; (try simp only [Act.put, List.getElem_toArray, List.getElem_cons_zero, List.getElem_cons_succ, List.setIfInBounds_toArray, List.set_cons_zero, List.set_cons_succ]))
        (refine wpM_take (i := 5) (v := ?_) rfl (by kernel_rfl) (by kernel_rfl) (by kernel_rfl) (by decide) (fun _ _ _ h => h) hcl hC (fun _ => hE) (Or.inl ⟨by rfl, ?_⟩) ?_; rotate_left; (· (intro w hSw; (try dsimp only at hSw); go_simp; (try with_reducible rfl))); clear hcl; intro hcl; (try simp only [Act.put, List.getElem_toArray, List.getElem_cons_zero, List.getElem_cons_succ, List.setIfInBounds_toArray, List.set_cons_zero, List.set_cons_succ]))
        (refine wpM_take (i := 6) (v := ?_) rfl (by kernel_rfl) (by kernel_rfl) (by kernel_rfl) (by decide) (fun _ _ _ h => h) hcl hC (fun _ => hE) (Or.inl ⟨by rfl, ?_⟩) ?_; rotate_left; (· (intro w hSw; (try dsimp only at hSw); go_simp; (try with_reducible rfl))); clear hcl; intro hcl; (try simp only [Act.put, List.getElem_toArray, List.getElem_cons_zero, List.getElem_cons_succ, List.setIfInBounds_toArray, List.set_cons_zero, List.set_cons_succ]))
        (refine wpM_take (i := 7) (v := ?_) rfl (by kernel_rfl) (by kernel_rfl) (by kernel_rfl) (by decide) (fun _ _ _ h => h) hcl hC (fun _ => hE) (Or.inl ⟨by rfl, ?_⟩) ?_; rotate_left; (· (intro w hSw; (try dsimp only at hSw); go_simp; (try with_reducible rfl))); clear hcl; intro hcl; (try simp only [Act.put, List.getElem_toArray, List.getElem_cons_zero, List.getElem_cons_succ, List.setIfInBounds_toArray, List.set_cons_zero, List.set_cons_succ]))
        (refine wpM_take (i := 8) (v := ?_) rfl (by kernel_rfl) (by kernel_rfl) (by kernel_rfl) (by decide) (fun _ _ _ h => h) hcl hC (fun _ => hE) (Or.inl ⟨by rfl, ?_⟩) ?_; rotate_left; (· (intro w hSw; (try dsimp only at hSw); go_simp; (try with_reducible rfl))); clear hcl; intro hcl; (try simp only [Act.put, List.getElem_toArray, List.getElem_cons_zero, List.getElem_cons_succ, List.setIfInBounds_toArray, List.set_cons_zero, List.set_cons_succ]))
        (refine wpM_take (i := 9) (v := ?_) rfl (by kernel_rfl) (by kernel_rfl) (by kernel_rfl) (by decide) (fun _ _ _ h => h) hcl hC (fun _ => hE) (Or.inl ⟨by rfl, ?_⟩) ?_; rotate_left; (· (intro w hSw; (try dsimp only at hSw); go_simp; (try with_reducible rfl))); clear hcl; intro hcl; (try simp only [Act.put, List.getElem_toArray, List.getElem_cons_zero, List.getElem_cons_succ, List.setIfInBounds_toArray, List.set_cons_zero, List.set_cons_succ]))
        (refine wpM_take (i := 10) (v := ?_) rfl (by kernel_rfl) (by kernel_rfl) (by kernel_rfl) (by decide) (fun _ _ _ h => h) hcl hC (fun _ => hE) (Or.inl ⟨by rfl, ?_⟩) ?_; rotate_left; (· (intro w hSw; (try dsimp only at hSw); go_simp; (try with_reducible rfl))); clear hcl; intro hcl; (try simp only [Act.put, List.getElem_toArray, List.getElem_cons_zero, List.getElem_cons_succ, List.setIfInBounds_toArray, List.set_cons_zero, List.set_cons_succ]))
        (refine wpM_take (i := 11) (v := ?_) rfl (by kernel_rfl) (by kernel_rfl) (by kernel_rfl) (by decide) (fun _ _ _ h => h) hcl hC (fun _ => hE) (Or.inl ⟨by rfl, ?_⟩) ?_; rotate_left; (· (intro w hSw; (try dsimp only at hSw); go_simp; (try with_reducible rfl))); clear hcl; intro hcl; (try simp only [Act.put, List.getElem_toArray, List.getElem_cons_zero, List.getElem_cons_succ, List.setIfInBounds_toArray, List.set_cons_zero, List.set_cons_succ]))
        (refine wpM_take (i := 12) (v := ?_) rfl (by kernel_rfl) (by kernel_rfl) (by kernel_rfl) (by decide) (fun _ _ _ h => h) hcl hC (fun _ => hE) (Or.inl ⟨by rfl, ?_⟩) ?_; rotate_left; (· (intro w hSw; (try dsimp only at hSw); go_simp; (try with_reducible rfl))); clear hcl; intro hcl; (try simp only [Act.put, List.getElem_toArray, List.getElem_cons_zero, List.getElem_cons_succ, List.setIfInBounds_toArray, List.set_cons_zero, List.set_cons_succ]))
        (refine wpM_take (i := 13) (v := ?_) rfl (by kernel_rfl) (by kernel_rfl) (by kernel_rfl) (by decide) (fun _ _ _ h => h) hcl hC (fun _ => hE) (Or.inl ⟨by rfl, ?_⟩) ?_; rotate_left; (· (intro w hSw; (try dsimp only at hSw); go_simp; (try with_reducible rfl))); clear hcl; intro hcl; (try simp only [Act.put, List.getElem_toArray, List.getElem_cons_zero, List.getElem_cons_succ, List.setIfInBounds_toArray, List.set_cons_zero, List.set_cons_succ]))
        refine wpM_only (i := 14) rfl (by kernel_rfl) hcl (fun K hK => ?_)
        go_simp
        refine (fefrom_any _ _ _ _ _ _ _ _ _ _ _ _).mono ?_
        rintro e w1 ⟨rfl, hb1⟩
        have hb1' : Below wr.heap.size wr w1 := ((Below.refl _ wr).drew).trans hb1
        have hblk1 := blk_below hblk hb1'
        have o11' := blk_cell hblk1 11
        simp at o11'
        have hbl1 := blk_lt hblk1
        refine hK.out _ _ (kq (hC.1.trans (hb1.mono (by show _ ≤ wr.heap.size; omega)))) o11' ?_
        clear hK K hC hE hcl
        intro hcl
        have hC : KQ (w.heap.size + 1) (w.alloc (.cells #[.int .i64 x.1, .int .u32 x.2, .int .u32 v.d0, .int .u32 v.d1, .int .u32 v.d2, .int .u32 v.d3, .int .u32 v.d4, .int .u32 v.d5, .int .u32 v.d6, .int .u32 v.d7, .bool tn, .slice (some ⟨bA, oA, none⟩) n c] 36)) w1 := kq (hb0.trans (hb1'.mono (by omega)))
        have hE : w1.cell? ⟨w.heap.size + 1 + 1, 11, none⟩ = some (.slice A' k c') := o11'
        (try simp only [Act.put, List.setIfInBounds_toArray, List.set_cons_zero, List.set_cons_succ])
        (refine wpM_take (i := 15) (v := ?_) rfl (by kernel_rfl) (by kernel_rfl) (by kernel_rfl) (by decide) (fun _ _ _ h => h) hcl hC (fun _ => hE) (Or.inl ⟨by rfl, ?_⟩) ?_; rotate_left; (· (intro w hSw; (try dsimp only at hSw); go_simp; (try with_reducible rfl))); clear hcl; intro hcl; (try simp only [Act.put, List.getElem_toArray, List.getElem_cons_zero, List.getElem_cons_succ, List.setIfInBounds_toArray, List.set_cons_zero, List.set_cons_succ]))
        refine wpM_only (i := 16) rfl (by kernel_rfl) hcl (fun K hK => ?_)
        go_simp
        have hb2 : Below wr.heap.size wr (w1.alloc (.cells #[.string (bs p.key), .int .i64 p.e.act, .string (bs p.e.name), .int .i64 p.e.val, .int .i64 p.e.tag.1.1, .int .u32 p.e.tag.1.2, .int .i64 p.e.tag.2, .int .u32 p.e.st.1, .int .i64 p.e.st.2, .slice p.A p.l p.c] 81)) := hb1'.alloc hb1'.size _
        have hz1 := hb1'.size
        refine hK.out _ _ (kq_alloc hC (by simp) _) ((World.cell?_alloc_lt _ _ _ hbl1).trans hE) ?_
        clear hK K hE hcl
        intro hcl
        have hC := kq_alloc hC (by simp) (.cells #[.string (bs p.key), .int .i64 p.e.act, .string (bs p.e.name), .int .i64 p.e.val, .int .i64 p.e.tag.1.1, .int .u32 p.e.tag.1.2, .int .i64 p.e.tag.2, .int .u32 p.e.st.1, .int .i64 p.e.st.2, .slice p.A p.l p.c] 81)
        (try simp only [Act.put, List.setIfInBounds_toArray, List.set_cons_zero, List.set_cons_succ])
        refine wpM_last (i := 17) rfl (by kernel_rfl) hcl (by kernel_rfl) (fun K hK => ?_)
        refine step_append_rd _ rfl _ _ _ rfl ePartD (base := w.heap.size + 3) (v := .slice A' k c') (xs := (ps.take k).map Pe.enc) rfl (hown.below hb2) rfl (Rd.one' [.string (bs p.key), .int .i64 p.e.act, .string (bs p.e.name), .int .i64 p.e.val, .int .i64 p.e.tag.1.1, .int .u32 p.e.tag.1.2, .int .i64 p.e.tag.2, .int .u32 p.e.st.1, .int .i64 p.e.st.2, .slice p.A p.l p.c] rfl) (by simp) (by simp [Value.oneCell'])
          (by rw [List.length_map, hqlH.out]; unfold maxLen; omega) (by rw [List.length_map, hqlH.out]; omega) (by simp; omega) ?_
        intro A2 n2 c2 w2 hn2 hown2 hg2 hat2
        obtain rfl : n2 = k + 1 := by rw [hn2, List.length_map, hqlH.out]
        clear hn2
        obtain ⟨hblk2, hcell2, hfro2⟩ := grown_cells (b := w.heap.size + 1 + 1) hg2 (heap_old _ hbl1 hblk1) (fun e => by have := hown.block _ e.symm; omega)
        have o112 := hcell2 11
        simp at o112
        have hC2 := kq_grown hC (by simp) hg2 (fun g e => by have := (hown.block g e).1; omega)
        have hb3 : Below (w.heap.size + 2) wr w2 := (hb2.mono (by omega)).grown hg2 (by simp; omega) (fun g e => by have := (hown.block g e).1; omega)
        refine hK.out _ _ hC2 ?_
        clear hK K hC hcl
        intro hcl
        have hC := hC2
        (try simp only [Act.put, List.setIfInBounds_toArray])
        (refine wpM_takeX (i := 18) (v := ?_) rfl (by kernel_rfl) (by kernel_rfl) (by kernel_rfl) (by decide) (fun _ _ _ h => h) hcl hC (by kernel_rfl) (Or.inl ⟨by rfl, ?_⟩) ?_; rotate_left; (· (intro w hSw; (try dsimp only at hSw); go_simp; (try with_reducible rfl))); clear hcl; intro hcl; (try simp only [Act.put, List.getElem_toArray, List.getElem_cons_zero, List.getElem_cons_succ, List.setIfInBounds_toArray, List.set_cons_zero, List.set_cons_succ]))
        refine wpM_last (i := 19) rfl (by kernel_rfl) hcl (by kernel_rfl) (fun K hK => ?_)
        go_simp
        refine hK.out _ _ (kq_set hC (by simp) _) ?_
        clear hK K hC hcl
        intro hcl
        refine wpM_done (by kernel_rfl) ?_
        clear hcl
        go_wp2_with fail
        go_meet
        refine ⟨rfl, A2, c2, ?_, ?_, ?_⟩
        · rw [blk_set hblk2 11]; simp
        · rw [List.map_append]; exact hown2.setCell (by simp) _
        · exact (hbr.trans hb3).setCell (by simp) _
      case rest =>
        obtain ⟨rfl, A2, c2, hblkx, hownx, hbx⟩ := hcut
        go_wp2
        go_roundg (n + 1 - (k + 1))
        case measure => omega
        case rel =>
          refine ⟨k + 1, A2, c2, by omega, rfl, by go_num, hblkx, ?_, hbx⟩
          rw [List.take_add_one, hpH.out]
          exact hownx
    · obtain rfl : k = n := by omega
      have o0 := blk_cell hblk 0
      have o1 := blk_cell hblk 1
      have o2 := blk_cell hblk 2
      have o3 := blk_cell hblk 3
      have o4 := blk_cell hblk 4
      have o5 := blk_cell hblk 5
      have o6 := blk_cell hblk 6
      have o7 := blk_cell hblk 7
      have o8 := blk_cell hblk 8
      have o9 := blk_cell hblk 9
      have o10 := blk_cell hblk 10
      simp at o0 o1 o2 o3 o4 o5 o6 o7 o8 o9 o10
      clear hql
      have r0 := hc0 (w.heap.size + 1) 0 (by omega)
      have r1 := hc0 (w.heap.size + 1) 1 (by omega)
      have r2 := hc0 (w.heap.size + 1) 2 (by omega)
      have r3 := hc0 (w.heap.size + 1) 3 (by omega)
      have r4 := hc0 (w.heap.size + 1) 4 (by omega)
      have r5 := hc0 (w.heap.size + 1) 5 (by omega)
      have r6 := hc0 (w.heap.size + 1) 6 (by omega)
      have r7 := hc0 (w.heap.size + 1) 7 (by omega)
      have r8 := hc0 (w.heap.size + 1) 8 (by omega)
      have r9 := hc0 (w.heap.size + 1) 9 (by omega)
      have r10 := hc0 (w.heap.size + 1) 10 (by omega)
      have r11 := hc0 (w.heap.size + 1) 11 (by omega)
      simp at r0 r1 r2 r3 r4 r5 r6 r7 r8 r9 r10 r11
      have hres : wr.heap[w.heap.size + 1]? = some (.cells #[.int .i64 0, .int .u32 0, .int .u32 0, .int .u32 0, .int .u32 0, .int .u32 0, .int .u32 0, .int .u32 0, .int .u32 0, .int .u32 0, .bool false, .slice none 0 0] 29) := (hbr.block _ (by omega)).trans (heap_at _ _ (by simp))
      have hps : Hid (ps.take k = ps) := List.take_of_length_le (by have := hA.len; omega)
      rw [hps.out] at hown
      have hf1 : w.heap.size + 1 < w.heap.size + 2 := by omega
      go_wp2
      refine bodyPost_ret (v := .agg #[.int .i64 x.1, .int .u32 x.2, .int .u32 v.d0, .int .u32 v.d1, .int .u32 v.d2, .int .u32 v.d3, .int .u32 v.d4, .int .u32 v.d5, .int .u32 v.d6, .int .u32 v.d7, .bool tn, .slice A' k c']) (by simp [results, Tryz.results13, go_sem, r0, r1, r2, r3, r4, r5, r6, r7, r8, r9, r10, r11]) rfl ⟨A', c', rfl, ?_, ?_⟩
      · refine Ow.base (base := w.heap.size + 3) ?_ (by omega)
        (repeat (with_reducible refine Ow.setCell ?_ (by simp) _))
        exact hown
      · repeat (with_reducible refine Below.setCell ?_ (by simp) _)
        exact (((Below.refl _ w).alloc (Nat.le_refl _) _).alloc (by simp) _).trans (hbr.mono (by omega))
end Go.Proofs.YtpolplmniaoikaaGreatDoor
