/- tx.own, tx.Only: a transaction with the parts of some keys alone. selkielaw14.FromEffect, selkielaw15.From: a transaction in the document's words; tx.own; tx.Only. Time and Sees of transactions, both; the statements' own wanted and only. Helpers of the statements on transactions: parts left by keys, parts of the same values. -/
import Derived.Test.YtfhandglpjnonaaGreatDoorM39
import Derived.Test.YtfhandglpjnonaaGreatDoorN06
import Derived.Test.YtfhandglpjnonaaGreatDoorN24
import Derived.Test.YtfhandglpjnonaaGreatDoorN14
import Derived.Test.YtfhandglpjnonaaGreatDoorM40
import Derived.Test.YtfhandglpjnonaaGreatDoorM46
set_option maxRecDepth 100000
set_option maxHeartbeats 16000000
namespace Go.Proofs.YtfhandglpjnonaaGreatDoor
open Go.RowKit
theorem fefrom_any (a v o s n t ao : Int) (nm : ByteArray) (A : Option Addr) (l c : Nat) (w : World) :
 Calls Tryz.prog 137 #[.agg #[.int .i64 a, .string nm, .int .i64 v, .int .i64 o, .int .u32 s, .int .i64 n, .int .u32 t, .int .i64 ao, .slice A l c]] w
  fun e w' => e = .returned (.agg #[.int .i64 a, .string nm, .int .i64 v, .int .i64 o, .int .u32 s, .int .i64 n, .int .u32 t, .int .i64 ao, .slice A l c]) ∧ Below w.heap.size w w' := by
 go_enter Tryz.func137, Tryz.ntmps137
 go_wp2
 refine bodyPost_ret (v := .agg #[.int .i64 a, .string nm, .int .i64 v, .int .i64 o, .int .u32 s, .int .i64 n, .int .u32 t, .int .i64 ao, .slice A l c]) (by simp [results, Tryz.results137, go_sem]) rfl ⟨rfl, ?_⟩
 repeat (with_reducible refine Below.setCell ?_ (by simp) _)
 exact ((Below.refl _ w).alloc (Nat.le_refl _) _).alloc (by simp) _
theorem infoPartD : (Tryz.prog.info? 138).map (fun i => (i.zero, i.size, i.bytes)) = some (some (.agg #[.string ⟨#[]⟩, .int .i64 0, .string ⟨#[]⟩, .int .i64 0, .int .i64 0, .int .u32 0, .int .i64 0, .int .u32 0, .int .i64 0, .slice none 0 0]), 10, 112) := by kernel_rfl
theorem ePartD : ElemInfo Tryz.prog 29 138 10 112 := by
 obtain ⟨i, hi, h0, h1, h2⟩ := info_parts infoPartD
 exact ⟨Tryz.underlying29, ⟨i, _, hi, h0, h1, h2, rfl⟩, by decide⟩
theorem txfrom_any (x : Im) (v : Vm) (tn : Bool) (A : Option Addr) (n c : Nat) (ps : List Pe) (w : World) (hA : RdE w w.heap.size A n ps) (hn : n ≤ 1000) :
 Calls Tryz.prog 107 #[.agg #[.int .i64 x.1, .int .u32 x.2, .int .u32 v.d0, .int .u32 v.d1, .int .u32 v.d2, .int .u32 v.d3, .int .u32 v.d4, .int .u32 v.d5, .int .u32 v.d6, .int .u32 v.d7, .bool tn, .slice A n c]] w
  fun e w' => ∃ A' c', e = .returned (.agg #[.int .i64 x.1, .int .u32 x.2, .int .u32 v.d0, .int .u32 v.d1, .int .u32 v.d2, .int .u32 v.d3, .int .u32 v.d4, .int .u32 v.d5, .int .u32 v.d6, .int .u32 v.d7, .bool tn, .slice A' n c']) ∧ Ow w' w.heap.size 138 10 (.slice A' n c') (ps.map Pe.enc) ∧ Below w.heap.size w w' := by
 go_enter Tryz.func107, Tryz.ntmps107
 go_wp2
 go_loopg [4] (n + 1) (fun g i wr => ∃ (k : Nat) (A' : Option Addr) (c' : Nat), k ≤ n ∧ g = n + 1 - k ∧ i = .int .i64 k ∧
  wr.heap[w.heap.size + 1 + 1]? = some (.cells #[.int .i64 x.1, .int .u32 x.2, .int .u32 v.d0, .int .u32 v.d1, .int .u32 v.d2, .int .u32 v.d3, .int .u32 v.d4, .int .u32 v.d5, .int .u32 v.d6, .int .u32 v.d7, .bool tn, .slice A' k c'] 31 (0, 0)) ∧ Ow wr (w.heap.size + 3) 138 10 (.slice A' k c') ((ps.take k).map Pe.enc) ∧
  Below (w.heap.size + 2) ((w.alloc (.cells #[.int .i64 x.1, .int .u32 x.2, .int .u32 v.d0, .int .u32 v.d1, .int .u32 v.d2, .int .u32 v.d3, .int .u32 v.d4, .int .u32 v.d5, .int .u32 v.d6, .int .u32 v.d7, .bool tn, .slice A n c] 45)).alloc (.cells #[.int .i64 0, .int .u32 0, .int .u32 0, .int .u32 0, .int .u32 0, .int .u32 0, .int .u32 0, .int .u32 0, .int .u32 0, .int .u32 0, .bool false, .slice none 0 0] 31)) wr)
 case atStart =>
  refine ⟨0, none, 0, Nat.zero_le _, rfl, rfl, jT _ _ (by simp), Ow.nil_ _ _ _ _, (Below.refl _ _).alloc (by simp) _⟩
 case round =>
  obtain ⟨k, A', c', hk, rfl, rfl, hblk, hown, hbr⟩ := hrel
  have hb0 : Below (w.heap.size + 1) (w.alloc (.cells #[.int .i64 x.1, .int .u32 x.2, .int .u32 v.d0, .int .u32 v.d1, .int .u32 v.d2, .int .u32 v.d3, .int .u32 v.d4, .int .u32 v.d5, .int .u32 v.d6, .int .u32 v.d7, .bool tn, .slice A n c] 45)) wr := ((Below.refl _ _).alloc (by simp) _).trans (hbr.mono (Nat.le_succ _))
  obtain ⟨hc0, _⟩ := bcell hbr
  have hbl := jB hblk
  have hql : (ps.take k).length = k := by simpa using hown.rd.2.1
  obtain ⟨_, hf0⟩ := bcell hbr
  have hz1 : w.heap.size < wr.heap.size := by omega
  have hz2 : w.heap.size + 1 < wr.heap.size := by omega
  have o11 := jA hblk 11
  simp at o11
  have hfro := jE hblk
  by_cases hlt : k < n
  ·
   obtain ⟨bA, oA, p, rfl, hbA, hp, hcp⟩ := hA.1.at_ hlt
   have p0 := hcp 0 _ rfl
   have p1 := hcp 1 _ rfl
   have p2 := hcp 2 _ rfl
   have p3 := hcp 3 _ rfl
   have p4 := hcp 4 _ rfl
   have p5 := hcp 5 _ rfl
   have p6 := hcp 6 _ rfl
   have p7 := hcp 7 _ rfl
   have p8 := hcp 8 _ rfl
   have p9 := hcp 9 _ rfl
   rw [Nat.add_zero] at p0
   clear hcp
   have hbA2 : bA < w.heap.size + 2 := by omega
   go_upto_block 1 with fail
   have hpH := jH hp
   clear hp
   have hqlH := jH hql
   clear hql
   have hq0 : KQ (w.heap.size + 1) (w.alloc (.cells #[.int .i64 x.1, .int .u32 x.2, .int .u32 v.d0, .int .u32 v.d1, .int .u32 v.d2, .int .u32 v.d3, .int .u32 v.d4, .int .u32 v.d5, .int .u32 v.d6, .int .u32 v.d7, .bool tn, .slice (some ⟨bA, oA, none⟩) n c] 45)) wr := kq hb0
   go_cut [4] (fun s4 wx => s4 = .int .i64 k ∧ ∃ (A2 : Option Addr) (c2 : Nat),
    wx.heap[w.heap.size + 1 + 1]? = some (.cells #[.int .i64 x.1, .int .u32 x.2, .int .u32 v.d0, .int .u32 v.d1, .int .u32 v.d2, .int .u32 v.d3, .int .u32 v.d4, .int .u32 v.d5, .int .u32 v.d6, .int .u32 v.d7, .bool tn, .slice A2 (k + 1) c2] 31 (0, 0)) ∧ Ow wx (w.heap.size + 3) 138 10 (.slice A2 (k + 1) c2) ((ps.take k ++ [p]).map Pe.enc) ∧
    Below (w.heap.size + 2) ((w.alloc (.cells #[.int .i64 x.1, .int .u32 x.2, .int .u32 v.d0, .int .u32 v.d1, .int .u32 v.d2, .int .u32 v.d3, .int .u32 v.d4, .int .u32 v.d5, .int .u32 v.d6, .int .u32 v.d7, .bool tn, .slice (some ⟨bA, oA, none⟩) n c] 45)).alloc (.cells #[.int .i64 0, .int .u32 0, .int .u32 0, .int .u32 0, .int .u32 0, .int .u32 0, .int .u32 0, .int .u32 0, .int .u32 0, .int .u32 0, .bool false, .slice none 0 0] 31)) wx)
   case first =>
    go_wp2_with fail
    refine jW (fun w' => KQ (w.heap.size + 1) (w.alloc (.cells #[.int .i64 x.1, .int .u32 x.2, .int .u32 v.d0, .int .u32 v.d1, .int .u32 v.d2, .int .u32 v.d3, .int .u32 v.d4, .int .u32 v.d5, .int .u32 v.d6, .int .u32 v.d7, .bool tn, .slice (some ⟨bA, oA, none⟩) n c] 45)) w') (fun w' => w'.cell? ⟨w.heap.size + 1 + 1, 11, none⟩ = some (.slice A' k c')) 17 (by kernel_rfl) (kq hb0.drew) o11 ?_
    intro hcl
    have hC : KQ (w.heap.size + 1) (w.alloc (.cells #[.int .i64 x.1, .int .u32 x.2, .int .u32 v.d0, .int .u32 v.d1, .int .u32 v.d2, .int .u32 v.d3, .int .u32 v.d4, .int .u32 v.d5, .int .u32 v.d6, .int .u32 v.d7, .bool tn, .slice (some ⟨bA, oA, none⟩) n c] 45)) wr.drew := kq hb0.drew
    have hE : wr.drew.cell? ⟨w.heap.size + 1 + 1, 11, none⟩ = some (.slice A' k c') := o11
    (refine mT 0 ?_ rfl hcl hC hE ?_ ?_; rotate_left; (· (intro w hSw; (try dsimp only at hSw); go_simp; (try with_reducible rfl))); clear hcl; intro hcl; (try simp only [Act.put, List.getElem_toArray, List.getElem_cons_zero, List.setIfInBounds_toArray, List.set_cons_zero, List.set_cons_succ]))
    (refine wpM_take0 (i := 1) (v := ?_) rfl rfl (by kernel_rfl) (by kernel_rfl) (by kernel_rfl) (by kernel_rfl) (by decide) (fun _ _ _ h => h) hcl hC (fun _ => hE) (Or.inl ⟨by rfl, ?_⟩) ?_; rotate_left; (· (intro w hSw; (try dsimp only at hSw); go_simp; (try with_reducible rfl))); clear hcl; intro hcl; (try simp only [Act.put, nA, nB, nC, nD, nE, nF]))
    (refine mT 2 ?_ rfl hcl hC hE ?_ ?_; rotate_left; (· (intro w hSw; (try dsimp only at hSw); go_simp; (try with_reducible rfl))); clear hcl; intro hcl; (try simp only [Act.put, nA, nB, nC, nD, nE, nF]))
    (refine mT 3 ?_ rfl hcl hC hE ?_ ?_; rotate_left; (· (intro w hSw; (try dsimp only at hSw); go_simp; (try with_reducible rfl))); clear hcl; intro hcl; (try simp only [Act.put, nA, nB, nC, nD, nE, nF]))
    (refine mT 4 ?_ rfl hcl hC hE ?_ ?_; rotate_left; (· (intro w hSw; (try dsimp only at hSw); go_simp; (try with_reducible rfl))); clear hcl; intro hcl; (try simp only [Act.put, nA, nB, nC, nD, nE, nF]))
    (refine mT 5 ?_ rfl hcl hC hE ?_ ?_; rotate_left; (· (intro w hSw; (try dsimp only at hSw); go_simp; (try with_reducible rfl))); clear hcl; intro hcl; (try simp only [Act.put, nA, nB, nC, nD, nE, nF]))
    (refine mT 6 ?_ rfl hcl hC hE ?_ ?_; rotate_left; (· (intro w hSw; (try dsimp only at hSw); go_simp; (try with_reducible rfl))); clear hcl; intro hcl; (try simp only [Act.put, nA, nB, nC, nD, nE, nF]))
    (refine mT 7 ?_ rfl hcl hC hE ?_ ?_; rotate_left; (· (intro w hSw; (try dsimp only at hSw); go_simp; (try with_reducible rfl))); clear hcl; intro hcl; (try simp only [Act.put, nA, nB, nC, nD, nE, nF]))
    (refine mT 8 ?_ rfl hcl hC hE ?_ ?_; rotate_left; (· (intro w hSw; (try dsimp only at hSw); go_simp; (try with_reducible rfl))); clear hcl; intro hcl; (try simp only [Act.put, nA, nB, nC, nD, nE, nF]))
    (refine mT 9 ?_ rfl hcl hC hE ?_ ?_; rotate_left; (· (intro w hSw; (try dsimp only at hSw); go_simp; (try with_reducible rfl))); clear hcl; intro hcl; (try simp only [Act.put, nA, nB, nC, nD, nE, nF]))
    (refine mT 10 ?_ rfl hcl hC hE ?_ ?_; rotate_left; (· (intro w hSw; (try dsimp only at hSw); go_simp; (try with_reducible rfl))); clear hcl; intro hcl; (try simp only [Act.put, nA, nB, nC, nD, nE, nF]))
    (refine mT 11 ?_ rfl hcl hC hE ?_ ?_; rotate_left; (· (intro w hSw; (try dsimp only at hSw); go_simp; (try with_reducible rfl))); clear hcl; intro hcl; (try simp only [Act.put, nA, nB, nC, nD, nE, nF]))
    (refine mT 12 ?_ rfl hcl hC hE ?_ ?_; rotate_left; (· (intro w hSw; (try dsimp only at hSw); go_simp; (try with_reducible rfl))); clear hcl; intro hcl; (try simp only [Act.put, nA, nB, nC, nD, nE, nF]))
    (refine mT 13 ?_ rfl hcl hC hE ?_ ?_; rotate_left; (· (intro w hSw; (try dsimp only at hSw); go_simp; (try with_reducible rfl))); clear hcl; intro hcl; (try simp only [Act.put, nA, nB, nC, nD, nE, nF]))
    refine jK (i := 14) rfl (by kernel_rfl) hcl (fun K hK => ?_)
    go_simp
    refine (fefrom_any _ _ _ _ _ _ _ _ _ _ _ _).mono ?_
    rintro e w1 ⟨rfl, hb1⟩
    have hb1' : Below wr.heap.size wr w1 := ((Below.refl _ wr).drew).trans hb1
    have hblk1 := jD hblk hb1'
    have o11' := jA hblk1 11
    simp at o11'
    have hbl1 := jB hblk1
    refine hK.out _ _ (kq (hC.1.trans (hb1.mono (by show _ ≤ wr.heap.size; omega)))) o11' ?_
    clear hK K hC hE hcl
    intro hcl
    have hC : KQ (w.heap.size + 1) (w.alloc (.cells #[.int .i64 x.1, .int .u32 x.2, .int .u32 v.d0, .int .u32 v.d1, .int .u32 v.d2, .int .u32 v.d3, .int .u32 v.d4, .int .u32 v.d5, .int .u32 v.d6, .int .u32 v.d7, .bool tn, .slice (some ⟨bA, oA, none⟩) n c] 45)) w1 := kq (hb0.trans (hb1'.mono (by omega)))
    have hE : w1.cell? ⟨w.heap.size + 1 + 1, 11, none⟩ = some (.slice A' k c') := o11'
    (try simp only [Act.put, List.setIfInBounds_toArray, List.set_cons_zero, List.set_cons_succ])
    (refine mT 15 ?_ rfl hcl hC hE ?_ ?_; rotate_left; (· (intro w hSw; (try dsimp only at hSw); go_simp; (try with_reducible rfl))); clear hcl; intro hcl; (try simp only [Act.put, nA, nB, nC, nD, nE, nF]))
    refine jK (i := 16) rfl (by kernel_rfl) hcl (fun K hK => ?_)
    go_simp
    have hb2 : Below wr.heap.size wr (w1.alloc (.cells #[.string (bs p.key), .int .i64 p.e.act, .string (bs p.e.name), .int .i64 p.e.val, .int .i64 p.e.tag.1.1, .int .u32 p.e.tag.1.2, .int .i64 p.e.tag.2, .int .u32 p.e.st.1, .int .i64 p.e.st.2, .slice p.A p.l p.c] 138)) := hb1'.alloc hb1'.size _
    have hz1 := hb1'.size
    refine hK.out _ _ (kq_alloc hC (by simp) _) ((World.cell?_alloc_lt _ _ _ hbl1).trans hE) ?_
    clear hK K hE hcl
    intro hcl
    have hC := kq_alloc hC (by simp) (.cells #[.string (bs p.key), .int .i64 p.e.act, .string (bs p.e.name), .int .i64 p.e.val, .int .i64 p.e.tag.1.1, .int .u32 p.e.tag.1.2, .int .i64 p.e.tag.2, .int .u32 p.e.st.1, .int .i64 p.e.st.2, .slice p.A p.l p.c] 138)
    (try simp only [Act.put, List.setIfInBounds_toArray, List.set_cons_zero, List.set_cons_succ])
    refine wpM_last (i := 17) rfl (by kernel_rfl) hcl (by kernel_rfl) (fun K hK => ?_)
    refine step_append_rd _ rfl _ _ _ rfl ePartD (base := w.heap.size + 3) (v := .slice A' k c') (xs := (ps.take k).map Pe.enc) rfl (hown.below hb2) rfl (Rd.one' [.string (bs p.key), .int .i64 p.e.act, .string (bs p.e.name), .int .i64 p.e.val, .int .i64 p.e.tag.1.1, .int .u32 p.e.tag.1.2, .int .i64 p.e.tag.2, .int .u32 p.e.st.1, .int .i64 p.e.st.2, .slice p.A p.l p.c] rfl) (by simp) (by simp [Value.oneCell'])
     (by rw [List.length_map, hqlH.out]; unfold maxLen; omega) (by rw [List.length_map, hqlH.out]; omega) (by simp; omega) ?_
    intro A2 n2 c2 w2 hn2 hown2 hg2 hat2
    obtain rfl : n2 = k + 1 := by rw [hn2, List.length_map, hqlH.out]
    clear hn2
    obtain ⟨hblk2, hcell2, hfro2⟩ := grown_cells (b := w.heap.size + 1 + 1) hg2 (yE _ hbl1 hblk1) (fun e => by have := hown.block _ e.symm; omega)
    have o112 := hcell2 11
    simp at o112
    have hC2 := yB hC (by simp) hg2 (fun g e => by have := (hown.block g e).1; omega)
    have hb3 : Below (w.heap.size + 2) wr w2 := (hb2.mono (by omega)).grown hg2 (by simp; omega) (fun g e => by have := (hown.block g e).1; omega)
    refine hK.out _ _ hC2 ?_
    clear hK K hC hcl
    intro hcl
    have hC := hC2
    (try simp only [Act.put, List.setIfInBounds_toArray])
    (refine wpM_takeX (i := 18) (v := ?_) rfl (by kernel_rfl) (by kernel_rfl) (by kernel_rfl) (by decide) (fun _ _ _ h => h) hcl hC (by kernel_rfl) (Or.inl ⟨by rfl, ?_⟩) ?_; rotate_left; (· (intro w hSw; (try dsimp only at hSw); go_simp; (try with_reducible rfl))); clear hcl; intro hcl; (try simp only [Act.put, nA, nB, nC, nD, nE, nF]))
    refine wpM_last (i := 19) rfl (by kernel_rfl) hcl (by kernel_rfl) (fun K hK => ?_)
    go_simp
    refine hK.out _ _ (kq_set hC (by simp) _) ?_
    clear hK K hC hcl
    intro hcl
    refine wpM_done (by kernel_rfl) ?_
    clear hcl
    go_wp2_with fail
    go_meet
    refine ⟨rfl, A2, c2, ?_, ?_, ?_⟩
    ·
     rw [jO hblk2 11]; simp
    ·
     rw [List.map_append]; exact hown2.setCell (by simp) _
    ·
     exact (hbr.trans hb3).setCell (by simp) _
   case rest =>
    obtain ⟨rfl, A2, c2, hblkx, hownx, hbx⟩ := hcut
    go_wp2
    go_roundg (n + 1 - (k + 1))
    case measure => omega
    case rel =>
     refine ⟨k + 1, A2, c2, by omega, rfl, by go_num, hblkx, ?_, hbx⟩
     rw [List.take_add_one, hpH.out]
     exact hownx
  ·
   obtain rfl : k = n := by omega
   have o0 := jA hblk 0
   have o1 := jA hblk 1
   have o2 := jA hblk 2
   have o3 := jA hblk 3
   have o4 := jA hblk 4
   have o5 := jA hblk 5
   have o6 := jA hblk 6
   have o7 := jA hblk 7
   have o8 := jA hblk 8
   have o9 := jA hblk 9
   have o10 := jA hblk 10
   simp at o0 o1 o2 o3 o4 o5 o6 o7 o8 o9 o10
   clear hql
   have r0 := hc0 (w.heap.size + 1) 0 (by omega)
   have r1 := hc0 (w.heap.size + 1) 1 (by omega)
   have r2 := hc0 (w.heap.size + 1) 2 (by omega)
   have r3 := hc0 (w.heap.size + 1) 3 (by omega)
   have r4 := hc0 (w.heap.size + 1) 4 (by omega)
   have r5 := hc0 (w.heap.size + 1) 5 (by omega)
   have r6 := hc0 (w.heap.size + 1) 6 (by omega)
   have r7 := hc0 (w.heap.size + 1) 7 (by omega)
   have r8 := hc0 (w.heap.size + 1) 8 (by omega)
   have r9 := hc0 (w.heap.size + 1) 9 (by omega)
   have r10 := hc0 (w.heap.size + 1) 10 (by omega)
   have r11 := hc0 (w.heap.size + 1) 11 (by omega)
   simp at r0 r1 r2 r3 r4 r5 r6 r7 r8 r9 r10 r11
   have hres : wr.heap[w.heap.size + 1]? = some (.cells #[.int .i64 0, .int .u32 0, .int .u32 0, .int .u32 0, .int .u32 0, .int .u32 0, .int .u32 0, .int .u32 0, .int .u32 0, .int .u32 0, .bool false, .slice none 0 0] 31) := (hbr.block _ (by omega)).trans (jT _ _ (by simp))
   have hps : Hid (ps.take k = ps) := List.take_of_length_le (by have := hA.len; omega)
   rw [hps.out] at hown
   have hf1 : w.heap.size + 1 < w.heap.size + 2 := by omega
   go_wp2
   refine bodyPost_ret (v := .agg #[.int .i64 x.1, .int .u32 x.2, .int .u32 v.d0, .int .u32 v.d1, .int .u32 v.d2, .int .u32 v.d3, .int .u32 v.d4, .int .u32 v.d5, .int .u32 v.d6, .int .u32 v.d7, .bool tn, .slice A' k c']) (by simp [results, Tryz.results107, go_sem, r0, r1, r2, r3, r4, r5, r6, r7, r8, r9, r10, r11]) rfl ⟨A', c', rfl, ?_, ?_⟩
   ·
    refine Ow.base (base := w.heap.size + 3) ?_ (by omega)
    (repeat (with_reducible refine Ow.setCell ?_ (by simp) _))
    exact hown
   ·
    repeat (with_reducible refine Below.setCell ?_ (by simp) _)
    exact (((Below.refl _ w).alloc (Nat.le_refl _) _).alloc (by simp) _).trans (hbr.mono (by omega))
end Go.Proofs.YtfhandglpjnonaaGreatDoor
