/- The law's To of ballots, Attr, To of messages. A vector with one name more. The document's Take. The document's Beyond: what of a set is not within a vector. The document's Fold. The document's Make: the set of any names, one by one put in its place. slices.Clone at names. slices.IndexFunc and slices.DeleteFunc at names, whatever the function value. Package dots' Beyond. dots.Fold: a vector with all of a set that goes on from it, and the rest. cut.Check: what is wrong with a cut. The document's Make of cuts. The document's Same and Check of cuts. The document's Check of cuts. vec.Write and the document's: a vector's bytes. cut.Write and the document's. -/
import Derived.Test.YtfhandglpjnonaaGreatDoorQp
import Derived.Test.YtfhandglpjnonaaGreatDoorN08
import Derived.Test.YtfhandglpjnonaaGreatDoorN24
import Derived.Test.YtfhandglpjnonaaGreatDoorM17
import Derived.Test.YtfhandglpjnonaaGreatDoorGb
import Derived.Test.YtfhandglpjnonaaGreatDoorN02
import Derived.Deep.QuietTactic
import Derived.Lib.SliceRun
import Derived.Test.YtfhandglpjnonaaGreatDoorN14
import Derived.Shelf.Abstract
import Derived.Test.YtfhandglpjnonaaGreatDoorN03
set_option maxRecDepth 100000
set_option maxHeartbeats 16000000
namespace Go.Proofs.YtfhandglpjnonaaGreatDoor
open Go.RowKit
theorem bto_any (a b : Int) (w : World) : Calls Tryz.prog 31 #[.agg #[.int .u32 a, .int .i64 b]] w fun e w' => e = .returned (.agg #[.int .u32 a, .int .i64 b]) ∧ Below w.heap.size w w' := by
 go_enter Tryz.func31, Tryz.ntmps31
 go_wp2
 refine bodyPost_ret (v := .agg #[.int .u32 a, .int .i64 b]) (by simp [results, Tryz.results31, go_sem]) rfl ⟨rfl, ?_⟩
 repeat (with_reducible refine Below.setCell ?_ (by simp) _)
 exact ((Below.refl _ w).alloc (Nat.le_refl _) _).alloc (by simp) _
theorem attr_any (a : Int) (v : Vm) (w : World) : Calls Tryz.prog 32 #[.agg #[.int .u32 a, .int .u32 v.d0, .int .u32 v.d1, .int .u32 v.d2, .int .u32 v.d3, .int .u32 v.d4, .int .u32 v.d5, .int .u32 v.d6, .int .u32 v.d7]] w fun e w' => e = .returned (.agg #[.int .u32 a, .int .u32 v.d0, .int .u32 v.d1, .int .u32 v.d2, .int .u32 v.d3, .int .u32 v.d4, .int .u32 v.d5, .int .u32 v.d6, .int .u32 v.d7]) ∧ Below w.heap.size w w' := by
 go_enter Tryz.func32, Tryz.ntmps32
 go_wp2
 refine bodyPost_ret (v := .agg #[.int .u32 a, .int .u32 v.d0, .int .u32 v.d1, .int .u32 v.d2, .int .u32 v.d3, .int .u32 v.d4, .int .u32 v.d5, .int .u32 v.d6, .int .u32 v.d7]) (by simp [results, Tryz.results32, go_sem]) rfl ⟨rfl, ?_⟩
 repeat (with_reducible refine Below.setCell ?_ (by simp) _)
 exact ((Below.refl _ w).alloc (Nat.le_refl _) _).alloc (by simp) _
structure MgV where
 kd : Int
 fr : Int
 dst : Int
 ep : Int
 i : Im
 b : Int × Int
 st : Int
 vv : Int × Int
 c : Cv
 an : Int
 av : Vm
def Mm.val (m : Mm) : MgV := ⟨m.kd, m.fr, m.dst, m.ep, m.i, m.b, m.st, m.vv, m.c.val, m.an, m.av⟩
structure Mm.Sml (w : World) (m : Mm) : Prop where
 c : m.c.Sml w
 i : m.i.wf
 av : m.av.wf
def MsgP (m : Mm) (w : World) (e : Ending) (w' : World) : Prop := ∃ n : Mm, e = .returned (.agg ↑n) ∧ n.val = m.val ∧ n.c.Own w' w.heap.size ∧ Below w.heap.size w w'
theorem MsgP.sml {m : Mm} {w w' : World} {e : Ending} (h : MsgP m w e w') (hs : m.Sml w) : ∃ n : Mm, e = .returned (.agg ↑n) ∧ n.val = m.val ∧ n.Sml w' ∧ Below w.heap.size w w' := by
 obtain ⟨n, h1, h2, h3, h4⟩ := h
 have e1 : n.i = m.i := congrArg MgV.i h2
 have e2 : n.av = m.av := congrArg MgV.av h2
 have e3 : n.c.val = m.c.val := congrArg MgV.c h2
 exact ⟨n, h1, h2, ⟨⟨h3.ok, by rw [e3]; exact hs.c.v⟩, by rw [e1]; exact hs.i, by rw [e2]; exact hs.av⟩, h4⟩
theorem ite_val {b : Bool} {x y : Cm} (h : x.val = y.val) : (if b = true then x else zCm).val = (if b = true then y else zCm).val := by cases b <;> simp [h]
theorem msgErr_val {n m : Mm} (h : n.val = m.val) : msgErr n = msgErr m := by
 obtain ⟨kd, fr, dst, ep, i, b, st, vv, c, an, av⟩ := m
 obtain ⟨ld, gr, est, fp, j, d, tt, uu, c', bn, bv⟩ := n
 simp only [Mm.val, MgV.mk.injEq] at h
 obtain ⟨rfl, rfl, rfl, rfl, rfl, rfl, rfl, rfl, hc, rfl, rfl⟩ := h
 have h1 : sameMm (keptM ⟨ld, gr, est, fp, j, d, tt, uu, c', bn, bv⟩) ⟨ld, gr, est, fp, j, d, tt, uu, c', bn, bv⟩ = sameMm (keptM ⟨ld, gr, est, fp, j, d, tt, uu, c, bn, bv⟩) ⟨ld, gr, est, fp, j, d, tt, uu, c, bn, bv⟩ := by
  unfold sameMm keptM onlyM
  dsimp only
  rw [ite_val hc, hc]
 unfold msgErr
 rw [h1]
 unfold fieldsE rangeBad
 dsimp only
 rw [hc]
theorem to25_any (m : Mm) (w : World) (hA : m.Sml w) : Calls Tryz.prog 8 #[.agg ↑m] w fun e w' => MsgP m w e w' := by
 have cT := jH (fun w' (h : Below w.heap.size w w') => cmd25_any m.c w' (hA.c.below h))
 have cB := jH (fun w' => bto_any m.b.1 m.b.2 w')
 have cV := jH (fun w' => bto_any m.vv.1 m.vv.2 w')
 have cA := jH (fun w' => attr_any m.an m.av w')
 have hb0 : Below w.heap.size w ((w.alloc (.cells ↑m 38)).alloc (.cells ↑Zm.mk 50)) := ((Below.refl _ w).alloc (Nat.le_refl _) _).alloc (by simp) _
 have hbA : ((w.alloc (.cells ↑m 38)).alloc (.cells ↑Zm.mk 50)).heap[w.heap.size]? = some (.cells ↑m 38 (0, 0)) := yE _ (by simp) (jT _ _ rfl)
 have hbK : ((w.alloc (.cells ↑m 38)).alloc (.cells ↑Zm.mk 50)).heap[w.heap.size + 1]? = some (.cells ↑Zm.mk 50 (0, 0)) := jT _ _ (by simp)
 generalize hW : ((w.alloc (.cells ↑m 38)).alloc (.cells ↑Zm.mk 50)) = W at hb0 hbA hbK
 have hz0 := hb0.size
 have hltA := jB hbA
 have hltK := jB hbK
 have hn1 : w.heap.size + 1 ≤ W.heap.size := by omega
 have hn0 : w.heap.size ≤ w.heap.size + 1 := by omega
 have p0 := jA hbA 0
 have p1 := jA hbA 1
 have p2 := jA hbA 2
 have p3 := jA hbA 3
 have p4 := jA hbA 4
 have p5 := jA hbA 5
 have p6 := jA hbA 6
 have p7 := jA hbA 7
 have p8 := jA hbA 8
 have p9 := jA hbA 9
 have p10 := jA hbA 10
 have p35 := jA hbA 35
 have p36 := jA hbA 36
 have p37 := jA hbA 37
 have p38 := jA hbA 38
 have p39 := jA hbA 39
 have p40 := jA hbA 40
 have p41 := jA hbA 41
 have p42 := jA hbA 42
 have p43 := jA hbA 43
 simp at p0 p1 p2 p3 p4 p5 p6 p7 p8 p9 p10 p35 p36 p37 p38 p39 p40 p41 p42 p43
 have hbKH := jH hbK
 have hmid := jH (fun w' (h : KQ (w.heap.size + 1) W w') => rangeQ ((h.1.block _ (Nat.lt_succ_self _)).trans hbA) 11 ↑m.c rfl)
 have hGr := jH (fun w' (h : Below (w.heap.size + 1) W w') => hb0.trans (h.mono hn0))
 clear hbA hA hbK hb0
 go_enter Tryz.func8, Tryz.ntmps8
 go_upto_region 1 with (fail)
 clear hW
 refine jW (fun w' => KQ (w.heap.size + 1) W w') (fun w' => w'.heap[w.heap.size + 1]? = some (.cells ↑Zm.mk 50 (0, 0))) 25 (by kernel_rfl) (kq (Below.refl _ _).drew) hbKH.out ?_
 intro hcl
 have hC : KQ (w.heap.size + 1) W W.drew := kq (Below.refl _ _).drew
 have hE : W.drew.heap[w.heap.size + 1]? = some (.cells ↑Zm.mk 50 (0, 0)) := hbKH.out
 (refine mT 0 ?_ rfl hcl hC hE ?_ ?_; rotate_left; (· (intro w hSw; (try dsimp only at hSw); go_simp; (try with_reducible rfl))); clear hcl; intro hcl; (try simp only [Act.put, List.getElem_toArray, List.getElem_cons_zero, List.setIfInBounds_toArray, List.set_cons_zero, List.set_cons_succ]))
 (refine mT 1 ?_ rfl hcl hC hE ?_ ?_; rotate_left; (· (intro w hSw; (try dsimp only at hSw); go_simp; (try with_reducible rfl))); clear hcl; intro hcl; (try simp only [Act.put, nA, nB, nC, nD, nE, nF]))
 (refine mT 2 ?_ rfl hcl hC hE ?_ ?_; rotate_left; (· (intro w hSw; (try dsimp only at hSw); go_simp; (try with_reducible rfl))); clear hcl; intro hcl; (try simp only [Act.put, nA, nB, nC, nD, nE, nF]))
 (refine mT 3 ?_ rfl hcl hC hE ?_ ?_; rotate_left; (· (intro w hSw; (try dsimp only at hSw); go_simp; (try with_reducible rfl))); clear hcl; intro hcl; (try simp only [Act.put, nA, nB, nC, nD, nE, nF]))
 (refine mT 4 ?_ rfl hcl hC hE ?_ ?_; rotate_left; (· (intro w hSw; (try dsimp only at hSw); go_simp; (try with_reducible rfl))); clear hcl; intro hcl; (try simp only [Act.put, nA, nB, nC, nD, nE, nF]))
 (refine mT 5 ?_ rfl hcl hC hE ?_ ?_; rotate_left; (· (intro w hSw; (try dsimp only at hSw); go_simp; (try with_reducible rfl))); clear hcl; intro hcl; (try simp only [Act.put, nA, nB, nC, nD, nE, nF]))
 (refine mT 6 ?_ rfl hcl hC hE ?_ ?_; rotate_left; (· (intro w hSw; (try dsimp only at hSw); go_simp; (try with_reducible rfl))); clear hcl; intro hcl; (try simp only [Act.put, nA, nB, nC, nD, nE, nF]))
 (refine mT 7 ?_ rfl hcl hC hE ?_ ?_; rotate_left; (· (intro w hSw; (try dsimp only at hSw); go_simp; (try with_reducible rfl))); clear hcl; intro hcl; (try simp only [Act.put, nA, nB, nC, nD, nE, nF]))
 (refine mT 8 ?_ rfl hcl hC hE ?_ ?_; rotate_left; (· (intro w hSw; (try dsimp only at hSw); go_simp; (try with_reducible rfl))); clear hcl; intro hcl; (try simp only [Act.put, nA, nB, nC, nD, nE, nF]))
 (refine mT 9 ?_ rfl hcl hC hE ?_ ?_; rotate_left; (· (intro w hSw; (try dsimp only at hSw); go_simp; (try with_reducible rfl))); clear hcl; intro hcl; (try simp only [Act.put, nA, nB, nC, nD, nE, nF]))
 (refine mT 10 ?_ rfl hcl hC hE ?_ ?_; rotate_left; (· (intro w hSw; (try dsimp only at hSw); go_simp; (try with_reducible rfl))); clear hcl; intro hcl; (try simp only [Act.put, nA, nB, nC, nD, nE, nF]))
 (refine mT 11 ?_ rfl hcl hC hE ?_ ?_; rotate_left; (· (intro w hSw; (try dsimp only at hSw); go_simp; (try with_reducible rfl))); clear hcl; intro hcl; (try simp only [Act.put, nA, nB, nC, nD, nE, nF]))
 (refine mT 13 ?_ rfl hcl hC hE ?_ ?_; rotate_left; (· (intro w hSw; (try dsimp only at hSw); go_simp; (try with_reducible rfl))); clear hcl; intro hcl; (try simp only [Act.put, nA, nB, nC, nD, nE, nF]))
 (refine mT 14 ?_ rfl hcl hC hE ?_ ?_; rotate_left; (· (intro w hSw; (try dsimp only at hSw); go_simp; (try with_reducible rfl))); clear hcl; intro hcl; (try simp only [Act.put, nA, nB, nC, nD, nE, nF]))
 (refine mT 15 ?_ rfl hcl hC hE ?_ ?_; rotate_left; (· (intro w hSw; (try dsimp only at hSw); go_simp; (try with_reducible rfl))); clear hcl; intro hcl; (try simp only [Act.put, nA, nB, nC, nD, nE, nF]))
 (refine mT 16 ?_ rfl hcl hC hE ?_ ?_; rotate_left; (· (intro w hSw; (try dsimp only at hSw); go_simp; (try with_reducible rfl))); clear hcl; intro hcl; (try simp only [Act.put, nA, nB, nC, nD, nE, nF]))
 (refine mT 18 ?_ rfl hcl hC hE ?_ ?_; rotate_left; (· (intro w hSw; (try dsimp only at hSw); go_simp; (try with_reducible rfl))); clear hcl; intro hcl; (try simp only [Act.put, nA, nB, nC, nD, nE, nF]))
 refine wpM_take (i := 19) (v := .agg (↑m.c : List Value).toArray) rfl (by kernel_rfl) (by kernel_rfl) (by kernel_rfl) (by decide) (fun _ _ _ h => h) hcl hC (fun _ => hE) (yields_mid (by kernel_rfl) rfl (w.heap.size) 11 rfl ↑m.c _ hmid.out Tryz.underlying34 rfl (by kernel_rfl)) ?_
 clear hcl
 intro hcl
 (try simp only [Act.put, nA, nB, nC, nD, nE, nF])
 (refine mT 21 ?_ rfl hcl hC hE ?_ ?_; rotate_left; (· (intro w hSw; (try dsimp only at hSw); go_simp; (try with_reducible rfl))); clear hcl; intro hcl; (try simp only [Act.put, nA, nB, nC, nD, nE, nF]))
 (refine mT 22 ?_ rfl hcl hC hE ?_ ?_; rotate_left; (· (intro w hSw; (try dsimp only at hSw); go_simp; (try with_reducible rfl))); clear hcl; intro hcl; (try simp only [Act.put, nA, nB, nC, nD, nE, nF]))
 refine jK (i := 12) rfl (by kernel_rfl) hcl (fun K hK => ?_)
 go_simp
 refine (cB.out _).mono ?_
 rintro e v1 ⟨rfl, hv1⟩
 have hC' := jP hC hn1 hv1
 have hE' := jD hE hv1
 refine hK.out _ _ hC' hE' ?_
 clear hK K
 clear hcl
 intro hcl
 (try simp only [Act.put, nA, nB, nC, nD, nE, nF])
 clear hC hE
 have hC := hC'
 have hE := hE'
 clear hC' hE'
 refine jK (i := 17) rfl (by kernel_rfl) hcl (fun K hK => ?_)
 go_simp
 refine (cV.out _).mono ?_
 rintro e v2 ⟨rfl, hv2⟩
 have hC' := jP hC hn1 hv2
 have hE' := jD hE hv2
 refine hK.out _ _ hC' hE' ?_
 clear hK K
 clear hcl
 intro hcl
 (try simp only [Act.put, nA, nB, nC, nD, nE, nF])
 clear hC hE
 have hC := hC'
 have hE := hE'
 clear hC' hE'
 refine jK (i := 20) rfl (by kernel_rfl) hcl (fun K hK => ?_)
 go_simp
 refine (cT.out _ (hGr.out _ hC.1)).mono ?_
 rintro e v3 ⟨c', rfl, hcv, hcok, hv3⟩
 have hcs := hC.1.size
 replace hcok := hcok.base (show w.heap.size + 2 ≤ _ by omega)
 clear hcs
 replace hcv := jH hcv
 have hC' := jP hC hn1 hv3
 have hE' := jD hE hv3
 refine hK.out _ _ hC' hE' ?_
 clear hK K
 clear hcl
 intro hcl
 (try simp only [Act.put, nA, nB, nC, nD, nE, nF])
 clear hC hE
 have hC := hC'
 have hE := hE'
 clear hC' hE'
 refine jK (i := 23) rfl (by kernel_rfl) hcl (fun K hK => ?_)
 go_simp
 refine (cA.out _).mono ?_
 rintro e v4 ⟨rfl, hv4⟩
 replace hcok := hcok.below hv4
 have hC' := jP hC hn1 hv4
 have hE' := jD hE hv4
 refine hK.out _ _ hC' hE' ?_
 clear hK K
 clear hcl
 intro hcl
 (try simp only [Act.put, nA, nB, nC, nD, nE, nF])
 clear hC hE
 have hC := hC'
 have hE := hE'
 clear hC' hE'
 obtain ⟨n, hn⟩ : ∃ n : Mm, n = ⟨m.kd, m.fr, m.dst, m.ep, m.i, m.b, m.st, m.vv, c', m.an, m.av⟩ := ⟨_, rfl⟩
 have hnv : n.val = m.val := by rw [hn]; unfold Mm.val; dsimp only; rw [hcv.out]
 have hnc : n.c = c' := by rw [hn]
 replace hcok : n.c.Own v4 (w.heap.size + 2) := by rw [hnc]; exact hcok
 have hag : (#[.int .i64 m.kd, .int .i64 m.fr, .int .i64 m.dst, .int .u32 m.ep, .int .i64 m.i.1, .int .u32 m.i.2, .int .u32 m.b.1, .int .i64 m.b.2, .int .i64 m.st, .int .u32 m.vv.1, .int .i64 m.vv.2, .int .i64 c'.kd, .int .i64 c'.x.1, .int .u32 c'.x.2, .int .u32 c'.v.d0, .int .u32 c'.v.d1, .int .u32 c'.v.d2, .int .u32 c'.v.d3, .int .u32 c'.v.d4, .int .u32 c'.v.d5, .int .u32 c'.v.d6, .int .u32 c'.v.d7, .bool c'.t, .slice c'.T c'.k c'.kc, .int .i64 c'.sn, .int .i64 c'.wh, .slice c'.B c'.m c'.mc, .int .u32 c'.u.d0, .int .u32 c'.u.d1, .int .u32 c'.u.d2, .int .u32 c'.u.d3, .int .u32 c'.u.d4, .int .u32 c'.u.d5, .int .u32 c'.u.d6, .int .u32 c'.u.d7, .int .u32 m.an, .int .u32 m.av.d0, .int .u32 m.av.d1, .int .u32 m.av.d2, .int .u32 m.av.d3, .int .u32 m.av.d4, .int .u32 m.av.d5, .int .u32 m.av.d6, .int .u32 m.av.d7] : Array Value) = ↑n := by rw [hn]
 refine wpM_take (i := 24) (v := .agg #[.int .i64 m.kd, .int .i64 m.fr, .int .i64 m.dst, .int .u32 m.ep, .int .i64 m.i.1, .int .u32 m.i.2, .int .u32 m.b.1, .int .i64 m.b.2, .int .i64 m.st, .int .u32 m.vv.1, .int .i64 m.vv.2, .int .i64 c'.kd, .int .i64 c'.x.1, .int .u32 c'.x.2, .int .u32 c'.v.d0, .int .u32 c'.v.d1, .int .u32 c'.v.d2, .int .u32 c'.v.d3, .int .u32 c'.v.d4, .int .u32 c'.v.d5, .int .u32 c'.v.d6, .int .u32 c'.v.d7, .bool c'.t, .slice c'.T c'.k c'.kc, .int .i64 c'.sn, .int .i64 c'.wh, .slice c'.B c'.m c'.mc, .int .u32 c'.u.d0, .int .u32 c'.u.d1, .int .u32 c'.u.d2, .int .u32 c'.u.d3, .int .u32 c'.u.d4, .int .u32 c'.u.d5, .int .u32 c'.u.d6, .int .u32 c'.u.d7, .int .u32 m.an, .int .u32 m.av.d0, .int .u32 m.av.d1, .int .u32 m.av.d2, .int .u32 m.av.d3, .int .u32 m.av.d4, .int .u32 m.av.d5, .int .u32 m.av.d6, .int .u32 m.av.d7]) rfl (by kernel_rfl) (by kernel_rfl) (by kernel_rfl) (by decide) (fun _ _ _ h => h) hcl hC (fun _ => hE) (yields_build (by kernel_rfl) _ _ rfl (by kernel_rfl)) ?_
 clear hcl
 intro hcl
 (try simp only [Act.put, List.setIfInBounds_toArray])
 rw [hag]
 refine wpM_last (i := 25) rfl (by kernel_rfl) hcl (by kernel_rfl) (fun K hK => ?_)
 rw [if_pos (by kernel_rfl)]
 refine wp_store_mid _ _ _ rfl (w.heap.size + 1) 0 ↑n rfl rfl (there_all hE _ (by simp)) (by kernel_rfl) (by simp [Value.oneCell']) ?_
 have hR := jH (blk_all hE ↑n (by simp))
 have hBl := jH (hGr.out _ (jV (Nat.le_refl _) (n : Array Value).toList 0 _ hC.1))
 have hok := jH (Cm.Own.setCells (by omega) (n : Array Value).toList 0 hcok (b := w.heap.size + 1))
 have hKN := kq (jV (Nat.le_refl _) (n : Array Value).toList 0 _ hC.1)
 generalize hwy : World.setCells v4 (w.heap.size + 1) 0 (n : Array Value).toList = wy at hR hBl hok hKN ⊢
 clear hwy
 refine hK.out _ _ hKN ?_
 clear hK K hcl hKN
 intro hcl
 refine wpM_done (by kernel_rfl) ?_
 clear hcl hC hE p0 p1 p2 p3 p4 p5 p6 p7 p8 p9 p10 p35 p36 p37 p38 p39 p40 p41 p42 p43 hag hn
 (try simp only [Act.put])
 go_wp2_with fail
 exact bodyPost_ret (v := .agg ↑n) (results_cellQ 2 50 (by kernel_rfl) (w.heap.size + 1) rfl (run_loadVar_row _ _ _ _ _ _ _ hR.out Tryz.underlying50 rfl (by kernel_rfl))) rfl
  ⟨n, rfl, hnv, hok.out.base (by omega), hBl.out⟩
theorem set_cells (v : Vm) (k : Nat) (hk : k < 8) (s : Int) : (v : Array Value).setIfInBounds k (.int .u32 s) = ↑(v.set k s) := by
 obtain rfl | rfl | rfl | rfl | rfl | rfl | rfl | rfl : k = 0 ∨ k = 1 ∨ k = 2 ∨ k = 3 ∨ k = 4 ∨ k = 5 ∨ k = 6 ∨ k = 7 := by omega
 all_goals simp [Vm.set]
theorem get_cells (v : Vm) (k : Nat) (hk : k < 8) : (v : Array Value)[k]? = some (.int .u32 (v.get k)) := by
 obtain rfl | rfl | rfl | rfl | rfl | rfl | rfl | rfl : k = 0 ∨ k = 1 ∨ k = 2 ∨ k = 3 ∨ k = 4 ∨ k = 5 ∨ k = 6 ∨ k = 7 := by omega
 all_goals simp [Vm.get]
theorem vchk_get {v : Vm} (h : vchk v = true) (o : Int) : v.get o ≤ 1048576 := by
 unfold vchk at h
 rw [decide_eq_true_eq] at h
 unfold Vm.get
 (repeat' split) <;> omega
def longV (v : Vm) : Nat := if v.d7 ≠ 0 then 8 else if v.d6 ≠ 0 then 7 else if v.d5 ≠ 0 then 6 else if v.d4 ≠ 0 then 5 else if v.d3 ≠ 0 then 4 else if v.d2 ≠ 0 then 3 else if v.d1 ≠ 0 then 2 else if v.d0 ≠ 0 then 1 else 0
theorem longV_le (v : Vm) : longV v ≤ 8 := by unfold longV; (repeat' split) <;> omega
theorem longV_of {v : Vm} {k : Nat} (hk : k ≤ 8) (h : ∀ i : Nat, k ≤ i → i < 8 → v.get i = 0) (h2 : k = 0 ∨ v.get ((k : Int) - 1) ≠ 0) : longV v = k := by
 have g : ∀ i : Nat, i < 8 → k ≤ i → v.get i = 0 := fun i h3 h4 => h i h4 h3
 have g0 := g 0 (by omega)
 have g1 := g 1 (by omega)
 have g2 := g 2 (by omega)
 have g3 := g 3 (by omega)
 have g4 := g 4 (by omega)
 have g5 := g 5 (by omega)
 have g6 := g 6 (by omega)
 have g7 := g 7 (by omega)
 clear g h
 obtain rfl | rfl | rfl | rfl | rfl | rfl | rfl | rfl | rfl : k = 0 ∨ k = 1 ∨ k = 2 ∨ k = 3 ∨ k = 4 ∨ k = 5 ∨ k = 6 ∨ k = 7 ∨ k = 8 := by omega
 all_goals
  simp [Vm.get] at g0 g1 g2 g3 g4 g5 g6 g7 h2
  simp [longV, *]
theorem get_u32 {v : Vm} (h : v.wf) (o : Int) : 0 ≤ v.get o ∧ v.get o < 4294967296 := by
 obtain ⟨a0, a1, a2, a3, a4, a5, a6, a7⟩ := h
 unfold Vm.get
 (repeat' split) <;> assumption
def partV (v : Vm) (k : Nat) : List UInt8 := numB (longV v) ++ ((List.range k).map fun (i : Nat) => numB (v.get (i : Int)).toNat).flatten
def writeV (v : Vm) : List UInt8 := partV v (longV v)
theorem partV_succ (v : Vm) (k : Nat) : partV v k ++ numB (v.get (k : Int)).toNat = partV v (k + 1) := by
 unfold partV
 rw [List.range_succ]
 simp
theorem val_str' {a b : ByteArray} (h : a = b) : Value.string a = .string b := by rw [h]
theorem ret_slice {a b : Nat} {A : Option Addr} {c : Nat} (h : a = b) : Ending.returned (.slice A a c) = .returned (.slice A b c) := by rw [h]
theorem partV_len {v : Vm} (h : v.wf) : ∀ k, (partV v k).length ≤ 9 + 9 * k
 | 0 => by
  have := jN (longV v) (by have := longV_le v; omega)
  simp [partV]; omega
 | k + 1 => by
  rw [← partV_succ, List.length_append]
  have h1 := partV_len h k
  have h2 := jN (v.get (k : Int)).toNat (by have := get_u32 h (k : Int); omega)
  omega
theorem vlong_any (B : Nat) (v : Vm) (w : World) (hb : w.heap[B]? = some (.cells ↑v 28 (0, 0))) :
 Calls Tryz.prog 94 #[.pointer (some ⟨B, 0, none⟩)] w fun e w' => e = .returned (.slice (some ⟨B, 0, none⟩) (longV v) 8) ∧ w = w' := by
 have hlt := jB hb
 go_enter Tryz.func94, Tryz.ntmps94
 go_wp2_with fail
 go_loopg [3] 9 (fun g l wr => ∃ k : Nat, k ≤ 8 ∧ g = k + 1 ∧ l = .slice (some ⟨B, 0, none⟩) k 8 ∧ (∀ i : Nat, k ≤ i → i < 8 → v.get i = 0) ∧ wr = w)
 case atStart => exact ⟨8, by omega, rfl, rfl, fun i h1 h2 => by omega, rfl⟩
 case round =>
  obtain ⟨k, hk, rfl, rfl, hz, rfl⟩ := hrel
  have hzH := jH hz
  clear hz
  cases k with
  | zero =>
   have hT : Hid (longV v = 0) := jH (longV_of hk hzH.out (.inl rfl))
   go_wp2
   go_ret
   exact ⟨ret_slice hT.out.symm, rfl⟩
  | succ j =>
   have hcv : wr.cell? ⟨B, j, none⟩ = some (.int .u32 (v.get j)) := by rw [jA hb]; exact get_cells v j (by omega)
   have hj : j ≤ 7 := by omega
   by_cases h0 : v.get (j : Int) = 0
   ·
    have hT : Hid (∀ i : Nat, j ≤ i → i < 8 → v.get i = 0) := jH (fun i h1 h2 => by
     rcases Nat.lt_or_eq_of_le h1 with h3 | h3
     ·
      exact hzH.out i h3 h2
     ·
      rw [← h3]; exact h0)
    rw [h0] at hcv
    clear h0
    go_wp2
    go_roundg (j + 1)
    case measure => omega
    case rel => exact ⟨j, by omega, rfl, rfl, hT.out, rfl⟩
   ·
    have hT : Hid (longV v = j + 1) := jH (longV_of hk hzH.out (.inr (by rw [show ((j + 1 : Nat) : Int) - 1 = j from by omega]; exact h0)))
    have hne : (v.get (j : Int) == 0) = false := by simpa using h0
    clear h0
    go_wp2
    go_ret
    exact ⟨ret_slice hT.out.symm, rfl⟩
theorem vwrite_any (v : Vm) (hv : v.wf) (w : World) :
 Calls Tryz.prog 52 #[.agg ↑v] w fun e w' => e = .returned (.string (bs (writeV v))) ∧ Below w.heap.size w w' := by
 have hb : (w.alloc (.cells ↑v 28)).heap[w.heap.size]? = some (.cells ↑v 28 (0, 0)) := jT _ _ rfl
 have hbB : Below w.heap.size w (w.alloc (.cells ↑v 28)) := (Below.refl _ w).alloc (Nat.le_refl _) _
 have hl8 := longV_le v
 have cN := jH (fun w => num_any (longV v) (by omega) w)
 generalize hW : (w.alloc (.cells ↑v 28)) = W at hb hbB
 have hlt := jB hb
 have hn0 : (0 : Int) ≤ (longV v : Int) := by omega
 skip
 go_enter Tryz.func52, Tryz.ntmps52
 go_wp2_with fail
 try rw [hW]
 clear hW
 refine (vlong_any _ v _ hb).mono ?_
 rintro e w0 ⟨rfl, rfl⟩
 go_wp2_with fail
 refine (cN.out _).mono ?_
 rintro e w1 ⟨rfl, hb1⟩
 replace hb := jD hb hb1
 replace hbB := hbB.trans (hb1.mono hbB.size)
 go_wp2_with fail
 go_loopg [4, 14] 9 (fun g s i wr => ∃ k : Nat, k ≤ longV v ∧ g = 9 - k ∧ i = .int .i64 (k : Int) ∧ s = .string (bs (partV v k)) ∧ wr.heap[w.heap.size]? = some (.cells ↑v 28 (0, 0)) ∧ Below w.heap.size w wr)
 case atStart => exact ⟨0, Nat.zero_le _, rfl, rfl, by simp [partV], hb, hbB⟩
 case round =>
  clear hb hbB hlt
  obtain ⟨k, hk, rfl, rfl, rfl, hb, hbB⟩ := hrel
  have hlt := jB hb
  by_cases hlk : k < longV v
  ·
   obtain ⟨z, hz⟩ : ∃ z : Nat, v.get (k : Int) = (z : Int) := ⟨(v.get (k : Int)).toNat, by have := get_u32 hv (k : Int); omega⟩
   have hz32 : z < 4294967296 := by have := get_u32 hv (k : Int); omega
   have hcv : wr.cell? ⟨w.heap.size, k, none⟩ = some (.int .u32 (z : Int)) := by rw [jA hb, get_cells v k (by omega), hz]
   have hk8 : k < 8 := by omega
   have hk8i : (k : Int) < 8 := by omega
   have hT : Hid (bs (partV v k) ++ bs (numB z) = bs (partV v (k + 1))) := jH (by rw [jM, ← partV_succ, hz]; rfl)
   have hsz : ¬ 9223372036854775807 < (bs (partV v k)).size + (bs (numB z)).size := by
    have h1 := partV_len hv k
    have h2 := jN z (by omega)
    rw [jG, jG]; omega
   have cZ := jH (fun w => num_any z (by omega) w)
   have hbH := jH hb
   have hz0 : (0 : Int) ≤ (z : Int) := by omega
   clear hz hb
   go_wp2_with fail
   refine (cZ.out _).mono ?_
   rintro e w2 ⟨rfl, hb2⟩
   have hb3 := jD hbH.out hb2
   have hbB3 := hbB.trans (hb2.mono hbB.size)
   go_wp2
   go_roundg (9 - (k + 1))
   case measure => omega
   case rel => exact ⟨k + 1, by omega, rfl, by go_num, val_str' hT.out, hb3, hbB3⟩
  ·
   obtain rfl : k = longV v := by omega
   go_wp2
   go_ret
   exact ⟨rfl, hbB⟩
end Go.Proofs.YtfhandglpjnonaaGreatDoor
