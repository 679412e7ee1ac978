/- The document's Same of messages. The document's Check of messages. Is a name within a vector? (both). -/
import Derived.Test.YtfhandglpjnonaaGreatDoorN21
import Derived.Test.YtfhandglpjnonaaGreatDoorQn
import Derived.Test.YtfhandglpjnonaaGreatDoorN02
import Derived.Deep.RegionWith
namespace Go.Proofs.YtfhandglpjnonaaGreatDoor
open Go.RowKit
def sameAll (m n : Mm) : Bool := decide (m.kd = n.kd) && (decide (m.fr = n.fr) && (decide (m.dst = n.dst) && (decide (m.ep = n.ep) && (decide (m.i.1 = n.i.1) && (decide (m.i.2 = n.i.2) && (decide (m.b.1 = n.b.1) && (decide (m.b.2 = n.b.2) && (decide (m.st = n.st) && (decide (m.vv.1 = n.vv.1) && (decide (m.vv.2 = n.vv.2) && (sameCv m.c.val n.c.val && (decide (m.an = n.an) && eqV m.av n.av))))))))))))
set_option maxRecDepth 100000 in
set_option maxHeartbeats 8000000 in
theorem rsameM_any (m n : Mm) (w : World) (hA : m.c.Ok w w.heap.size) (hB : n.c.Ok w w.heap.size) :
 Calls Tryz.prog 21 #[.agg ↑m, .agg ↑n] w fun e w' => e = .returned (.bool (sameAll m n)) ∧ Below w.heap.size w w' := by
 generalize hr : sameAll m n = q
 unfold sameAll at hr
 have cS := jH (fun w' (h : Below w.heap.size w w') => scmdD_any m.c n.c w' ((hA.below h).more h.size) ((hB.below h).more h.size))
 have hb0 : Below w.heap.size w ((w.alloc (.cells ↑m 38)).alloc (.cells ↑n 38)) := ((Below.refl _ w).alloc (Nat.le_refl _) _).alloc (by simp) _
 have hbA : ((w.alloc (.cells ↑m 38)).alloc (.cells ↑n 38)).heap[w.heap.size]? = some (.cells ↑m 38 (0, 0)) := yE _ (by simp) (jT _ _ rfl)
 have hbB : ((w.alloc (.cells ↑m 38)).alloc (.cells ↑n 38)).heap[w.heap.size + 1]? = some (.cells ↑n 38 (0, 0)) := jT _ _ (by simp)
 generalize hW : ((w.alloc (.cells ↑m 38)).alloc (.cells ↑n 38)) = W at hb0 hbA hbB
 have hz0 := hb0.size
 have hltA := jB hbA
 have hltB := jB hbB
 have p0 := jA hbA 0
 have p1 := jA hbA 1
 have p2 := jA hbA 2
 have p3 := jA hbA 3
 have p4 := jA hbA 4
 have p5 := jA hbA 5
 have p6 := jA hbA 6
 have p7 := jA hbA 7
 have p8 := jA hbA 8
 have p9 := jA hbA 9
 have p10 := jA hbA 10
 have q0 := jA hbB 0
 have q1 := jA hbB 1
 have q2 := jA hbB 2
 have q3 := jA hbB 3
 have q4 := jA hbB 4
 have q5 := jA hbB 5
 have q6 := jA hbB 6
 have q7 := jA hbB 7
 have q8 := jA hbB 8
 have q9 := jA hbB 9
 have q10 := jA hbB 10
 have p35 := jA hbA 35
 have p36 := jA hbA 36
 have p37 := jA hbA 37
 have p38 := jA hbA 38
 have p39 := jA hbA 39
 have p40 := jA hbA 40
 have p41 := jA hbA 41
 have p42 := jA hbA 42
 have p43 := jA hbA 43
 have q35 := jA hbB 35
 have q36 := jA hbB 36
 have q37 := jA hbB 37
 have q38 := jA hbB 38
 have q39 := jA hbB 39
 have q40 := jA hbB 40
 have q41 := jA hbB 41
 have q42 := jA hbB 42
 have q43 := jA hbB 43
 simp at p0 p1 p2 p3 p4 p5 p6 p7 p8 p9 p10 p35 p36 p37 p38 p39 p40 p41 p42 p43 q0 q1 q2 q3 q4 q5 q6 q7 q8 q9 q10 q35 q36 q37 q38 q39 q40 q41 q42 q43
 have hbAH := jH hbA
 have hbBH := jH hbB
 have hrH := jH hr
 have hne := eqin9 m.av n.av
 clear hbA hbB hr hA hB
 obtain ⟨kd, fr, dst, ep, ⟨i1, i2⟩, ⟨b1, b2⟩, st, ⟨v1, v2⟩, c, an, av⟩ := m
 obtain ⟨ld, gr, est, fp, ⟨j1, j2⟩, ⟨c1, c2⟩, tt, ⟨u1, u2⟩, d, bn, bv⟩ := n
 dsimp only at *
 by_cases h0 : kd = ld
 case neg =>
  have hT : Hid (false = q) := jH (by rw [← hrH.out]; simp [h0])
  go_enter Tryz.func21, Tryz.ntmps21
  go_wp2
  go_ret
  exact ⟨jQ hT.out, hb0⟩
 subst h0
 by_cases h1 : fr = gr
 case neg =>
  have hT : Hid (false = q) := jH (by rw [← hrH.out]; simp [h1])
  go_enter Tryz.func21, Tryz.ntmps21
  go_wp2
  go_ret
  exact ⟨jQ hT.out, hb0⟩
 subst h1
 by_cases h2 : dst = est
 case neg =>
  have hT : Hid (false = q) := jH (by rw [← hrH.out]; simp [h2])
  go_enter Tryz.func21, Tryz.ntmps21
  go_wp2
  go_ret
  exact ⟨jQ hT.out, hb0⟩
 subst h2
 by_cases h3 : ep = fp
 case neg =>
  have hT : Hid (false = q) := jH (by rw [← hrH.out]; simp [h3])
  go_enter Tryz.func21, Tryz.ntmps21
  go_wp2
  go_ret
  exact ⟨jQ hT.out, hb0⟩
 subst h3
 by_cases h4 : i1 = j1
 case neg =>
  have hT : Hid (false = q) := jH (by rw [← hrH.out]; simp [h4])
  go_enter Tryz.func21, Tryz.ntmps21
  go_wp2
  go_ret
  exact ⟨jQ hT.out, hb0⟩
 subst h4
 by_cases h5 : i2 = j2
 case neg =>
  have hT : Hid (false = q) := jH (by rw [← hrH.out]; simp [h5])
  go_enter Tryz.func21, Tryz.ntmps21
  go_wp2
  go_ret
  exact ⟨jQ hT.out, hb0⟩
 subst h5
 by_cases h6 : b1 = c1
 case neg =>
  have hT : Hid (false = q) := jH (by rw [← hrH.out]; simp [h6])
  go_enter Tryz.func21, Tryz.ntmps21
  go_wp2
  go_ret
  exact ⟨jQ hT.out, hb0⟩
 subst h6
 by_cases h7 : b2 = c2
 case neg =>
  have hT : Hid (false = q) := jH (by rw [← hrH.out]; simp [h7])
  go_enter Tryz.func21, Tryz.ntmps21
  go_wp2
  go_ret
  exact ⟨jQ hT.out, hb0⟩
 subst h7
 by_cases h8 : st = tt
 case neg =>
  have hT : Hid (false = q) := jH (by rw [← hrH.out]; simp [h8])
  go_enter Tryz.func21, Tryz.ntmps21
  go_wp2
  go_ret
  exact ⟨jQ hT.out, hb0⟩
 subst h8
 by_cases h9 : v1 = u1
 case neg =>
  have hT : Hid (false = q) := jH (by rw [← hrH.out]; simp [h9])
  go_enter Tryz.func21, Tryz.ntmps21
  go_wp2
  go_ret
  exact ⟨jQ hT.out, hb0⟩
 subst h9
 by_cases h10 : v2 = u2
 case neg =>
  have hT : Hid (false = q) := jH (by rw [← hrH.out]; simp [h10])
  go_enter Tryz.func21, Tryz.ntmps21
  go_wp2
  go_ret
  exact ⟨jQ hT.out, hb0⟩
 subst h10
 have hq2 : Hid ((sameCv c.val d.val && (decide (an = bn) && eqV av bv)) = q) := jH (by rw [← hrH.out]; simp)
 generalize sameCv c.val d.val = bC at cS hq2
 generalize hv : eqV av bv = bV at hne hq2
 clear hv
 go_enter Tryz.func21, Tryz.ntmps21
 go_upto_region 1 with (fail)
 refine wp_region_list ?_
 refine wpList_step (fun K hK => ?_)
 rw [if_pos (by kernel_rfl)]
 go_simp
 refine hK _ _ ?_
 clear hK K
 refine wpList_step (fun K hK => ?_)
 rw [if_pos (by kernel_rfl)]
 go_simp
 refine hK _ _ ?_
 clear hK K
 refine wpList_step (fun K hK => ?_)
 rw [if_pos (by kernel_rfl)]
 go_simp
 refine hK _ _ ?_
 clear hK K
 refine wpList_step (fun K hK => ?_)
 rw [if_pos (by kernel_rfl)]
 go_simp
 refine hK _ _ ?_
 clear hK K
 refine wpList_step (fun K hK => ?_)
 rw [if_pos (by kernel_rfl)]
 go_simp
 refine hK _ _ ?_
 clear hK K
 refine wpList_step (fun K hK => ?_)
 rw [if_pos (by kernel_rfl)]
 go_simp
 refine hK _ _ ?_
 clear hK K
 refine wpList_step (fun K hK => ?_)
 rw [if_pos (by kernel_rfl)]
 go_simp
 refine hK _ _ ?_
 clear hK K
 refine wpList_step (fun K hK => ?_)
 rw [if_pos (by kernel_rfl)]
 go_simp
 refine hK _ _ ?_
 clear hK K
 refine wpList_step (fun K hK => ?_)
 rw [if_pos (by kernel_rfl)]
 go_simp
 refine hK _ _ ?_
 clear hK K
 refine wpList_step (fun K hK => ?_)
 rw [if_pos (by kernel_rfl)]
 go_simp
 refine hK _ _ ?_
 clear hK K
 refine wpList_step (fun K hK => ?_)
 rw [if_pos (by kernel_rfl)]
 go_simp
 refine hK _ _ ?_
 clear hK K
 refine wpList_step (fun K hK => ?_)
 rw [if_pos (by kernel_rfl)]
 go_simp
 refine hK _ _ ?_
 clear hK K
 refine wpList_step (fun K hK => ?_)
 rw [if_pos (by kernel_rfl)]
 go_simp
 refine hK _ _ ?_
 clear hK K
 refine wpList_step (fun K hK => ?_)
 rw [if_pos (by kernel_rfl)]
 go_simp
 refine hK _ _ ?_
 clear hK K
 refine wpList_step (fun K hK => ?_)
 rw [if_pos (by kernel_rfl)]
 go_simp
 refine hK _ _ ?_
 clear hK K
 refine wpList_step (fun K hK => ?_)
 rw [if_pos (by kernel_rfl)]
 go_simp
 refine hK _ _ ?_
 clear hK K
 refine wpList_step (fun K hK => ?_)
 rw [if_pos (by kernel_rfl)]
 go_simp
 refine hK _ _ ?_
 clear hK K
 refine wpList_step (fun K hK => ?_)
 rw [if_pos (by kernel_rfl)]
 go_simp
 refine hK _ _ ?_
 clear hK K
 refine wpList_step (fun K hK => ?_)
 rw [if_pos (by kernel_rfl)]
 go_simp
 refine hK _ _ ?_
 clear hK K
 refine wpList_step (fun K hK => ?_)
 rw [if_pos (by kernel_rfl)]
 go_simp
 refine hK _ _ ?_
 clear hK K
 refine wpList_step (fun K hK => ?_)
 rw [if_pos (by kernel_rfl)]
 go_simp
 refine hK _ _ ?_
 clear hK K
 refine wpList_step (fun K hK => ?_)
 rw [if_pos (by kernel_rfl)]
 go_simp
 refine hK _ _ ?_
 clear hK K
 refine wpList_step (fun K hK => ?_)
 rw [if_pos (by kernel_rfl)]
 go_simp
 refine hK _ _ ?_
 clear hK K
 refine wpList_step (fun K hK => ?_)
 rw [if_pos (by kernel_rfl)]
 go_simp
 refine hK _ _ ?_
 clear hK K
 refine wpList_step (fun K hK => ?_)
 rw [if_pos (by kernel_rfl)]
 go_simp
 refine hK _ _ ?_
 clear hK K
 refine wpList_step (fun K hK => ?_)
 rw [if_pos (by kernel_rfl)]
 go_simp
 refine hK _ _ ?_
 clear hK K
 refine wpList_step (fun K hK => ?_)
 rw [if_pos (by kernel_rfl)]
 go_simp
 refine hK _ _ ?_
 clear hK K
 refine wpList_step (fun K hK => ?_)
 rw [if_pos (by kernel_rfl)]
 go_simp
 refine hK _ _ ?_
 clear hK K
 refine wpList_step (fun K hK => ?_)
 rw [if_pos (by kernel_rfl)]
 go_simp
 refine hK _ _ ?_
 clear hK K
 refine wpList_step (fun K hK => ?_)
 rw [if_pos (by kernel_rfl)]
 go_simp
 refine hK _ _ ?_
 clear hK K
 refine wpList_step (fun K hK => ?_)
 rw [if_pos (by kernel_rfl)]
 go_simp
 refine hK _ _ ?_
 clear hK K
 refine wpList_step (fun K hK => ?_)
 rw [if_pos (by kernel_rfl)]
 go_simp
 refine hK _ _ ?_
 clear hK K
 refine wpList_step (fun K hK => ?_)
 rw [if_pos (by kernel_rfl)]
 go_simp
 refine hK _ _ ?_
 clear hK K
 refine wpList_step (fun K hK => ?_)
 rw [if_pos (by kernel_rfl)]
 go_simp
 refine hK _ _ ?_
 clear hK K
 refine wpList_step (fun K hK => ?_)
 rw [if_pos (by kernel_rfl)]
 go_simp
 refine hK _ _ ?_
 clear hK K
 refine wpList_step (fun K hK => ?_)
 rw [if_pos (by kernel_rfl)]
 go_simp
 refine hK _ _ ?_
 clear hK K
 refine wpList_step (fun K hK => ?_)
 rw [if_pos (by kernel_rfl)]
 go_simp
 refine hK _ _ ?_
 clear hK K
 refine wpList_step (fun K hK => ?_)
 rw [if_pos (by kernel_rfl)]
 go_simp
 refine hK _ _ ?_
 clear hK K
 refine wpList_step (fun K hK => ?_)
 rw [if_pos (by kernel_rfl)]
 go_simp
 refine hK _ _ ?_
 clear hK K
 refine wpList_step (fun K hK => ?_)
 rw [if_pos (by kernel_rfl)]
 go_simp
 refine hK _ _ ?_
 clear hK K
 refine wpList_step (fun K hK => ?_)
 rw [if_pos (by kernel_rfl)]
 go_simp
 refine hK _ _ ?_
 clear hK K
 refine wpList_step (fun K hK => ?_)
 rw [if_pos (by kernel_rfl)]
 go_simp
 refine hK _ _ ?_
 clear hK K
 refine wpList_step (fun K hK => ?_)
 rw [if_pos (by kernel_rfl)]
 go_simp
 refine hK _ _ ?_
 clear hK K
 refine wpList_step (fun K hK => ?_)
 rw [if_pos (by kernel_rfl)]
 go_simp
 refine hK _ _ ?_
 clear hK K
 refine wpList_step (fun K hK => ?_)
 rw [if_pos (by kernel_rfl)]
 go_simp
 refine hK _ _ ?_
 clear hK K
 refine wpList_step (fun K hK => ?_)
 rw [if_pos (by kernel_rfl)]
 go_simp
 refine hK _ _ ?_
 clear hK K
 refine wpList_step (fun K hK => ?_)
 rw [if_pos (by kernel_rfl)]
 go_simp
 refine hK _ _ ?_
 clear hK K
 refine wpList_step (fun K hK => ?_)
 rw [if_pos (by kernel_rfl)]
 go_simp
 refine hK _ _ ?_
 clear hK K
 refine wpList_step (fun K hK => ?_)
 rw [if_pos (by kernel_rfl)]
 go_simp
 refine hK _ _ ?_
 clear hK K
 refine wpList_step (fun K hK => ?_)
 rw [if_pos (by kernel_rfl)]
 go_simp
 refine hK _ _ ?_
 clear hK K
 refine wpList_step (fun K hK => ?_)
 rw [if_pos (by kernel_rfl)]
 go_simp
 refine hK _ _ ?_
 clear hK K
 refine wpList_step (fun K hK => ?_)
 rw [if_pos (by kernel_rfl)]
 go_simp
 refine hK _ _ ?_
 clear hK K
 refine wpList_step (fun K hK => ?_)
 rw [if_pos (by kernel_rfl)]
 go_simp
 refine hK _ _ ?_
 clear hK K
 refine wpList_step (fun K hK => ?_)
 rw [if_pos (by kernel_rfl)]
 go_simp
 refine hK _ _ ?_
 clear hK K
 refine wpList_step (fun K hK => ?_)
 rw [if_pos (by kernel_rfl)]
 go_simp
 refine hK _ _ ?_
 clear hK K
 refine wpList_step (fun K hK => ?_)
 rw [if_pos (by kernel_rfl)]
 go_simp
 refine hK _ _ ?_
 clear hK K
 refine wpList_load_midG (by kernel_rfl) _ _ rfl (w.heap.size) 11 rfl ↑c _ (rangeQ hbAH.out 11 ↑c rfl) Tryz.underlying34 rfl (by kernel_rfl) ?_
 refine wpList_step (fun K hK => ?_)
 rw [if_pos (by kernel_rfl)]
 go_simp
 refine hK _ _ ?_
 clear hK K
 refine wpList_load_midG (by kernel_rfl) _ _ rfl (w.heap.size + 1) 11 rfl ↑d _ (rangeQ hbBH.out 11 ↑d rfl) Tryz.underlying34 rfl (by kernel_rfl) ?_
 (try simp only [Act.put, List.setIfInBounds_toArray, List.set_cons_zero, List.set_cons_succ])
 go_wp2_with fail
 refine (cS.out _ hb0).mono ?_
 rintro e w2 ⟨rfl, hb2⟩
 have hG := hb0.trans (hb2.mono hz0)
 clear p0 p1 p2 p3 p4 p5 p6 p7 p8 p9 p10 p35 p36 p37 p38 p39 p40 p41 p42 p43 q0 q1 q2 q3 q4 q5 q6 q7 q8 q9 q10 q35 q36 q37 q38 q39 q40 q41 q42 q43
 cases bC with
 | false =>
  have hT : Hid (false = q) := jH (by rw [← hq2.out]; simp)
  go_wp2
  go_ret
  exact ⟨jQ hT.out, hG⟩
 | true =>
 have hbA2 := jD hbAH.out hb2
 have hbB2 := jD hbBH.out hb2
 have hltA2 := jB hbA2
 have hltB2 := jB hbB2
 have p35 := jA hbA2 35
 have p36 := jA hbA2 36
 have p37 := jA hbA2 37
 have p38 := jA hbA2 38
 have p39 := jA hbA2 39
 have p40 := jA hbA2 40
 have p41 := jA hbA2 41
 have p42 := jA hbA2 42
 have p43 := jA hbA2 43
 have q35 := jA hbB2 35
 have q36 := jA hbB2 36
 have q37 := jA hbB2 37
 have q38 := jA hbB2 38
 have q39 := jA hbB2 39
 have q40 := jA hbB2 40
 have q41 := jA hbB2 41
 have q42 := jA hbB2 42
 have q43 := jA hbB2 43
 simp at p35 p36 p37 p38 p39 p40 p41 p42 p43 q35 q36 q37 q38 q39 q40 q41 q42 q43
 clear hbA2 hbB2
 by_cases h12 : an = bn
 case neg =>
  have hT : Hid (false = q) := jH (by rw [← hq2.out]; simp [h12])
  clear hne
  go_wp2
  go_ret
  exact ⟨jQ hT.out, hG⟩
 subst h12
 have hT : Hid (bV = q) := jH (by rw [← hq2.out]; simp)
 cases bV with
 | false =>
  go_wp2
  go_ret
  exact ⟨jQ hT.out, hG⟩
 | true =>
  go_wp2
  go_ret
  exact ⟨jQ hT.out, hG⟩
end Go.Proofs.YtfhandglpjnonaaGreatDoor
