/- inst.Read: the message that bytes are. -/
import Derived.Test.YtfhandglpjnonaaGreatDoorQG
namespace Go.Proofs.YtfhandglpjnonaaGreatDoor
open Go.RowKit
structure MR (w wx : World) (B g : Nat) (S : Rs) (m : Mm) : Prop where
 rb : wx.heap[w.heap.size]? = some (.cells ↑Zm.mk 50 (0, 0))
 tb : wx.heap[g]? = some (.cells ↑m 50 (0, 0))
 rd : RdrP wx B S
 bel : Below w.heap.size w wx
 lB : w.heap.size < B
 lg : B < g
section
variable {w wx wy : World} {B g : Nat} {S S' : Rs} {m m' : Mm}
theorem MR.call (h : MR w wx B g S m) (hg : wx.grownBy wy (some B)) (hr : RdrP wy B S') : MR w wy B g S' m :=
 have h1 := h.lB
 have h2 := h.lg
 ⟨(hg.block _ (jB h.rb) (by simp; omega)).trans h.rb, (hg.block _ (jB h.tb) (by simp; omega)).trans h.tb, hr, h.bel.grown hg h.bel.size (fun k hk => by have := Option.some.inj hk; omega), h1, h2⟩
theorem MR.below (h : MR w wx B g S m) (hb : Below wx.heap.size wx wy) : MR w wy B g S m :=
 ⟨jD h.rb hb, jD h.tb hb, h.rd.below hb, h.bel.trans (hb.mono h.bel.size), h.lB, h.lg⟩
theorem MR.store (h : MR w wx B g S m) (o : Nat) (l : List Value) (hl : o + l.length ≤ 44) (he : (m : Array Value).toList.take o ++ (l ++ (m : Array Value).toList.drop (o + l.length)) = (m' : Array Value).toList) : MR w (wx.setCells g o l) B g S m' := by
 have h1 := h.lB
 have h2 := h.lg
 refine ⟨jX (by omega) l o wx h.rb, ?_, ?_, jV (by omega) l o wx h.bel, h1, h2⟩
 ·
  have h3 := blk_setCells l o wx _ h.tb
  rw [putL_mid (ns := ↑m') hl he] at h3
  exact h3
 ·
  rw [jZ]
  exact setsW_P (t := 50) (by decide) (by decide) l o h.tb h.rd
end
theorem Cm.OwT.fit {t : TypeId} {w : World} {base : Nat} {c : Cm} (h : c.OwT t w base) (hv : c.val.Rd) : c.Fit w := by
 refine ⟨⟨h.e.rd, h.i.rd.1, h.e.max, Nat.le_trans h.i.rd.2.2.1 h.i.rd.2.2.2, fun p hp => Nat.le_trans (h.e.2 p hp).rd.2.2.1 (h.e.2 p hp).rd.2.2.2⟩, fun p hp => ?_, hv.x, hv.v, hv.u⟩
 have h1 := hv.g p.core (List.mem_map.2 ⟨p, hp, rfl⟩)
 have h2 : p.e.tags.length = p.l := RdT.len (h.e.rd.2 p hp)
 have h3 := h1.2.2.2
 refine ⟨h.e.rd.2 p hp, h1.2.1, Nat.le_trans h1.1 (by decide), Nat.le_trans h1.2.2.1 (by decide), ?_⟩
 change p.e.tags.length ≤ 4096 at h3
 omega
theorem results_cellS {P : Program} {fn : Func} {tmps : Array Value} {v e : Value} {w : World} (a b : Nat) (t : TypeId) (hf : fn.results = #[ResultVar.cell a t, ResultVar.tmp b]) (g : Nat) (hx : tmps.getD a undef = .pointer (some ⟨g, 0, none⟩)) (he : tmps.getD b undef = e)
 (h : (loadVar t ⟨g, 0, none⟩).run P w = .ok v w) : (results fn tmps).run P w = .ok (.tuple #[v, e]) w := by
 unfold results
 rw [hf]
 rw [show ∀ f : ResultVar → Sem Value, (#[ResultVar.cell a t, ResultVar.tmp b].mapM f : Sem (Array Value)) = (do let x ← f (ResultVar.cell a t); let y ← f (ResultVar.tmp b); pure #[x, y]) from fun f => by simp [Array.mapM_eq_mapM_toList]]
 simp only [hx, he, asAddr, Sem.run_bind, Sem.run_pure, Result.andThen_ok, h]
 rfl
theorem ErrP.setCells {t : TypeId} {w : World} {b : Nat} {cs : Array Value} {ev : Value} {fa fe : Int} (h1 : t ≠ 129) (hb : w.heap[b]? = some (.cells cs t (0, 0))) (l : List Value) (o : Nat) (h : ErrP w ev fa fe) : ErrP (w.setCells b o l) ev fa fe :=
 h.mono fun F cs' hF => jX (fun e => by
  subst e; rw [hb] at hF; injection hF with hF; injection hF with _ ht; exact h1 ht) l o w rfl
theorem failS_no {S : Rs} {e : Int} (h : S.fe ≠ 0) : failS S e = S := by unfold failS; rw [if_neg (fun h' => h h'.1)]
theorem failS_z {S : Rs} : failS S 0 = S := by unfold failS; rw [if_neg (fun h' => h'.2 rfl)]
def zMm : Mm := ⟨0, 0, 0, 0, (0, 0), (0, 0), 0, (0, 0), zCm, 0, zeroQ⟩
def MsgRP (S : Rs) (w : World) (r : Ending) (w' : World) : Prop := ∃ (n : Mm) (ev : Value), r = .returned (.tuple #[.agg ↑n, ev]) ∧ n.val = (readWM S).1 ∧ ErrP w' ev (readWM S).2.fa (readWM S).2.fe ∧ n.c.OwT 159 w' w.heap.size ∧ Below w.heap.size w w'
structure MX (w wx : World) (B g gx : Nat) (S : Rs) (m : Mm) (H : Array Value) : Prop where
 mr : MR w wx B g S m
 hb : wx.heap[gx]? = some (.cells H 83 (0, 0))
 ow : m.c.OwT 159 wx (gx + 1)
 lx : g < gx
section
variable {t : TypeId} {w w' wx wy : World} {B g gx bt b : Nat} {S S' : Rs} {m m' : Mm} {c : Cm} {H : Array Value}
theorem Cm.OwT.below (h : c.OwT t w bt) (hb : Below w.heap.size w w') : c.OwT t w' bt := ⟨h.e.below hb, h.i.below hb⟩
theorem Cm.OwT.base (h : c.OwT t w bt) (hb : b ≤ bt) : c.OwT t w b := ⟨h.e.base hb, h.i.base hb⟩
theorem Cm.OwT.keptB (h : c.OwT t w bt) (hg : w.grownBy w' (some b)) (hb : b < bt) : c.OwT t w' bt := ⟨h.e.keptB hg hb, h.i.keptB hg hb⟩
theorem Cm.OwT.setCells (hb : b < bt) (l : List Value) (o : Nat) (h : c.OwT t w bt) : c.OwT t (w.setCells b o l) bt := ⟨OwE.setCells hb l o h.e, Ow.setCells hb l o h.i⟩
theorem zCm_own (t : TypeId) (w : World) (k : Nat) : zCm.OwT t w k := ⟨OwE.nil_, Ow.nil_ _ _ _ _⟩
theorem MX.call (h : MX w wx B g gx S m H) (hg : wx.grownBy wy (some B)) (hr : RdrP wy B S') : MX w wy B g gx S' m H :=
 have h1 := h.mr.lg
 have h2 := h.lx
 ⟨h.mr.call hg hr, (hg.block _ (jB h.hb) (by simp; omega)).trans h.hb, h.ow.keptB hg (by omega), h2⟩
theorem MX.below (h : MX w wx B g gx S m H) (hb : Below wx.heap.size wx wy) : MX w wy B g gx S m H := ⟨h.mr.below hb, jD h.hb hb, h.ow.below hb, h.lx⟩
theorem MX.storeC (h : MX w wx B g gx S m H) (o : Nat) (l : List Value) (hl : o + l.length ≤ 44) (he : (m : Array Value).toList.take o ++ (l ++ (m : Array Value).toList.drop (o + l.length)) = (m' : Array Value).toList) (hc : m'.c.OwT 159 wx (gx + 1)) : MX w (wx.setCells g o l) B g gx S m' H :=
 have h1 := h.lx
 ⟨h.mr.store o l hl he, jX (by omega) l o wx h.hb, hc.setCells (by omega) l o, h1⟩
theorem MX.store (h : MX w wx B g gx S m H) (o : Nat) (l : List Value) (hl : o + l.length ≤ 44) (he : (m : Array Value).toList.take o ++ (l ++ (m : Array Value).toList.drop (o + l.length)) = (m' : Array Value).toList) (hc : m'.c = m.c) : MX w (wx.setCells g o l) B g gx S m' H :=
 h.storeC o l hl he (hc ▸ h.ow)
end
set_option maxRecDepth 100000 in
set_option maxHeartbeats 16000000 in
theorem mread_any (l : List UInt8) (hl : l.length ≤ 4000000) (w : World) (hVM : VarM w) :
 Calls Tryz.prog 19 #[.string (bs l)] w fun r w' => MsgRP ⟨l, 0, 0, 0⟩ w r w' := by
 have hb0 : Below w.heap.size w (w.alloc (.cells ↑Zm.mk 50)) := (Below.refl _ w).alloc (Nat.le_refl _) _
 have hr0 : (w.alloc (.cells ↑Zm.mk 50)).heap[w.heap.size]? = some (.cells ↑Zm.mk 50 (0, 0)) := jT _ _ rfl
 generalize hW : w.alloc (.cells ↑Zm.mk 50) = W at hb0 hr0
 have hz0 := hb0.size
 have hlr := jB hr0
 have cN := jH (pnew_any (bs l) W)
 have hSw : (⟨l, 0, 0, 0⟩ : Rs).wf := ⟨Nat.zero_le _, by show l.length ≤ _; omega, Int.le_refl _, by show (0 : Int) ≤ _; decide, fun _ => rfl⟩
 obtain ⟨S0, hS0⟩ : ∃ S : Rs, S = ⟨l, 0, 0, 0⟩ := ⟨_, rfl⟩
 rw [← hS0] at hSw
 rw [← hS0]
 have ck := jH (fun B w' h => pint_any 8 B (by omega) S0 w' h hSw)
 obtain ⟨R, hR⟩ : ∃ R, R = rdH S0 := ⟨_, rfl⟩
 have hR0 : Hid (rdH S0 = R) := jH hR.symm
 unfold rdH at hR
 have w8 := intS_wf 8 hSw
 have k8 := yA 8 S0
 generalize intS 8 S0 = p at *
 obtain ⟨k, S1⟩ := p
 dsimp only at *
 have cf := jH (fun B w' h => pint_any 7 B (by omega) S1 w' h w8)
 have w7 := intS_wf 7 w8
 have f7 := yA 7 S1
 generalize intS 7 S1 = p at *
 obtain ⟨f, S2⟩ := p
 dsimp only at *
 have cd := jH (fun B w' h => pint_any 7 B (by omega) S2 w' h w7)
 have w6 := intS_wf 7 w7
 have d7 := yA 7 S2
 generalize intS 7 S2 = p at *
 obtain ⟨d, S3⟩ := p
 dsimp only at *
 have ce := jH (fun B w' h => pint_any 1048576 B (by omega) S3 w' h w6)
 have w5 := intS_wf 1048576 w6
 have e7 := yA 1048576 S3
 generalize intS 1048576 S3 = p at *
 obtain ⟨ep, S4⟩ := p
 dsimp only at *
 have ci := jH (fun B w' h => pread_any B S4 w' h w5)
 have w4 := readI_wf w5
 generalize readI S4 = p at *
 obtain ⟨i, S5⟩ := p
 dsimp only at *
 have hRH := jH hR
 have w4H := jH w4
 have wep : IntKind.u32.wrap (ep : Int) = ep := IntWalk.u32_in _ (by omega)
 have ep0 : (0 : Int) ≤ (ep : Int) := by omega
 have ep1 : (ep : Int) ≤ 1048576 := by omega
 clear hR hSw w8 w7 w6 w5 w4
 go_enter Tryz.func19, Tryz.ntmps19
 go_upto_region 1 with (fail)
 clear hW
 go_wp2_with fail
 refine cN.out.mono ?_
 rintro e w1 ⟨rfl, rfl⟩
 have hbB : Below W.heap.size W (W.alloc (.cells #[.string (bs l), .int .i64 0, .nilIface] 176)) := (Below.refl _ W).alloc (Nat.le_refl _) _
 have hRd : RdrP (W.alloc (.cells #[.string (bs l), .int .i64 0, .nilIface] 176)) W.heap.size S0 := ⟨_, by rw [hS0]; exact jT _ _ rfl, .inl ⟨by rw [hS0], rfl⟩⟩
 go_upto_region 2 with (fail)
 generalize (W.alloc (.cells #[.string (bs l), .int .i64 0, .nilIface] 176)) = w1 at hbB hRd ⊢
 have hr1 := jD hr0 hbB
 have hb1 := hb0.trans (hbB.mono hz0)
 have hlB : w.heap.size < W.heap.size := hlr
 generalize W.heap.size = B at *
 clear hr0 hb0 hbB hlr cN hz0 hS0
 refine wp_region_list ?_
 refine wpList_step (fun K hK => ?_)
 rw [if_pos (by kernel_rfl)]
 go_simp
 refine hK _ _ ?_
 clear hK K
 refine wpList_step (fun K hK => ?_)
 rw [if_pos (by kernel_rfl)]
 go_simp
 refine (ck.out B _ hRd).mono ?_
 rintro e w2 ⟨rfl, hR1, hg1⟩
 refine hK _ _ ?_
 clear hK K
 refine wpList_buildK rfl _ _ rfl (cells := #[.int .i64 (k : Int), .int .i64 0, .int .i64 0, .int .u32 0, .int .i64 0, .int .u32 0, .int .u32 0, .int .i64 0, .int .i64 0, .int .u32 0, .int .i64 0, .int .i64 0, .int .i64 0, .int .u32 0, .int .u32 0, .int .u32 0, .int .u32 0, .int .u32 0, .int .u32 0, .int .u32 0, .int .u32 0, .int .u32 0, .bool false, .slice none 0 0, .int .i64 0, .int .i64 0, .slice none 0 0, .int .u32 0, .int .u32 0, .int .u32 0, .int .u32 0, .int .u32 0, .int .u32 0, .int .u32 0, .int .u32 0, .int .u32 0, .int .u32 0, .int .u32 0, .int .u32 0, .int .u32 0, .int .u32 0, .int .u32 0, .int .u32 0, .int .u32 0]) (by kernel_rfl) ?_
 refine wpList_plain rfl (fun K hK => ?_)
 go_simp
 refine hK _ _ ?_
 clear hK K
 refine wpList_store_row rfl _ _ _ rfl (w2.heap.size) #[.int .i64 (k : Int), .int .i64 0, .int .i64 0, .int .u32 0, .int .i64 0, .int .u32 0, .int .u32 0, .int .i64 0, .int .i64 0, .int .u32 0, .int .i64 0, .int .i64 0, .int .i64 0, .int .u32 0, .int .u32 0, .int .u32 0, .int .u32 0, .int .u32 0, .int .u32 0, .int .u32 0, .int .u32 0, .int .u32 0, .bool false, .slice none 0 0, .int .i64 0, .int .i64 0, .slice none 0 0, .int .u32 0, .int .u32 0, .int .u32 0, .int .u32 0, .int .u32 0, .int .u32 0, .int .u32 0, .int .u32 0, .int .u32 0, .int .u32 0, .int .u32 0, .int .u32 0, .int .u32 0, .int .u32 0, .int .u32 0, .int .u32 0, .int .u32 0] rfl rfl 50 ↑Zm.mk (jT _ _ rfl) (by kernel_rfl) rfl (by simp [Value.oneCell']) ?_
 have hsr := World.setRow_alloc_new w2 ↑Zm.mk #[.int .i64 (k : Int), .int .i64 0, .int .i64 0, .int .u32 0, .int .i64 0, .int .u32 0, .int .u32 0, .int .i64 0, .int .i64 0, .int .u32 0, .int .i64 0, .int .i64 0, .int .i64 0, .int .u32 0, .int .u32 0, .int .u32 0, .int .u32 0, .int .u32 0, .int .u32 0, .int .u32 0, .int .u32 0, .int .u32 0, .bool false, .slice none 0 0, .int .i64 0, .int .i64 0, .slice none 0 0, .int .u32 0, .int .u32 0, .int .u32 0, .int .u32 0, .int .u32 0, .int .u32 0, .int .u32 0, .int .u32 0, .int .u32 0, .int .u32 0, .int .u32 0, .int .u32 0, .int .u32 0, .int .u32 0, .int .u32 0, .int .u32 0, .int .u32 0] 50
 rw [hsr]
 clear hsr
 have hbel : Below w2.heap.size w2 (w2.alloc (.cells #[.int .i64 (k : Int), .int .i64 0, .int .i64 0, .int .u32 0, .int .i64 0, .int .u32 0, .int .u32 0, .int .i64 0, .int .i64 0, .int .u32 0, .int .i64 0, .int .i64 0, .int .i64 0, .int .u32 0, .int .u32 0, .int .u32 0, .int .u32 0, .int .u32 0, .int .u32 0, .int .u32 0, .int .u32 0, .int .u32 0, .bool false, .slice none 0 0, .int .i64 0, .int .i64 0, .slice none 0 0, .int .u32 0, .int .u32 0, .int .u32 0, .int .u32 0, .int .u32 0, .int .u32 0, .int .u32 0, .int .u32 0, .int .u32 0, .int .u32 0, .int .u32 0, .int .u32 0, .int .u32 0, .int .u32 0, .int .u32 0, .int .u32 0, .int .u32 0] 50)) := (Below.refl _ w2).alloc (Nat.le_refl _) _
 have hBlt := hR1.lt
 have hM : MR w (w2.alloc (.cells #[.int .i64 (k : Int), .int .i64 0, .int .i64 0, .int .u32 0, .int .i64 0, .int .u32 0, .int .u32 0, .int .i64 0, .int .i64 0, .int .u32 0, .int .i64 0, .int .i64 0, .int .i64 0, .int .u32 0, .int .u32 0, .int .u32 0, .int .u32 0, .int .u32 0, .int .u32 0, .int .u32 0, .int .u32 0, .int .u32 0, .bool false, .slice none 0 0, .int .i64 0, .int .i64 0, .slice none 0 0, .int .u32 0, .int .u32 0, .int .u32 0, .int .u32 0, .int .u32 0, .int .u32 0, .int .u32 0, .int .u32 0, .int .u32 0, .int .u32 0, .int .u32 0, .int .u32 0, .int .u32 0, .int .u32 0, .int .u32 0, .int .u32 0, .int .u32 0] 50)) B w2.heap.size S1 ⟨(k : Int), 0, 0, 0, (0, 0), (0, 0), 0, (0, 0), zCm, 0, zeroQ⟩ :=
  ⟨jD ((hg1.block _ (jB hr1) (by simp; omega)).trans hr1) hbel, jT _ _ rfl, hR1.below hbel, (hb1.grown hg1 hb1.size (fun k hk => by have := Option.some.inj hk; omega)).trans (hbel.mono (by have := hg1.size; have := hb1.size; omega)), hlB, hBlt⟩
 generalize (w2.alloc (.cells #[.int .i64 (k : Int), .int .i64 0, .int .i64 0, .int .u32 0, .int .i64 0, .int .u32 0, .int .u32 0, .int .i64 0, .int .i64 0, .int .u32 0, .int .i64 0, .int .i64 0, .int .i64 0, .int .u32 0, .int .u32 0, .int .u32 0, .int .u32 0, .int .u32 0, .int .u32 0, .int .u32 0, .int .u32 0, .int .u32 0, .bool false, .slice none 0 0, .int .i64 0, .int .i64 0, .slice none 0 0, .int .u32 0, .int .u32 0, .int .u32 0, .int .u32 0, .int .u32 0, .int .u32 0, .int .u32 0, .int .u32 0, .int .u32 0, .int .u32 0, .int .u32 0, .int .u32 0, .int .u32 0, .int .u32 0, .int .u32 0, .int .u32 0, .int .u32 0] 50)) = y0 at hM ⊢
 generalize w2.heap.size = g at hM ⊢
 (try simp only [Act.put])
 clear hbel hg1 hR1 hr1 hb1 hRd hBlt ck
 go_wp2_with fail
 refine (cf.out B _ hM.rd).mono ?_
 rintro e y1 ⟨rfl, hR1, hg1⟩
 have hM1 := hM.call hg1 hR1
 clear hg1 hR1 hM cf
 go_wp2_with fail
 refine (cd.out B _ hM1.rd).mono ?_
 rintro e y2 ⟨rfl, hR1, hg1⟩
 have hM2 := hM1.call hg1 hR1
 have hlg := jB hM2.tb
 have hfg := jE hM2.tb
 have t1 := jA hM2.tb 1
 have t2 := jA hM2.tb 2
 simp at t1 t2
 have hM3 := (MR.store (m' := ⟨(k : Int), (f : Int), (d : Int), 0, (0, 0), (0, 0), 0, (0, 0), zCm, 0, zeroQ⟩) hM2 1 [.int .i64 (f : Int), .int .i64 (d : Int)] (by simp) rfl)
 clear hg1 hR1 hM1 hM2 cd
 go_upto_region 4 with (fail)
 generalize hy : ((y2.setCell ⟨g, 1, none⟩ (.int .i64 (f : Int))).setCell ⟨g, 2, none⟩ (.int .i64 (d : Int))) = y3
 replace hM3 : MR w y3 B g S3 ⟨(k : Int), (f : Int), (d : Int), 0, (0, 0), (0, 0), 0, (0, 0), zCm, 0, zeroQ⟩ := hy ▸ hM3
 clear hy hlg hfg t1 t2
 go_wp2_with fail
 refine (ce.out B _ hM3.rd).mono ?_
 rintro e y4 ⟨rfl, hR1, hg1⟩
 have hM4 := hM3.call hg1 hR1
 have hlg := jB hM4.tb
 have hfg := jE hM4.tb
 have t3 := jA hM4.tb 3
 simp at t3
 have hM5 := (MR.store (m' := ⟨(k : Int), (f : Int), (d : Int), (ep : Int), (0, 0), (0, 0), 0, (0, 0), zCm, 0, zeroQ⟩) hM4 3 [.int .u32 (ep : Int)] (by simp) rfl)
 clear hg1 hR1 hM3 hM4 ce
 go_upto_region 5 with (fail)
 generalize hy : (y4.setCell ⟨g, 3, none⟩ (.int .u32 (ep : Int))) = y5
 replace hM5 : MR w y5 B g S4 ⟨(k : Int), (f : Int), (d : Int), (ep : Int), (0, 0), (0, 0), 0, (0, 0), zCm, 0, zeroQ⟩ := hy ▸ hM5
 clear hy hlg hfg t3
 go_wp2_with fail
 refine (ci.out B _ hM5.rd).mono ?_
 rintro e y6 ⟨rfl, hR1, hg1⟩
 have hM6 := hM5.call hg1 hR1
 have hlg := jB hM6.tb
 have hfg := jE hM6.tb
 have t4 := jA hM6.tb 4
 have t5 := jA hM6.tb 5
 simp at t4 t5
 have hM7 := (MR.store (m' := ⟨(k : Int), (f : Int), (d : Int), (ep : Int), i, (0, 0), 0, (0, 0), zCm, 0, zeroQ⟩) hM6 4 [.int .i64 i.1, .int .u32 i.2] (by simp) rfl)
 clear hg1 hR1 hM5 hM6 ci
 go_upto_region 6 with (fail)
 generalize hy : ((y6.setCell ⟨g, 4, none⟩ (.int .i64 i.1)).setCell ⟨g, 5, none⟩ (.int .u32 i.2)) = y7
 replace hM7 : MR w y7 B g S5 ⟨(k : Int), (f : Int), (d : Int), (ep : Int), i, (0, 0), 0, (0, 0), zCm, 0, zeroQ⟩ := hy ▸ hM7
 clear hy hlg hfg t4 t5
 obtain ⟨f1, hf1⟩ : ∃ b, b = hB (k : Int) := ⟨_, rfl⟩
 have cF0 := jH (fun w' => form_any (k : Int) 0 w')
 rw [← hf1] at cF0
 generalize hS (k : Int) = q2 at cF0
 generalize hV (k : Int) 0 = q3 at cF0
 generalize hC (k : Int) 0 = q4 at cF0
 generalize hA (k : Int) 0 = q5 at cF0
 have hf1H := jH hf1
 have cb := jH (fun w' h => pbalr_any B S5 w' h w4H.out.1)
 have t0 := jA hM7.tb 0
 simp at t0
 have hlg := jB hM7.tb
 clear hf1
 go_wp2_with fail
 refine (cF0.out _).mono ?_
 rintro e y8 ⟨rfl, hbz⟩
 have hM8 := jH (hM7.below hbz)
 have hfld : ∀ w', (Instr.field 83 (.agg #[.bool f1, .bool q2, .bool q3, .bool q4, .bool q5]) 0).run Tryz.prog w' = .ok (.bool f1) w' := fun w' => by kernel_rfl
 clear hM7 hbz t0 hlg cF0
 go_upto_if 30 with (fail)
 go_cut [] (fun wx => MR w wx B g (rdB f1 S5).2 ⟨(k : Int), (f : Int), (d : Int), (ep : Int), i, (rdB f1 S5).1, 0, (0, 0), zCm, 0, zeroQ⟩)
 case first =>
  cases f1 with
  | true =>
   go_wp2_with fail
   refine (cb.out _ hM8.out.rd).mono ?_
   rintro e z1 ⟨rfl, hR1, hg1⟩
   have hM9 := hM8.out.call hg1 hR1
   have hlg := jB hM9.tb
   have hfg := jE hM9.tb
   have t6 := jA hM9.tb 6
   have t7 := jA hM9.tb 7
   simp at t6 t7
   have hMa := jH (MR.store (m' := ⟨(k : Int), (f : Int), (d : Int), (ep : Int), i, (readBal S5).1, 0, (0, 0), zCm, 0, zeroQ⟩) hM9 6 [.int .u32 (readBal S5).1.1, .int .i64 (readBal S5).1.2] (by simp) rfl)
   clear hM9 hg1 hR1
   go_wp2_with fail
   go_meet
   exact hMa.out
  | false =>
   go_wp2_with fail
   go_meet
   exact hM8.out
 case rest =>
 obtain ⟨yb, hy⟩ : ∃ x, x = wc := ⟨_, rfl⟩
 obtain rfl := hy
 have hMb := hcut
 have wB : (rdB f1 S5).2.wf := by cases f1 with
  | true => exact (readBal_wf w4H.out.1).1
  | false => exact w4H.out.1
 obtain ⟨⟨b, S6⟩, hS6⟩ : ∃ q, q = rdB f1 S5 := ⟨_, rfl⟩
 rw [← hS6] at hMb wB
 dsimp only at hMb wB
 have hS6H := jH hS6
 have cs := jH (fun w' h => pint_any 4 B (by omega) S6 w' h wB)
 have wBH := jH wB
 obtain ⟨f2, hf2⟩ : ∃ b, b = hS (k : Int) := ⟨_, rfl⟩
 have hf2H := jH hf2
 have h7 : ((k : Int) == 7) = f2 := hf2.symm
 have hMbH := jH hMb
 have t0 := jA hMb.tb 0
 simp at t0
 have hlg := jB hMb.tb
 have hfg := jE hMb.tb
 clear hcut hMb hS6 wB hf2 hM8 cb hfld
 go_upto_if 36 with (fail)
 go_cut [] (fun wx => MR w wx B g (rdS f2 S6).2 ⟨(k : Int), (f : Int), (d : Int), (ep : Int), i, b, ((rdS f2 S6).1 : Int), (0, 0), zCm, 0, zeroQ⟩)
 case first =>
  cases f2 with
  | true =>
   clear t0 hlg hfg
   go_wp2_with fail
   refine (cs.out _ hMbH.out.rd).mono ?_
   rintro e z1 ⟨rfl, hR1, hg1⟩
   have hM9 := hMbH.out.call hg1 hR1
   have hlg := jB hM9.tb
   have hfg := jE hM9.tb
   have t8 := jA hM9.tb 8
   simp at t8
   have hMa := jH (MR.store (m' := ⟨(k : Int), (f : Int), (d : Int), (ep : Int), i, b, ((intS 4 S6).1 : Int), (0, 0), zCm, 0, zeroQ⟩) hM9 8 [.int .i64 ((intS 4 S6).1 : Int)] (by simp) rfl)
   clear hM9 hg1 hR1
   go_wp2_with fail
   go_meet
   exact hMa.out
  | false =>
   go_wp2_with fail
   go_meet
   exact hMbH.out
 case rest =>
 obtain ⟨yc, hy⟩ : ∃ x, x = wc := ⟨_, rfl⟩
 obtain rfl := hy
 have hMc := hcut
 have wS : (rdS f2 S6).2.wf := by cases f2 with
  | true => exact intS_wf 4 wBH.out
  | false => exact wBH.out
 obtain ⟨⟨st, S7⟩, hS7⟩ : ∃ q, q = rdS f2 S6 := ⟨_, rfl⟩
 rw [← hS7] at hMc wS
 dsimp only at hMc wS
 have hS7H := jH hS7
 have wSH := jH wS
 obtain ⟨f3, hf3⟩ : ∃ b, b = hV (k : Int) (st : Int) := ⟨_, rfl⟩
 obtain ⟨f4, hf4⟩ : ∃ b, b = hC (k : Int) (st : Int) := ⟨_, rfl⟩
 obtain ⟨f5, hf5⟩ : ∃ b, b = hA (k : Int) (st : Int) := ⟨_, rfl⟩
 have cF1 := jH (fun w' => form_any (k : Int) (st : Int) w')
 rw [← hf3, ← hf4, ← hf5] at cF1
 generalize hB (k : Int) = q1 at cF1
 generalize hS (k : Int) = q2' at cF1
 have hf3H := jH hf3
 have hf4H := jH hf4
 have hf5H := jH hf5
 have hMcH := jH hMc
 have t0 := jA hMc.tb 0
 have t8 := jA hMc.tb 8
 simp at t0 t8
 have hlg := jB hMc.tb
 clear hcut hMc hS7 wS hf3 hf4 hf5 hMbH cs h7 wBH
 go_wp2_with fail
 refine (cF1.out _).mono ?_
 rintro e yd ⟨rfl, hbz⟩
 have hMd := hMcH.out.below hbz
 go_upto_region 11 with (fail)
 have hbx : Below yd.heap.size yd (yd.alloc (.cells #[.bool q1, .bool q2', .bool f3, .bool f4, .bool f5] 83)) := (Below.refl _ yd).alloc (Nat.le_refl _) _
 have hHb : (yd.alloc (.cells #[.bool q1, .bool q2', .bool f3, .bool f4, .bool f5] 83)).heap[yd.heap.size]? = some (.cells #[.bool q1, .bool q2', .bool f3, .bool f4, .bool f5] 83 (0, 0)) := jT _ _ rfl
 have hMe := hMd.below hbx
 have hgx : g < yd.heap.size := jB hMd.tb
 generalize (yd.alloc (.cells #[.bool q1, .bool q2', .bool f3, .bool f4, .bool f5] 83)) = ye at hbx hHb hMe ⊢
 generalize yd.heap.size = gx at hbx hHb hgx ⊢
 clear hbx hMd hbz t0 t8 hlg cF1 hMcH
 have hX0 : MX w ye B g gx S7 ⟨(k : Int), (f : Int), (d : Int), (ep : Int), i, b, (st : Int), (0, 0), zCm, 0, zeroQ⟩ #[.bool q1, .bool q2', .bool f3, .bool f4, .bool f5] := ⟨hMe, hHb, zCm_own _ _ _, hgx⟩
 have cV := jH (fun w' h => pbalr_any B S7 w' h wSH.out)
 have p2 := jA hX0.hb 2
 simp at p2
 have hlx := jB hX0.hb
 have hX0H := jH hX0
 clear hX0 hMe hHb
 go_upto_if 46 with (fail)
 go_cut [] (fun wx => MX w wx B g gx (rdB f3 S7).2 ⟨(k : Int), (f : Int), (d : Int), (ep : Int), i, b, (st : Int), (rdB f3 S7).1, zCm, 0, zeroQ⟩ #[.bool q1, .bool q2', .bool f3, .bool f4, .bool f5])
 case first =>
  cases f3 with
  | true =>
   clear p2 hlx
   go_wp2_with fail
   refine (cV.out _ hX0H.out.mr.rd).mono ?_
   rintro e z1 ⟨rfl, hR1, hg1⟩
   have hM9 := hX0H.out.call hg1 hR1
   have hlg := jB hM9.mr.tb
   have hfg := jE hM9.mr.tb
   have t9 := jA hM9.mr.tb 9
   have t10 := jA hM9.mr.tb 10
   simp at t9 t10
   have hMa := jH (MX.store (m' := ⟨(k : Int), (f : Int), (d : Int), (ep : Int), i, b, (st : Int), (readBal S7).1, zCm, 0, zeroQ⟩) hM9 9 [.int .u32 (readBal S7).1.1, .int .i64 (readBal S7).1.2] (by simp) rfl rfl)
   clear hM9 hg1 hR1
   go_wp2_with fail
   go_meet
   exact hMa.out
  | false =>
   go_wp2_with fail
   go_meet
   exact hX0H.out
 case rest =>
 obtain ⟨yf, hy⟩ : ∃ x, x = wc := ⟨_, rfl⟩
 obtain rfl := hy
 have hXa := hcut
 have wV : (rdB f3 S7).2.wf := by cases f3 with
  | true => exact (readBal_wf wSH.out).1
  | false => exact wSH.out
 obtain ⟨⟨v, S8⟩, hS8⟩ : ∃ q, q = rdB f3 S7 := ⟨_, rfl⟩
 rw [← hS8] at hXa wV
 dsimp only at hXa wV
 have hS8H := jH hS8
 have cC := jH (fun w' h hV => prcmd_any B S8 w' h wV hV)
 have wVH := jH wV
 have p3 := jA hXa.hb 3
 simp at p3
 have hlx := jB hXa.hb
 have hXaH := jH hXa
 clear hcut hXa hS8 wV hX0H cV p2
 go_upto_if 51 with (fail)
 go_cut [] (fun wx => ∃ c : Cm, c.val = (rdC f4 S8).1 ∧ MX w wx B g gx (rdC f4 S8).2 ⟨(k : Int), (f : Int), (d : Int), (ep : Int), i, b, (st : Int), v, c, 0, zeroQ⟩ #[.bool q1, .bool q2', .bool f3, .bool f4, .bool f5])
 case first =>
  cases f4 with
  | true =>
   clear p3
   go_upto_region 14 with (fail)
   refine wp_region_list ?_
   refine wpList_step (fun K hK => ?_)
   rw [if_pos (by kernel_rfl)]
   go_simp
   refine hK _ _ ?_
   clear hK K
   refine wpList_step (fun K hK => ?_)
   rw [if_pos (by kernel_rfl)]
   go_simp
   refine (cC.out _ hXaH.out.mr.rd (hVM.below hXaH.out.mr.bel hVM.lt)).mono ?_
   rintro e z1 ⟨c, rfl, hcv, hco, hR1, hg1⟩
   refine hK _ _ ?_
   clear hK K
   have hM9 := hXaH.out.call hg1 hR1
   have hco1 := hco.base (show gx + 1 ≤ yf.heap.size by omega)
   refine wpList_step (fun K hK => ?_)
   rw [if_pos (by kernel_rfl)]
   go_simp
   refine hK _ _ ?_
   clear hK K
   refine wpList_store_mid rfl _ _ _ rfl g 11 ↑c rfl rfl (there_mid hM9.mr.tb 11 24 (by simp)) (by kernel_rfl) (by simp [Value.oneCell']) ?_
   have hMa := jH (MX.storeC (m' := ⟨(k : Int), (f : Int), (d : Int), (ep : Int), i, b, (st : Int), v, c, 0, zeroQ⟩) hM9 11 (c : Array Value).toList (by simp) rfl hco1)
   generalize World.setCells z1 g 11 (c : Array Value).toList = z2 at hMa ⊢
   (try simp only [Act.put])
   clear hM9 hg1 hR1 hco hco1 hlx cC
   go_wp2_with fail
   go_meet
   exact ⟨c, hcv, hMa.out⟩
  | false =>
   go_wp2_with fail
   go_meet
   exact ⟨zCm, rfl, hXaH.out⟩
 case rest =>
 obtain ⟨yg, hy⟩ : ∃ x, x = wc := ⟨_, rfl⟩
 obtain rfl := hy
 obtain ⟨c, hcv, hXb⟩ := hcut
 have wC : (rdC f4 S8).2.wf ∧ (rdC f4 S8).1.Rd := by cases f4 with
  | true => exact readCv_wf wVH.out
  | false => exact ⟨wVH.out, zeroCv_rd⟩
 obtain ⟨⟨cv, S9⟩, hS9⟩ : ∃ q, q = rdC f4 S8 := ⟨_, rfl⟩
 rw [← hS9] at hXb wC hcv
 dsimp only at hXb wC hcv
 have hS9H := jH hS9
 have hcvH := jH hcv
 have wCH := jH wC
 have cI := jH (fun w' h => pint_any 1048576 B (by omega) S9 w' h wC.1)
 have cR := jH (fun w' h => pvread_any B (intS 1048576 S9).2 w' h (intS_wf 1048576 wC.1))
 have p4 := jA hXb.hb 4
 simp at p4
 have hlx := jB hXb.hb
 have hXbH := jH hXb
 clear hXb hS9 wC hcv hXaH cC p3
 go_upto_if 56 with (fail)
 go_cut [] (fun wx => MX w wx B g gx (rdA f5 S9).2 ⟨(k : Int), (f : Int), (d : Int), (ep : Int), i, b, (st : Int), v, c, ((rdA f5 S9).1.1 : Int), (rdA f5 S9).1.2⟩ #[.bool q1, .bool q2', .bool f3, .bool f4, .bool f5])
 case first =>
  cases f5 with
  | true =>
   clear p4
   have hA : rdA true S9 = (((intS 1048576 S9).1, (readV (intS 1048576 S9).2).1), (readV (intS 1048576 S9).2).2) := rfl
   have hn := yA 1048576 S9
   generalize intS 1048576 S9 = q at *
   obtain ⟨n, Sx⟩ := q
   dsimp only at *
   have hn0 : (0 : Int) ≤ (n : Int) := by omega
   have hn1 : (n : Int) ≤ 1048576 := by omega
   have wn : IntKind.u32.wrap (n : Int) = n := IntWalk.u32_in _ (by omega)
   generalize readV Sx = q at *
   obtain ⟨u, Sy⟩ := q
   dsimp only at *
   go_upto_region 16 with (fail)
   go_wp2_with fail
   refine (cI.out _ hXbH.out.mr.rd).mono ?_
   rintro e z1 ⟨rfl, hR1, hg1⟩
   have hM9 := jH (hXbH.out.call hg1 hR1)
   clear hR1 hg1 hlx
   go_upto_region 17 with (fail)
   refine wp_region_list ?_
   refine wpList_step (fun K hK => ?_)
   rw [if_pos (by kernel_rfl)]
   go_simp
   refine hK _ _ ?_
   clear hK K
   refine wpList_step (fun K hK => ?_)
   rw [if_pos (by kernel_rfl)]
   go_simp
   refine hK _ _ ?_
   clear hK K
   refine wpList_step (fun K hK => ?_)
   rw [if_pos (by kernel_rfl)]
   go_simp
   refine hK _ _ ?_
   clear hK K
   refine wpList_step (fun K hK => ?_)
   rw [if_pos (by kernel_rfl)]
   go_simp
   refine (cR.out _ hM9.out.mr.rd).mono ?_
   rintro e z2 ⟨rfl, hR2, hg2⟩
   refine hK _ _ ?_
   clear hK K
   have hMx := hM9.out.call hg2 hR2
   refine wpList_buildK rfl _ _ rfl (cells := #[.int .u32 (n : Int), .int .u32 u.d0, .int .u32 u.d1, .int .u32 u.d2, .int .u32 u.d3, .int .u32 u.d4, .int .u32 u.d5, .int .u32 u.d6, .int .u32 u.d7]) (by kernel_rfl) ?_
   refine wpList_step (fun K hK => ?_)
   rw [if_pos (by kernel_rfl)]
   go_simp
   refine hK _ _ ?_
   clear hK K
   refine wpList_store_mid rfl _ _ _ rfl g 35 #[.int .u32 (n : Int), .int .u32 u.d0, .int .u32 u.d1, .int .u32 u.d2, .int .u32 u.d3, .int .u32 u.d4, .int .u32 u.d5, .int .u32 u.d6, .int .u32 u.d7] rfl rfl (there_mid hMx.mr.tb 35 9 (by simp)) (by kernel_rfl) (by simp [Value.oneCell']) ?_
   have hMa := jH (MX.store (m' := ⟨(k : Int), (f : Int), (d : Int), (ep : Int), i, b, (st : Int), v, c, (n : Int), u⟩) hMx 35 [.int .u32 (n : Int), .int .u32 u.d0, .int .u32 u.d1, .int .u32 u.d2, .int .u32 u.d3, .int .u32 u.d4, .int .u32 u.d5, .int .u32 u.d6, .int .u32 u.d7] (by simp) rfl rfl)
   generalize hz3 : World.setCells z2 g 35 (#[.int .u32 (n : Int), .int .u32 u.d0, .int .u32 u.d1, .int .u32 u.d2, .int .u32 u.d3, .int .u32 u.d4, .int .u32 u.d5, .int .u32 u.d6, .int .u32 u.d7] : Array Value).toList = z3 at ⊢
   replace hMa := jH (hz3 ▸ hMa.out)
   clear hz3
   (try simp only [Act.put])
   have hAH := jH hA
   clear hMx hM9 hg2 hR2 cR cI hA
   go_wp2_with fail
   go_meet
   rw [hAH.out]
   exact hMa.out
  | false =>
   go_wp2_with fail
   go_meet
   exact hXbH.out
 case rest =>
 obtain ⟨yh, hy⟩ : ∃ x, x = wc := ⟨_, rfl⟩
 obtain rfl := hy
 have hXc := hcut
 have wA : (rdA f5 S9).2.wf ∧ (rdA f5 S9).1.2.wf := by cases f5 with
  | true => exact readV_wf (intS_wf 1048576 wCH.out.1)
  | false => exact ⟨wCH.out.1, zeroQ_wf⟩
 obtain ⟨⟨⟨n, u⟩, Sa⟩, hSa⟩ : ∃ q, q = rdA f5 S9 := ⟨_, rfl⟩
 rw [← hSa] at hXc wA
 dsimp only at hXc wA
 obtain ⟨m, hm⟩ : ∃ m : Mm, m = ⟨(k : Int), (f : Int), (d : Int), (ep : Int), i, b, (st : Int), v, c, (n : Int), u⟩ := ⟨_, rfl⟩
 rw [← hm] at hXc
 have hrm : readMv S0 = (m.val, Sa) := by
  unfold readMv
  dsimp only
  rw [hR0.out, hRH.out]
  dsimp only
  rw [← hf1H.out, ← hS6H.out]
  dsimp only
  rw [← hf2H.out, ← hS7H.out]
  dsimp only
  rw [← hf3H.out, ← hf4H.out, ← hf5H.out, ← hS8H.out]
  dsimp only
  rw [← hS9H.out]
  dsimp only
  rw [← hSa, hm]
  unfold Mm.val
  dsimp only
  rw [hcvH.out]
 have hmc : m.c = c := by rw [hm]
 have hmi : m.i = i := by rw [hm]
 have hma : m.av = u := by rw [hm]
 have hfit : Hid (∀ w', m.c.OwT 159 w' (gx + 1) → m.Fit w') := jH fun w' h => ⟨h.fit (by rw [hmc, hcvH.out]; exact wCH.out.2), by rw [hmi]; exact w4H.out.2, by rw [hma]; exact wA.2⟩
 have cE := jH (fun w' h => pend_any B Sa w' h wA.1)
 have hXcH := jH hXc
 obtain ⟨Se, hSe⟩ : ∃ x, endS Sa = x := ⟨_, rfl⟩
 rw [hSe] at cE
 have hwm : Hid (readWM S0 = if (failS Se (msgErr m)).fe ≠ 0 then (zMv, failS Se (msgErr m)) else (m.val, failS Se (msgErr m))) := jH (by
  unfold readWM
  dsimp only
  rw [hrm]
  dsimp only
  rw [hSe, ← msgErr_eq])
 have cK := jH (fun w' hF hV => imchk_any m w' hF hV)
 generalize hme : msgErr m = me at *
 have cf := jH (fun w' h => pfail_any B Se me w' h)
 clear hR0 hRH w4H hf1H hf2H hf3H hf4H hf5H hS6H hS7H hS8H hS9H wSH wVH wCH hcvH hXbH cI cR hXc hcut wA hSa hm hmc hmi hma hrm hSe hme p4 hlx
 go_wp2_with fail
 refine (cE.out _ hXcH.out.mr.rd).mono ?_
 rintro e yi ⟨ev, rfl, he, hR1, hg1⟩
 have hXd := jH (hXcH.out.call hg1 hR1)
 have heH := jH he
 obtain ⟨t, ht, hev, hevg⟩ : ∃ t : Bool, (t = true ↔ Se.fe = 0) ∧ (∀ w', (binOp .eql 65 ev .nilIface).run Tryz.prog w' = .ok (.bool t) w') ∧ ∀ w', (eqGuard .eql 65 (Operand.tmp 66) (Operand.const Value.nilIface) ev .nilIface).run Tryz.prog w' = .ok () w' := by
  rcases he with ⟨h1, rfl⟩ | ⟨h1, F, rfl, -⟩
  ·
   exact ⟨true, by simp [h1], fun w' => by kernel_rfl, fun w' => by kernel_rfl⟩
  ·
   exact ⟨false, by simp [h1], fun w' => by kernel_rfl, fun w' => by kernel_rfl⟩
 clear he hR1 hg1 hXcH cE
 go_upto_if 67 with (fail)
 go_cut [] (fun wx => MX w wx B g gx (failS Se me) m #[.bool q1, .bool q2', .bool f3, .bool f4, .bool f5])
 case first =>
  cases t with
  | true =>
   go_upto_region 19 with (fail)
   refine wp_region_list ?_
   refine wpList_step (fun K hK => ?_)
   rw [if_pos (by kernel_rfl)]
   go_simp
   refine hK _ _ ?_
   clear hK K
   refine wpList_loadG (by kernel_rfl) _ _ rfl (g) rfl 50 ↑m (0, 0) _ hXd.out.mr.tb Tryz.underlying50 rfl (by kernel_rfl) ?_
   (try simp only [Act.put, List.setIfInBounds_toArray, List.set_cons_zero, List.set_cons_succ])
   go_wp2_with fail
   refine (cK.out _ (hfit.out _ hXd.out.ow) (hVM.below hXd.out.mr.bel hVM.lt)).mono ?_
   rintro e z1 ⟨rfl, hv1⟩
   have hX1 := hXd.out.below hv1
   go_wp2_with fail
   refine (cf.out _ hX1.mr.rd).mono ?_
   rintro e z2 ⟨rfl, hR2, hg2⟩
   have hX2 := jH (hX1.call hg2 hR2)
   clear hR2 hg2 hX1 hv1
   go_wp2_with fail
   go_meet
   exact hX2.out
  | false =>
   go_wp2_with fail
   go_meet
   rw [failS_no (fun h => absurd (ht.2 h) (by decide))]
   exact hXd.out
 case rest =>
 obtain ⟨yj, hy⟩ : ∃ x, x = wc := ⟨_, rfl⟩
 obtain rfl := hy
 have hXe := jH hcut
 clear hcut hXd cf cK hfit hev hevg ht heH
 generalize failS Se me = T at *
 obtain ⟨ev2, hbz, hez⟩ := hXe.out.mr.rd
 have hltz := jB hbz
 have z2 := jA hbz 2
 simp at z2
 have hwB := hXe.out.mr.lB
 have hBg := hXe.out.mr.lg
 have hgX := hXe.out.lx
 clear hbz
 by_cases hf : T.fe = 0
 ·
  obtain ⟨_, rfl⟩ := hez.resolve_right (fun h9 => h9.1 hf)
  have hw2 := hwm.out
  rw [if_neg (fun h => h hf)] at hw2
  replace hwm := jH hw2
  clear hw2 hez
  go_wp2_with fail
  refine (perr_any _ _ _ hltz z2).mono ?_
  rintro e w' ⟨rfl, rfl⟩
  go_upto_region 23 with (fail)
  refine wp_region_list ?_
  refine wpList_load_row rfl _ _ rfl (g) rfl 50 _ (0, 0) _ hXe.out.mr.tb Tryz.underlying50 rfl (by kernel_rfl) ?_
  refine wpList_store_mid rfl _ _ _ rfl (w.heap.size) 0 ↑m rfl rfl (there_all hXe.out.mr.rb _ (by simp)) (by kernel_rfl) (by simp [Value.oneCell']) ?_
  have hRb := jH (blk_all hXe.out.mr.rb ↑m (by simp))
  have hOw := jH (Cm.OwT.setCells (b := w.heap.size) (by omega) (m : Array Value).toList 0 hXe.out.ow)
  have hBl := jH (jV (Nat.le_refl _) (m : Array Value).toList 0 _ hXe.out.mr.bel)
  generalize World.setCells yj w.heap.size 0 (m : Array Value).toList = wz at hRb hOw hBl ⊢
  (try simp only [Act.put, List.setIfInBounds_toArray, List.set_cons_zero, List.set_cons_succ])
  go_wp2_with fail
  exact bodyPost_ret (v := .tuple #[.agg ↑m, .nilIface]) (results_cellS 2 3 50 (by kernel_rfl) (w.heap.size) rfl rfl (run_loadVar_row _ _ _ _ _ _ _ hRb.out Tryz.underlying50 rfl (by kernel_rfl))) rfl
   ⟨m, .nilIface, rfl, by rw [hwm.out], .inl ⟨by rw [hwm.out]; exact hf, rfl⟩, hOw.out.base (by omega), hBl.out⟩
 ·
  obtain ⟨hne, Fz, rfl, hFz⟩ := hez.resolve_left (fun h9 => hf h9.1)
  have hw2 := hwm.out
  rw [if_pos hf] at hw2
  replace hwm := jH hw2
  have hezH := jH hez
  clear hw2 hez hFz
  go_wp2_with fail
  refine (perr_any _ _ _ hltz z2).mono ?_
  rintro e w' ⟨rfl, rfl⟩
  go_upto_region 22 with (fail)
  refine wp_region_list ?_
  refine wpList_buildK rfl _ _ rfl (cells := ↑Zm.mk) (by kernel_rfl) ?_
  refine wpList_step (fun K hK => ?_)
  rw [if_pos (by kernel_rfl)]
  go_simp
  refine hK _ _ ?_
  clear hK K
  refine wpList_store_mid rfl _ _ _ rfl (w.heap.size) 0 ↑Zm.mk rfl rfl (there_all hXe.out.mr.rb _ (by simp)) (by kernel_rfl) (by simp [Value.oneCell']) ?_
  have hRb := jH (blk_all hXe.out.mr.rb ↑Zm.mk (by simp))
  have hEe := jH (ErrP.setCells (t := 50) (by decide) hXe.out.mr.rb (↑Zm.mk : Array Value).toList 0 hezH.out)
  have hBl := jH (jV (Nat.le_refl _) (↑Zm.mk : Array Value).toList 0 _ hXe.out.mr.bel)
  generalize World.setCells yj w.heap.size 0 (↑Zm.mk : Array Value).toList = wz at hRb hEe hBl ⊢
  have hzm : (↑Zm.mk : Array Value) = ↑zMm := by with_unfolding_all rfl
  have hRc := hRb.out
  rw [hzm] at hRc
  replace hRb := jH hRc
  clear hzm hRc
  (try simp only [Act.put])
  go_wp2_with fail
  exact bodyPost_ret (v := .tuple #[.agg ↑zMm, .iface 125 (.pointer (some ⟨Fz, 0, none⟩))]) (results_cellS 2 3 50 (by kernel_rfl) (w.heap.size) rfl rfl (run_loadVar_row _ _ _ _ _ _ _ hRb.out Tryz.underlying50 rfl (by kernel_rfl))) rfl
   ⟨zMm, _, rfl, by rw [hwm.out]; rfl, by rw [hwm.out]; exact hEe.out, zCm_own _ _ _, hBl.out⟩
end Go.Proofs.YtfhandglpjnonaaGreatDoor
