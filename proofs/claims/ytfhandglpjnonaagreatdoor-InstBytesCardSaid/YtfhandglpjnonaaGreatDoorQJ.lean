/- The document's Read: the message that bytes are. -/
import Derived.Test.YtfhandglpjnonaaGreatDoorQI
import Derived.Test.YtfhandglpjnonaaGreatDoorQH
namespace Go.Proofs.YtfhandglpjnonaaGreatDoor
open Go.RowKit
theorem Ow.setBlk {base g : Nat} {e t : TypeId} {sz : Nat} {v : Value} {xs : List (List Value)} (hne : e ≠ t) : ∀ (l : List Value) (o : Nat) {w : World} {cs : Array Value}, w.heap[g]? = some (.cells cs t (0, 0)) → Ow w base e sz v xs → Ow (w.setCells g o l) base e sz v xs
 | [], _, _, _, _, h => h
 | u :: r, o, _, _, hg, h => Ow.setBlk hne r (o + 1) (jO hg o u) (h.set_blk hg hne o u)
theorem Cm.OwT.setBlk {t u : TypeId} {w : World} {base g : Nat} {c : Cm} {cs : Array Value} (h1 : t ≠ u) (h2 : 131 ≠ u) (h3 : 3 ≠ u) (hg : w.heap[g]? = some (.cells cs u (0, 0))) (h : c.OwT t w base) (o : Nat) (l : List Value) : c.OwT t (w.setCells g o l) base :=
 ⟨⟨Ow.setBlk h1 l o hg h.e.1, fun p hp => Ow.setBlk h2 l o hg (h.e.2 p hp)⟩, Ow.setBlk h3 l o hg h.i⟩
structure MD (w wx : World) (B g : Nat) (S : Rs) (m : Mm) : Prop where
 rb : wx.heap[w.heap.size]? = some (.cells ↑Zm.mk 38 (0, 0))
 fb : wx.heap[w.heap.size + 1]? = some (.cells #[.int .i64 0, .int .i64 0] 69 (0, 0))
 tb : wx.heap[g]? = some (.cells ↑m 38 (0, 0))
 rd : RdrD wx B S
 bel : Below w.heap.size w wx
 lB : w.heap.size + 1 < B
 lg : B < g
 ow : m.c.OwT 138 wx (g + 1)
section
variable {w wx wy : World} {B g : Nat} {S S' : Rs} {m m' : Mm}
theorem MD.call (h : MD w wx B g S m) (hg : wx.grownBy wy (some B)) (hr : RdrD wy B S') : MD w wy B g S' m :=
 have h1 := h.lB
 have h2 := h.lg
 ⟨(hg.block _ (jB h.rb) (by simp; omega)).trans h.rb, (hg.block _ (jB h.fb) (by simp; omega)).trans h.fb, (hg.block _ (jB h.tb) (by simp; omega)).trans h.tb, hr, h.bel.grown hg h.bel.size (fun k hk => by have := Option.some.inj hk; omega), h1, h2, h.ow.keptB hg (by omega)⟩
theorem MD.below (h : MD w wx B g S m) (hb : Below wx.heap.size wx wy) : MD w wy B g S m :=
 ⟨jD h.rb hb, jD h.fb hb, jD h.tb hb, h.rd.below hb, h.bel.trans (hb.mono h.bel.size), h.lB, h.lg, h.ow.below hb⟩
theorem MD.storeC (h : MD w wx B g S m) (o : Nat) (l : List Value) (hl : o + l.length ≤ 44) (he : (m : Array Value).toList.take o ++ (l ++ (m : Array Value).toList.drop (o + l.length)) = (m' : Array Value).toList) (hc : m'.c.OwT 138 wx (g + 1)) : MD w (wx.setCells g o l) B g S m' := by
 have h1 := h.lB
 have h2 := h.lg
 refine ⟨jX (by omega) l o wx h.rb, jX (by omega) l o wx h.fb, ?_, ?_, jV (by omega) l o wx h.bel, h1, h2, hc.setCells (by omega) l o⟩
 ·
  have h3 := blk_setCells l o wx _ h.tb
  rw [putL_mid (ns := ↑m') hl he] at h3
  exact h3
 ·
  rw [jZ]
  exact setsW_D (t := 38) (by decide) l o h.tb h.rd
theorem MD.store (h : MD w wx B g S m) (o : Nat) (l : List Value) (hl : o + l.length ≤ 44) (he : (m : Array Value).toList.take o ++ (l ++ (m : Array Value).toList.drop (o + l.length)) = (m' : Array Value).toList) (hc : m'.c = m.c) : MD w (wx.setCells g o l) B g S m' :=
 h.storeC o l hl he (hc ▸ h.ow)
theorem MD.other (h : MD w wx B g S m) {F : Nat} (hF : g < F) {cs : Array Value} (hb : wx.heap[F]? = some (.cells cs 69 (0, 0))) (o : Nat) (l : List Value) : MD w (wx.setCells F o l) B g S m := by
 have h1 := h.lB
 have h2 := h.lg
 refine ⟨jX (by omega) l o wx h.rb, jX (by omega) l o wx h.fb, jX (by omega) l o wx h.tb, ?_, jV (by omega) l o wx h.bel, h1, h2, ?_⟩
 ·
  rw [jZ]
  exact setsW_D (t := 69) (by decide) l o hb h.rd
 ·
  exact h.ow.setBlk (by decide) (by decide) (by decide) hb o l
end
theorem two_sets {wx : World} {r : Nat} {zs zf cs fs : Array Value} {t u : TypeId} (hb : wx.heap[r]? = some (.cells zs t (0, 0))) (hf : wx.heap[r + 1]? = some (.cells zf u (0, 0))) (h1 : cs.size = zs.size) (h2 : fs.size = zf.size) :
 ((wx.setCells r 0 cs.toList).setCells (r + 1) 0 fs.toList).heap[r]? = some (.cells cs t (0, 0)) ∧ ((wx.setCells r 0 cs.toList).setCells (r + 1) 0 fs.toList).heap[r + 1]? = some (.cells fs u (0, 0)) ∧
 ((wx.setCells (r + 1) 0 fs.toList).setCells r 0 cs.toList).heap[r]? = some (.cells cs t (0, 0)) ∧ ((wx.setCells (r + 1) 0 fs.toList).setCells r 0 cs.toList).heap[r + 1]? = some (.cells fs u (0, 0)) :=
 ⟨jX (by omega) _ 0 _ (blk_all hb cs h1), blk_all (jX (by omega) _ 0 _ hf) fs h2, blk_all (jX (by omega) _ 0 _ hb) cs h1, jX (by omega) _ 0 _ (blk_all hf fs h2)⟩
structure ME (w wx : World) (n : Mm) (a e : Int) : Prop where
 rb : wx.heap[w.heap.size]? = some (.cells ↑n 38 (0, 0))
 fb : wx.heap[w.heap.size + 1]? = some (.cells #[.int .i64 a, .int .i64 e] 69 (0, 0))
 ow : n.c.OwT 138 wx w.heap.size
 bel : Below w.heap.size w wx
theorem MD.fin {w wx : World} {B g : Nat} {S : Rs} {m : Mm} (h : MD w wx B g S m) (n : Mm) (hn : n.c.OwT 138 wx (g + 1)) (a e : Int) :
 ME w ((wx.setCells w.heap.size 0 (n : Array Value).toList).setCells (w.heap.size + 1) 0 (#[.int .i64 a, .int .i64 e] : Array Value).toList) n a e ∧
 ME w ((wx.setCells (w.heap.size + 1) 0 (#[.int .i64 a, .int .i64 e] : Array Value).toList).setCells w.heap.size 0 (n : Array Value).toList) n a e := by
 have h1 := h.lB
 have h2 := h.lg
 obtain ⟨a1, a2, a3, a4⟩ := two_sets (cs := ↑n) (fs := #[.int .i64 a, .int .i64 e]) h.rb h.fb rfl rfl
 have o1 : n.c.OwT 138 wx (g + 1) := hn
 have l1 : w.heap.size < g + 1 := by omega
 have l2 : w.heap.size + 1 < g + 1 := by omega
 have l3 : w.heap.size ≤ g + 1 := by omega
 exact ⟨⟨a1, a2, ((o1.setCells l1 _ 0).setCells l2 _ 0).base l3, jV (Nat.le_succ _) _ 0 _ (jV (Nat.le_refl _) _ 0 _ h.bel)⟩,
  ⟨a3, a4, ((o1.setCells l2 _ 0).setCells l1 _ 0).base l3, jV (Nat.le_refl _) _ 0 _ (jV (Nat.le_succ _) _ 0 _ h.bel)⟩⟩
theorem results_cells2 {P : Program} {fn : Func} {tmps : Array Value} {v e : Value} {w : World} (a b : Nat) (t u : TypeId) (hf : fn.results = #[ResultVar.cell a t, ResultVar.cell b u]) (g g' : Nat) (hx : tmps.getD a undef = .pointer (some ⟨g, 0, none⟩)) (hy : tmps.getD b undef = .pointer (some ⟨g', 0, none⟩))
 (h : (loadVar t ⟨g, 0, none⟩).run P w = .ok v w) (h' : (loadVar u ⟨g', 0, none⟩).run P w = .ok e w) : (results fn tmps).run P w = .ok (.tuple #[v, e]) w := by
 unfold results
 rw [hf]
 rw [show ∀ f : ResultVar → Sem Value, (#[ResultVar.cell a t, ResultVar.cell b u].mapM f : Sem (Array Value)) = (do let x ← f (ResultVar.cell a t); let y ← f (ResultVar.cell b u); pure #[x, y]) from fun f => by simp [Array.mapM_eq_mapM_toList]]
 simp only [hx, hy, asAddr, Sem.run_bind, Sem.run_pure, Result.andThen_ok, h, h']
 rfl
def MsgRD (S : Rs) (w : World) (r : Ending) (w' : World) : Prop := ∃ n : Mm, r = .returned (.tuple #[.agg ↑n, .agg #[.int .i64 (readWM S).2.fa, .int .i64 (readWM S).2.fe]]) ∧ n.val = (readWM S).1 ∧ n.c.OwT 138 w' w.heap.size ∧ Below w.heap.size w w'
set_option maxRecDepth 100000 in
set_option maxHeartbeats 16000000 in
theorem dmread_any (l : List UInt8) (hl : l.length ≤ 1000000) (w : World) :
 Calls Tryz.prog 20 #[.string (bs l)] w fun r w' => MsgRD ⟨l, 0, 0, 0⟩ w r w' := by
 have hb0 : Below w.heap.size w ((w.alloc (.cells ↑Zm.mk 38)).alloc (.cells #[.int .i64 0, .int .i64 0] 69)) := ((Below.refl _ w).alloc (Nat.le_refl _) _).alloc (by simp) _
 have hr0 : ((w.alloc (.cells ↑Zm.mk 38)).alloc (.cells #[.int .i64 0, .int .i64 0] 69)).heap[w.heap.size]? = some (.cells ↑Zm.mk 38 (0, 0)) := yE _ (by simp) (jT _ _ rfl)
 have hf0 : ((w.alloc (.cells ↑Zm.mk 38)).alloc (.cells #[.int .i64 0, .int .i64 0] 69)).heap[w.heap.size + 1]? = some (.cells #[.int .i64 0, .int .i64 0] 69 (0, 0)) := jT _ _ (by simp)
 generalize hW : (w.alloc (.cells ↑Zm.mk 38)).alloc (.cells #[.int .i64 0, .int .i64 0] 69) = W at hb0 hr0 hf0
 have hz0 := hb0.size
 have hlr := jB hf0
 have hSw : (⟨l, 0, 0, 0⟩ : Rs).wf := ⟨Nat.zero_le _, by show l.length ≤ _; omega, Int.le_refl _, by show (0 : Int) ≤ _; decide, fun _ => rfl⟩
 obtain ⟨S0, hS0⟩ : ∃ S : Rs, S = ⟨l, 0, 0, 0⟩ := ⟨_, rfl⟩
 rw [← hS0] at hSw
 rw [← hS0]
 have ck := jH (fun B w' h => dint_any 8 B (by omega) S0 w' h hSw)
 obtain ⟨R, hR⟩ : ∃ R, R = rdH S0 := ⟨_, rfl⟩
 have hR0 : Hid (rdH S0 = R) := jH hR.symm
 unfold rdH at hR
 have w8 := intS_wf 8 hSw
 have k8 := yA 8 S0
 generalize intS 8 S0 = p at *
 obtain ⟨k, S1⟩ := p
 dsimp only at *
 have cf := jH (fun B w' h => dint_any 7 B (by omega) S1 w' h w8)
 have w7 := intS_wf 7 w8
 have f7 := yA 7 S1
 generalize intS 7 S1 = p at *
 obtain ⟨f, S2⟩ := p
 dsimp only at *
 have cd := jH (fun B w' h => dint_any 7 B (by omega) S2 w' h w7)
 have w6 := intS_wf 7 w7
 have d7 := yA 7 S2
 generalize intS 7 S2 = p at *
 obtain ⟨d, S3⟩ := p
 dsimp only at *
 have ce := jH (fun B w' h => dint_any 1048576 B (by omega) S3 w' h w6)
 have w5 := intS_wf 1048576 w6
 have e7 := yA 1048576 S3
 generalize intS 1048576 S3 = p at *
 obtain ⟨ep, S4⟩ := p
 dsimp only at *
 have ci := jH (fun B w' h => dread_any B S4 w' h w5)
 have w4 := readI_wf w5
 generalize readI S4 = p at *
 obtain ⟨i, S5⟩ := p
 dsimp only at *
 have hRH := jH hR
 have w4H := jH w4
 have wep : IntKind.u32.wrap (ep : Int) = ep := IntWalk.u32_in _ (by omega)
 have ep0 : (0 : Int) ≤ (ep : Int) := by omega
 have ep1 : (ep : Int) ≤ 1048576 := by omega
 clear hR hSw w8 w7 w6 w5 w4
 go_enter Tryz.func20, Tryz.ntmps20
 go_upto_region 1 with (fail)
 clear hW
 have hbB : Below W.heap.size W (W.alloc (.cells #[.string (bs l), .int .i64 0, .int .i64 0, .int .i64 0] 115)) := (Below.refl _ W).alloc (Nat.le_refl _) _
 have hRd : RdrD (W.alloc (.cells #[.string (bs l), .int .i64 0, .int .i64 0, .int .i64 0] 115)) W.heap.size S0 := by rw [hS0]; exact jT _ _ rfl
 go_upto_region 2 with (fail)
 generalize (W.alloc (.cells #[.string (bs l), .int .i64 0, .int .i64 0, .int .i64 0] 115)) = w1 at hbB hRd ⊢
 have hr1 := jD hr0 hbB
 have hf1 := jD hf0 hbB
 have hb1 := hb0.trans (hbB.mono hz0)
 have hlB : w.heap.size + 1 < W.heap.size := hlr
 generalize W.heap.size = B at *
 clear hr0 hf0 hb0 hbB hlr hz0 hS0
 refine wp_region_list ?_
 refine wpList_step (fun K hK => ?_)
 rw [if_pos (by kernel_rfl)]
 go_simp
 refine hK _ _ ?_
 clear hK K
 refine wpList_step (fun K hK => ?_)
 rw [if_pos (by kernel_rfl)]
 go_simp
 refine (ck.out B _ hRd).mono ?_
 rintro e w2 ⟨rfl, hR1, hg1⟩
 refine hK _ _ ?_
 clear hK K
 refine wpList_buildK rfl _ _ rfl (cells := #[.int .i64 (k : Int), .int .i64 0, .int .i64 0, .int .u32 0, .int .i64 0, .int .u32 0, .int .u32 0, .int .i64 0, .int .i64 0, .int .u32 0, .int .i64 0, .int .i64 0, .int .i64 0, .int .u32 0, .int .u32 0, .int .u32 0, .int .u32 0, .int .u32 0, .int .u32 0, .int .u32 0, .int .u32 0, .int .u32 0, .bool false, .slice none 0 0, .int .i64 0, .int .i64 0, .slice none 0 0, .int .u32 0, .int .u32 0, .int .u32 0, .int .u32 0, .int .u32 0, .int .u32 0, .int .u32 0, .int .u32 0, .int .u32 0, .int .u32 0, .int .u32 0, .int .u32 0, .int .u32 0, .int .u32 0, .int .u32 0, .int .u32 0, .int .u32 0]) (by kernel_rfl) ?_
 refine wpList_plain rfl (fun K hK => ?_)
 go_simp
 refine hK _ _ ?_
 clear hK K
 refine wpList_store_row rfl _ _ _ rfl (w2.heap.size) #[.int .i64 (k : Int), .int .i64 0, .int .i64 0, .int .u32 0, .int .i64 0, .int .u32 0, .int .u32 0, .int .i64 0, .int .i64 0, .int .u32 0, .int .i64 0, .int .i64 0, .int .i64 0, .int .u32 0, .int .u32 0, .int .u32 0, .int .u32 0, .int .u32 0, .int .u32 0, .int .u32 0, .int .u32 0, .int .u32 0, .bool false, .slice none 0 0, .int .i64 0, .int .i64 0, .slice none 0 0, .int .u32 0, .int .u32 0, .int .u32 0, .int .u32 0, .int .u32 0, .int .u32 0, .int .u32 0, .int .u32 0, .int .u32 0, .int .u32 0, .int .u32 0, .int .u32 0, .int .u32 0, .int .u32 0, .int .u32 0, .int .u32 0, .int .u32 0] rfl rfl 38 ↑Zm.mk (jT _ _ rfl) (by kernel_rfl) rfl (by simp [Value.oneCell']) ?_
 have hsr := World.setRow_alloc_new w2 ↑Zm.mk #[.int .i64 (k : Int), .int .i64 0, .int .i64 0, .int .u32 0, .int .i64 0, .int .u32 0, .int .u32 0, .int .i64 0, .int .i64 0, .int .u32 0, .int .i64 0, .int .i64 0, .int .i64 0, .int .u32 0, .int .u32 0, .int .u32 0, .int .u32 0, .int .u32 0, .int .u32 0, .int .u32 0, .int .u32 0, .int .u32 0, .bool false, .slice none 0 0, .int .i64 0, .int .i64 0, .slice none 0 0, .int .u32 0, .int .u32 0, .int .u32 0, .int .u32 0, .int .u32 0, .int .u32 0, .int .u32 0, .int .u32 0, .int .u32 0, .int .u32 0, .int .u32 0, .int .u32 0, .int .u32 0, .int .u32 0, .int .u32 0, .int .u32 0, .int .u32 0] 38
 rw [hsr]
 clear hsr
 have hbel : Below w2.heap.size w2 (w2.alloc (.cells #[.int .i64 (k : Int), .int .i64 0, .int .i64 0, .int .u32 0, .int .i64 0, .int .u32 0, .int .u32 0, .int .i64 0, .int .i64 0, .int .u32 0, .int .i64 0, .int .i64 0, .int .i64 0, .int .u32 0, .int .u32 0, .int .u32 0, .int .u32 0, .int .u32 0, .int .u32 0, .int .u32 0, .int .u32 0, .int .u32 0, .bool false, .slice none 0 0, .int .i64 0, .int .i64 0, .slice none 0 0, .int .u32 0, .int .u32 0, .int .u32 0, .int .u32 0, .int .u32 0, .int .u32 0, .int .u32 0, .int .u32 0, .int .u32 0, .int .u32 0, .int .u32 0, .int .u32 0, .int .u32 0, .int .u32 0, .int .u32 0, .int .u32 0, .int .u32 0] 38)) := (Below.refl _ w2).alloc (Nat.le_refl _) _
 have hBlt := hR1.lt
 have hM : MD w (w2.alloc (.cells #[.int .i64 (k : Int), .int .i64 0, .int .i64 0, .int .u32 0, .int .i64 0, .int .u32 0, .int .u32 0, .int .i64 0, .int .i64 0, .int .u32 0, .int .i64 0, .int .i64 0, .int .i64 0, .int .u32 0, .int .u32 0, .int .u32 0, .int .u32 0, .int .u32 0, .int .u32 0, .int .u32 0, .int .u32 0, .int .u32 0, .bool false, .slice none 0 0, .int .i64 0, .int .i64 0, .slice none 0 0, .int .u32 0, .int .u32 0, .int .u32 0, .int .u32 0, .int .u32 0, .int .u32 0, .int .u32 0, .int .u32 0, .int .u32 0, .int .u32 0, .int .u32 0, .int .u32 0, .int .u32 0, .int .u32 0, .int .u32 0, .int .u32 0, .int .u32 0] 38)) B w2.heap.size S1 ⟨(k : Int), 0, 0, 0, (0, 0), (0, 0), 0, (0, 0), zCm, 0, zeroQ⟩ :=
  ⟨jD ((hg1.block _ (jB hr1) (by simp; omega)).trans hr1) hbel, jD ((hg1.block _ (jB hf1) (by simp; omega)).trans hf1) hbel, jT _ _ rfl, hR1.below hbel, (hb1.grown hg1 hb1.size (fun k hk => by have := Option.some.inj hk; omega)).trans (hbel.mono (by have := hg1.size; have := hb1.size; omega)), hlB, hBlt, zCm_own _ _ _⟩
 generalize (w2.alloc (.cells #[.int .i64 (k : Int), .int .i64 0, .int .i64 0, .int .u32 0, .int .i64 0, .int .u32 0, .int .u32 0, .int .i64 0, .int .i64 0, .int .u32 0, .int .i64 0, .int .i64 0, .int .i64 0, .int .u32 0, .int .u32 0, .int .u32 0, .int .u32 0, .int .u32 0, .int .u32 0, .int .u32 0, .int .u32 0, .int .u32 0, .bool false, .slice none 0 0, .int .i64 0, .int .i64 0, .slice none 0 0, .int .u32 0, .int .u32 0, .int .u32 0, .int .u32 0, .int .u32 0, .int .u32 0, .int .u32 0, .int .u32 0, .int .u32 0, .int .u32 0, .int .u32 0, .int .u32 0, .int .u32 0, .int .u32 0, .int .u32 0, .int .u32 0, .int .u32 0] 38)) = y0 at hM ⊢
 generalize w2.heap.size = g at hM ⊢
 (try simp only [Act.put])
 clear hbel hg1 hR1 hr1 hf1 hb1 hRd hBlt ck
 go_wp2_with fail
 refine (cf.out B _ hM.rd).mono ?_
 rintro e u0 ⟨rfl, hR1, hg1⟩
 have hMc := hM.call hg1 hR1
 have hlg := jB hMc.tb
 have hfg := jE hMc.tb
 have t1 := jA hMc.tb 1
 simp at t1
 have hM1 := (MD.store (m' := ⟨(k : Int), (f : Int), 0, 0, (0, 0), (0, 0), 0, (0, 0), zCm, 0, zeroQ⟩) hMc 1 [.int .i64 (f : Int)] (by simp) rfl rfl)
 clear hg1 hR1 hMc hM cf
 go_upto_region 4 with (fail)
 generalize hy : (u0.setCell ⟨g, 1, none⟩ (.int .i64 (f : Int))) = y1
 replace hM1 : MD w y1 B g S2 ⟨(k : Int), (f : Int), 0, 0, (0, 0), (0, 0), 0, (0, 0), zCm, 0, zeroQ⟩ := hy ▸ hM1
 clear hy hlg hfg t1
 go_wp2_with fail
 refine (cd.out B _ hM1.rd).mono ?_
 rintro e u1 ⟨rfl, hR1, hg1⟩
 have hMc := hM1.call hg1 hR1
 have hlg := jB hMc.tb
 have hfg := jE hMc.tb
 have t2 := jA hMc.tb 2
 simp at t2
 have hM2 := (MD.store (m' := ⟨(k : Int), (f : Int), (d : Int), 0, (0, 0), (0, 0), 0, (0, 0), zCm, 0, zeroQ⟩) hMc 2 [.int .i64 (d : Int)] (by simp) rfl rfl)
 clear hg1 hR1 hMc hM1 cd
 go_upto_region 5 with (fail)
 generalize hy : (u1.setCell ⟨g, 2, none⟩ (.int .i64 (d : Int))) = y2
 replace hM2 : MD w y2 B g S3 ⟨(k : Int), (f : Int), (d : Int), 0, (0, 0), (0, 0), 0, (0, 0), zCm, 0, zeroQ⟩ := hy ▸ hM2
 clear hy hlg hfg t2
 go_wp2_with fail
 refine (ce.out B _ hM2.rd).mono ?_
 rintro e u2 ⟨rfl, hR1, hg1⟩
 have hMc := hM2.call hg1 hR1
 have hlg := jB hMc.tb
 have hfg := jE hMc.tb
 have t3 := jA hMc.tb 3
 simp at t3
 have hM3 := (MD.store (m' := ⟨(k : Int), (f : Int), (d : Int), (ep : Int), (0, 0), (0, 0), 0, (0, 0), zCm, 0, zeroQ⟩) hMc 3 [.int .u32 (ep : Int)] (by simp) rfl rfl)
 clear hg1 hR1 hMc hM2 ce
 go_upto_region 6 with (fail)
 generalize hy : (u2.setCell ⟨g, 3, none⟩ (.int .u32 (ep : Int))) = y3
 replace hM3 : MD w y3 B g S4 ⟨(k : Int), (f : Int), (d : Int), (ep : Int), (0, 0), (0, 0), 0, (0, 0), zCm, 0, zeroQ⟩ := hy ▸ hM3
 clear hy hlg hfg t3
 go_wp2_with fail
 refine (ci.out B _ hM3.rd).mono ?_
 rintro e u3 ⟨rfl, hR1, hg1⟩
 have hMc := hM3.call hg1 hR1
 have hlg := jB hMc.tb
 have hfg := jE hMc.tb
 have t4 := jA hMc.tb 4
 have t5 := jA hMc.tb 5
 simp at t4 t5
 have hM4 := (MD.store (m' := ⟨(k : Int), (f : Int), (d : Int), (ep : Int), i, (0, 0), 0, (0, 0), zCm, 0, zeroQ⟩) hMc 4 [.int .i64 i.1, .int .u32 i.2] (by simp) rfl rfl)
 clear hg1 hR1 hMc hM3 ci
 go_upto_region 7 with (fail)
 generalize hy : ((u3.setCell ⟨g, 4, none⟩ (.int .i64 i.1)).setCell ⟨g, 5, none⟩ (.int .u32 i.2)) = y4
 replace hM4 : MD w y4 B g S5 ⟨(k : Int), (f : Int), (d : Int), (ep : Int), i, (0, 0), 0, (0, 0), zCm, 0, zeroQ⟩ := hy ▸ hM4
 clear hy hlg hfg t4 t5
 obtain ⟨f1, hf1⟩ : ∃ b, b = hB (k : Int) := ⟨_, rfl⟩
 have hf1H := jH hf1
 obtain ⟨m1, hm1⟩ : ∃ m : Mm, m = ⟨(k : Int), (f : Int), (d : Int), (ep : Int), i, (0, 0), 0, (0, 0), zCm, 0, zeroQ⟩ := ⟨_, rfl⟩
 have cF := jH (fun w' => rhasB_any m1 w')
 rw [show hB m1.kd = f1 by rw [hm1, hf1]] at cF
 have hMn := hM4
 rw [← hm1] at hMn
 have hM4H := jH hM4
 have hMnH := jH hMn
 have cb := jH (fun w' h => dbalr_any B S5 w' h w4H.out.1)
 clear hM4 hMn hf1 hm1
 refine wp_region_list ?_
 refine wpList_loadG (by kernel_rfl) _ _ rfl (g) rfl 38 ↑m1 (0, 0) _ hMnH.out.tb Tryz.underlying38 rfl (by kernel_rfl) ?_
 (try simp only [Act.put, List.setIfInBounds_toArray, List.set_cons_zero, List.set_cons_succ])
 go_wp2_with fail
 refine (cF.out _).mono ?_
 rintro e y8 ⟨rfl, hbz⟩
 have hM8 := jH (hM4H.out.below hbz)
 clear hM4H hMnH hbz cF
 go_upto_if 27 with (fail)
 go_cut [] (fun wx => MD w wx B g (rdB f1 S5).2 ⟨(k : Int), (f : Int), (d : Int), (ep : Int), i, (rdB f1 S5).1, 0, (0, 0), zCm, 0, zeroQ⟩)
 case first =>
  cases f1 with
  | true =>
   go_wp2_with fail
   refine (cb.out _ hM8.out.rd).mono ?_
   rintro e z1 ⟨rfl, hR1, hg1⟩
   have hM9 := hM8.out.call hg1 hR1
   have hlg := jB hM9.tb
   have hfg := jE hM9.tb
   have t6 := jA hM9.tb 6
   have t7 := jA hM9.tb 7
   simp at t6 t7
   have hMa := jH (MD.store (m' := ⟨(k : Int), (f : Int), (d : Int), (ep : Int), i, (readBal S5).1, 0, (0, 0), zCm, 0, zeroQ⟩) hM9 6 [.int .u32 (readBal S5).1.1, .int .i64 (readBal S5).1.2] (by simp) rfl rfl)
   clear hM9 hg1 hR1
   go_wp2_with fail
   go_meet
   exact hMa.out
  | false =>
   go_wp2_with fail
   go_meet
   exact hM8.out
 case rest =>
 obtain ⟨yb, hy⟩ : ∃ x, x = wc := ⟨_, rfl⟩
 obtain rfl := hy
 have hMb := hcut
 have wB : (rdB f1 S5).2.wf := by cases f1 with
  | true => exact (readBal_wf w4H.out.1).1
  | false => exact w4H.out.1
 obtain ⟨⟨b, S6⟩, hS6⟩ : ∃ q, q = rdB f1 S5 := ⟨_, rfl⟩
 rw [← hS6] at hMb wB
 dsimp only at hMb wB
 have hS6H := jH hS6
 have cs := jH (fun w' h => dint_any 4 B (by omega) S6 w' h wB)
 have wBH := jH wB
 obtain ⟨f2, hf2⟩ : ∃ b, b = hS (k : Int) := ⟨_, rfl⟩
 have hf2H := jH hf2
 have h7 : ((k : Int) == 7) = f2 := hf2.symm
 have hMbH := jH hMb
 have t0 := jA hMb.tb 0
 simp at t0
 have hlg := jB hMb.tb
 have hfg := jE hMb.tb
 clear hcut hMb hS6 wB hf2 hM8 cb
 go_upto_if 33 with (fail)
 go_cut [] (fun wx => MD w wx B g (rdS f2 S6).2 ⟨(k : Int), (f : Int), (d : Int), (ep : Int), i, b, ((rdS f2 S6).1 : Int), (0, 0), zCm, 0, zeroQ⟩)
 case first =>
  cases f2 with
  | true =>
   clear t0 hlg hfg
   go_wp2_with fail
   refine (cs.out _ hMbH.out.rd).mono ?_
   rintro e z1 ⟨rfl, hR1, hg1⟩
   have hM9 := hMbH.out.call hg1 hR1
   have hlg := jB hM9.tb
   have hfg := jE hM9.tb
   have t8 := jA hM9.tb 8
   simp at t8
   have hMa := jH (MD.store (m' := ⟨(k : Int), (f : Int), (d : Int), (ep : Int), i, b, ((intS 4 S6).1 : Int), (0, 0), zCm, 0, zeroQ⟩) hM9 8 [.int .i64 ((intS 4 S6).1 : Int)] (by simp) rfl rfl)
   clear hM9 hg1 hR1
   go_wp2_with fail
   go_meet
   exact hMa.out
  | false =>
   go_wp2_with fail
   go_meet
   exact hMbH.out
 case rest =>
 obtain ⟨yc, hy⟩ : ∃ x, x = wc := ⟨_, rfl⟩
 obtain rfl := hy
 have hMc := hcut
 have wS : (rdS f2 S6).2.wf := by cases f2 with
  | true => exact intS_wf 4 wBH.out
  | false => exact wBH.out
 obtain ⟨⟨st, S7⟩, hS7⟩ : ∃ q, q = rdS f2 S6 := ⟨_, rfl⟩
 rw [← hS7] at hMc wS
 dsimp only at hMc wS
 have hS7H := jH hS7
 obtain ⟨f3, hf3⟩ : ∃ b, b = hV (k : Int) (st : Int) := ⟨_, rfl⟩
 obtain ⟨f4, hf4⟩ : ∃ b, b = hC (k : Int) (st : Int) := ⟨_, rfl⟩
 obtain ⟨f5, hf5⟩ : ∃ b, b = hA (k : Int) (st : Int) := ⟨_, rfl⟩
 have hf3H := jH hf3
 have hf4H := jH hf4
 have hf5H := jH hf5
 have wSH := jH wS
 obtain ⟨m2, hm2⟩ : ∃ m : Mm, m = ⟨(k : Int), (f : Int), (d : Int), (ep : Int), i, b, (st : Int), (0, 0), zCm, 0, zeroQ⟩ := ⟨_, rfl⟩
 have cF := jH (fun w' => rhasV_any m2 (by rw [hm2]; exact Int.natCast_nonneg st) w')
 rw [show hV m2.kd m2.st = f3 by rw [hm2, hf3]] at cF
 have hMn := hMc
 rw [← hm2] at hMn
 have hMcH := jH hMc
 have hMnH := jH hMn
 have cV := jH (fun w' h => dbalr_any B S7 w' h wSH.out)
 clear hcut hMc hMn hS7 wS hf3 hf4 hf5 hMbH cs h7 t0 hlg hfg hm2
 go_upto_region 11 with (fail)
 refine wp_region_list ?_
 refine wpList_loadG (by kernel_rfl) _ _ rfl (g) rfl 38 ↑m2 (0, 0) _ hMnH.out.tb Tryz.underlying38 rfl (by kernel_rfl) ?_
 (try simp only [Act.put, List.setIfInBounds_toArray, List.set_cons_zero, List.set_cons_succ])
 go_wp2_with fail
 refine (cF.out _).mono ?_
 rintro e yd ⟨rfl, hbz⟩
 have hX0H := jH (hMcH.out.below hbz)
 clear hMcH hMnH hbz cF
 go_upto_if 38 with (fail)
 go_cut [] (fun wx => MD w wx B g (rdB f3 S7).2 ⟨(k : Int), (f : Int), (d : Int), (ep : Int), i, b, (st : Int), (rdB f3 S7).1, zCm, 0, zeroQ⟩)
 case first =>
  cases f3 with
  | true =>
   go_wp2_with fail
   refine (cV.out _ hX0H.out.rd).mono ?_
   rintro e z1 ⟨rfl, hR1, hg1⟩
   have hM9 := hX0H.out.call hg1 hR1
   have hlg := jB hM9.tb
   have hfg := jE hM9.tb
   have t9 := jA hM9.tb 9
   have t10 := jA hM9.tb 10
   simp at t9 t10
   have hMa := jH (MD.store (m' := ⟨(k : Int), (f : Int), (d : Int), (ep : Int), i, b, (st : Int), (readBal S7).1, zCm, 0, zeroQ⟩) hM9 9 [.int .u32 (readBal S7).1.1, .int .i64 (readBal S7).1.2] (by simp) rfl rfl)
   clear hM9 hg1 hR1
   go_wp2_with fail
   go_meet
   exact hMa.out
  | false =>
   go_wp2_with fail
   go_meet
   exact hX0H.out
 case rest =>
 obtain ⟨yf, hy⟩ : ∃ x, x = wc := ⟨_, rfl⟩
 obtain rfl := hy
 have hXa := hcut
 have wV : (rdB f3 S7).2.wf := by cases f3 with
  | true => exact (readBal_wf wSH.out).1
  | false => exact wSH.out
 obtain ⟨⟨v, S8⟩, hS8⟩ : ∃ q, q = rdB f3 S7 := ⟨_, rfl⟩
 rw [← hS8] at hXa wV
 dsimp only at hXa wV
 have hS8H := jH hS8
 have cC := jH (fun w' h => drcmd_any B S8 w' h wV)
 have wVH := jH wV
 obtain ⟨m3, hm3⟩ : ∃ m : Mm, m = ⟨(k : Int), (f : Int), (d : Int), (ep : Int), i, b, (st : Int), v, zCm, 0, zeroQ⟩ := ⟨_, rfl⟩
 have cF := jH (fun w' => rhasC_any m3 (by rw [hm3]; exact Int.natCast_nonneg st) w')
 rw [show hC m3.kd m3.st = f4 by rw [hm3, hf4H.out]] at cF
 have hMn := hXa
 rw [← hm3] at hMn
 have hXaH := jH hXa
 have hMnH := jH hMn
 clear hcut hXa hMn hS8 wV hX0H cV hm3
 go_upto_region 13 with (fail)
 refine wp_region_list ?_
 refine wpList_loadG (by kernel_rfl) _ _ rfl (g) rfl 38 ↑m3 (0, 0) _ hMnH.out.tb Tryz.underlying38 rfl (by kernel_rfl) ?_
 (try simp only [Act.put, List.setIfInBounds_toArray, List.set_cons_zero, List.set_cons_succ])
 go_wp2_with fail
 refine (cF.out _).mono ?_
 rintro e yf2 ⟨rfl, hbz⟩
 replace hXaH := jH (hXaH.out.below hbz)
 clear hMnH hbz cF
 go_upto_if 43 with (fail)
 go_cut [] (fun wx => ∃ c : Cm, c.val = (rdC f4 S8).1 ∧ MD w wx B g (rdC f4 S8).2 ⟨(k : Int), (f : Int), (d : Int), (ep : Int), i, b, (st : Int), v, c, 0, zeroQ⟩)
 case first =>
  cases f4 with
  | true =>
   go_upto_region 14 with (fail)
   refine wp_region_list ?_
   refine wpList_step (fun K hK => ?_)
   rw [if_pos (by kernel_rfl)]
   go_simp
   refine hK _ _ ?_
   clear hK K
   refine wpList_step (fun K hK => ?_)
   rw [if_pos (by kernel_rfl)]
   go_simp
   refine (cC.out _ hXaH.out.rd).mono ?_
   rintro e z1 ⟨c, rfl, hcv, hco, hR1, hg1⟩
   refine hK _ _ ?_
   clear hK K
   have hM9 := hXaH.out.call hg1 hR1
   have hlx := jB hXaH.out.tb
   have hco1 := hco.base (show g + 1 ≤ yf2.heap.size by omega)
   refine wpList_step (fun K hK => ?_)
   rw [if_pos (by kernel_rfl)]
   go_simp
   refine hK _ _ ?_
   clear hK K
   refine wpList_store_mid rfl _ _ _ rfl g 11 ↑c rfl rfl (there_mid hM9.tb 11 24 (by simp)) (by kernel_rfl) (by simp [Value.oneCell']) ?_
   have hMa := jH (MD.storeC (m' := ⟨(k : Int), (f : Int), (d : Int), (ep : Int), i, b, (st : Int), v, c, 0, zeroQ⟩) hM9 11 (c : Array Value).toList (by simp) rfl hco1)
   generalize World.setCells z1 g 11 (c : Array Value).toList = z2 at hMa ⊢
   (try simp only [Act.put])
   clear hM9 hg1 hR1 hco hco1 hlx cC
   go_wp2_with fail
   go_meet
   exact ⟨c, hcv, hMa.out⟩
  | false =>
   go_wp2_with fail
   go_meet
   exact ⟨zCm, rfl, hXaH.out⟩
 case rest =>
 obtain ⟨yg, hy⟩ : ∃ x, x = wc := ⟨_, rfl⟩
 obtain rfl := hy
 obtain ⟨c, hcv, hXb⟩ := hcut
 have wC : (rdC f4 S8).2.wf ∧ (rdC f4 S8).1.Rd := by cases f4 with
  | true => exact readCv_wf wVH.out
  | false => exact ⟨wVH.out, zeroCv_rd⟩
 obtain ⟨⟨cv, S9⟩, hS9⟩ : ∃ q, q = rdC f4 S8 := ⟨_, rfl⟩
 rw [← hS9] at hXb wC hcv
 dsimp only at hXb wC hcv
 have hS9H := jH hS9
 have hcvH := jH hcv
 have wCH := jH wC
 have cI := jH (fun w' h => dint_any 1048576 B (by omega) S9 w' h wC.1)
 have cR := jH (fun w' h => dvread_any B (intS 1048576 S9).2 w' h (intS_wf 1048576 wC.1))
 obtain ⟨m4, hm4⟩ : ∃ m : Mm, m = ⟨(k : Int), (f : Int), (d : Int), (ep : Int), i, b, (st : Int), v, c, 0, zeroQ⟩ := ⟨_, rfl⟩
 have cF := jH (fun w' => rhasA_any m4 (by rw [hm4]; exact Int.natCast_nonneg st) w')
 rw [show hA m4.kd m4.st = f5 by rw [hm4, hf5H.out]] at cF
 have hMn := hXb
 rw [← hm4] at hMn
 have hXbH := jH hXb
 have hMnH := jH hMn
 clear hXb hMn hS9 wC hcv hXaH cC hm4
 go_upto_region 15 with (fail)
 refine wp_region_list ?_
 refine wpList_loadG (by kernel_rfl) _ _ rfl (g) rfl 38 ↑m4 (0, 0) _ hMnH.out.tb Tryz.underlying38 rfl (by kernel_rfl) ?_
 (try simp only [Act.put, List.setIfInBounds_toArray, List.set_cons_zero, List.set_cons_succ])
 go_wp2_with fail
 refine (cF.out _).mono ?_
 rintro e yg2 ⟨rfl, hbz⟩
 replace hXbH := jH (hXbH.out.below hbz)
 clear hMnH hbz cF
 go_upto_if 48 with (fail)
 go_cut [] (fun wx => MD w wx B g (rdA f5 S9).2 ⟨(k : Int), (f : Int), (d : Int), (ep : Int), i, b, (st : Int), v, c, ((rdA f5 S9).1.1 : Int), (rdA f5 S9).1.2⟩)
 case first =>
  cases f5 with
  | true =>
   have hA : rdA true S9 = (((intS 1048576 S9).1, (readV (intS 1048576 S9).2).1), (readV (intS 1048576 S9).2).2) := rfl
   have hn := yA 1048576 S9
   generalize intS 1048576 S9 = q at *
   obtain ⟨n, Sx⟩ := q
   dsimp only at *
   have hn0 : (0 : Int) ≤ (n : Int) := by omega
   have hn1 : (n : Int) ≤ 1048576 := by omega
   have wn : IntKind.u32.wrap (n : Int) = n := IntWalk.u32_in _ (by omega)
   generalize readV Sx = q at *
   obtain ⟨u, Sy⟩ := q
   dsimp only at *
   have hAH := jH hA
   clear hA
   go_wp2_with fail
   refine (cI.out _ hXbH.out.rd).mono ?_
   rintro e z1 ⟨rfl, hR1, hg1⟩
   have hM9 := hXbH.out.call hg1 hR1
   have hlg := jB hM9.tb
   have hfg := jE hM9.tb
   have t35 := jA hM9.tb 35
   simp at t35
   have hMa := jH (MD.store (m' := ⟨(k : Int), (f : Int), (d : Int), (ep : Int), i, b, (st : Int), v, c, (n : Int), zeroQ⟩) hM9 35 [.int .u32 (n : Int)] (by simp) rfl rfl)
   clear hR1 hg1 hM9
   go_upto_region 17 with (fail)
   generalize hy : (z1.setCell ⟨g, 35, none⟩ (.int .u32 (n : Int))) = z2
   replace hMa := jH (show MD w z2 B g Sx ⟨(k : Int), (f : Int), (d : Int), (ep : Int), i, b, (st : Int), v, c, (n : Int), zeroQ⟩ from hy ▸ hMa.out)
   clear hy hlg hfg t35
   refine wp_region_list ?_
   refine wpList_step (fun K hK => ?_)
   rw [if_pos (by kernel_rfl)]
   go_simp
   refine hK _ _ ?_
   clear hK K
   refine wpList_step (fun K hK => ?_)
   rw [if_pos (by kernel_rfl)]
   go_simp
   refine (cR.out _ hMa.out.rd).mono ?_
   rintro e z3 ⟨rfl, hR2, hg2⟩
   refine hK _ _ ?_
   clear hK K
   have hMx := hMa.out.call hg2 hR2
   refine wpList_step (fun K hK => ?_)
   rw [if_pos (by kernel_rfl)]
   go_simp
   refine hK _ _ ?_
   clear hK K
   refine wpList_step (fun K hK => ?_)
   rw [if_pos (by kernel_rfl)]
   go_simp
   refine hK _ _ ?_
   clear hK K
   refine wpList_store_mid rfl _ _ _ rfl g 36 ↑u rfl rfl (there_mid hMx.tb 36 8 (by simp)) (by kernel_rfl) (by simp [Value.oneCell']) ?_
   have hMb := jH (MD.store (m' := ⟨(k : Int), (f : Int), (d : Int), (ep : Int), i, b, (st : Int), v, c, (n : Int), u⟩) hMx 36 (u : Array Value).toList (by simp) rfl rfl)
   generalize World.setCells z3 g 36 (u : Array Value).toList = z4 at hMb ⊢
   (try simp only [Act.put])
   clear hMx hMa hg2 hR2 cR cI
   go_wp2_with fail
   go_meet
   rw [hAH.out]
   exact hMb.out
  | false =>
   go_wp2_with fail
   go_meet
   exact hXbH.out
 case rest =>
 obtain ⟨yh, hy⟩ : ∃ x, x = wc := ⟨_, rfl⟩
 obtain rfl := hy
 have hXc := hcut
 have wA : (rdA f5 S9).2.wf ∧ (rdA f5 S9).1.2.wf := by cases f5 with
  | true => exact readV_wf (intS_wf 1048576 wCH.out.1)
  | false => exact ⟨wCH.out.1, zeroQ_wf⟩
 obtain ⟨⟨⟨n, u⟩, Sa⟩, hSa⟩ : ∃ q, q = rdA f5 S9 := ⟨_, rfl⟩
 rw [← hSa] at hXc wA
 dsimp only at hXc wA
 obtain ⟨m, hm⟩ : ∃ m : Mm, m = ⟨(k : Int), (f : Int), (d : Int), (ep : Int), i, b, (st : Int), v, c, (n : Int), u⟩ := ⟨_, rfl⟩
 rw [← hm] at hXc
 have hrm : readMv S0 = (m.val, Sa) := by
  unfold readMv
  dsimp only
  rw [hR0.out, hRH.out]
  dsimp only
  rw [← hf1H.out, ← hS6H.out]
  dsimp only
  rw [← hf2H.out, ← hS7H.out]
  dsimp only
  rw [← hf3H.out, ← hf4H.out, ← hf5H.out, ← hS8H.out]
  dsimp only
  rw [← hS9H.out]
  dsimp only
  rw [← hSa, hm]
  unfold Mm.val
  dsimp only
  rw [hcvH.out]
 have hmc : m.c = c := by rw [hm]
 have hmi : m.i = i := by rw [hm]
 have hma : m.av = u := by rw [hm]
 have hfit : Hid (∀ w', m.c.OwT 138 w' (g + 1) → m.Fit w') := jH fun w' h => ⟨h.fit (by rw [hmc, hcvH.out]; exact wCH.out.2), by rw [hmi]; exact w4H.out.2, by rw [hma]; exact wA.2⟩
 have cE := jH (fun w' h => dend_any B Sa w' h)
 have hXcH := jH hXc
 obtain ⟨Se, hSe⟩ : ∃ x, endS Sa = x := ⟨_, rfl⟩
 rw [hSe] at cE
 have hwm : Hid (readWM S0 = if (failS Se (msgErr m)).fe ≠ 0 then (zMv, failS Se (msgErr m)) else (m.val, failS Se (msgErr m))) := jH (by
  unfold readWM
  dsimp only
  rw [hrm]
  dsimp only
  rw [hSe, ← msgErr_eq])
 have cK := jH (fun w' hF => rimchk_any m w' hF)
 generalize hme : msgErr m = me at *
 have cf := jH (fun w' h => dfail_any B Se me w' h)
 clear hR0 hRH w4H hf1H hf2H hf3H hf4H hf5H hS6H hS7H hS8H hS9H wSH wVH wCH wBH hcvH hXbH cI cR hXc hcut wA hSa hm hmc hmi hma hrm hSe hme
 go_wp2_with fail
 refine (cE.out _ hXcH.out.rd).mono ?_
 rintro e yi ⟨rfl, hR1, hg1⟩
 have hXd := hXcH.out.call hg1 hR1
 have hbF : Below yi.heap.size yi (yi.alloc (.cells #[.int .i64 Se.fa, .int .i64 Se.fe] 69)) := (Below.refl _ yi).alloc (Nat.le_refl _) _
 have hFb : (yi.alloc (.cells #[.int .i64 Se.fa, .int .i64 Se.fe] 69)).heap[yi.heap.size]? = some (.cells #[.int .i64 Se.fa, .int .i64 Se.fe] 69 (0, 0)) := jT _ _ rfl
 have hgF := jB hXd.tb
 have hXe := hXd.below hbF
 go_upto_region 19 with (fail)
 generalize (yi.alloc (.cells #[.int .i64 Se.fa, .int .i64 Se.fe] 69)) = yj at hFb hXe ⊢
 generalize yi.heap.size = G at hFb hgF ⊢
 have hXeH := jH hXe
 have hFbH := jH hFb
 have q1 := jA hFb 1
 simp at q1
 have hlF := jB hFb
 have hfF := jE hFb
 clear hXe hFb hXd hR1 hg1 hbF hXcH cE
 go_upto_if 62 with (fail)
 go_cut [] (fun wx => MD w wx B g (failS Se me) m ∧ wx.heap[G]? = some (.cells #[.int .i64 (failS Se me).fa, .int .i64 (failS Se me).fe] 69 (0, 0)))
 case first =>
  by_cases hf : Se.fe = 0
  ·
   have hd : (Se.fe == 0) = true := by rw [hf]; rfl
   clear q1 hlF hfF
   go_upto_region 20 with (fail)
   refine wp_region_list ?_
   refine wpList_step (fun K hK => ?_)
   rw [if_pos (by kernel_rfl)]
   go_simp
   refine hK _ _ ?_
   clear hK K
   refine wpList_loadG (by kernel_rfl) _ _ rfl (g) rfl 38 ↑m (0, 0) _ hXeH.out.tb Tryz.underlying38 rfl (by kernel_rfl) ?_
   (try simp only [Act.put, List.setIfInBounds_toArray, List.set_cons_zero, List.set_cons_succ])
   go_wp2_with fail
   refine (cK.out _ (hfit.out _ hXeH.out.ow)).mono ?_
   rintro e z1 ⟨rfl, hv1⟩
   have hX1 := hXeH.out.below hv1
   have hF1 := jD hFbH.out hv1
   go_wp2_with fail
   refine (cf.out _ hX1.rd).mono ?_
   rintro e z2 ⟨rfl, hR2, hg2⟩
   have hX2 := jH (hX1.call hg2 hR2)
   have hF2 := (hg2.block _ (jB hF1) (by have := hX1.lg; simp; omega)).trans hF1
   clear hR2 hg2 hX1 hv1 hF1
   have hbz := hX2.out.rd
   unfold RdrD at hbz
   have hltz := jB hbz
   have z2' := jA hbz 2
   have z3' := jA hbz 3
   simp at z2' z3'
   clear hbz
   have q0 := jA hF2 0
   have q1 := jA hF2 1
   simp at q0 q1
   have hlF := jB hF2
   have hfF := jE hF2
   have hXs := jH (hX2.out.other hgF hF2 0 [.int .i64 (failS Se me).fa, .int .i64 (failS Se me).fe])
   have hFs := jH (show ((z2.setCell ⟨G, 0, none⟩ (.int .i64 (failS Se me).fa)).setCell ⟨G, 1, none⟩ (.int .i64 (failS Se me).fe)).heap[G]? = some (.cells #[.int .i64 (failS Se me).fa, .int .i64 (failS Se me).fe] 69 (0, 0)) from jO (jO hF2 0 _) 1 _)
   clear hF2 hX2
   go_wp2_with fail
   go_meet
   exact ⟨hXs.out, hFs.out⟩
  ·
   have hd : (Se.fe == 0) = false := by simp [hf]
   go_wp2_with fail
   go_meet
   rw [failS_no hf]
   exact ⟨hXeH.out, hFbH.out⟩
 case rest =>
 obtain ⟨yk, hy⟩ : ∃ x, x = wc := ⟨_, rfl⟩
 obtain rfl := hy
 obtain ⟨hXf, hFc⟩ := hcut
 have hXfH := jH hXf
 have hFcH := jH hFc
 clear hXeH hFbH cf cK hfit hXf q1 hlF hfF
 generalize failS Se me = T at *
 have q1 := jA hFc 1
 simp at q1
 have hlF := jB hFc
 have hwB := hXfH.out.lB
 have hBg := hXfH.out.lg
 clear hFc
 by_cases hf : T.fe = 0
 ·
  have hd : (T.fe != 0) = false := by rw [hf]; rfl
  have hw2 := hwm.out
  rw [if_neg (fun h => h hf)] at hw2
  replace hwm := jH hw2
  clear hw2
  have hval : m.val = (readWM S0).1 := by rw [hwm.out]
  go_upto_region 24 with (fail)
  have hXz := hXfH.out.below (Below.refl _ _).drew
  have hfin := jH (hXz.fin m hXz.ow T.fa T.fe)
  refine jW (fun w' => w'.heap[g]? = some (.cells ↑m 38 (0, 0)) ∧ w'.heap[G]? = some (.cells #[.int .i64 T.fa, .int .i64 T.fe] 69 (0, 0))) (fun _ => True) 99 (by kernel_rfl) ⟨hXz.tb, hFcH.out⟩ trivial ?_
  intro hcl
  have hC : yk.drew.heap[g]? = some (.cells ↑m 38 (0, 0)) ∧ yk.drew.heap[G]? = some (.cells #[.int .i64 T.fa, .int .i64 T.fe] 69 (0, 0)) := ⟨hXz.tb, hFcH.out⟩
  have hE := trivial
  refine wpM_take (i := 0) (v := .agg ↑m) rfl (by kernel_rfl) (by kernel_rfl) (by kernel_rfl) (by decide) (fun _ _ _ h => h) hcl hC (fun _ => hE) (yields_row (by kernel_rfl) rfl (g) rfl 38 ↑m (0, 0) _ (fun w' h => h.1) Tryz.underlying38 rfl (by kernel_rfl)) ?_
  clear hcl
  intro hcl
  (try simp only [Act.put, List.getElem_toArray, List.getElem_cons_zero, List.setIfInBounds_toArray, List.set_cons_zero, List.set_cons_succ])
  refine wpM_take (i := 1) (v := .agg #[.int .i64 T.fa, .int .i64 T.fe]) rfl (by kernel_rfl) (by kernel_rfl) (by kernel_rfl) (by decide) (fun _ _ _ h => h) hcl hC (fun _ => hE) (yields_row (by kernel_rfl) rfl (G) rfl 69 #[.int .i64 T.fa, .int .i64 T.fe] (0, 0) _ (fun w' h => h.2) Tryz.underlying69 rfl (by kernel_rfl)) ?_
  clear hcl
  intro hcl
  (try simp only [Act.put, nA, nB, nC, nD, nE, nF])
  refine jK (i := 2) rfl (by kernel_rfl) hcl (fun K hK => ?_)
  rw [if_pos (by kernel_rfl)]
  refine wp_store_mid _ _ _ rfl (w.heap.size) 0 ↑m rfl rfl (there_all hXz.rb _ (by simp)) (by kernel_rfl) (by simp [Value.oneCell']) ?_
  have hC1 : (World.setCells yk.drew w.heap.size 0 (m : Array Value).toList).heap[g]? = some (.cells ↑m 38 (0, 0)) ∧ (World.setCells yk.drew w.heap.size 0 (m : Array Value).toList).heap[G]? = some (.cells #[.int .i64 T.fa, .int .i64 T.fe] 69 (0, 0)) := ⟨jX (by omega) _ 0 _ hC.1, jX (by omega) _ 0 _ hC.2⟩
  have hf1 : (World.setCells yk.drew w.heap.size 0 (m : Array Value).toList).heap[w.heap.size + 1]? = some (.cells #[.int .i64 0, .int .i64 0] 69 (0, 0)) := jX (by omega) _ 0 _ hXz.fb
  have hM1 := jH hfin.out.1
  generalize World.setCells yk.drew w.heap.size 0 (m : Array Value).toList = wy at hC1 hf1 hM1 ⊢
  refine hK.out _ _ hC1 trivial ?_
  clear hK K hcl hC hfin
  intro hcl
  (try simp only [Act.put, List.getElem_toArray, List.getElem_cons_zero, List.getElem_cons_succ])
  refine jK (i := 3) rfl (by kernel_rfl) hcl (fun K hK => ?_)
  rw [if_pos (by kernel_rfl)]
  refine wp_store_mid _ _ _ rfl (w.heap.size + 1) 0 #[.int .i64 T.fa, .int .i64 T.fe] rfl rfl (there_all hf1 _ (by simp)) (by kernel_rfl) (by simp [Value.oneCell']) ?_
  have hC2 : (World.setCells wy (w.heap.size + 1) 0 (#[.int .i64 T.fa, .int .i64 T.fe] : Array Value).toList).heap[g]? = some (.cells ↑m 38 (0, 0)) ∧ (World.setCells wy (w.heap.size + 1) 0 (#[.int .i64 T.fa, .int .i64 T.fe] : Array Value).toList).heap[G]? = some (.cells #[.int .i64 T.fa, .int .i64 T.fe] 69 (0, 0)) := ⟨jX (by omega) _ 0 _ hC1.1, jX (by omega) _ 0 _ hC1.2⟩
  generalize World.setCells wy (w.heap.size + 1) 0 (#[.int .i64 T.fa, .int .i64 T.fe] : Array Value).toList = wz at hC2 hM1 ⊢
  refine hK.out _ _ hC2 trivial ?_
  clear hK K hcl hC1 hC2 hf1
  intro hcl
  refine wpM_done (by kernel_rfl) ?_
  clear hcl hE hXz
  (try simp only [Act.put, List.getElem_toArray, List.getElem_cons_zero, List.getElem_cons_succ])
  go_wp2_with fail
  exact bodyPost_ret (v := .tuple #[.agg ↑m, .agg #[.int .i64 T.fa, .int .i64 T.fe]]) (results_cells2 2 3 38 69 (by kernel_rfl) (w.heap.size) (w.heap.size + 1) rfl rfl (run_loadVar_row _ _ _ _ _ _ _ hM1.out.rb Tryz.underlying38 rfl (by kernel_rfl)) (run_loadVar_row _ _ _ _ _ _ _ hM1.out.fb Tryz.underlying69 rfl (by kernel_rfl))) rfl
   ⟨m, by rw [hwm.out], hval, hM1.out.ow, hM1.out.bel⟩
 ·
  have hd : (T.fe != 0) = true := by simp [hf]
  have hw2 := hwm.out
  rw [if_pos hf] at hw2
  replace hwm := jH hw2
  clear hw2
  have hval : zMm.val = (readWM S0).1 := by rw [hwm.out]; rfl
  go_upto_region 23 with (fail)
  have hXz := hXfH.out.below (Below.refl _ _).drew
  have hfin := jH (hXz.fin zMm (zCm_own _ _ _) T.fa T.fe)
  refine jW (fun w' => w'.heap[g]? = some (.cells ↑m 38 (0, 0)) ∧ w'.heap[G]? = some (.cells #[.int .i64 T.fa, .int .i64 T.fe] 69 (0, 0))) (fun _ => True) 99 (by kernel_rfl) ⟨hXz.tb, hFcH.out⟩ trivial ?_
  intro hcl
  have hC : yk.drew.heap[g]? = some (.cells ↑m 38 (0, 0)) ∧ yk.drew.heap[G]? = some (.cells #[.int .i64 T.fa, .int .i64 T.fe] 69 (0, 0)) := ⟨hXz.tb, hFcH.out⟩
  have hE := trivial
  refine wpM_take (i := 0) (v := .agg ↑zMm) rfl (by kernel_rfl) (by kernel_rfl) (by kernel_rfl) (by decide) (fun _ _ _ h => h) hcl hC (fun _ => hE) (yields_build (by kernel_rfl) _ _ rfl (by kernel_rfl)) ?_
  clear hcl
  intro hcl
  (try simp only [Act.put, List.getElem_toArray, List.getElem_cons_zero, List.setIfInBounds_toArray, List.set_cons_zero, List.set_cons_succ])
  refine wpM_take (i := 1) (v := .agg #[.int .i64 T.fa, .int .i64 T.fe]) rfl (by kernel_rfl) (by kernel_rfl) (by kernel_rfl) (by decide) (fun _ _ _ h => h) hcl hC (fun _ => hE) (yields_row (by kernel_rfl) rfl (G) rfl 69 #[.int .i64 T.fa, .int .i64 T.fe] (0, 0) _ (fun w' h => h.2) Tryz.underlying69 rfl (by kernel_rfl)) ?_
  clear hcl
  intro hcl
  (try simp only [Act.put, nA, nB, nC, nD, nE, nF])
  refine jK (i := 2) rfl (by kernel_rfl) hcl (fun K hK => ?_)
  rw [if_pos (by kernel_rfl)]
  refine wp_store_mid _ _ _ rfl (w.heap.size) 0 ↑zMm rfl rfl (there_all hXz.rb _ (by simp)) (by kernel_rfl) (by simp [Value.oneCell']) ?_
  have hC1 : (World.setCells yk.drew w.heap.size 0 (zMm : Array Value).toList).heap[g]? = some (.cells ↑m 38 (0, 0)) ∧ (World.setCells yk.drew w.heap.size 0 (zMm : Array Value).toList).heap[G]? = some (.cells #[.int .i64 T.fa, .int .i64 T.fe] 69 (0, 0)) := ⟨jX (by omega) _ 0 _ hC.1, jX (by omega) _ 0 _ hC.2⟩
  have hf1 : (World.setCells yk.drew w.heap.size 0 (zMm : Array Value).toList).heap[w.heap.size + 1]? = some (.cells #[.int .i64 0, .int .i64 0] 69 (0, 0)) := jX (by omega) _ 0 _ hXz.fb
  have hM1 := jH hfin.out.1
  generalize World.setCells yk.drew w.heap.size 0 (zMm : Array Value).toList = wy at hC1 hf1 hM1 ⊢
  refine hK.out _ _ hC1 trivial ?_
  clear hK K hcl hC hfin
  intro hcl
  (try simp only [Act.put, List.getElem_toArray, List.getElem_cons_zero, List.getElem_cons_succ])
  refine jK (i := 3) rfl (by kernel_rfl) hcl (fun K hK => ?_)
  rw [if_pos (by kernel_rfl)]
  refine wp_store_mid _ _ _ rfl (w.heap.size + 1) 0 #[.int .i64 T.fa, .int .i64 T.fe] rfl rfl (there_all hf1 _ (by simp)) (by kernel_rfl) (by simp [Value.oneCell']) ?_
  have hC2 : (World.setCells wy (w.heap.size + 1) 0 (#[.int .i64 T.fa, .int .i64 T.fe] : Array Value).toList).heap[g]? = some (.cells ↑m 38 (0, 0)) ∧ (World.setCells wy (w.heap.size + 1) 0 (#[.int .i64 T.fa, .int .i64 T.fe] : Array Value).toList).heap[G]? = some (.cells #[.int .i64 T.fa, .int .i64 T.fe] 69 (0, 0)) := ⟨jX (by omega) _ 0 _ hC1.1, jX (by omega) _ 0 _ hC1.2⟩
  generalize World.setCells wy (w.heap.size + 1) 0 (#[.int .i64 T.fa, .int .i64 T.fe] : Array Value).toList = wz at hC2 hM1 ⊢
  refine hK.out _ _ hC2 trivial ?_
  clear hK K hcl hC1 hC2 hf1
  intro hcl
  refine wpM_done (by kernel_rfl) ?_
  clear hcl hE hXz
  (try simp only [Act.put, List.getElem_toArray, List.getElem_cons_zero, List.getElem_cons_succ])
  go_wp2_with fail
  exact bodyPost_ret (v := .tuple #[.agg ↑zMm, .agg #[.int .i64 T.fa, .int .i64 T.fe]]) (results_cells2 2 3 38 69 (by kernel_rfl) (w.heap.size) (w.heap.size + 1) rfl rfl (run_loadVar_row _ _ _ _ _ _ _ hM1.out.rb Tryz.underlying38 rfl (by kernel_rfl)) (run_loadVar_row _ _ _ _ _ _ _ hM1.out.fb Tryz.underlying69 rfl (by kernel_rfl))) rfl
   ⟨zMm, by rw [hwm.out], hval, hM1.out.ow, hM1.out.bel⟩
end Go.Proofs.YtfhandglpjnonaaGreatDoor
