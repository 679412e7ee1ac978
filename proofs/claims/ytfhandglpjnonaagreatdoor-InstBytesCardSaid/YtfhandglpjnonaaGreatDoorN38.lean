/- Walks of readers that fill a struct: the two blocks they make. The readers' End; ballot.Read and the document's. The document's End; its Read of ballots. -/
import Derived.Test.YtfhandglpjnonaaGreatDoorN28
import Derived.Test.YtfhandglpjnonaaGreatDoorN37
import Derived.Test.YtfhandglpjnonaaGreatDoorQx
import Derived.Test.YtfhandglpjnonaaGreatDoorN36
set_option maxRecDepth 100000
set_option maxHeartbeats 16000000
namespace Go.Proofs.YtfhandglpjnonaaGreatDoor
open Go.RowKit
structure AtP (t : TypeId) (w wx : World) (B g : Nat) (S : Rs) (z cs : Array Value) : Prop where
 rb : wx.heap[w.heap.size]? = some (.cells z t (0, 0))
 tb : wx.heap[g]? = some (.cells cs t (0, 0))
 rd : RdrP wx B S
 gr : w.grownBy wx (some B)
 lt : w.heap.size < g
 nB : B < w.heap.size
structure AtD (t : TypeId) (w wx : World) (B g : Nat) (S : Rs) (z cs : Array Value) : Prop where
 rb : wx.heap[w.heap.size]? = some (.cells z t (0, 0))
 tb : wx.heap[g]? = some (.cells cs t (0, 0))
 rd : RdrD wx B S
 gr : w.grownBy wx (some B)
 lt : w.heap.size < g
 nB : B < w.heap.size
section
variable {t : TypeId} {w wx wy : World} {B g : Nat} {S S' : Rs} {z cs : Array Value}
theorem AtP.call (h : AtP t w wx B g S z cs) (hg : wx.grownBy wy (some B)) (hr : RdrP wy B S') : AtP t w wy B g S' z cs :=
 ⟨(hg.block _ (jB h.rb) (by have := h.nB; simp; omega)).trans h.rb, (hg.block _ (jB h.tb) (by have := h.nB; have := h.lt; simp; omega)).trans h.tb, hr, h.gr.trans hg, h.lt, h.nB⟩
theorem AtP.below (h : AtP t w wx B g S z cs) (hb : Below wx.heap.size wx wy) : AtP t w wy B g S z cs :=
 ⟨jD h.rb hb, jD h.tb hb, h.rd.below hb, h.gr.trans (yD hb _), h.lt, h.nB⟩
theorem AtP.set (h : AtP t w wx B g S z cs) (h1 : t ≠ 129) (h2 : t ≠ 176) (i : Nat) (u : Value) : AtP t w (wx.setCell ⟨g, i, none⟩ u) B g S z (cs.setIfInBounds i u) :=
 ⟨yG (by have := h.lt; dsimp only; omega) h.rb, jO h.tb i u, h.rd.set h.tb h1 h2 i u, jS h.gr (Nat.le_of_lt h.lt) i u, h.lt, h.nB⟩
theorem AtD.call (h : AtD t w wx B g S z cs) (hg : wx.grownBy wy (some B)) (hr : RdrD wy B S') : AtD t w wy B g S' z cs :=
 ⟨(hg.block _ (jB h.rb) (by have := h.nB; simp; omega)).trans h.rb, (hg.block _ (jB h.tb) (by have := h.nB; have := h.lt; simp; omega)).trans h.tb, hr, h.gr.trans hg, h.lt, h.nB⟩
theorem AtD.below (h : AtD t w wx B g S z cs) (hb : Below wx.heap.size wx wy) : AtD t w wy B g S z cs :=
 ⟨jD h.rb hb, jD h.tb hb, h.rd.below hb, h.gr.trans (yD hb _), h.lt, h.nB⟩
theorem AtD.set (h : AtD t w wx B g S z cs) (h2 : t ≠ 115) (i : Nat) (u : Value) : AtD t w (wx.setCell ⟨g, i, none⟩ u) B g S z (cs.setIfInBounds i u) :=
 ⟨yG (by have := h.lt; dsimp only; omega) h.rb, jO h.tb i u, h.rd.set h.tb trivial h2 i u, jS h.gr (Nat.le_of_lt h.lt) i u, h.lt, h.nB⟩
end
def setsW (w : World) (g : Nat) : Nat → List Value → World
 | _, [] => w
 | i, u :: us => setsW (w.setCell ⟨g, i, none⟩ u) g (i + 1) us
section
variable {t : TypeId} {g : Nat}
theorem setsW_gr {w0 : World} {row : Option Nat} (hg : w0.heap.size ≤ g) : ∀ (us : List Value) (i : Nat) {w : World}, w0.grownBy w row → w0.grownBy (setsW w g i us) row
 | [], _, _, h => h
 | u :: us, i, _, h => setsW_gr hg us (i + 1) (jS h hg i u)
theorem setsW_P (h1 : t ≠ 129) (h2 : t ≠ 176) {B : Nat} {S : Rs} : ∀ (us : List Value) (i : Nat) {w : World} {cs : Array Value}, w.heap[g]? = some (.cells cs t (0, 0)) → RdrP w B S → RdrP (setsW w g i us) B S
 | [], _, _, _, _, h => h
 | u :: us, i, _, _, hb, h => setsW_P h1 h2 us (i + 1) (jO hb i u) (h.set hb h1 h2 i u)
theorem setsW_D (h2 : t ≠ 115) {B : Nat} {S : Rs} : ∀ (us : List Value) (i : Nat) {w : World} {cs : Array Value}, w.heap[g]? = some (.cells cs t (0, 0)) → RdrD w B S → RdrD (setsW w g i us) B S
 | [], _, _, _, _, h => h
 | u :: us, i, _, _, hb, h => setsW_D h2 us (i + 1) (jO hb i u) (h.set hb trivial h2 i u)
theorem setsW_Ow {base : Nat} {e : TypeId} {sz : Nat} {v : Value} {xs : List (List Value)} (hne : e ≠ t) : ∀ (us : List Value) (i : Nat) {w : World} {cs : Array Value}, w.heap[g]? = some (.cells cs t (0, 0)) → Ow w base e sz v xs → Ow (setsW w g i us) base e sz v xs
 | [], _, _, _, _, h => h
 | u :: us, i, _, _, hb, h => setsW_Ow hne us (i + 1) (jO hb i u) (h.set_blk hb hne i u)
end
theorem endS_wf {S : Rs} (h : S.wf) : (endS S).wf := by
 unfold endS
 split
 ·
  exact Rs.wf_fail h 6
 ·
  exact h
def EndP (B : Nat) (S : Rs) (w : World) (e : Ending) (w' : World) : Prop := ∃ ev, e = .returned ev ∧ ErrP w' ev S.fa S.fe ∧ RdrP w' B S ∧ w.grownBy w' (some B)
theorem pend_any (B : Nat) (S : Rs) (w : World) (h : RdrP w B S) (hS : S.wf) :
 Calls Tryz.prog 65 #[.pointer (some ⟨B, 0, none⟩)] w fun e w' => EndP B (endS S) w e w' := by
 have cL := jH (pleft_any B S w h hS)
 have cF := jH (fun w' (h : RdrP w' B S) => pfail_any B S 6 w' h)
 have hH := jH h
 unfold endS
 by_cases hl : S.a < S.l.length
 ·
  rw [if_pos hl]
  have hd : decide ((0 : Int) < ((S.l.length - S.a : Nat) : Int)) = true := decide_eq_true (by omega)
  have hdi : (0 : Int) < ((S.l.length - S.a : Nat) : Int) := by omega
  generalize S.l.length - S.a = n at *
  clear h hS hl
  go_enter Tryz.func65, Tryz.ntmps65
  go_wp2_with fail
  refine cL.out.mono ?_
  rintro e w1 ⟨rfl, hb1⟩
  go_wp2_with fail
  refine (cF.out _ (hH.out.below hb1)).mono ?_
  rintro e w2 ⟨rfl, hR, hg⟩
  have hRH := jH hR
  obtain ⟨ev, hb, he⟩ := hR
  have hlt := jB hb
  have z2 := jA hb 2
  simp at z2
  clear hb
  have heH := jH he
  have hgr := (yD hb1 (some B)).trans hg
  clear he hg
  go_wp2
  go_ret
  exact ⟨ev, rfl, heH.out, hRH.out, hgr⟩
 ·
  rw [if_neg hl]
  have hd : decide ((0 : Int) < ((S.l.length - S.a : Nat) : Int)) = false := decide_eq_false (by omega)
  have hdi : ¬ (0 : Int) < ((S.l.length - S.a : Nat) : Int) := by omega
  generalize S.l.length - S.a = n at *
  clear h hS hl
  go_enter Tryz.func65, Tryz.ntmps65
  go_wp2_with fail
  refine cL.out.mono ?_
  rintro e w1 ⟨rfl, hb1⟩
  have hRH := jH (hH.out.below hb1)
  obtain ⟨ev, hb, he⟩ := hRH.out
  have hlt := jB hb
  have z2 := jA hb 2
  simp at z2
  clear hb
  have heH := jH he
  have hgr := yD hb1 (some B)
  clear he
  go_wp2
  go_ret
  exact ⟨ev, rfl, heH.out, hRH.out, hgr⟩
theorem pbalr_any (B : Nat) (S : Rs) (w : World) (h : RdrP w B S) (hS : S.wf) :
 Calls Tryz.prog 62 #[.pointer (some ⟨B, 0, none⟩)] w
  fun r w' => r = .returned (.agg #[.int .u32 (readBal S).1.1, .int .i64 (readBal S).1.2]) ∧ RdrP w' B (readBal S).2 ∧ w.grownBy w' (some B) := by
 have hw1 := Rs.wf_next hS (fun v => if 1048576 < v then 2 else 0)
 have c1 := pint_any 1048576 B (by omega) S (w.alloc (.cells #[.int .u32 0, .int .i64 0] 42)) (h.below ((Below.refl _ w).alloc (Nat.le_refl _) _)) hS
 have c2 := fun w h => pint_any 7 B (by omega) (intS 1048576 S).2 w h hw1
 have hle1 := yA 1048576 S
 have hle2 := yA 7 (intS 1048576 S).2
 obtain ⟨x, T, hT⟩ : ∃ x T, readBal S = (x, T) := ⟨_, _, rfl⟩
 rw [hT]
 unfold readBal at hT
 dsimp only at hT
 generalize intS 1048576 S = p at *
 obtain ⟨i, S1⟩ := p
 dsimp only at *
 generalize intS 7 S1 = q at *
 obtain ⟨s, S2⟩ := q
 dsimp only at *
 have hBlt := h.lt
 have c1 := jH c1
 have c2 := jH c2
 have i0 : (0 : Int) ≤ (i : Int) := by omega
 have i1 : (i : Int) ≤ 1048576 := by omega
 have wi : IntKind.u32.wrap (i : Int) = i := IntWalk.u32_in _ (by omega)
 have hTH := jH hT
 have ck := bchk_any (i : Int) (s : Int)
 clear hw1 hT hS h hle1 hle2
 go_enter Tryz.func62, Tryz.ntmps62
 go_wp2_with fail
 refine c1.out.mono ?_
 rintro e w1 ⟨rfl, hR1, hg1⟩
 have hz1 := hg1.size
 simp only [World.size_alloc] at hz1
 have hbR1 : w1.heap[w.heap.size]? = some (.cells #[.int .u32 0, .int .i64 0] 42 (0, 0)) := (hg1.block _ (by simp) (by simp; omega)).trans (jT _ _ rfl)
 have hlR1 := jB hbR1
 go_wp2_with fail
 refine (c2.out _ hR1).mono ?_
 rintro e w2 ⟨rfl, hR2, hg2⟩
 have hz2 := hg2.size
 have hbR2 : w2.heap[w.heap.size]? = some (.cells #[.int .u32 0, .int .i64 0] 42 (0, 0)) := (hg2.block _ hlR1 (by simp; omega)).trans hbR1
 have hgB : w.grownBy w2 (some B) := ((World.grownBy_alloc w _ _).trans hg1).trans hg2
 have hbel : Below w2.heap.size w2 (w2.alloc (.cells #[.int .u32 (i : Int), .int .i64 (s : Int)] 42)) := (Below.refl _ w2).alloc (Nat.le_refl _) _
 have hat : AtP 42 w (w2.alloc (.cells #[.int .u32 (i : Int), .int .i64 (s : Int)] 42)) B w2.heap.size S2 #[.int .u32 0, .int .i64 0] #[.int .u32 (i : Int), .int .i64 (s : Int)] :=
  ⟨jD hbR2 hbel, jT _ _ rfl, hR2.below hbel, hgB.trans (yD hbel _), by have := jB hbR2; omega, hBlt⟩
 go_upto_region 3 with (fail)
 generalize (w2.alloc (.cells #[.int .u32 (i : Int), .int .i64 (s : Int)] 42)) = w3 at *
 generalize w2.heap.size = g at *
 have hatH := jH hat
 have hR := hat.rd
 have t0 := jA hat.tb 0
 have t1 := jA hat.tb 1
 have r0 := jA hat.rb 0
 have r1 := jA hat.rb 1
 simp at t0 t1 r0 r1
 have hlg := jB hat.tb
 have hlr := jB hat.rb
 have hfr := jE hat.rb
 clear hat hbR2 hbR1 hR1 hR2 hg1 hg2 hgB hbel c1 c2 hz1 hz2 hlR1
 by_cases hf : S2.fe = 0
 ·
  generalize balE (i : Int) (s : Int) = p at ck hTH
  have ck := jH ck
  have cf := jH (fun w' h => pfail_any B S2 p w' h)
  have hTT := hTH.out
  by_cases hp : p = 0
  ·
   subst hp
   have hfs : failS S2 0 = S2 := by unfold failS; rw [if_neg (by simp)]
   rw [hfs, if_neg (by simp [hf])] at hTT
   obtain ⟨rfl, rfl⟩ := Prod.mk.inj hTT
   have hfsH := jH hfs
   clear hTT hfs hTH
   obtain ⟨ev, hbz, hez⟩ := hR
   obtain ⟨_, rfl⟩ := hez.resolve_right (fun h9 => absurd (by assumption) h9.1)
   have hltz := jB hbz
   have z0 := jA hbz 0
   have z1 := jA hbz 1
   have z2 := jA hbz 2
   simp at z0 z1 z2
   clear hbz hez
   go_wp2_with fail
   refine (perr_any _ _ _ hltz z2).mono ?_
   rintro e w' ⟨rfl, rfl⟩
   go_wp2_with fail
   refine (ck.out _).mono ?_
   rintro e w4 ⟨rfl, hv4⟩
   have hat4 := hatH.out.below hv4
   clear z0 z1 z2 hltz t0 t1 r0 r1 hlg hlr hfr
   go_wp2_with fail
   refine (cf.out _ hat4.rd).mono ?_
   rintro e w5 ⟨rfl, hR5, hg5⟩
   rw [hfsH.out] at hR5
   have hat5 := hat4.call hg5 hR5
   have t0 := jA hat5.tb 0
   have t1 := jA hat5.tb 1
   have r0 := jA hat5.rb 0
   have r1 := jA hat5.rb 1
   simp at t0 t1 r0 r1
   have hlg := jB hat5.tb
   have hlr := jB hat5.rb
   have hfr := jE hat5.rb
   have hat5H := jH hat5
   clear hat4 hat5 hg5 hv4
   obtain ⟨ev, hbz, hez⟩ := hR5
   obtain ⟨_, rfl⟩ := hez.resolve_right (fun h9 => absurd (by assumption) h9.1)
   have hltz := jB hbz
   have z0 := jA hbz 0
   have z1 := jA hbz 1
   have z2 := jA hbz 2
   simp at z0 z1 z2
   clear hbz hez
   go_wp2_with fail
   refine (perr_any _ _ _ hltz z2).mono ?_
   rintro e w' ⟨rfl, rfl⟩
   go_wp2
   exact bodyPost_ret (v := .agg #[.int .u32 (i : Int), .int .i64 (s : Int)]) (by simp [results, Tryz.results62, go_sem, r0, r1]) rfl ⟨rfl, setsW_P (t := 42) (by decide) (by decide) [.int .u32 (i : Int), .int .i64 (s : Int)] 0 hat5H.out.rb hat5H.out.rd, setsW_gr (Nat.le_refl _) [.int .u32 (i : Int), .int .i64 (s : Int)] 0 hat5H.out.gr⟩
  ·
   have hfe := failS_fe (S := S2) hp
   rw [if_pos hfe] at hTT
   obtain ⟨rfl, rfl⟩ := Prod.mk.inj hTT
   clear hTT hTH hp
   obtain ⟨ev, hbz, hez⟩ := hR
   obtain ⟨_, rfl⟩ := hez.resolve_right (fun h9 => absurd (by assumption) h9.1)
   have hltz := jB hbz
   have z0 := jA hbz 0
   have z1 := jA hbz 1
   have z2 := jA hbz 2
   simp at z0 z1 z2
   clear hbz hez
   go_wp2_with fail
   refine (perr_any _ _ _ hltz z2).mono ?_
   rintro e w' ⟨rfl, rfl⟩
   go_wp2_with fail
   refine (ck.out _).mono ?_
   rintro e w4 ⟨rfl, hv4⟩
   have hat4 := hatH.out.below hv4
   clear z0 z1 z2 hltz t0 t1 r0 r1 hlg hlr hfr
   go_wp2_with fail
   refine (cf.out _ hat4.rd).mono ?_
   rintro e w5 ⟨rfl, hR5, hg5⟩
   have hat5 := hat4.call hg5 hR5
   have r0 := jA hat5.rb 0
   have r1 := jA hat5.rb 1
   simp at r0 r1
   have hlr := jB hat5.rb
   have hfr := jE hat5.rb
   have hat5H := jH hat5
   clear hat4 hat5 hg5 hv4
   obtain ⟨ev, hbz, hez⟩ := hR5
   obtain ⟨hne, Fz, rfl, hFz⟩ : (failS S2 p).fe ≠ 0 ∧ ∃ F, ev = .iface 125 (.pointer (some ⟨F, 0, none⟩)) ∧ _ := hez.resolve_left (fun h9 => absurd h9.1 (by assumption))
   have hltz := jB hbz
   have z0 := jA hbz 0
   have z1 := jA hbz 1
   have z2 := jA hbz 2
   simp at z0 z1 z2
   clear hbz hFz hne hez
   go_wp2_with fail
   refine (perr_any _ _ _ hltz z2).mono ?_
   rintro e w' ⟨rfl, rfl⟩
   go_wp2
   exact bodyPost_ret (v := .agg #[.int .u32 0, .int .i64 0]) (by simp [results, Tryz.results62, go_sem, r0, r1]) rfl ⟨rfl, setsW_P (t := 42) (by decide) (by decide) [.int .u32 0, .int .i64 0] 0 hat5H.out.rb hat5H.out.rd, setsW_gr (Nat.le_refl _) [.int .u32 0, .int .i64 0] 0 hat5H.out.gr⟩
 ·
  have hTT := hTH.out
  have hfs : failS S2 (balE (i : Int) (s : Int)) = S2 := by unfold failS; rw [if_neg (fun h => hf h.1)]
  rw [hfs, if_pos hf] at hTT
  obtain ⟨rfl, rfl⟩ := Prod.mk.inj hTT
  clear hTT hTH hfs ck
  obtain ⟨ev, hbz, hez⟩ := hR
  obtain ⟨hne, Fz, rfl, hFz⟩ : S2.fe ≠ 0 ∧ ∃ F, ev = .iface 125 (.pointer (some ⟨F, 0, none⟩)) ∧ _ := hez.resolve_left (fun h9 => absurd h9.1 (by assumption))
  have hltz := jB hbz
  have z0 := jA hbz 0
  have z1 := jA hbz 1
  have z2 := jA hbz 2
  simp at z0 z1 z2
  clear hbz hFz hne hez
  go_wp2_with fail
  refine (perr_any _ _ _ hltz z2).mono ?_
  rintro e w' ⟨rfl, rfl⟩
  go_wp2_with fail
  refine (perr_any _ _ _ hltz z2).mono ?_
  rintro e w' ⟨rfl, rfl⟩
  go_wp2
  exact bodyPost_ret (v := .agg #[.int .u32 0, .int .i64 0]) (by simp [results, Tryz.results62, go_sem, r0, r1]) rfl ⟨rfl, setsW_P (t := 42) (by decide) (by decide) [.int .u32 0, .int .i64 0] 0 hatH.out.rb hatH.out.rd, setsW_gr (Nat.le_refl _) [.int .u32 0, .int .i64 0] 0 hatH.out.gr⟩
theorem dend_any (B : Nat) (S : Rs) (w : World) (h : RdrD w B S) :
 Calls Tryz.prog 73 #[.pointer (some ⟨B, 0, none⟩)] w fun e w' => e = .returned (.agg #[.int .i64 (endS S).fa, .int .i64 (endS S).fe]) ∧ RdrD w' B (endS S) ∧ w.grownBy w' (some B) := by
 have hBlt := h.lt
 have cF := jH (fun w' (h : RdrD w' B S) => dfail_any B S 6 w' h)
 have hbel : Below w.heap.size w (w.alloc (.cells #[.int .i64 0, .int .i64 0] 69)) := (Below.refl _ w).alloc (Nat.le_refl _) _
 have hb0 : (w.alloc (.cells #[.int .i64 0, .int .i64 0] 69)).heap[w.heap.size]? = some (.cells #[.int .i64 0, .int .i64 0] 69 (0, 0)) := jT _ _ rfl
 have hR0 := h.below hbel
 have hg0 := yD hbel (some B)
 generalize hW : (w.alloc (.cells #[.int .i64 0, .int .i64 0] 69)) = W at hbel hb0 hR0 hg0
 have hbR := hR0
 unfold RdrD at hbR
 have hlt := jB hbR
 have q0 := jA hbR 0
 have q1 := jA hbR 1
 have q2 := jA hbR 2
 have q3 := jA hbR 3
 simp at q0 q1 q2 q3
 have hltr := jB hb0
 have hfr := jE hb0
 have hb0H := jH hb0
 have hR0H := jH hR0
 have hBlt2 := hBlt
 unfold endS
 by_cases hl : S.a < S.l.length
 ·
  rw [if_pos hl]
  have hd : decide ((S.a : Int) < (((bs S.l).size : Nat) : Int)) = true := decide_eq_true (by rw [jG]; omega)
  have hdi : (S.a : Int) < (((bs S.l).size : Nat) : Int) := by rw [jG]; omega
  have hdn : S.a < (bs S.l).size := by rw [jG]; omega
  clear h hl hb0 hbR hR0
  go_enter Tryz.func73, Tryz.ntmps73
  go_upto_region 1 with (fail)
  clear hW
  go_quiet (fail)
  go_wp2_with fail
  refine (cF.out _ (hR0H.out.below (below_drQ (Below.refl _ _) _))).mono ?_
  rintro e w2 ⟨rfl, hR, hg⟩
  have hb2 := (hg.block _ hltr (by simp; omega)).trans hb0H.out
  have hgr := hg0.trans ((yD (below_drQ (Below.refl _ _) _) (some B)).trans hg)
  have hRH := jH hR
  unfold RdrD at hR
  clear q0 q1 q2 q3 hlt hltr hfr
  have hlt := jB hR
  have q2 := jA hR 2
  have q3 := jA hR 3
  simp at q2 q3
  have hltr := jB hb2
  have hfr := jE hb2
  have r0 := jA hb2 0
  have r1 := jA hb2 1
  simp at r0 r1
  have hb2H := jH hb2
  clear hR hg hb2
  go_wp2
  exact bodyPost_ret (v := .agg #[.int .i64 (failS S 6).fa, .int .i64 (failS S 6).fe]) (by simp [results, Tryz.results73, go_sem, r0, r1]) rfl ⟨rfl, setsW_D (t := 69) (by decide) [.int .i64 (failS S 6).fa, .int .i64 (failS S 6).fe] 0 hb2H.out hRH.out, setsW_gr (Nat.le_refl _) [.int .i64 (failS S 6).fa, .int .i64 (failS S 6).fe] 0 hgr⟩
 ·
  rw [if_neg hl]
  have hd : decide ((S.a : Int) < (((bs S.l).size : Nat) : Int)) = false := decide_eq_false (by rw [jG]; omega)
  have hdi : ¬ (S.a : Int) < (((bs S.l).size : Nat) : Int) := by rw [jG]; omega
  have hdn : ¬ S.a < (bs S.l).size := by rw [jG]; omega
  have r0 := jA hb0 0
  have r1 := jA hb0 1
  simp at r0 r1
  clear h hl hb0 hbR hR0
  go_enter Tryz.func73, Tryz.ntmps73
  go_upto_region 1 with (fail)
  clear hW
  go_quiet (fail)
  go_wp2
  exact bodyPost_ret (v := .agg #[.int .i64 S.fa, .int .i64 S.fe]) (by simp [results, Tryz.results73, go_sem, r0, r1]) rfl ⟨rfl, setsW_D (t := 69) (by decide) [.int .i64 S.fa, .int .i64 S.fe] 0 hb0H.out (hR0H.out.below (below_drQ (Below.refl _ _) _)), setsW_gr (Nat.le_refl _) [.int .i64 S.fa, .int .i64 S.fe] 0 (hg0.trans (yD (below_drQ (Below.refl _ _) _) (some B)))⟩
theorem dbalr_any (B : Nat) (S : Rs) (w : World) (h : RdrD w B S) (hS : S.wf) :
 Calls Tryz.prog 70 #[.pointer (some ⟨B, 0, none⟩)] w
  fun r w' => r = .returned (.agg #[.int .u32 (readBal S).1.1, .int .i64 (readBal S).1.2]) ∧ RdrD w' B (readBal S).2 ∧ w.grownBy w' (some B) := by
 have hw1 := Rs.wf_next hS (fun v => if 1048576 < v then 2 else 0)
 have c1 := dint_any 1048576 B (by omega) S (w.alloc (.cells #[.int .u32 0, .int .i64 0] 26)) (h.below ((Below.refl _ w).alloc (Nat.le_refl _) _)) hS
 have c2 := fun w h => dint_any 7 B (by omega) (intS 1048576 S).2 w h hw1
 have hle1 := yA 1048576 S
 have hle2 := yA 7 (intS 1048576 S).2
 obtain ⟨x, T, hT⟩ : ∃ x T, readBal S = (x, T) := ⟨_, _, rfl⟩
 rw [hT]
 unfold readBal at hT
 dsimp only at hT
 generalize intS 1048576 S = p at *
 obtain ⟨i, S1⟩ := p
 dsimp only at *
 generalize intS 7 S1 = q at *
 obtain ⟨s, S2⟩ := q
 dsimp only at *
 have hBlt := h.lt
 have c1 := jH c1
 have c2 := jH c2
 have i0 : (0 : Int) ≤ (i : Int) := by omega
 have i1 : (i : Int) ≤ 1048576 := by omega
 have wi : IntKind.u32.wrap (i : Int) = i := IntWalk.u32_in _ (by omega)
 have hTH := jH hT
 have ck := rbchk_any (i : Int) (s : Int)
 clear hw1 hT hS h hle1 hle2
 go_enter Tryz.func70, Tryz.ntmps70
 go_wp2_with fail
 refine c1.out.mono ?_
 rintro e w1 ⟨rfl, hR1, hg1⟩
 have hz1 := hg1.size
 simp only [World.size_alloc] at hz1
 have hbR1 : w1.heap[w.heap.size]? = some (.cells #[.int .u32 0, .int .i64 0] 26 (0, 0)) := (hg1.block _ (by simp) (by simp; omega)).trans (jT _ _ rfl)
 have hlR1 := jB hbR1
 have hbel : Below w1.heap.size w1 (w1.alloc (.cells #[.int .u32 (i : Int), .int .i64 0] 26)) := (Below.refl _ w1).alloc (Nat.le_refl _) _
 have hat1 : AtD 26 w (w1.alloc (.cells #[.int .u32 (i : Int), .int .i64 0] 26)) B w1.heap.size S1 #[.int .u32 0, .int .i64 0] #[.int .u32 (i : Int), .int .i64 0] :=
  ⟨jD hbR1 hbel, jT _ _ rfl, hR1.below hbel, ((World.grownBy_alloc w _ _).trans hg1).trans (yD hbel _), by omega, hBlt⟩
 go_upto_region 2 with (fail)
 generalize (w1.alloc (.cells #[.int .u32 (i : Int), .int .i64 0] 26)) = w2 at *
 generalize w1.heap.size = g at *
 go_wp2_with fail
 refine (c2.out _ hat1.rd).mono ?_
 rintro e w3a ⟨rfl, hR3, hg3⟩
 have hat2 := hat1.call hg3 hR3
 have hlg := jB hat2.tb
 have hfg := jE hat2.tb
 have t1 := jA hat2.tb 1
 simp at t1
 have hat := hat2.set (by decide) 1 (.int .i64 (s : Int))
 simp only [List.setIfInBounds_toArray, List.set_cons_zero, List.set_cons_succ] at hat
 go_upto_region 3 with (fail)
 generalize (w3a.setCell ⟨g, 1, none⟩ (.int .i64 (s : Int))) = w3 at *
 clear hlg hfg t1 hat1 hat2 hbR1 hR1 hR3 hg1 hg3 hbel c1 c2 hz1 hlR1
 have hatH := jH hat
 have hR := hat.rd
 have t0 := jA hat.tb 0
 have t1 := jA hat.tb 1
 have r0 := jA hat.rb 0
 have r1 := jA hat.rb 1
 simp at t0 t1 r0 r1
 have hlg := jB hat.tb
 have hlr := jB hat.rb
 have hfr := jE hat.rb
 clear hat
 by_cases hf : S2.fe = 0
 ·
  generalize balE (i : Int) (s : Int) = p at ck hTH
  have ck := jH ck
  have cf := jH (fun w' h => dfail_any B S2 p w' h)
  have hTT := hTH.out
  by_cases hp : p = 0
  ·
   subst hp
   have hfs : failS S2 0 = S2 := by unfold failS; rw [if_neg (by simp)]
   rw [hfs, if_neg (by simp [hf])] at hTT
   obtain ⟨rfl, rfl⟩ := Prod.mk.inj hTT
   have hfsH := jH hfs
   clear hTT hfs hTH
   have hbz := hR
   unfold RdrD at hbz
   rw [(by assumption : S2.fe = 0)] at hbz
   have hltz := jB hbz
   have z0 := jA hbz 0
   have z1 := jA hbz 1
   have z2 := jA hbz 2
   have z3 := jA hbz 3
   simp at z0 z1 z2 z3
   clear hbz
   skip
   go_wp2_with fail
   refine (ck.out _).mono ?_
   rintro e w4 ⟨rfl, hv4⟩
   have hat4 := hatH.out.below hv4
   clear z0 z1 z2 hltz t0 t1 r0 r1 hlg hlr hfr
   go_wp2_with fail
   refine (cf.out _ hat4.rd).mono ?_
   rintro e w5 ⟨rfl, hR5, hg5⟩
   rw [hfsH.out] at hR5
   have hat5 := hat4.call hg5 hR5
   have t0 := jA hat5.tb 0
   have t1 := jA hat5.tb 1
   have r0 := jA hat5.rb 0
   have r1 := jA hat5.rb 1
   simp at t0 t1 r0 r1
   have hlg := jB hat5.tb
   have hlr := jB hat5.rb
   have hfr := jE hat5.rb
   have hat5H := jH hat5
   clear hat4 hat5 hg5 hv4
   have hbz := hR5
   unfold RdrD at hbz
   rw [(by assumption : S2.fe = 0)] at hbz
   have hltz := jB hbz
   have z0 := jA hbz 0
   have z1 := jA hbz 1
   have z2 := jA hbz 2
   have z3 := jA hbz 3
   simp at z0 z1 z2 z3
   clear hbz
   skip
   go_wp2
   exact bodyPost_ret (v := .agg #[.int .u32 (i : Int), .int .i64 (s : Int)]) (by simp [results, Tryz.results70, go_sem, r0, r1]) rfl ⟨rfl, setsW_D (t := 26) (by decide) [.int .u32 (i : Int), .int .i64 (s : Int)] 0 hat5H.out.rb hat5H.out.rd, setsW_gr (Nat.le_refl _) [.int .u32 (i : Int), .int .i64 (s : Int)] 0 hat5H.out.gr⟩
  ·
   have hfe := failS_fe (S := S2) hp
   rw [if_pos hfe] at hTT
   obtain ⟨rfl, rfl⟩ := Prod.mk.inj hTT
   clear hTT hTH hp
   have hbz := hR
   unfold RdrD at hbz
   rw [(by assumption : S2.fe = 0)] at hbz
   have hltz := jB hbz
   have z0 := jA hbz 0
   have z1 := jA hbz 1
   have z2 := jA hbz 2
   have z3 := jA hbz 3
   simp at z0 z1 z2 z3
   clear hbz
   skip
   go_wp2_with fail
   refine (ck.out _).mono ?_
   rintro e w4 ⟨rfl, hv4⟩
   have hat4 := hatH.out.below hv4
   clear z0 z1 z2 hltz t0 t1 r0 r1 hlg hlr hfr
   go_wp2_with fail
   refine (cf.out _ hat4.rd).mono ?_
   rintro e w5 ⟨rfl, hR5, hg5⟩
   have hat5 := hat4.call hg5 hR5
   have r0 := jA hat5.rb 0
   have r1 := jA hat5.rb 1
   simp at r0 r1
   have hlr := jB hat5.rb
   have hfr := jE hat5.rb
   have hat5H := jH hat5
   clear hat4 hat5 hg5 hv4
   have hbz := hR5
   unfold RdrD at hbz
   have hltz := jB hbz
   have z0 := jA hbz 0
   have z1 := jA hbz 1
   have z2 := jA hbz 2
   have z3 := jA hbz 3
   simp at z0 z1 z2 z3
   have hen : ((failS S2 p).fe != 0) = true := by rw [bne_iff_ne]; assumption
   clear hbz
   skip
   go_wp2
   exact bodyPost_ret (v := .agg #[.int .u32 0, .int .i64 0]) (by simp [results, Tryz.results70, go_sem, r0, r1]) rfl ⟨rfl, setsW_D (t := 26) (by decide) [.int .u32 0, .int .i64 0] 0 hat5H.out.rb hat5H.out.rd, setsW_gr (Nat.le_refl _) [.int .u32 0, .int .i64 0] 0 hat5H.out.gr⟩
 ·
  have hTT := hTH.out
  have hfs : failS S2 (balE (i : Int) (s : Int)) = S2 := by unfold failS; rw [if_neg (fun h => hf h.1)]
  rw [hfs, if_pos hf] at hTT
  obtain ⟨rfl, rfl⟩ := Prod.mk.inj hTT
  clear hTT hTH hfs ck
  have hbz := hR
  unfold RdrD at hbz
  have hltz := jB hbz
  have z0 := jA hbz 0
  have z1 := jA hbz 1
  have z2 := jA hbz 2
  have z3 := jA hbz 3
  simp at z0 z1 z2 z3
  have hen : (S2.fe != 0) = true := by rw [bne_iff_ne]; assumption
  clear hbz
  skip
  go_wp2
  exact bodyPost_ret (v := .agg #[.int .u32 0, .int .i64 0]) (by simp [results, Tryz.results70, go_sem, r0, r1]) rfl ⟨rfl, setsW_D (t := 26) (by decide) [.int .u32 0, .int .i64 0] 0 hatH.out.rb hatH.out.rd, setsW_gr (Nat.le_refl _) [.int .u32 0, .int .i64 0] 0 hatH.out.gr⟩
end Go.Proofs.YtfhandglpjnonaaGreatDoor
