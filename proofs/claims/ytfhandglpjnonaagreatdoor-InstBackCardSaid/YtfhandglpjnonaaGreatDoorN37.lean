/- The readers' tags, both; the document's texts. Readers of numbers with a sign, of stamps, of puts. Walks of readers that fill a struct: the two blocks they make. The readers' End; ballot.Read and the document's. The document's End; its Read of ballots. -/
import Derived.Test.YtfhandglpjnonaaGreatDoorN36
import Derived.Test.YtfhandglpjnonaaGreatDoorN30
import Derived.Test.YtfhandglpjnonaaGreatDoorN29
set_option maxRecDepth 100000
set_option maxHeartbeats 16000000
namespace Go.Proofs.YtfhandglpjnonaaGreatDoor
open Go.RowKit
theorem ptag_any (B : Nat) (S : Rs) (w : World) (h : RdrP w B S) (hS : S.wf) :
 Calls Tryz.prog 155 #[.pointer (some ⟨B, 0, none⟩)] w
  fun r w' => r = .returned (.agg #[.int .i64 (readT S).1.1.1, .int .u32 (readT S).1.1.2, .int .i64 (readT S).1.2]) ∧ RdrP w' B (readT S).2 ∧ w.grownBy w' (some B) := by
 have hw0 := readI_wf hS
 have c1 := pread_any B S (w.alloc (.cells #[.int .i64 0, .int .u32 0, .int .i64 0] 131)) (h.below ((Below.refl _ w).alloc (Nat.le_refl _) _)) hS
 have c2 := fun w h => pint_any 15 B (by omega) (readI S).2 w h hw0.1
 have hle2 := yA 15 (readI S).2
 obtain ⟨x, T, hT⟩ : ∃ x T, readT S = (x, T) := ⟨_, _, rfl⟩
 rw [hT]
 unfold readT at hT
 dsimp only at hT
 generalize readI S = p at *
 obtain ⟨i, S1⟩ := p
 dsimp only at *
 generalize intS 15 S1 = q at *
 obtain ⟨s, S2⟩ := q
 dsimp only at *
 have hBlt := h.lt
 have c1 := jH c1
 have c2 := jH c2
 have s0 : (0 : Int) ≤ (s : Int) := by omega
 have s1 : (s : Int) ≤ 15 := by omega
 have hTH := jH hT
 clear hw0 hT hS h hle2
 go_enter Tryz.func155, Tryz.ntmps155
 go_wp2_with fail
 refine c1.out.mono ?_
 rintro e w1 ⟨rfl, hR1, hg1⟩
 have hz1 := hg1.size
 simp only [World.size_alloc] at hz1
 have hbR1 : w1.heap[w.heap.size]? = some (.cells #[.int .i64 0, .int .u32 0, .int .i64 0] 131 (0, 0)) := (hg1.block _ (by simp) (by simp; omega)).trans (jT _ _ rfl)
 have hlR1 := jB hbR1
 go_wp2_with fail
 refine (c2.out _ (hR1.below ((Below.refl _ w1).alloc (Nat.le_refl _) _))).mono ?_
 rintro e w2 ⟨rfl, hR2, hg2⟩
 have hz2 := hg2.size
 simp only [World.size_alloc] at hz2
 have hbR2 : w2.heap[w.heap.size]? = some (.cells #[.int .i64 0, .int .u32 0, .int .i64 0] 131 (0, 0)) := (hg2.block _ (by simp; omega) (by simp; omega)).trans (yE _ hlR1 hbR1)
 have hbI2 : w2.heap[w1.heap.size]? = some (.cells #[.int .i64 i.1, .int .u32 i.2, .int .i64 0] 131 (0, 0)) := (hg2.block _ (by simp) (by simp; omega)).trans (jT _ _ rfl)
 have hlR2 := jB hbR2
 have hlI2 := jB hbI2
 have i0 := jA hbI2 0
 have i1 := jA hbI2 1
 have i2 := jA hbI2 2
 simp at i0 i1 i2
 have hfI := jE hbI2
 have hgB : w.grownBy w2 (some B) := ((World.grownBy_alloc w _ _).trans hg1).trans ((World.grownBy_alloc w1 _ _).trans hg2)
 have hne : w1.heap.size ≠ w.heap.size := by omega
 have hneB : w1.heap.size ≠ B := by omega
 have hneB2 : B ≠ w1.heap.size := by omega
 have hbRs : ∀ u, (w2.setCell ⟨w1.heap.size, 2, none⟩ u).heap[w.heap.size]? = some (.cells #[.int .i64 0, .int .u32 0, .int .i64 0] 131 (0, 0)) := fun u => yG (by dsimp only; omega) hbR2
 have hR4 := jH (fun u a b c => (((hR2.set hbI2 (by decide) (by decide) 2 u).set (hbRs u) (by decide) (by decide) 0 a).set (jO (hbRs u) 0 a) (by decide) (by decide) 1 b).set (jO (jO (hbRs u) 0 a) 1 b) (by decide) (by decide) 2 c)
 have r0 := jA hbR2 0
 have r1 := jA hbR2 1
 have r2 := jA hbR2 2
 simp at r0 r1 r2
 have hfR := jE hbR2
 clear hg1 hg2 hR1 hbR1 hbRs hbR2 hbI2 c1 c2
 by_cases hf : S2.fe = 0
 ·
  have hTT := hTH.out
  rw [if_neg (by simp [hf])] at hTT
  obtain ⟨rfl, rfl⟩ := Prod.mk.inj hTT
  clear hTT hTH
  obtain ⟨ev, hbz, hez⟩ := hR2
  obtain ⟨_, rfl⟩ := hez.resolve_right (fun h9 => absurd (by assumption) h9.1)
  have hltz := jB hbz
  have z0 := jA hbz 0
  have z1 := jA hbz 1
  have z2 := jA hbz 2
  simp at z0 z1 z2
  clear hbz hez
  go_wp2
  refine bodyPost_ret (v := .agg #[.int .i64 i.1, .int .u32 i.2, .int .i64 (s : Int)]) (by simp [results, Tryz.results155, go_sem, r0, r1, r2]) rfl ⟨rfl, hR4.out _ _ _ _, jS (jS (jS (jS hgB (by omega) 2 _) (Nat.le_refl _) 0 _) (Nat.le_refl _) 1 _) (Nat.le_refl _) 2 _⟩
 ·
  have hTT := hTH.out
  rw [if_pos hf] at hTT
  obtain ⟨rfl, rfl⟩ := Prod.mk.inj hTT
  clear hTT hTH
  obtain ⟨ev, hbz, hez⟩ := hR2
  obtain ⟨hne, Fz, rfl, hFz⟩ : S2.fe ≠ 0 ∧ ∃ F, ev = .iface 125 (.pointer (some ⟨F, 0, none⟩)) ∧ _ := hez.resolve_left (fun h9 => absurd h9.1 (by assumption))
  have hltz := jB hbz
  have z0 := jA hbz 0
  have z1 := jA hbz 1
  have z2 := jA hbz 2
  simp at z0 z1 z2
  clear hbz hFz hne hez
  go_wp2
  refine bodyPost_ret (v := .agg #[.int .i64 0, .int .u32 0, .int .i64 0]) (by simp [results, Tryz.results155, go_sem, r0, r1, r2]) rfl ⟨rfl, hR4.out _ _ _ _, jS (jS (jS (jS hgB (by omega) 2 _) (Nat.le_refl _) 0 _) (Nat.le_refl _) 1 _) (Nat.le_refl _) 2 _⟩
theorem pnum_any (B : Nat) (S : Rs) (w : World) (h : RdrP w B S) (hS : S.wf) :
 Calls Tryz.prog 170 #[.pointer (some ⟨B, 0, none⟩)] w
  fun r w' => r = .returned (.int .u64 ((numS S).1 : Int)) ∧ RdrP w' B (numS S).2 ∧ w.grownBy w' (some B) := by
 have hn := next_any 175 #[] (fun _ => 0) (enters_of Tryz.func175 (by kernel_rfl) rfl) (fun v hv w => every_any v w) B S w h hS
 change Calls _ _ _ _ (fun r w' => r = .returned (.int .u64 ((numS S).1 : Int)) ∧ RdrP w' B (numS S).2 ∧ w.grownBy w' (some B)) at hn
 generalize numS S = r at hn ⊢
 obtain ⟨v, S'⟩ := r
 dsimp only at hn
 have hn := jH hn
 clear h hS
 go_enter Tryz.func170, Tryz.ntmps170
 go_wp2_with fail
 refine hn.out.mono ?_
 rintro e w1 ⟨rfl, hR, hg⟩
 go_wp2
 go_ret
 exact ⟨rfl, hR, hg⟩
theorem readZ_wf {S : Rs} (h : S.wf) : (readZ S).2.wf := Rs.wf_next h _
theorem psig_any (B : Nat) (S : Rs) (w : World) (h : RdrP w B S) (hS : S.wf) :
 Calls Tryz.prog 154 #[.pointer (some ⟨B, 0, none⟩)] w
  fun r w' => r = .returned (.int .i64 (readZ S).1) ∧ RdrP w' B (readZ S).2 ∧ w.grownBy w' (some B) := by
 have hn := pnum_any B S w h hS
 have hlt := numS_lt S
 unfold readZ
 generalize numS S = r at hn hlt ⊢
 obtain ⟨n, S'⟩ := r
 dsimp only at hn hlt ⊢
 have hn := jH hn
 clear h hS
 have n0 : (0 : Int) ≤ (n : Int) := by omega
 have n1 : (n : Int) < 18446744073709551616 := by omega
 have ha := Lib.u64_and1 (n : Int) n0 n1
 by_cases ho : n % 2 = 1
 ·
  rw [if_pos ho]
  rw [show (n : Int) % 2 = 1 by omega] at ha
  have hx : Hid (bits .xor .i64 ((n : Int) / 2) (-1) = -((n / 2 : Nat) : Int) - 1) := jH (by rw [xor_ones_i64 (by omega) (by omega)]; omega)
  clear hlt
  have hoH := jH ho
  clear ho
  go_enter Tryz.func154, Tryz.ntmps154
  go_wp2_with fail
  refine hn.out.mono ?_
  rintro e w1 ⟨rfl, hR, hg⟩
  go_wp2
  go_ret
  exact ⟨jJ hx.out, hR, hg⟩
 ·
  rw [if_neg ho]
  rw [show (n : Int) % 2 = 0 by omega] at ha
  have hx : Hid (bits .xor .i64 ((n : Int) / 2) 0 = ((n / 2 : Nat) : Int)) := jH (by rw [xor_zero64 (by omega) (by omega)]; omega)
  clear hlt
  have hoH := jH ho
  clear ho
  go_enter Tryz.func154, Tryz.ntmps154
  go_wp2_with fail
  refine hn.out.mono ?_
  rintro e w1 ⟨rfl, hR, hg⟩
  go_wp2
  go_ret
  exact ⟨jJ hx.out, hR, hg⟩
theorem plread_any (B : Nat) (S : Rs) (w : World) (h : RdrP w B S) (hS : S.wf) :
 Calls Tryz.prog 156 #[.pointer (some ⟨B, 0, none⟩)] w
  fun r w' => r = .returned (.agg #[.int .u32 (readSt' S).1.1, .int .i64 (readSt' S).1.2]) ∧ RdrP w' B (readSt' S).2 ∧ w.grownBy w' (some B) := by
 have hw1 := Rs.wf_next hS (fun v => if 1048576 < v then 2 else 0)
 have c1 := pint_any 1048576 B (by omega) S (w.alloc (.cells #[.int .u32 0, .int .i64 0] 133)) (h.below ((Below.refl _ w).alloc (Nat.le_refl _) _)) hS
 have c2 := fun w h => pint_any 7 B (by omega) (intS 1048576 S).2 w h hw1
 have hle1 := yA 1048576 S
 have hle2 := yA 7 (intS 1048576 S).2
 obtain ⟨x, T, hT⟩ : ∃ x T, readSt' S = (x, T) := ⟨_, _, rfl⟩
 rw [hT]
 unfold readSt' at hT
 dsimp only at hT
 generalize intS 1048576 S = p at *
 obtain ⟨i, S1⟩ := p
 dsimp only at *
 generalize intS 7 S1 = q at *
 obtain ⟨s, S2⟩ := q
 dsimp only at *
 have hBlt := h.lt
 have c1 := jH c1
 have c2 := jH c2
 have i0 : (0 : Int) ≤ (i : Int) := by omega
 have i1 : (i : Int) ≤ 1048576 := by omega
 have s0 : (0 : Int) ≤ (s : Int) := by omega
 have s1 : (s : Int) ≤ 7 := by omega
 have hTH := jH hT
 clear hw1 hT hS h hle1 hle2
 go_enter Tryz.func156, Tryz.ntmps156
 go_wp2_with fail
 refine c1.out.mono ?_
 rintro e w1 ⟨rfl, hR1, hg1⟩
 have hz1 := hg1.size
 simp only [World.size_alloc] at hz1
 have hbR1 : w1.heap[w.heap.size]? = some (.cells #[.int .u32 0, .int .i64 0] 133 (0, 0)) := (hg1.block _ (by simp) (by simp; omega)).trans (jT _ _ rfl)
 have hlR1 := jB hbR1
 go_wp2_with fail
 refine (c2.out _ hR1).mono ?_
 rintro e w2 ⟨rfl, hR2, hg2⟩
 have hz2 := hg2.size
 have hbR2 : w2.heap[w.heap.size]? = some (.cells #[.int .u32 0, .int .i64 0] 133 (0, 0)) := (hg2.block _ hlR1 (by simp; omega)).trans hbR1
 have hlR2 := jB hbR2
 have hgB : w.grownBy w2 (some B) := ((World.grownBy_alloc w _ _).trans hg1).trans hg2
 have hneB : B ≠ w.heap.size := by omega
 have hR4 := jH (fun c d => (hR2.set hbR2 (by decide) (by decide) 0 c).set (jO hbR2 0 c) (by decide) (by decide) 1 d)
 have r0 := jA hbR2 0
 have r1 := jA hbR2 1
 simp at r0 r1
 have hfR := jE hbR2
 clear hg1 hg2 hR1 hbR1 hbR2 c1 c2
 by_cases hf : S2.fe = 0
 ·
  have hTT := hTH.out
  rw [if_neg (by simp [hf])] at hTT
  obtain ⟨rfl, rfl⟩ := Prod.mk.inj hTT
  clear hTT hTH
  obtain ⟨ev, hbz, hez⟩ := hR2
  obtain ⟨_, rfl⟩ := hez.resolve_right (fun h9 => absurd (by assumption) h9.1)
  have hltz := jB hbz
  have z0 := jA hbz 0
  have z1 := jA hbz 1
  have z2 := jA hbz 2
  simp at z0 z1 z2
  clear hbz hez
  go_wp2
  refine bodyPost_ret (v := .agg #[.int .u32 (i : Int), .int .i64 (s : Int)]) (by simp [results, Tryz.results156, go_sem, r0, r1]) rfl ⟨rfl, hR4.out _ _, jS (jS hgB (Nat.le_refl _) 0 _) (Nat.le_refl _) 1 _⟩
 ·
  have hTT := hTH.out
  rw [if_pos hf] at hTT
  obtain ⟨rfl, rfl⟩ := Prod.mk.inj hTT
  clear hTT hTH
  obtain ⟨ev, hbz, hez⟩ := hR2
  obtain ⟨hne, Fz, rfl, hFz⟩ : S2.fe ≠ 0 ∧ ∃ F, ev = .iface 125 (.pointer (some ⟨F, 0, none⟩)) ∧ _ := hez.resolve_left (fun h9 => absurd h9.1 (by assumption))
  have hltz := jB hbz
  have z0 := jA hbz 0
  have z1 := jA hbz 1
  have z2 := jA hbz 2
  simp at z0 z1 z2
  clear hbz hFz hne hez
  go_wp2
  refine bodyPost_ret (v := .agg #[.int .u32 0, .int .i64 0]) (by simp [results, Tryz.results156, go_sem, r0, r1]) rfl ⟨rfl, hR4.out _ _, jS (jS hgB (Nat.le_refl _) 0 _) (Nat.le_refl _) 1 _⟩
structure AtP (t : TypeId) (w wx : World) (B g : Nat) (S : Rs) (z cs : Array Value) : Prop where
 rb : wx.heap[w.heap.size]? = some (.cells z t (0, 0))
 tb : wx.heap[g]? = some (.cells cs t (0, 0))
 rd : RdrP wx B S
 gr : w.grownBy wx (some B)
 lt : w.heap.size < g
 nB : B < w.heap.size
section
variable {t : TypeId} {w wx wy : World} {B g : Nat} {S S' : Rs} {z cs : Array Value}
theorem AtP.call (h : AtP t w wx B g S z cs) (hg : wx.grownBy wy (some B)) (hr : RdrP wy B S') : AtP t w wy B g S' z cs :=
 ⟨(hg.block _ (jB h.rb) (by have := h.nB; simp; omega)).trans h.rb, (hg.block _ (jB h.tb) (by have := h.nB; have := h.lt; simp; omega)).trans h.tb, hr, h.gr.trans hg, h.lt, h.nB⟩
theorem AtP.below (h : AtP t w wx B g S z cs) (hb : Below wx.heap.size wx wy) : AtP t w wy B g S z cs :=
 ⟨jD h.rb hb, jD h.tb hb, h.rd.below hb, h.gr.trans (yD hb _), h.lt, h.nB⟩
theorem AtP.set (h : AtP t w wx B g S z cs) (h1 : t ≠ 129) (h2 : t ≠ 176) (i : Nat) (u : Value) : AtP t w (wx.setCell ⟨g, i, none⟩ u) B g S z (cs.setIfInBounds i u) :=
 ⟨yG (by have := h.lt; dsimp only; omega) h.rb, jO h.tb i u, h.rd.set h.tb h1 h2 i u, jS h.gr (Nat.le_of_lt h.lt) i u, h.lt, h.nB⟩
end
def setsW (w : World) (g : Nat) : Nat → List Value → World
 | _, [] => w
 | i, u :: us => setsW (w.setCell ⟨g, i, none⟩ u) g (i + 1) us
section
variable {t : TypeId} {g : Nat}
theorem setsW_gr {w0 : World} {row : Option Nat} (hg : w0.heap.size ≤ g) : ∀ (us : List Value) (i : Nat) {w : World}, w0.grownBy w row → w0.grownBy (setsW w g i us) row
 | [], _, _, h => h
 | u :: us, i, _, h => setsW_gr hg us (i + 1) (jS h hg i u)
theorem setsW_P (h1 : t ≠ 129) (h2 : t ≠ 176) {B : Nat} {S : Rs} : ∀ (us : List Value) (i : Nat) {w : World} {cs : Array Value}, w.heap[g]? = some (.cells cs t (0, 0)) → RdrP w B S → RdrP (setsW w g i us) B S
 | [], _, _, _, _, h => h
 | u :: us, i, _, _, hb, h => setsW_P h1 h2 us (i + 1) (jO hb i u) (h.set hb h1 h2 i u)
theorem setsW_Ow {base : Nat} {e : TypeId} {sz : Nat} {v : Value} {xs : List (List Value)} (hne : e ≠ t) : ∀ (us : List Value) (i : Nat) {w : World} {cs : Array Value}, w.heap[g]? = some (.cells cs t (0, 0)) → Ow w base e sz v xs → Ow (setsW w g i us) base e sz v xs
 | [], _, _, _, _, h => h
 | u :: us, i, _, _, hb, h => setsW_Ow hne us (i + 1) (jO hb i u) (h.set_blk hb hne i u)
end
theorem endS_wf {S : Rs} (h : S.wf) : (endS S).wf := by
 unfold endS
 split
 ·
  exact Rs.wf_fail h 6
 ·
  exact h
def EndP (B : Nat) (S : Rs) (w : World) (e : Ending) (w' : World) : Prop := ∃ ev, e = .returned ev ∧ ErrP w' ev S.fa S.fe ∧ RdrP w' B S ∧ w.grownBy w' (some B)
theorem pend_any (B : Nat) (S : Rs) (w : World) (h : RdrP w B S) (hS : S.wf) :
 Calls Tryz.prog 65 #[.pointer (some ⟨B, 0, none⟩)] w fun e w' => EndP B (endS S) w e w' := by
 have cL := jH (pleft_any B S w h hS)
 have cF := jH (fun w' (h : RdrP w' B S) => pfail_any B S 6 w' h)
 have hH := jH h
 unfold endS
 by_cases hl : S.a < S.l.length
 ·
  rw [if_pos hl]
  have hd : decide ((0 : Int) < ((S.l.length - S.a : Nat) : Int)) = true := decide_eq_true (by omega)
  have hdi : (0 : Int) < ((S.l.length - S.a : Nat) : Int) := by omega
  generalize S.l.length - S.a = n at *
  clear h hS hl
  go_enter Tryz.func65, Tryz.ntmps65
  go_wp2_with fail
  refine cL.out.mono ?_
  rintro e w1 ⟨rfl, hb1⟩
  go_wp2_with fail
  refine (cF.out _ (hH.out.below hb1)).mono ?_
  rintro e w2 ⟨rfl, hR, hg⟩
  have hRH := jH hR
  obtain ⟨ev, hb, he⟩ := hR
  have hlt := jB hb
  have z2 := jA hb 2
  simp at z2
  clear hb
  have heH := jH he
  have hgr := (yD hb1 (some B)).trans hg
  clear he hg
  go_wp2
  go_ret
  exact ⟨ev, rfl, heH.out, hRH.out, hgr⟩
 ·
  rw [if_neg hl]
  have hd : decide ((0 : Int) < ((S.l.length - S.a : Nat) : Int)) = false := decide_eq_false (by omega)
  have hdi : ¬ (0 : Int) < ((S.l.length - S.a : Nat) : Int) := by omega
  generalize S.l.length - S.a = n at *
  clear h hS hl
  go_enter Tryz.func65, Tryz.ntmps65
  go_wp2_with fail
  refine cL.out.mono ?_
  rintro e w1 ⟨rfl, hb1⟩
  have hRH := jH (hH.out.below hb1)
  obtain ⟨ev, hb, he⟩ := hRH.out
  have hlt := jB hb
  have z2 := jA hb 2
  simp at z2
  clear hb
  have heH := jH he
  have hgr := yD hb1 (some B)
  clear he
  go_wp2
  go_ret
  exact ⟨ev, rfl, heH.out, hRH.out, hgr⟩
theorem pbalr_any (B : Nat) (S : Rs) (w : World) (h : RdrP w B S) (hS : S.wf) :
 Calls Tryz.prog 62 #[.pointer (some ⟨B, 0, none⟩)] w
  fun r w' => r = .returned (.agg #[.int .u32 (readBal S).1.1, .int .i64 (readBal S).1.2]) ∧ RdrP w' B (readBal S).2 ∧ w.grownBy w' (some B) := by
 have hw1 := Rs.wf_next hS (fun v => if 1048576 < v then 2 else 0)
 have c1 := pint_any 1048576 B (by omega) S (w.alloc (.cells #[.int .u32 0, .int .i64 0] 42)) (h.below ((Below.refl _ w).alloc (Nat.le_refl _) _)) hS
 have c2 := fun w h => pint_any 7 B (by omega) (intS 1048576 S).2 w h hw1
 have hle1 := yA 1048576 S
 have hle2 := yA 7 (intS 1048576 S).2
 obtain ⟨x, T, hT⟩ : ∃ x T, readBal S = (x, T) := ⟨_, _, rfl⟩
 rw [hT]
 unfold readBal at hT
 dsimp only at hT
 generalize intS 1048576 S = p at *
 obtain ⟨i, S1⟩ := p
 dsimp only at *
 generalize intS 7 S1 = q at *
 obtain ⟨s, S2⟩ := q
 dsimp only at *
 have hBlt := h.lt
 have c1 := jH c1
 have c2 := jH c2
 have i0 : (0 : Int) ≤ (i : Int) := by omega
 have i1 : (i : Int) ≤ 1048576 := by omega
 have wi : IntKind.u32.wrap (i : Int) = i := IntWalk.u32_in _ (by omega)
 have hTH := jH hT
 have ck := bchk_any (i : Int) (s : Int)
 clear hw1 hT hS h hle1 hle2
 go_enter Tryz.func62, Tryz.ntmps62
 go_wp2_with fail
 refine c1.out.mono ?_
 rintro e w1 ⟨rfl, hR1, hg1⟩
 have hz1 := hg1.size
 simp only [World.size_alloc] at hz1
 have hbR1 : w1.heap[w.heap.size]? = some (.cells #[.int .u32 0, .int .i64 0] 42 (0, 0)) := (hg1.block _ (by simp) (by simp; omega)).trans (jT _ _ rfl)
 have hlR1 := jB hbR1
 go_wp2_with fail
 refine (c2.out _ hR1).mono ?_
 rintro e w2 ⟨rfl, hR2, hg2⟩
 have hz2 := hg2.size
 have hbR2 : w2.heap[w.heap.size]? = some (.cells #[.int .u32 0, .int .i64 0] 42 (0, 0)) := (hg2.block _ hlR1 (by simp; omega)).trans hbR1
 have hgB : w.grownBy w2 (some B) := ((World.grownBy_alloc w _ _).trans hg1).trans hg2
 have hbel : Below w2.heap.size w2 (w2.alloc (.cells #[.int .u32 (i : Int), .int .i64 (s : Int)] 42)) := (Below.refl _ w2).alloc (Nat.le_refl _) _
 have hat : AtP 42 w (w2.alloc (.cells #[.int .u32 (i : Int), .int .i64 (s : Int)] 42)) B w2.heap.size S2 #[.int .u32 0, .int .i64 0] #[.int .u32 (i : Int), .int .i64 (s : Int)] :=
  ⟨jD hbR2 hbel, jT _ _ rfl, hR2.below hbel, hgB.trans (yD hbel _), by have := jB hbR2; omega, hBlt⟩
 go_upto_region 3 with (fail)
 generalize (w2.alloc (.cells #[.int .u32 (i : Int), .int .i64 (s : Int)] 42)) = w3 at *
 generalize w2.heap.size = g at *
 have hatH := jH hat
 have hR := hat.rd
 have t0 := jA hat.tb 0
 have t1 := jA hat.tb 1
 have r0 := jA hat.rb 0
 have r1 := jA hat.rb 1
 simp at t0 t1 r0 r1
 have hlg := jB hat.tb
 have hlr := jB hat.rb
 have hfr := jE hat.rb
 clear hat hbR2 hbR1 hR1 hR2 hg1 hg2 hgB hbel c1 c2 hz1 hz2 hlR1
 by_cases hf : S2.fe = 0
 ·
  generalize balE (i : Int) (s : Int) = p at ck hTH
  have ck := jH ck
  have cf := jH (fun w' h => pfail_any B S2 p w' h)
  have hTT := hTH.out
  by_cases hp : p = 0
  ·
   subst hp
   have hfs : failS S2 0 = S2 := by unfold failS; rw [if_neg (by simp)]
   rw [hfs, if_neg (by simp [hf])] at hTT
   obtain ⟨rfl, rfl⟩ := Prod.mk.inj hTT
   have hfsH := jH hfs
   clear hTT hfs hTH
   obtain ⟨ev, hbz, hez⟩ := hR
   obtain ⟨_, rfl⟩ := hez.resolve_right (fun h9 => absurd (by assumption) h9.1)
   have hltz := jB hbz
   have z0 := jA hbz 0
   have z1 := jA hbz 1
   have z2 := jA hbz 2
   simp at z0 z1 z2
   clear hbz hez
   go_wp2_with fail
   refine (perr_any _ _ _ hltz z2).mono ?_
   rintro e w' ⟨rfl, rfl⟩
   go_wp2_with fail
   refine (ck.out _).mono ?_
   rintro e w4 ⟨rfl, hv4⟩
   have hat4 := hatH.out.below hv4
   clear z0 z1 z2 hltz t0 t1 r0 r1 hlg hlr hfr
   go_wp2_with fail
   refine (cf.out _ hat4.rd).mono ?_
   rintro e w5 ⟨rfl, hR5, hg5⟩
   rw [hfsH.out] at hR5
   have hat5 := hat4.call hg5 hR5
   have t0 := jA hat5.tb 0
   have t1 := jA hat5.tb 1
   have r0 := jA hat5.rb 0
   have r1 := jA hat5.rb 1
   simp at t0 t1 r0 r1
   have hlg := jB hat5.tb
   have hlr := jB hat5.rb
   have hfr := jE hat5.rb
   have hat5H := jH hat5
   clear hat4 hat5 hg5 hv4
   obtain ⟨ev, hbz, hez⟩ := hR5
   obtain ⟨_, rfl⟩ := hez.resolve_right (fun h9 => absurd (by assumption) h9.1)
   have hltz := jB hbz
   have z0 := jA hbz 0
   have z1 := jA hbz 1
   have z2 := jA hbz 2
   simp at z0 z1 z2
   clear hbz hez
   go_wp2_with fail
   refine (perr_any _ _ _ hltz z2).mono ?_
   rintro e w' ⟨rfl, rfl⟩
   go_wp2
   exact bodyPost_ret (v := .agg #[.int .u32 (i : Int), .int .i64 (s : Int)]) (by simp [results, Tryz.results62, go_sem, r0, r1]) rfl ⟨rfl, setsW_P (t := 42) (by decide) (by decide) [.int .u32 (i : Int), .int .i64 (s : Int)] 0 hat5H.out.rb hat5H.out.rd, setsW_gr (Nat.le_refl _) [.int .u32 (i : Int), .int .i64 (s : Int)] 0 hat5H.out.gr⟩
  ·
   have hfe := failS_fe (S := S2) hp
   rw [if_pos hfe] at hTT
   obtain ⟨rfl, rfl⟩ := Prod.mk.inj hTT
   clear hTT hTH hp
   obtain ⟨ev, hbz, hez⟩ := hR
   obtain ⟨_, rfl⟩ := hez.resolve_right (fun h9 => absurd (by assumption) h9.1)
   have hltz := jB hbz
   have z0 := jA hbz 0
   have z1 := jA hbz 1
   have z2 := jA hbz 2
   simp at z0 z1 z2
   clear hbz hez
   go_wp2_with fail
   refine (perr_any _ _ _ hltz z2).mono ?_
   rintro e w' ⟨rfl, rfl⟩
   go_wp2_with fail
   refine (ck.out _).mono ?_
   rintro e w4 ⟨rfl, hv4⟩
   have hat4 := hatH.out.below hv4
   clear z0 z1 z2 hltz t0 t1 r0 r1 hlg hlr hfr
   go_wp2_with fail
   refine (cf.out _ hat4.rd).mono ?_
   rintro e w5 ⟨rfl, hR5, hg5⟩
   have hat5 := hat4.call hg5 hR5
   have r0 := jA hat5.rb 0
   have r1 := jA hat5.rb 1
   simp at r0 r1
   have hlr := jB hat5.rb
   have hfr := jE hat5.rb
   have hat5H := jH hat5
   clear hat4 hat5 hg5 hv4
   obtain ⟨ev, hbz, hez⟩ := hR5
   obtain ⟨hne, Fz, rfl, hFz⟩ : (failS S2 p).fe ≠ 0 ∧ ∃ F, ev = .iface 125 (.pointer (some ⟨F, 0, none⟩)) ∧ _ := hez.resolve_left (fun h9 => absurd h9.1 (by assumption))
   have hltz := jB hbz
   have z0 := jA hbz 0
   have z1 := jA hbz 1
   have z2 := jA hbz 2
   simp at z0 z1 z2
   clear hbz hFz hne hez
   go_wp2_with fail
   refine (perr_any _ _ _ hltz z2).mono ?_
   rintro e w' ⟨rfl, rfl⟩
   go_wp2
   exact bodyPost_ret (v := .agg #[.int .u32 0, .int .i64 0]) (by simp [results, Tryz.results62, go_sem, r0, r1]) rfl ⟨rfl, setsW_P (t := 42) (by decide) (by decide) [.int .u32 0, .int .i64 0] 0 hat5H.out.rb hat5H.out.rd, setsW_gr (Nat.le_refl _) [.int .u32 0, .int .i64 0] 0 hat5H.out.gr⟩
 ·
  have hTT := hTH.out
  have hfs : failS S2 (balE (i : Int) (s : Int)) = S2 := by unfold failS; rw [if_neg (fun h => hf h.1)]
  rw [hfs, if_pos hf] at hTT
  obtain ⟨rfl, rfl⟩ := Prod.mk.inj hTT
  clear hTT hTH hfs ck
  obtain ⟨ev, hbz, hez⟩ := hR
  obtain ⟨hne, Fz, rfl, hFz⟩ : S2.fe ≠ 0 ∧ ∃ F, ev = .iface 125 (.pointer (some ⟨F, 0, none⟩)) ∧ _ := hez.resolve_left (fun h9 => absurd h9.1 (by assumption))
  have hltz := jB hbz
  have z0 := jA hbz 0
  have z1 := jA hbz 1
  have z2 := jA hbz 2
  simp at z0 z1 z2
  clear hbz hFz hne hez
  go_wp2_with fail
  refine (perr_any _ _ _ hltz z2).mono ?_
  rintro e w' ⟨rfl, rfl⟩
  go_wp2_with fail
  refine (perr_any _ _ _ hltz z2).mono ?_
  rintro e w' ⟨rfl, rfl⟩
  go_wp2
  exact bodyPost_ret (v := .agg #[.int .u32 0, .int .i64 0]) (by simp [results, Tryz.results62, go_sem, r0, r1]) rfl ⟨rfl, setsW_P (t := 42) (by decide) (by decide) [.int .u32 0, .int .i64 0] 0 hatH.out.rb hatH.out.rd, setsW_gr (Nat.le_refl _) [.int .u32 0, .int .i64 0] 0 hatH.out.gr⟩
end Go.Proofs.YtfhandglpjnonaaGreatDoor
