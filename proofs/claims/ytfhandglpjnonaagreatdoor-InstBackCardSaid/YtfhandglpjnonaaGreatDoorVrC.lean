/- vec.Read: the next vector that a reader has. A cut as a reader has it (plain words; the walks of cut.Read follow in CtG). cut.Read. -/
import Derived.Test.YtfhandglpjnonaaGreatDoorM17
import Derived.Test.YtfhandglpjnonaaGreatDoorN27
namespace Go.Proofs.YtfhandglpjnonaaGreatDoor
open Go.RowKit
def jL : Nat → Rs → Vm × Rs
 | 0, S => (zV, S)
 | n + 1, S => ((jL n S).1.set (n : Int) ((intS 1048576 (jL n S).2).1 : Int), (intS 1048576 (jL n S).2).2)
def readV (S : Rs) : Vm × Rs :=
 let p := intS 8 S
 let r := jL p.1 p.2
 let T := if 0 < p.1 ∧ r.1.get ((p.1 : Int) - 1) = 0 then failS r.2 3 else r.2
 if T.fe ≠ 0 then (zV, T) else (r.1, T)
theorem readVs_wf {S : Rs} (h : S.wf) : ∀ n, (jL n S).2.wf ∧ (jL n S).1.wf
 | 0 => ⟨h, zV_wf⟩
 | n + 1 => by
  obtain ⟨h1, h2⟩ := readVs_wf h n
  have h3 := yA 1048576 (jL n S).2
  exact ⟨Rs.wf_next h1 _, Vm.set_wf h2 _ _ (by omega) (by omega)⟩
theorem readV_wf {S : Rs} (h : S.wf) : (readV S).2.wf ∧ (readV S).1.wf := by
 have h1 : (intS 8 S).2.wf := Rs.wf_next h _
 obtain ⟨h2, h3⟩ := readVs_wf h1 (intS 8 S).1
 unfold readV
 dsimp only
 have hT : (if 0 < (intS 8 S).1 ∧ (jL (intS 8 S).1 (intS 8 S).2).1.get (((intS 8 S).1 : Int) - 1) = 0 then failS (jL (intS 8 S).1 (intS 8 S).2).2 3 else (jL (intS 8 S).1 (intS 8 S).2).2).wf := by
  split
  ·
   exact Rs.wf_fail h2 3
  ·
   exact h2
 generalize (if 0 < (intS 8 S).1 ∧ (jL (intS 8 S).1 (intS 8 S).2).1.get (((intS 8 S).1 : Int) - 1) = 0 then failS (jL (intS 8 S).1 (intS 8 S).2).2 3 else (jL (intS 8 S).1 (intS 8 S).2).2) = T at hT ⊢
 split
 ·
  exact ⟨hT, zV_wf⟩
 ·
  exact ⟨hT, h3⟩
theorem get_set_self {v : Vm} {k : Nat} (hk : k < 8) (s : Int) : (v.set (k : Int) s).get (k : Int) = s := by
 obtain rfl | rfl | rfl | rfl | rfl | rfl | rfl | rfl : k = 0 ∨ k = 1 ∨ k = 2 ∨ k = 3 ∨ k = 4 ∨ k = 5 ∨ k = 6 ∨ k = 7 := by omega
 all_goals simp [Vm.set, Vm.get]
theorem RdrSet8P {w : World} {B g : Nat} {S : Rs} {a0 a1 a2 a3 a4 a5 a6 a7 : Value} (h : RdrP w B S) (hg : w.heap[g]? = some (.cells #[a0, a1, a2, a3, a4, a5, a6, a7] 28 (0, 0))) (x0 x1 x2 x3 x4 x5 x6 x7 : Value) :
 RdrP ((((((((w.setCell ⟨g, 0, none⟩ x0).setCell ⟨g, 1, none⟩ x1).setCell ⟨g, 2, none⟩ x2).setCell ⟨g, 3, none⟩ x3).setCell ⟨g, 4, none⟩ x4).setCell ⟨g, 5, none⟩ x5).setCell ⟨g, 6, none⟩ x6).setCell ⟨g, 7, none⟩ x7) B S := by
 have d1 := h.set hg (by decide) (by decide) 0 x0
 have h1 := jO hg 0 x0
 have d2 := d1.set h1 (by decide) (by decide) 1 x1
 have h2 := jO h1 1 x1
 have d3 := d2.set h2 (by decide) (by decide) 2 x2
 have h3 := jO h2 2 x2
 have d4 := d3.set h3 (by decide) (by decide) 3 x3
 have h4 := jO h3 3 x3
 have d5 := d4.set h4 (by decide) (by decide) 4 x4
 have h5 := jO h4 4 x4
 have d6 := d5.set h5 (by decide) (by decide) 5 x5
 have h6 := jO h5 5 x5
 have d7 := d6.set h6 (by decide) (by decide) 6 x6
 have h7 := jO h6 6 x6
 exact d7.set h7 (by decide) (by decide) 7 x7
set_option maxRecDepth 100000 in
set_option maxHeartbeats 1000000 in
theorem pvread_any (B : Nat) (S : Rs) (w : World) (h : RdrP w B S) (hS : S.wf) :
 Calls Tryz.prog 64 #[.pointer (some ⟨B, 0, none⟩)] w
  fun r w' => r = .returned (.agg #[.int .u32 (readV S).1.d0, .int .u32 (readV S).1.d1, .int .u32 (readV S).1.d2, .int .u32 (readV S).1.d3, .int .u32 (readV S).1.d4, .int .u32 (readV S).1.d5, .int .u32 (readV S).1.d6, .int .u32 (readV S).1.d7]) ∧ RdrP w' B (readV S).2 ∧ w.grownBy w' (some B) := by
 have hw1 : (intS 8 S).2.wf := Rs.wf_next hS _
 have c1 := fun w h => pint_any 8 B (by omega) S w h hS
 have hle1 := yA 8 S
 have her := @intS_err S 8
 obtain ⟨V, T, hT⟩ : ∃ V T, readV S = (V, T) := ⟨_, _, rfl⟩
 rw [hT]
 unfold readV at hT
 dsimp only at hT
 generalize intS 8 S = p at *
 obtain ⟨n, S1⟩ := p
 dsimp only at *
 have hBlt := h.lt
 have c1 := jH c1
 have hwH := jH hw1
 have hH := jH h
 have herH := jH her
 have hTH := jH hT
 have n0 : (0 : Int) ≤ (n : Int) := by omega
 have n8 : (n : Int) ≤ 8 := by omega
 clear hw1 hT hS h her
 go_enter Tryz.func64, Tryz.ntmps64
 go_wp2_with fail
 refine (c1.out _ (hH.out.below (((Below.refl _ w).alloc (Nat.le_refl _) _).alloc (by simp) _))).mono ?_
 rintro e w1 ⟨rfl, hR1, hg1⟩
 have hz1 := hg1.size
 simp only [World.size_alloc] at hz1
 have hbR : w1.heap[w.heap.size]? = some (.cells #[.int .u32 0, .int .u32 0, .int .u32 0, .int .u32 0, .int .u32 0, .int .u32 0, .int .u32 0, .int .u32 0] 28 (0, 0)) := (hg1.block _ (by simp; omega) (by simp; omega)).trans (yE _ (by simp) (jT _ _ rfl))
 have hbV : w1.heap[w.heap.size + 1]? = some (.cells ↑zV 28 (0, 0)) := (hg1.block _ (by simp) (by simp; omega)).trans (jT _ _ (by simp))
 have hgA : w.grownBy w1 (some B) := (gr_alloc (World.grownBy_alloc w _ _) _).trans hg1
 clear hg1 hz1
 go_wp2_with fail
 go_loopg [9] 9 (fun g i wr => ∃ (k : Nat), k ≤ n ∧ g = 9 - k ∧ i = .int .i64 (k : Int) ∧ wr.heap[w.heap.size]? = some (.cells #[.int .u32 0, .int .u32 0, .int .u32 0, .int .u32 0, .int .u32 0, .int .u32 0, .int .u32 0, .int .u32 0] 28 (0, 0)) ∧ wr.heap[w.heap.size + 1]? = some (.cells #[.int .u32 (jL k S1).1.d0, .int .u32 (jL k S1).1.d1, .int .u32 (jL k S1).1.d2, .int .u32 (jL k S1).1.d3, .int .u32 (jL k S1).1.d4, .int .u32 (jL k S1).1.d5, .int .u32 (jL k S1).1.d6, .int .u32 (jL k S1).1.d7] 28 (0, 0)) ∧ RdrP wr B (jL k S1).2 ∧ w.grownBy wr (some B))
 case atStart => exact ⟨0, Nat.zero_le _, rfl, rfl, hbR, hbV, hR1, hgA⟩
 case round =>
  clear hR1 hgA hbR hbV
  obtain ⟨k, hk, rfl, rfl, hbR, hbV, hR, hg⟩ := hrel
  have hz := hg.size
  by_cases hlt : k < n
  ·
   have hwk := (readVs_wf hwH.out k).1
   have c2 := jH (pint_any 1048576 B (by omega) _ wr hR hwk)
   have hle2 := yA 1048576 (jL k S1).2
   obtain ⟨s, S2, hu⟩ : ∃ s S2, intS 1048576 (jL k S1).2 = (s, S2) := ⟨_, _, rfl⟩
   have hst1 : (jL (k + 1) S1).1 = (jL k S1).1.set (k : Int) (s : Int) := by rw [jL, hu]
   have hst2 : (jL (k + 1) S1).2 = S2 := by rw [jL, hu]
   rw [hu] at c2 hle2
   dsimp only at hle2
   have h1H := jH hst1
   have h2H := jH hst2
   have hk8 : k < 8 := by omega
   have s0 : (0 : Int) ≤ (s : Int) := by omega
   have s1 : (s : Int) ≤ 1048576 := by omega
   have hlV := jB hbV
   have hlR := jB hbR
   have hbVk := jH hbV
   have hbRk := jH hbR
   have hBr := hR.lt
   have hk8i : (k : Int) < 8 := by omega
   clear hst1 hst2 hu hwk hbV hbR hR
   go_wp2_with fail
   refine c2.out.mono ?_
   rintro e w2 ⟨rfl, hR2, hg2⟩
   have hbV2 := (hg2.block _ hlV (by simp; omega)).trans hbVk.out
   have hbR2 := (hg2.block _ hlR (by simp; omega)).trans hbRk.out
   have hlV2 := jB hbV2
   have hfV := jE hbV2
   have hcv : w2.cell? ⟨w.heap.size + 1, k, none⟩ = some (.int .u32 ((jL k S1).1.get k)) := by rw [jA hbV2]; exact get_cells _ k hk8
   have hbV3 : (w2.setCell ⟨w.heap.size + 1, k, none⟩ (.int .u32 (s : Int))).heap[w.heap.size + 1]? = some (.cells #[.int .u32 ((jL k S1).1.set k s).d0, .int .u32 ((jL k S1).1.set k s).d1, .int .u32 ((jL k S1).1.set k s).d2, .int .u32 ((jL k S1).1.set k s).d3, .int .u32 ((jL k S1).1.set k s).d4, .int .u32 ((jL k S1).1.set k s).d5, .int .u32 ((jL k S1).1.set k s).d6, .int .u32 ((jL k S1).1.set k s).d7] 28 (0, 0)) := by rw [jO hbV2, set_cells _ k hk8]
   have hbR3 : (w2.setCell ⟨w.heap.size + 1, k, none⟩ (.int .u32 (s : Int))).heap[w.heap.size]? = some (.cells #[.int .u32 0, .int .u32 0, .int .u32 0, .int .u32 0, .int .u32 0, .int .u32 0, .int .u32 0, .int .u32 0] 28 (0, 0)) := yG (by dsimp only; omega) hbR2
   have hR3 := hR2.set hbV2 (by decide) (by decide) k (.int .u32 (s : Int))
   have hgr3 : w.grownBy (w2.setCell ⟨w.heap.size + 1, k, none⟩ (.int .u32 (s : Int))) (some B) := jS (hg.trans hg2) (by omega) k _
   clear hbV2 hbR2 hR2 hg2
   go_wp2
   go_roundg (9 - (k + 1))
   case measure => omega
   case rel => exact ⟨k + 1, by omega, rfl, by go_num, hbR3, by rw [h1H.out]; exact hbV3, by rw [h2H.out]; exact hR3, hgr3⟩
  ·
   obtain rfl : k = n := by omega
   have hTT := hTH.out
   cases k with
   | zero =>
    rw [show (if 0 < 0 ∧ (jL 0 S1).1.get (((0 : Nat) : Int) - 1) = 0 then failS (jL 0 S1).2 3 else (jL 0 S1).2) = (jL 0 S1).2 from if_neg (by simp)] at hTT
    have hRX := hR
    have hgX := hg
    by_cases hf : (jL 0 S1).2.fe = 0
    ·
     rw [if_neg (by simp [hf])] at hTT
     obtain ⟨rfl, rfl⟩ := Prod.mk.inj hTT
     clear hTT hR hg
     have r0 := jA hbR 0
     have r1 := jA hbR 1
     have r2 := jA hbR 2
     have r3 := jA hbR 3
     have r4 := jA hbR 4
     have r5 := jA hbR 5
     have r6 := jA hbR 6
     have r7 := jA hbR 7
     simp at r0 r1 r2 r3 r4 r5 r6 r7
     have hfR := jE hbR
     have hlR := jB hbR
     have hlV := jB hbV
     have q0 := jA hbV 0
     have q1 := jA hbV 1
     have q2 := jA hbV 2
     have q3 := jA hbV 3
     have q4 := jA hbV 4
     have q5 := jA hbV 5
     have q6 := jA hbV 6
     have q7 := jA hbV 7
     simp at q0 q1 q2 q3 q4 q5 q6 q7
     have hRz := hRX
     obtain ⟨ev, hbz, hez⟩ := hRz
     obtain ⟨_, rfl⟩ := hez.resolve_right (fun h9 => absurd (by assumption) h9.1)
     have hltz := jB hbz
     have z0 := jA hbz 0
     have z1 := jA hbz 1
     have z2 := jA hbz 2
     simp at z0 z1 z2
     clear hbz hez
     go_wp2
     refine bodyPost_ret (v := .agg #[.int .u32 (jL 0 S1).1.d0, .int .u32 (jL 0 S1).1.d1, .int .u32 (jL 0 S1).1.d2, .int .u32 (jL 0 S1).1.d3, .int .u32 (jL 0 S1).1.d4, .int .u32 (jL 0 S1).1.d5, .int .u32 (jL 0 S1).1.d6, .int .u32 (jL 0 S1).1.d7]) (by simp [results, Tryz.results64, go_sem, r0, r1, r2, r3, r4, r5, r6, r7]) rfl ⟨rfl, ?_, ?_⟩
     ·
      exact RdrSet8P hRX hbR _ _ _ _ _ _ _ _
     ·
      exact gr_set8 hgX (Nat.le_refl _) _ _ _ _ _ _ _ _
    ·
     rw [if_pos hf] at hTT
     obtain ⟨rfl, rfl⟩ := Prod.mk.inj hTT
     clear hTT hR hg
     have r0 := jA hbR 0
     have r1 := jA hbR 1
     have r2 := jA hbR 2
     have r3 := jA hbR 3
     have r4 := jA hbR 4
     have r5 := jA hbR 5
     have r6 := jA hbR 6
     have r7 := jA hbR 7
     simp at r0 r1 r2 r3 r4 r5 r6 r7
     have hfR := jE hbR
     have hlR := jB hbR
     have hRz := hRX
     obtain ⟨ev, hbz, hez⟩ := hRz
     obtain ⟨hne, Fz, rfl, hFz⟩ : (jL 0 S1).2.fe ≠ 0 ∧ ∃ F, ev = .iface 125 (.pointer (some ⟨F, 0, none⟩)) ∧ _ := hez.resolve_left (fun h9 => absurd h9.1 (by assumption))
     have hltz := jB hbz
     have z0 := jA hbz 0
     have z1 := jA hbz 1
     have z2 := jA hbz 2
     simp at z0 z1 z2
     clear hbz hFz hne hez
     go_wp2
     refine bodyPost_ret (v := .agg #[.int .u32 0, .int .u32 0, .int .u32 0, .int .u32 0, .int .u32 0, .int .u32 0, .int .u32 0, .int .u32 0]) (by simp [results, Tryz.results64, go_sem, r0, r1, r2, r3, r4, r5, r6, r7]) rfl ⟨rfl, ?_, ?_⟩
     ·
      exact RdrSet8P hRX hbR _ _ _ _ _ _ _ _
     ·
      exact gr_set8 hgX (Nat.le_refl _) _ _ _ _ _ _ _ _
   | succ j =>
    have hj8 : j < 8 := by omega
    have hlV := jB hbV
    have hcv : wr.cell? ⟨w.heap.size + 1, j, none⟩ = some (.int .u32 ((jL (j + 1) S1).1.get j)) := by rw [jA hbV]; exact get_cells _ j hj8
    have hjj : (((j + 1 : Nat) : Int) - 1) = (j : Int) := by omega
    rw [hjj] at hTT
    have hj0 : (0 : Int) ≤ (j : Int) := by omega
    have hj7 : (j : Int) < 8 := by omega
    clear hjj
    by_cases h0 : (jL (j + 1) S1).1.get (j : Int) = 0
    ·
     rw [show (if 0 < j + 1 ∧ (jL (j + 1) S1).1.get (j : Int) = 0 then failS (jL (j + 1) S1).2 3 else (jL (j + 1) S1).2) = failS (jL (j + 1) S1).2 3 from if_pos ⟨by omega, h0⟩] at hTT
     rw [h0] at hcv
     have hf := failS_fe (S := (jL (j + 1) S1).2) (e := 3) (by decide)
     rw [if_pos hf] at hTT
     obtain ⟨rfl, rfl⟩ := Prod.mk.inj hTT
     clear hTT h0
     go_wp2_with fail
     refine (pfail_any B _ 3 _ hR).mono ?_
     rintro e w3 ⟨rfl, hRX, hg3⟩
     have hgX := hg.trans hg3
     replace hbR := (hg3.block _ (jB hbR) (by simp; omega)).trans hbR
     clear hR hg hg3 hcv hbV
     have r0 := jA hbR 0
     have r1 := jA hbR 1
     have r2 := jA hbR 2
     have r3 := jA hbR 3
     have r4 := jA hbR 4
     have r5 := jA hbR 5
     have r6 := jA hbR 6
     have r7 := jA hbR 7
     simp at r0 r1 r2 r3 r4 r5 r6 r7
     have hfR := jE hbR
     have hlR := jB hbR
     have hRz := hRX
     obtain ⟨ev, hbz, hez⟩ := hRz
     obtain ⟨hne, Fz, rfl, hFz⟩ : (failS (jL (j + 1) S1).2 3).fe ≠ 0 ∧ ∃ F, ev = .iface 125 (.pointer (some ⟨F, 0, none⟩)) ∧ _ := hez.resolve_left (fun h9 => absurd h9.1 (by assumption))
     have hltz := jB hbz
     have z0 := jA hbz 0
     have z1 := jA hbz 1
     have z2 := jA hbz 2
     simp at z0 z1 z2
     clear hbz hFz hne hez
     go_wp2
     refine bodyPost_ret (v := .agg #[.int .u32 0, .int .u32 0, .int .u32 0, .int .u32 0, .int .u32 0, .int .u32 0, .int .u32 0, .int .u32 0]) (by simp [results, Tryz.results64, go_sem, r0, r1, r2, r3, r4, r5, r6, r7]) rfl ⟨rfl, ?_, ?_⟩
     ·
      exact RdrSet8P hRX hbR _ _ _ _ _ _ _ _
     ·
      exact gr_set8 hgX (Nat.le_refl _) _ _ _ _ _ _ _ _
    ·
     rw [show (if 0 < j + 1 ∧ (jL (j + 1) S1).1.get (j : Int) = 0 then failS (jL (j + 1) S1).2 3 else (jL (j + 1) S1).2) = (jL (j + 1) S1).2 from if_neg (fun hh => h0 hh.2)] at hTT
     have hf : (jL (j + 1) S1).2.fe = 0 := by
      have h5 : (jL (j + 1) S1).1.get (j : Int) = ((intS 1048576 (jL j S1).2).1 : Int) := by rw [jL]; exact get_set_self hj8 _
      have h6 := @intS_err (jL j S1).2 1048576 (by intro h7; rw [h5, h7] at h0; exact h0 rfl)
      rw [jL]; exact h6
     rw [if_neg (by simp [hf])] at hTT
     obtain ⟨rfl, rfl⟩ := Prod.mk.inj hTT
     have hne : ((jL (j + 1) S1).1.get (j : Int) == 0) = false := by simpa using h0
     have hRX := hR
     have hgX := hg
     clear hTT h0 hR hg
     have r0 := jA hbR 0
     have r1 := jA hbR 1
     have r2 := jA hbR 2
     have r3 := jA hbR 3
     have r4 := jA hbR 4
     have r5 := jA hbR 5
     have r6 := jA hbR 6
     have r7 := jA hbR 7
     simp at r0 r1 r2 r3 r4 r5 r6 r7
     have hfR := jE hbR
     have hlR := jB hbR
     have hlV := jB hbV
     have q0 := jA hbV 0
     have q1 := jA hbV 1
     have q2 := jA hbV 2
     have q3 := jA hbV 3
     have q4 := jA hbV 4
     have q5 := jA hbV 5
     have q6 := jA hbV 6
     have q7 := jA hbV 7
     simp at q0 q1 q2 q3 q4 q5 q6 q7
     have hRz := hRX
     obtain ⟨ev, hbz, hez⟩ := hRz
     obtain ⟨_, rfl⟩ := hez.resolve_right (fun h9 => absurd (by assumption) h9.1)
     have hltz := jB hbz
     have z0 := jA hbz 0
     have z1 := jA hbz 1
     have z2 := jA hbz 2
     simp at z0 z1 z2
     clear hbz hez
     go_wp2
     refine bodyPost_ret (v := .agg #[.int .u32 (jL (j + 1) S1).1.d0, .int .u32 (jL (j + 1) S1).1.d1, .int .u32 (jL (j + 1) S1).1.d2, .int .u32 (jL (j + 1) S1).1.d3, .int .u32 (jL (j + 1) S1).1.d4, .int .u32 (jL (j + 1) S1).1.d5, .int .u32 (jL (j + 1) S1).1.d6, .int .u32 (jL (j + 1) S1).1.d7]) (by simp [results, Tryz.results64, go_sem, r0, r1, r2, r3, r4, r5, r6, r7]) rfl ⟨rfl, ?_, ?_⟩
     ·
      exact RdrSet8P hRX hbR _ _ _ _ _ _ _ _
     ·
      exact gr_set8 hgX (Nat.le_refl _) _ _ _ _ _ _ _ _
end Go.Proofs.YtfhandglpjnonaaGreatDoor
