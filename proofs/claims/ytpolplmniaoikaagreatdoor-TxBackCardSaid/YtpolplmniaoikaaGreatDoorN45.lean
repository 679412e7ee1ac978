/- Readers of numbers with a sign, of stamps, of puts. Walks of readers that fill a struct: the two blocks they make. -/
import Derived.Test.YtpolplmniaoikaaGreatDoorN40
import Derived.Test.YtpolplmniaoikaaGreatDoorRsV
import Derived.Test.YtpolplmniaoikaaGreatDoorN33
namespace Go.Proofs.YtpolplmniaoikaaGreatDoor
open Go.RowKit

/-- A block that is no reader and no fault. -/
def Oth (w : World) (g : Nat) : Prop := ∃ cs t, w.heap[g]? = some (.cells cs t (0, 0)) ∧ t ≠ 124 ∧ t ≠ 107 ∧ t ≠ 45
theorem Oth.mk' {w : World} {g : Nat} {cs : Array Value} {t : TypeId} (h : w.heap[g]? = some (.cells cs t (0, 0))) (h1 : t ≠ 124) (h2 : t ≠ 107) (h3 : t ≠ 45) : Oth w g := ⟨cs, t, h, h1, h2, h3⟩
theorem Oth.set {w : World} {g : Nat} (h : Oth w g) (g' i : Nat) (u : Value) : Oth (w.setCell ⟨g', i, none⟩ u) g := by
  obtain ⟨cs, t, hb, hr⟩ := h
  by_cases e : g' = g
  · subst e
    exact ⟨_, t, blk_set hb i u, hr⟩
  · exact ⟨cs, t, heap_set_ne (by dsimp only; exact e) hb, hr⟩
theorem RdrP.seto {w : World} {B g : Nat} {S : Rs} (h : RdrP w B S) (ho : Oth w g) (i : Nat) (u : Value) : RdrP (w.setCell ⟨g, i, none⟩ u) B S := by
  obtain ⟨cs, t, hb, h1, h2, h3⟩ := ho
  exact h.set hb h1 h2 i u
theorem RdrD.seto {w : World} {B g : Nat} {S : Rs} (h : RdrD w B S) (ho : Oth w g) (i : Nat) (u : Value) : RdrD (w.setCell ⟨g, i, none⟩ u) B S := by
  obtain ⟨cs, t, hb, h1, h2, h3⟩ := ho
  exact h.set hb trivial h3 i u
set_option maxRecDepth 100000 in
theorem pnum_any (B : Nat) (S : Rs) (w : World) (h : RdrP w B S) (hS : S.wf) :
    Calls Tryz.prog 133 #[.pointer (some ⟨B, 0, none⟩)] w
      fun r w' => r = .returned (.int .u64 ((numS S).1 : Int)) ∧ RdrP w' B (numS S).2 ∧ w.grownBy w' (some B) := by
  have hn := next_any 162 #[] (fun _ => 0) (enters_of Tryz.func162 (by kernel_rfl) rfl) (fun v hv w => every_any v w) B S w h hS
  change Calls _ _ _ _ (fun r w' => r = .returned (.int .u64 ((numS S).1 : Int)) ∧ RdrP w' B (numS S).2 ∧ w.grownBy w' (some B)) at hn
  generalize numS S = r at hn ⊢
  obtain ⟨v, S'⟩ := r
  dsimp only at hn
  have hn := Lib.hid hn
  clear h hS
  go_enter Tryz.func133, Tryz.ntmps133
  go_wp2_with fail
  refine hn.out.mono ?_
  rintro e w1 ⟨rfl, hR, hg⟩
  go_wp2
  go_ret
  exact ⟨rfl, hR, hg⟩
theorem readZ_le (S : Rs) : -9223372036854775808 ≤ (readZ S).1 ∧ (readZ S).1 ≤ 9223372036854775807 := by
  have := numS_lt S
  unfold readZ; dsimp only
  split <;> omega
theorem readZ_wf {S : Rs} (h : S.wf) : (readZ S).2.wf := Rs.wf_next h _
set_option maxRecDepth 100000 in
set_option maxHeartbeats 1000000 in
theorem psig_any (B : Nat) (S : Rs) (w : World) (h : RdrP w B S) (hS : S.wf) :
    Calls Tryz.prog 100 #[.pointer (some ⟨B, 0, none⟩)] w
      fun r w' => r = .returned (.int .i64 (readZ S).1) ∧ RdrP w' B (readZ S).2 ∧ w.grownBy w' (some B) := by
  have hn := pnum_any B S w h hS
  have hlt := numS_lt S
  unfold readZ
  generalize numS S = r at hn hlt ⊢
  obtain ⟨n, S'⟩ := r
  dsimp only at hn hlt ⊢
  have hn := Lib.hid hn
  clear h hS
  have n0 : (0 : Int) ≤ (n : Int) := by omega
  have n1 : (n : Int) < 18446744073709551616 := by omega
  have ha := Lib.u64_and1 (n : Int) n0 n1
  by_cases ho : n % 2 = 1
  · rw [if_pos ho]
    rw [show (n : Int) % 2 = 1 by omega] at ha
    have hx : Hid (bits .xor .i64 ((n : Int) / 2) (-1) = -((n / 2 : Nat) : Int) - 1) := Lib.hid (by rw [xor_ones_i64 (by omega) (by omega)]; omega)
    clear hlt
    have hoH := Lib.hid ho
    clear ho
    go_enter Tryz.func100, Tryz.ntmps100
    go_wp2_with fail
    refine hn.out.mono ?_
    rintro e w1 ⟨rfl, hR, hg⟩
    go_wp2
    go_ret
    exact ⟨ret_int hx.out, hR, hg⟩
  · rw [if_neg ho]
    rw [show (n : Int) % 2 = 0 by omega] at ha
    have hx : Hid (bits .xor .i64 ((n : Int) / 2) 0 = ((n / 2 : Nat) : Int)) := Lib.hid (by rw [xor_zero64 (by omega) (by omega)]; omega)
    clear hlt
    have hoH := Lib.hid ho
    clear ho
    go_enter Tryz.func100, Tryz.ntmps100
    go_wp2_with fail
    refine hn.out.mono ?_
    rintro e w1 ⟨rfl, hR, hg⟩
    go_wp2
    go_ret
    exact ⟨ret_int hx.out, hR, hg⟩
set_option maxRecDepth 100000 in
set_option maxHeartbeats 1000000 in
theorem dsig_any (B : Nat) (S : Rs) (w : World) (h : RdrD w B S) (hS : S.wf) :
    Calls Tryz.prog 104 #[.pointer (some ⟨B, 0, none⟩)] w
      fun r w' => r = .returned (.int .i64 (readZ S).1) ∧ RdrD w' B (readZ S).2 ∧ w.grownBy w' (some B) := by
  have hn := dnum_any B S w h hS
  have hlt := numS_lt S
  unfold readZ
  generalize numS S = r at hn hlt ⊢
  obtain ⟨n, S'⟩ := r
  dsimp only at hn hlt ⊢
  have hn := Lib.hid hn
  clear h hS
  have n0 : (0 : Int) ≤ (n : Int) := by omega
  have n1 : (n : Int) < 18446744073709551616 := by omega
  by_cases ho : n % 2 = 1
  · rw [if_pos ho]
    have ha : (n : Int) % 2 = 1 := by omega
    have hx : Hid (-((n : Int) / 2) - 1 = -((n / 2 : Nat) : Int) - 1) := Lib.hid (by omega)
    clear hlt
    have hoH := Lib.hid ho
    clear ho
    go_enter Tryz.func104, Tryz.ntmps104
    go_wp2_with fail
    refine hn.out.mono ?_
    rintro e w1 ⟨rfl, hR, hg⟩
    go_wp2
    go_ret
    exact ⟨ret_int hx.out, hR, hg⟩
  · rw [if_neg ho]
    have ha : ((n : Int) % 2 == 1) = false := by rw [beq_eq_false_iff_ne]; omega
    have hx : Hid ((n : Int) / 2 = ((n / 2 : Nat) : Int)) := Lib.hid (by omega)
    clear hlt
    have hoH := Lib.hid ho
    clear ho
    go_enter Tryz.func104, Tryz.ntmps104
    go_wp2_with fail
    refine hn.out.mono ?_
    rintro e w1 ⟨rfl, hR, hg⟩
    go_wp2
    go_ret
    exact ⟨ret_int hx.out, hR, hg⟩
set_option maxRecDepth 100000 in
set_option maxHeartbeats 1000000 in
theorem plread_any (B : Nat) (S : Rs) (w : World) (h : RdrP w B S) (hS : S.wf) :
    Calls Tryz.prog 102 #[.pointer (some ⟨B, 0, none⟩)] w
      fun r w' => r = .returned (.agg #[.int .u32 (readSt' S).1.1, .int .i64 (readSt' S).1.2]) ∧ RdrP w' B (readSt' S).2 ∧ w.grownBy w' (some B) := by
  have hw1 := Rs.wf_next hS (fun v => if 1048576 < v then 2 else 0)
  have c1 := pint_any 1048576 B (by omega) S (w.alloc (.cells #[.int .u32 0, .int .i64 0] 76)) (h.below ((Below.refl _ w).alloc (Nat.le_refl _) _)) hS
  have c2 := fun w h => pint_any 7 B (by omega) (intS 1048576 S).2 w h hw1
  have hle1 := intS_le 1048576 S
  have hle2 := intS_le 7 (intS 1048576 S).2
  obtain ⟨x, T, hT⟩ : ∃ x T, readSt' S = (x, T) := ⟨_, _, rfl⟩
  rw [hT]
  unfold readSt' at hT
  dsimp only at hT
  generalize intS 1048576 S = p at *
  obtain ⟨i, S1⟩ := p
  dsimp only at *
  generalize intS 7 S1 = q at *
  obtain ⟨s, S2⟩ := q
  dsimp only at *
  have hBlt := h.lt
  have c1 := Lib.hid c1
  have c2 := Lib.hid c2
  have i0 : (0 : Int) ≤ (i : Int) := by omega
  have i1 : (i : Int) ≤ 1048576 := by omega
  have s0 : (0 : Int) ≤ (s : Int) := by omega
  have s1 : (s : Int) ≤ 7 := by omega
  have hTH := Lib.hid hT
  clear hw1 hT hS h hle1 hle2
  go_enter Tryz.func102, Tryz.ntmps102
  go_wp2_with fail
  refine c1.out.mono ?_
  rintro e w1 ⟨rfl, hR1, hg1⟩
  have hz1 := hg1.size
  simp only [World.size_alloc] at hz1
  have hbR1 : w1.heap[w.heap.size]? = some (.cells #[.int .u32 0, .int .i64 0] 76 (0, 0)) := (hg1.block _ (by simp) (by simp; omega)).trans (heap_at _ _ rfl)
  have hlR1 := blk_lt hbR1
  go_wp2_with fail
  refine (c2.out _ hR1).mono ?_
  rintro e w2 ⟨rfl, hR2, hg2⟩
  have hz2 := hg2.size
  have hbR2 : w2.heap[w.heap.size]? = some (.cells #[.int .u32 0, .int .i64 0] 76 (0, 0)) := (hg2.block _ hlR1 (by simp; omega)).trans hbR1
  have hlR2 := blk_lt hbR2
  have hgB : w.grownBy w2 (some B) := ((World.grownBy_alloc w _ _).trans hg1).trans hg2
  have hneB : B ≠ w.heap.size := by omega
  have hR4 := Lib.hid (fun c d => (hR2.set hbR2 (by decide) (by decide) 0 c).set (blk_set hbR2 0 c) (by decide) (by decide) 1 d)
  have r0 := blk_cell hbR2 0
  have r1 := blk_cell hbR2 1
  simp at r0 r1
  have hfR := blk_frozen hbR2
  clear hg1 hg2 hR1 hbR1 hbR2 c1 c2
  by_cases hf : S2.fe = 0
  · have hTT := hTH.out
    rw [if_neg (by simp [hf])] at hTT
    obtain ⟨rfl, rfl⟩ := Prod.mk.inj hTT
    clear hTT hTH
    obtain ⟨ev, hbz, hez⟩ := hR2
    obtain ⟨_, rfl⟩ := hez.resolve_right (fun h9 => absurd (by assumption) h9.1)
    have hltz := blk_lt hbz
    have z0 := blk_cell hbz 0
    have z1 := blk_cell hbz 1
    have z2 := blk_cell hbz 2
    simp at z0 z1 z2
    clear hbz hez
    go_wp2
    refine bodyPost_ret (v := .agg #[.int .u32 (i : Int), .int .i64 (s : Int)]) (by simp [results, Tryz.results102, go_sem, r0, r1]) rfl ⟨rfl, hR4.out _ _, gr_set_new (gr_set_new hgB (Nat.le_refl _) 0 _) (Nat.le_refl _) 1 _⟩
  · have hTT := hTH.out
    rw [if_pos hf] at hTT
    obtain ⟨rfl, rfl⟩ := Prod.mk.inj hTT
    clear hTT hTH
    obtain ⟨ev, hbz, hez⟩ := hR2
    obtain ⟨hne, Fz, rfl, hFz⟩ : S2.fe ≠ 0 ∧ ∃ F, ev = .iface 120 (.pointer (some ⟨F, 0, none⟩)) ∧ _ := hez.resolve_left (fun h9 => absurd h9.1 (by assumption))
    have hltz := blk_lt hbz
    have z0 := blk_cell hbz 0
    have z1 := blk_cell hbz 1
    have z2 := blk_cell hbz 2
    simp at z0 z1 z2
    clear hbz hFz hne hez
    go_wp2
    refine bodyPost_ret (v := .agg #[.int .u32 0, .int .i64 0]) (by simp [results, Tryz.results102, go_sem, r0, r1]) rfl ⟨rfl, hR4.out _ _, gr_set_new (gr_set_new hgB (Nat.le_refl _) 0 _) (Nat.le_refl _) 1 _⟩
set_option maxRecDepth 100000 in
set_option maxHeartbeats 1000000 in
theorem dlread_any (B : Nat) (S : Rs) (w : World) (h : RdrD w B S) (hS : S.wf) :
    Calls Tryz.prog 106 #[.pointer (some ⟨B, 0, none⟩)] w
      fun r w' => r = .returned (.agg #[.int .u32 (readSt' S).1.1, .int .i64 (readSt' S).1.2]) ∧ RdrD w' B (readSt' S).2 ∧ w.grownBy w' (some B) := by
  have hw1 := Rs.wf_next hS (fun v => if 1048576 < v then 2 else 0)
  have c1 := dint_any 1048576 B (by omega) S (w.alloc (.cells #[.int .u32 0, .int .i64 0] 76)) (h.below ((Below.refl _ w).alloc (Nat.le_refl _) _)) hS
  have c2 := fun w h => dint_any 7 B (by omega) (intS 1048576 S).2 w h hw1
  have hle1 := intS_le 1048576 S
  have hle2 := intS_le 7 (intS 1048576 S).2
  obtain ⟨x, T, hT⟩ : ∃ x T, readSt' S = (x, T) := ⟨_, _, rfl⟩
  rw [hT]
  unfold readSt' at hT
  dsimp only at hT
  generalize intS 1048576 S = p at *
  obtain ⟨i, S1⟩ := p
  dsimp only at *
  generalize intS 7 S1 = q at *
  obtain ⟨s, S2⟩ := q
  dsimp only at *
  have hBlt := h.lt
  have c1 := Lib.hid c1
  have c2 := Lib.hid c2
  have i0 : (0 : Int) ≤ (i : Int) := by omega
  have i1 : (i : Int) ≤ 1048576 := by omega
  have s0 : (0 : Int) ≤ (s : Int) := by omega
  have s1 : (s : Int) ≤ 7 := by omega
  have hTH := Lib.hid hT
  clear hw1 hT hS h hle1 hle2
  go_enter Tryz.func106, Tryz.ntmps106
  go_wp2_with fail
  refine c1.out.mono ?_
  rintro e w1 ⟨rfl, hR1, hg1⟩
  have hz1 := hg1.size
  simp only [World.size_alloc] at hz1
  have hbR1 : w1.heap[w.heap.size]? = some (.cells #[.int .u32 0, .int .i64 0] 76 (0, 0)) := (hg1.block _ (by simp) (by simp; omega)).trans (heap_at _ _ rfl)
  have hlR1 := blk_lt hbR1
  go_wp2_with fail
  refine (c2.out _ (hR1.below ((Below.refl _ w1).alloc (Nat.le_refl _) _))).mono ?_
  rintro e w2 ⟨rfl, hR2, hg2⟩
  have hz2 := hg2.size
  simp only [World.size_alloc] at hz2
  have hbR2 : w2.heap[w.heap.size]? = some (.cells #[.int .u32 0, .int .i64 0] 76 (0, 0)) := (hg2.block _ (by simp; omega) (by simp; omega)).trans (heap_old _ hlR1 hbR1)
  have hbI2 : w2.heap[w1.heap.size]? = some (.cells #[.int .u32 (i : Int), .int .i64 0] 76 (0, 0)) := (hg2.block _ (by simp) (by simp; omega)).trans (heap_at _ _ rfl)
  have hlR2 := blk_lt hbR2
  have hlI2 := blk_lt hbI2
  have j0 := blk_cell hbI2 0
  have j1 := blk_cell hbI2 1
  simp at j0 j1
  have hfI := blk_frozen hbI2
  have hgB : w.grownBy w2 (some B) := ((World.grownBy_alloc w _ _).trans hg1).trans ((World.grownBy_alloc w1 _ _).trans hg2)
  have hneB : B ≠ w.heap.size := by omega
  have hne : w1.heap.size ≠ w.heap.size := by omega
  have hneB1 : w1.heap.size ≠ B := by omega
  have hneB2 : B ≠ w1.heap.size := by omega
  have hoI := Oth.mk' hbI2 (by decide) (by decide) (by decide)
  have hoR := Oth.mk' hbR2 (by decide) (by decide) (by decide)
  have hR4 := Lib.hid (fun u c d => ((hR2.seto hoI 1 u).seto (hoR.set w1.heap.size 1 u) 0 c).seto ((hoR.set w1.heap.size 1 u).set w.heap.size 0 c) 1 d)
  have r0 := blk_cell hbR2 0
  have r1 := blk_cell hbR2 1
  simp at r0 r1
  have hfR := blk_frozen hbR2
  clear hg1 hg2 hR1 hbR1 hbR2 hbI2 c1 c2 hoI hoR
  by_cases hf : S2.fe = 0
  · have hTT := hTH.out
    rw [if_neg (by simp [hf])] at hTT
    obtain ⟨rfl, rfl⟩ := Prod.mk.inj hTT
    clear hTT hTH
    have hbz := hR2
    unfold RdrD at hbz
    rw [(by assumption : S2.fe = 0)] at hbz
    have hltz := blk_lt hbz
    have z0 := blk_cell hbz 0
    have z1 := blk_cell hbz 1
    have z2 := blk_cell hbz 2
    have z3 := blk_cell hbz 3
    simp at z0 z1 z2 z3
    clear hbz
    go_wp2
    refine bodyPost_ret (v := .agg #[.int .u32 (i : Int), .int .i64 (s : Int)]) (by simp [results, Tryz.results106, go_sem, r0, r1]) rfl ⟨rfl, hR4.out _ _ _, gr_set_new (gr_set_new (gr_set_new hgB (by omega) 1 _) (Nat.le_refl _) 0 _) (Nat.le_refl _) 1 _⟩
  · have hTT := hTH.out
    rw [if_pos hf] at hTT
    obtain ⟨rfl, rfl⟩ := Prod.mk.inj hTT
    clear hTT hTH
    have hbz := hR2
    unfold RdrD at hbz
    have hltz := blk_lt hbz
    have z0 := blk_cell hbz 0
    have z1 := blk_cell hbz 1
    have z2 := blk_cell hbz 2
    have z3 := blk_cell hbz 3
    simp at z0 z1 z2 z3
    have hen : (S2.fe != 0) = true := by rw [bne_iff_ne]; assumption
    clear hbz
    go_wp2
    refine bodyPost_ret (v := .agg #[.int .u32 0, .int .i64 0]) (by simp [results, Tryz.results106, go_sem, r0, r1]) rfl ⟨rfl, hR4.out _ _ _, gr_set_new (gr_set_new (gr_set_new hgB (by omega) 1 _) (Nat.le_refl _) 0 _) (Nat.le_refl _) 1 _⟩
theorem readP_wf {S : Rs} (h : S.wf) : (readP S).2.wf ∧ (readP S).1.wf ∧ (readP S).1.2.1.length ≤ 12 := by
  have h1 := readT_wf h
  have h2 := textS_wf 12 h1.1
  have h3 := readZ_wf h2
  have h4 := readSt'_wf h3
  exact ⟨h4.1, ⟨h1.2, h4.2, (readZ_le _).1, (readZ_le _).2⟩, textS_len 12 _⟩
end Go.Proofs.YtpolplmniaoikaaGreatDoor
namespace Go.Proofs.YtpolplmniaoikaaGreatDoor
open Go.RowKit

/-- Within a reader's walk: the result's block, the block that is being filled, both newer than the call; the reader. -/
structure AtP (t : TypeId) (w wx : World) (B g : Nat) (S : Rs) (z cs : Array Value) : Prop where
  rb : wx.heap[w.heap.size]? = some (.cells z t (0, 0))
  tb : wx.heap[g]? = some (.cells cs t (0, 0))
  rd : RdrP wx B S
  gr : w.grownBy wx (some B)
  lt : w.heap.size < g
  nB : B < w.heap.size
structure AtD (t : TypeId) (w wx : World) (B g : Nat) (S : Rs) (z cs : Array Value) : Prop where
  rb : wx.heap[w.heap.size]? = some (.cells z t (0, 0))
  tb : wx.heap[g]? = some (.cells cs t (0, 0))
  rd : RdrD wx B S
  gr : w.grownBy wx (some B)
  lt : w.heap.size < g
  nB : B < w.heap.size
section
variable {t : TypeId} {w wx wy : World} {B g : Nat} {S S' : Rs} {z cs : Array Value}
theorem AtP.call (h : AtP t w wx B g S z cs) (hg : wx.grownBy wy (some B)) (hr : RdrP wy B S') : AtP t w wy B g S' z cs :=
  ⟨(hg.block _ (blk_lt h.rb) (by have := h.nB; simp; omega)).trans h.rb, (hg.block _ (blk_lt h.tb) (by have := h.nB; have := h.lt; simp; omega)).trans h.tb, hr, h.gr.trans hg, h.lt, h.nB⟩
theorem AtP.below (h : AtP t w wx B g S z cs) (hb : Below wx.heap.size wx wy) : AtP t w wy B g S z cs :=
  ⟨blk_below h.rb hb, blk_below h.tb hb, h.rd.below hb, h.gr.trans (gr_below hb _), h.lt, h.nB⟩
theorem AtP.set (h : AtP t w wx B g S z cs) (h1 : t ≠ 124) (h2 : t ≠ 107) (i : Nat) (u : Value) : AtP t w (wx.setCell ⟨g, i, none⟩ u) B g S z (cs.setIfInBounds i u) :=
  ⟨heap_set_ne (by have := h.lt; dsimp only; omega) h.rb, blk_set h.tb i u, h.rd.set h.tb h1 h2 i u, gr_set_new h.gr (Nat.le_of_lt h.lt) i u, h.lt, h.nB⟩
theorem AtD.call (h : AtD t w wx B g S z cs) (hg : wx.grownBy wy (some B)) (hr : RdrD wy B S') : AtD t w wy B g S' z cs :=
  ⟨(hg.block _ (blk_lt h.rb) (by have := h.nB; simp; omega)).trans h.rb, (hg.block _ (blk_lt h.tb) (by have := h.nB; have := h.lt; simp; omega)).trans h.tb, hr, h.gr.trans hg, h.lt, h.nB⟩
theorem AtD.below (h : AtD t w wx B g S z cs) (hb : Below wx.heap.size wx wy) : AtD t w wy B g S z cs :=
  ⟨blk_below h.rb hb, blk_below h.tb hb, h.rd.below hb, h.gr.trans (gr_below hb _), h.lt, h.nB⟩
theorem AtD.set (h : AtD t w wx B g S z cs) (h2 : t ≠ 45) (i : Nat) (u : Value) : AtD t w (wx.setCell ⟨g, i, none⟩ u) B g S z (cs.setIfInBounds i u) :=
  ⟨heap_set_ne (by have := h.lt; dsimp only; omega) h.rb, blk_set h.tb i u, h.rd.set h.tb trivial h2 i u, gr_set_new h.gr (Nat.le_of_lt h.lt) i u, h.lt, h.nB⟩
end
/-- Values stored one behind the other. -/
def setsW (w : World) (g : Nat) : Nat → List Value → World
  | _, [] => w
  | i, u :: us => setsW (w.setCell ⟨g, i, none⟩ u) g (i + 1) us
section
variable {t : TypeId} {g : Nat}
theorem setsW_gr {w0 : World} {row : Option Nat} (hg : w0.heap.size ≤ g) : ∀ (us : List Value) (i : Nat) {w : World}, w0.grownBy w row → w0.grownBy (setsW w g i us) row
  | [], _, _, h => h
  | u :: us, i, _, h => setsW_gr hg us (i + 1) (gr_set_new h hg i u)
theorem setsW_P (h1 : t ≠ 124) (h2 : t ≠ 107) {B : Nat} {S : Rs} : ∀ (us : List Value) (i : Nat) {w : World} {cs : Array Value}, w.heap[g]? = some (.cells cs t (0, 0)) → RdrP w B S → RdrP (setsW w g i us) B S
  | [], _, _, _, _, h => h
  | u :: us, i, _, _, hb, h => setsW_P h1 h2 us (i + 1) (blk_set hb i u) (h.set hb h1 h2 i u)
theorem setsW_D (h2 : t ≠ 45) {B : Nat} {S : Rs} : ∀ (us : List Value) (i : Nat) {w : World} {cs : Array Value}, w.heap[g]? = some (.cells cs t (0, 0)) → RdrD w B S → RdrD (setsW w g i us) B S
  | [], _, _, _, _, h => h
  | u :: us, i, _, _, hb, h => setsW_D h2 us (i + 1) (blk_set hb i u) (h.set hb trivial h2 i u)
theorem setsW_Ow {base : Nat} {e : TypeId} {sz : Nat} {v : Value} {xs : List (List Value)} (hne : e ≠ t) : ∀ (us : List Value) (i : Nat) {w : World} {cs : Array Value}, w.heap[g]? = some (.cells cs t (0, 0)) → Ow w base e sz v xs → Ow (setsW w g i us) base e sz v xs
  | [], _, _, _, _, h => h
  | u :: us, i, _, _, hb, h => setsW_Ow hne us (i + 1) (blk_set hb i u) (h.set_blk hb hne i u)
end
end Go.Proofs.YtpolplmniaoikaaGreatDoor
