/- Readers of numbers with a sign, of stamps, of puts. -/
import Derived.Test.YtadldndmmobpdaaGreatDoorOmW
import Derived.Test.YtadldndmmobpdaaGreatDoorRsV
namespace Go.Proofs.YtadldndmmobpdaaGreatDoor
open Go.RowKit

/-- A block that is no reader and no fault. -/
def Oth (w : World) (g : Nat) : Prop := ∃ cs t, w.heap[g]? = some (.cells cs t (0, 0)) ∧ t ≠ 88 ∧ t ≠ 73 ∧ t ≠ 41
theorem Oth.mk' {w : World} {g : Nat} {cs : Array Value} {t : TypeId} (h : w.heap[g]? = some (.cells cs t (0, 0))) (h1 : t ≠ 88) (h2 : t ≠ 73) (h3 : t ≠ 41) : Oth w g := ⟨cs, t, h, h1, h2, h3⟩
theorem Oth.set {w : World} {g : Nat} (h : Oth w g) (g' i : Nat) (u : Value) : Oth (w.setCell ⟨g', i, none⟩ u) g := by
  obtain ⟨cs, t, hb, hr⟩ := h
  by_cases e : g' = g
  · subst e
    exact ⟨_, t, blk_set hb i u, hr⟩
  · exact ⟨cs, t, heap_set_ne (by dsimp only; exact e) hb, hr⟩
theorem RdrP.seto {w : World} {B g : Nat} {S : Rs} (h : RdrP w B S) (ho : Oth w g) (i : Nat) (u : Value) : RdrP (w.setCell ⟨g, i, none⟩ u) B S := by
  obtain ⟨cs, t, hb, h1, h2, h3⟩ := ho
  exact h.set hb h1 h2 i u
theorem RdrD.seto {w : World} {B g : Nat} {S : Rs} (h : RdrD w B S) (ho : Oth w g) (i : Nat) (u : Value) : RdrD (w.setCell ⟨g, i, none⟩ u) B S := by
  obtain ⟨cs, t, hb, h1, h2, h3⟩ := ho
  exact h.set hb trivial h3 i u
set_option maxRecDepth 100000 in
theorem pnum_any (B : Nat) (S : Rs) (w : World) (h : RdrP w B S) (hS : S.wf) :
    Calls Tryz.prog 79 #[.pointer (some ⟨B, 0, none⟩)] w
      fun r w' => r = .returned (.int .u64 ((numS S).1 : Int)) ∧ RdrP w' B (numS S).2 ∧ w.grownBy w' (some B) := by
  have hn := next_any 86 #[] (fun _ => 0) (enters_of Tryz.func86 (by kernel_rfl) rfl) (fun v hv w => every_any v w) B S w h hS
  change Calls _ _ _ _ (fun r w' => r = .returned (.int .u64 ((numS S).1 : Int)) ∧ RdrP w' B (numS S).2 ∧ w.grownBy w' (some B)) at hn
  generalize numS S = r at hn ⊢
  obtain ⟨v, S'⟩ := r
  dsimp only at hn
  have hn := Lib.hid hn
  clear h hS
  go_enter Tryz.func79, Tryz.ntmps79
  go_wp2_with fail
  refine hn.out.mono ?_
  rintro e w1 ⟨rfl, hR, hg⟩
  go_wp2
  go_ret
  exact ⟨rfl, hR, hg⟩
theorem readZ_le (S : Rs) : -9223372036854775808 ≤ (readZ S).1 ∧ (readZ S).1 ≤ 9223372036854775807 := by
  have := numS_lt S
  unfold readZ; dsimp only
  split <;> omega
theorem readZ_wf {S : Rs} (h : S.wf) : (readZ S).2.wf := Rs.wf_next h _
set_option maxRecDepth 100000 in
set_option maxHeartbeats 1000000 in
theorem psig_any (B : Nat) (S : Rs) (w : World) (h : RdrP w B S) (hS : S.wf) :
    Calls Tryz.prog 59 #[.pointer (some ⟨B, 0, none⟩)] w
      fun r w' => r = .returned (.int .i64 (readZ S).1) ∧ RdrP w' B (readZ S).2 ∧ w.grownBy w' (some B) := by
  have hn := pnum_any B S w h hS
  have hlt := numS_lt S
  unfold readZ
  generalize numS S = r at hn hlt ⊢
  obtain ⟨n, S'⟩ := r
  dsimp only at hn hlt ⊢
  have hn := Lib.hid hn
  clear h hS
  have n0 : (0 : Int) ≤ (n : Int) := by omega
  have n1 : (n : Int) < 18446744073709551616 := by omega
  have ha := Lib.u64_and1 (n : Int) n0 n1
  by_cases ho : n % 2 = 1
  · rw [if_pos ho]
    rw [show (n : Int) % 2 = 1 by omega] at ha
    have hx : Hid (bits .xor .i64 ((n : Int) / 2) (-1) = -((n / 2 : Nat) : Int) - 1) := Lib.hid (by rw [xor_ones_i64 (by omega) (by omega)]; omega)
    clear hlt
    have hoH := Lib.hid ho
    clear ho
    go_enter Tryz.func59, Tryz.ntmps59
    go_wp2_with fail
    refine hn.out.mono ?_
    rintro e w1 ⟨rfl, hR, hg⟩
    go_wp2
    go_ret
    exact ⟨ret_int hx.out, hR, hg⟩
  · rw [if_neg ho]
    rw [show (n : Int) % 2 = 0 by omega] at ha
    have hx : Hid (bits .xor .i64 ((n : Int) / 2) 0 = ((n / 2 : Nat) : Int)) := Lib.hid (by rw [xor_zero64 (by omega) (by omega)]; omega)
    clear hlt
    have hoH := Lib.hid ho
    clear ho
    go_enter Tryz.func59, Tryz.ntmps59
    go_wp2_with fail
    refine hn.out.mono ?_
    rintro e w1 ⟨rfl, hR, hg⟩
    go_wp2
    go_ret
    exact ⟨ret_int hx.out, hR, hg⟩
set_option maxRecDepth 100000 in
set_option maxHeartbeats 1000000 in
theorem dsig_any (B : Nat) (S : Rs) (w : World) (h : RdrD w B S) (hS : S.wf) :
    Calls Tryz.prog 37 #[.pointer (some ⟨B, 0, none⟩)] w
      fun r w' => r = .returned (.int .i64 (readZ S).1) ∧ RdrD w' B (readZ S).2 ∧ w.grownBy w' (some B) := by
  have hn := dnum_any B S w h hS
  have hlt := numS_lt S
  unfold readZ
  generalize numS S = r at hn hlt ⊢
  obtain ⟨n, S'⟩ := r
  dsimp only at hn hlt ⊢
  have hn := Lib.hid hn
  clear h hS
  have n0 : (0 : Int) ≤ (n : Int) := by omega
  have n1 : (n : Int) < 18446744073709551616 := by omega
  by_cases ho : n % 2 = 1
  · rw [if_pos ho]
    have ha : (n : Int) % 2 = 1 := by omega
    have hx : Hid (-((n : Int) / 2) - 1 = -((n / 2 : Nat) : Int) - 1) := Lib.hid (by omega)
    clear hlt
    have hoH := Lib.hid ho
    clear ho
    go_enter Tryz.func37, Tryz.ntmps37
    go_wp2_with fail
    refine hn.out.mono ?_
    rintro e w1 ⟨rfl, hR, hg⟩
    go_wp2
    go_ret
    exact ⟨ret_int hx.out, hR, hg⟩
  · rw [if_neg ho]
    have ha : ((n : Int) % 2 == 1) = false := by rw [beq_eq_false_iff_ne]; omega
    have hx : Hid ((n : Int) / 2 = ((n / 2 : Nat) : Int)) := Lib.hid (by omega)
    clear hlt
    have hoH := Lib.hid ho
    clear ho
    go_enter Tryz.func37, Tryz.ntmps37
    go_wp2_with fail
    refine hn.out.mono ?_
    rintro e w1 ⟨rfl, hR, hg⟩
    go_wp2
    go_ret
    exact ⟨ret_int hx.out, hR, hg⟩
set_option maxRecDepth 100000 in
set_option maxHeartbeats 1000000 in
theorem plread_any (B : Nat) (S : Rs) (w : World) (h : RdrP w B S) (hS : S.wf) :
    Calls Tryz.prog 60 #[.pointer (some ⟨B, 0, none⟩)] w
      fun r w' => r = .returned (.agg #[.int .u32 (readSt' S).1.1, .int .i64 (readSt' S).1.2]) ∧ RdrP w' B (readSt' S).2 ∧ w.grownBy w' (some B) := by
  have hw1 := Rs.wf_next hS (fun v => if 1048576 < v then 2 else 0)
  have c1 := pint_any 1048576 B (by omega) S (w.alloc (.cells #[.int .u32 0, .int .i64 0] 62)) (h.below ((Below.refl _ w).alloc (Nat.le_refl _) _)) hS
  have c2 := fun w h => pint_any 7 B (by omega) (intS 1048576 S).2 w h hw1
  have hle1 := intS_le 1048576 S
  have hle2 := intS_le 7 (intS 1048576 S).2
  obtain ⟨x, T, hT⟩ : ∃ x T, readSt' S = (x, T) := ⟨_, _, rfl⟩
  rw [hT]
  unfold readSt' at hT
  dsimp only at hT
  generalize intS 1048576 S = p at *
  obtain ⟨i, S1⟩ := p
  dsimp only at *
  generalize intS 7 S1 = q at *
  obtain ⟨s, S2⟩ := q
  dsimp only at *
  have hBlt := h.lt
  have c1 := Lib.hid c1
  have c2 := Lib.hid c2
  have i0 : (0 : Int) ≤ (i : Int) := by omega
  have i1 : (i : Int) ≤ 1048576 := by omega
  have s0 : (0 : Int) ≤ (s : Int) := by omega
  have s1 : (s : Int) ≤ 7 := by omega
  have hTH := Lib.hid hT
  clear hw1 hT hS h hle1 hle2
  go_enter Tryz.func60, Tryz.ntmps60
  go_wp2_with fail
  refine c1.out.mono ?_
  rintro e w1 ⟨rfl, hR1, hg1⟩
  have hz1 := hg1.size
  simp only [World.size_alloc] at hz1
  have hbR1 : w1.heap[w.heap.size]? = some (.cells #[.int .u32 0, .int .i64 0] 62 (0, 0)) := (hg1.block _ (by simp) (by simp; omega)).trans (heap_at _ _ rfl)
  have hlR1 := blk_lt hbR1
  go_wp2_with fail
  refine (c2.out _ hR1).mono ?_
  rintro e w2 ⟨rfl, hR2, hg2⟩
  have hz2 := hg2.size
  have hbR2 : w2.heap[w.heap.size]? = some (.cells #[.int .u32 0, .int .i64 0] 62 (0, 0)) := (hg2.block _ hlR1 (by simp; omega)).trans hbR1
  have hlR2 := blk_lt hbR2
  have hgB : w.grownBy w2 (some B) := ((World.grownBy_alloc w _ _).trans hg1).trans hg2
  have hneB : B ≠ w.heap.size := by omega
  have hR4 := Lib.hid (fun c d => (hR2.set hbR2 (by decide) (by decide) 0 c).set (blk_set hbR2 0 c) (by decide) (by decide) 1 d)
  have r0 := blk_cell hbR2 0
  have r1 := blk_cell hbR2 1
  simp at r0 r1
  have hfR := blk_frozen hbR2
  clear hg1 hg2 hR1 hbR1 hbR2 c1 c2
  by_cases hf : S2.fe = 0
  · have hTT := hTH.out
    rw [if_neg (by simp [hf])] at hTT
    obtain ⟨rfl, rfl⟩ := Prod.mk.inj hTT
    clear hTT hTH
    obtain ⟨ev, hbz, hez⟩ := hR2
    obtain ⟨_, rfl⟩ := hez.resolve_right (fun h9 => absurd (by assumption) h9.1)
    have hltz := blk_lt hbz
    have z0 := blk_cell hbz 0
    have z1 := blk_cell hbz 1
    have z2 := blk_cell hbz 2
    simp at z0 z1 z2
    clear hbz hez
    go_wp2
    refine bodyPost_ret (v := .agg #[.int .u32 (i : Int), .int .i64 (s : Int)]) (by simp [results, Tryz.results60, go_sem, r0, r1]) rfl ⟨rfl, hR4.out _ _, gr_set_new (gr_set_new hgB (Nat.le_refl _) 0 _) (Nat.le_refl _) 1 _⟩
  · have hTT := hTH.out
    rw [if_pos hf] at hTT
    obtain ⟨rfl, rfl⟩ := Prod.mk.inj hTT
    clear hTT hTH
    obtain ⟨ev, hbz, hez⟩ := hR2
    obtain ⟨hne, Fz, rfl, hFz⟩ : S2.fe ≠ 0 ∧ ∃ F, ev = .iface 84 (.pointer (some ⟨F, 0, none⟩)) ∧ _ := hez.resolve_left (fun h9 => absurd h9.1 (by assumption))
    have hltz := blk_lt hbz
    have z0 := blk_cell hbz 0
    have z1 := blk_cell hbz 1
    have z2 := blk_cell hbz 2
    simp at z0 z1 z2
    clear hbz hFz hne hez
    go_wp2
    refine bodyPost_ret (v := .agg #[.int .u32 0, .int .i64 0]) (by simp [results, Tryz.results60, go_sem, r0, r1]) rfl ⟨rfl, hR4.out _ _, gr_set_new (gr_set_new hgB (Nat.le_refl _) 0 _) (Nat.le_refl _) 1 _⟩
set_option maxRecDepth 100000 in
set_option maxHeartbeats 1000000 in
theorem dlread_any (B : Nat) (S : Rs) (w : World) (h : RdrD w B S) (hS : S.wf) :
    Calls Tryz.prog 38 #[.pointer (some ⟨B, 0, none⟩)] w
      fun r w' => r = .returned (.agg #[.int .u32 (readSt' S).1.1, .int .i64 (readSt' S).1.2]) ∧ RdrD w' B (readSt' S).2 ∧ w.grownBy w' (some B) := by
  have hw1 := Rs.wf_next hS (fun v => if 1048576 < v then 2 else 0)
  have c1 := dint_any 1048576 B (by omega) S (w.alloc (.cells #[.int .u32 0, .int .i64 0] 62)) (h.below ((Below.refl _ w).alloc (Nat.le_refl _) _)) hS
  have c2 := fun w h => dint_any 7 B (by omega) (intS 1048576 S).2 w h hw1
  have hle1 := intS_le 1048576 S
  have hle2 := intS_le 7 (intS 1048576 S).2
  obtain ⟨x, T, hT⟩ : ∃ x T, readSt' S = (x, T) := ⟨_, _, rfl⟩
  rw [hT]
  unfold readSt' at hT
  dsimp only at hT
  generalize intS 1048576 S = p at *
  obtain ⟨i, S1⟩ := p
  dsimp only at *
  generalize intS 7 S1 = q at *
  obtain ⟨s, S2⟩ := q
  dsimp only at *
  have hBlt := h.lt
  have c1 := Lib.hid c1
  have c2 := Lib.hid c2
  have i0 : (0 : Int) ≤ (i : Int) := by omega
  have i1 : (i : Int) ≤ 1048576 := by omega
  have s0 : (0 : Int) ≤ (s : Int) := by omega
  have s1 : (s : Int) ≤ 7 := by omega
  have hTH := Lib.hid hT
  clear hw1 hT hS h hle1 hle2
  go_enter Tryz.func38, Tryz.ntmps38
  go_wp2_with fail
  refine c1.out.mono ?_
  rintro e w1 ⟨rfl, hR1, hg1⟩
  have hz1 := hg1.size
  simp only [World.size_alloc] at hz1
  have hbR1 : w1.heap[w.heap.size]? = some (.cells #[.int .u32 0, .int .i64 0] 62 (0, 0)) := (hg1.block _ (by simp) (by simp; omega)).trans (heap_at _ _ rfl)
  have hlR1 := blk_lt hbR1
  go_wp2_with fail
  refine (c2.out _ (hR1.below ((Below.refl _ w1).alloc (Nat.le_refl _) _))).mono ?_
  rintro e w2 ⟨rfl, hR2, hg2⟩
  have hz2 := hg2.size
  simp only [World.size_alloc] at hz2
  have hbR2 : w2.heap[w.heap.size]? = some (.cells #[.int .u32 0, .int .i64 0] 62 (0, 0)) := (hg2.block _ (by simp; omega) (by simp; omega)).trans (heap_old _ hlR1 hbR1)
  have hbI2 : w2.heap[w1.heap.size]? = some (.cells #[.int .u32 (i : Int), .int .i64 0] 62 (0, 0)) := (hg2.block _ (by simp) (by simp; omega)).trans (heap_at _ _ rfl)
  have hlR2 := blk_lt hbR2
  have hlI2 := blk_lt hbI2
  have j0 := blk_cell hbI2 0
  have j1 := blk_cell hbI2 1
  simp at j0 j1
  have hfI := blk_frozen hbI2
  have hgB : w.grownBy w2 (some B) := ((World.grownBy_alloc w _ _).trans hg1).trans ((World.grownBy_alloc w1 _ _).trans hg2)
  have hneB : B ≠ w.heap.size := by omega
  have hne : w1.heap.size ≠ w.heap.size := by omega
  have hneB1 : w1.heap.size ≠ B := by omega
  have hneB2 : B ≠ w1.heap.size := by omega
  have hoI := Oth.mk' hbI2 (by decide) (by decide) (by decide)
  have hoR := Oth.mk' hbR2 (by decide) (by decide) (by decide)
  have hR4 := Lib.hid (fun u c d => ((hR2.seto hoI 1 u).seto (hoR.set w1.heap.size 1 u) 0 c).seto ((hoR.set w1.heap.size 1 u).set w.heap.size 0 c) 1 d)
  have r0 := blk_cell hbR2 0
  have r1 := blk_cell hbR2 1
  simp at r0 r1
  have hfR := blk_frozen hbR2
  clear hg1 hg2 hR1 hbR1 hbR2 hbI2 c1 c2 hoI hoR
  by_cases hf : S2.fe = 0
  · have hTT := hTH.out
    rw [if_neg (by simp [hf])] at hTT
    obtain ⟨rfl, rfl⟩ := Prod.mk.inj hTT
    clear hTT hTH
    have hbz := hR2
    unfold RdrD at hbz
    rw [(by assumption : S2.fe = 0)] at hbz
    have hltz := blk_lt hbz
    have z0 := blk_cell hbz 0
    have z1 := blk_cell hbz 1
    have z2 := blk_cell hbz 2
    have z3 := blk_cell hbz 3
    simp at z0 z1 z2 z3
    clear hbz
    go_wp2
    refine bodyPost_ret (v := .agg #[.int .u32 (i : Int), .int .i64 (s : Int)]) (by simp [results, Tryz.results38, go_sem, r0, r1]) rfl ⟨rfl, hR4.out _ _ _, gr_set_new (gr_set_new (gr_set_new hgB (by omega) 1 _) (Nat.le_refl _) 0 _) (Nat.le_refl _) 1 _⟩
  · have hTT := hTH.out
    rw [if_pos hf] at hTT
    obtain ⟨rfl, rfl⟩ := Prod.mk.inj hTT
    clear hTT hTH
    have hbz := hR2
    unfold RdrD at hbz
    have hltz := blk_lt hbz
    have z0 := blk_cell hbz 0
    have z1 := blk_cell hbz 1
    have z2 := blk_cell hbz 2
    have z3 := blk_cell hbz 3
    simp at z0 z1 z2 z3
    have hen : (S2.fe != 0) = true := by rw [bne_iff_ne]; assumption
    clear hbz
    go_wp2
    refine bodyPost_ret (v := .agg #[.int .u32 0, .int .i64 0]) (by simp [results, Tryz.results38, go_sem, r0, r1]) rfl ⟨rfl, hR4.out _ _ _, gr_set_new (gr_set_new (gr_set_new hgB (by omega) 1 _) (Nat.le_refl _) 0 _) (Nat.le_refl _) 1 _⟩
theorem readP_wf {S : Rs} (h : S.wf) : (readP S).2.wf ∧ (readP S).1.wf ∧ (readP S).1.2.1.length ≤ 12 := by
  have h1 := readT_wf h
  have h2 := textS_wf 12 h1.1
  have h3 := readZ_wf h2
  have h4 := readSt'_wf h3
  exact ⟨h4.1, ⟨h1.2, h4.2, (readZ_le _).1, (readZ_le _).2⟩, textS_len 12 _⟩
set_option maxRecDepth 100000 in
set_option maxHeartbeats 2000000 in
theorem pput_any (B : Nat) (S : Rs) (w : World) (h : RdrP w B S) (hS : S.wf) :
    Calls Tryz.prog 31 #[.pointer (some ⟨B, 0, none⟩)] w
      fun r w' => r = .returned (.agg #[.int .i64 (readP S).1.1.1.1, .int .u32 (readP S).1.1.1.2, .int .i64 (readP S).1.1.2, .string (bs (readP S).1.2.1), .int .i64 (readP S).1.2.2.1, .int .u32 (readP S).1.2.2.2.1, .int .i64 (readP S).1.2.2.2.2]) ∧ RdrP w' B (readP S).2 ∧ w.grownBy w' (some B) := by
  have hwt := readT_wf hS
  have ct := ptag_any B S (w.alloc (.cells #[.int .i64 0, .int .u32 0, .int .i64 0, .string ⟨#[]⟩, .int .i64 0, .int .u32 0, .int .i64 0] 64)) (h.below ((Below.refl _ w).alloc (Nat.le_refl _) _)) hS
  obtain ⟨t, Sa, hta⟩ : ∃ t Sa, readT S = (t, Sa) := ⟨_, _, rfl⟩
  rw [hta] at ct hwt
  have cx := Lib.hid (fun w h => ptext_any 12 B (by omega) Sa w h hwt.1)
  have hwx := textS_wf 12 hwt.1
  obtain ⟨f, Sb, hxa⟩ : ∃ e Sb, textS 12 Sa = (e, Sb) := ⟨_, _, rfl⟩
  rw [hxa] at cx hwx
  have cs := Lib.hid (fun w h => psig_any B Sb w h hwx)
  have hwz := readZ_wf hwx
  obtain ⟨v, Sc, hza⟩ : ∃ e Sc, readZ Sb = (e, Sc) := ⟨_, _, rfl⟩
  rw [hza] at cs hwz
  have cl := Lib.hid (fun w h => plread_any B Sc w h hwz)
  obtain ⟨s, Sd, hsa⟩ : ∃ e Sd, readSt' Sc = (e, Sd) := ⟨_, _, rfl⟩
  rw [hsa] at cl
  have hP : readP S = ((t, (f, (v, s))), Sd) := by unfold readP; simp only [hta, hxa, hza, hsa]
  rw [hP]
  have hBlt := h.lt
  have ct := Lib.hid ct
  clear hP hta hxa hza hsa hwt hwx hwz hS h
  go_enter Tryz.func31, Tryz.ntmps31
  go_wp2_with fail
  refine ct.out.mono ?_
  rintro e w1 ⟨rfl, hR1, hg1⟩
  have hz1 := hg1.size
  simp only [World.size_alloc] at hz1
  have hbR1 : w1.heap[w.heap.size]? = some (.cells #[.int .i64 0, .int .u32 0, .int .i64 0, .string ⟨#[]⟩, .int .i64 0, .int .u32 0, .int .i64 0] 64 (0, 0)) := (hg1.block _ (by simp) (by simp; omega)).trans (heap_at _ _ rfl)
  have hlR1 := blk_lt hbR1
  go_wp2_with fail
  refine (cx.out _ (hR1.below ((Below.refl _ w1).alloc (Nat.le_refl _) _))).mono ?_
  rintro e w2 ⟨rfl, hR2, hg2⟩
  have hz2 := hg2.size
  simp only [World.size_alloc] at hz2
  have hbR2 : w2.heap[w.heap.size]? = some (.cells #[.int .i64 0, .int .u32 0, .int .i64 0, .string ⟨#[]⟩, .int .i64 0, .int .u32 0, .int .i64 0] 64 (0, 0)) := (hg2.block _ (by simp; omega) (by simp; omega)).trans (heap_old _ hlR1 hbR1)
  have hbI2 : w2.heap[w1.heap.size]? = some (.cells #[.int .i64 t.1.1, .int .u32 t.1.2, .int .i64 t.2, .string ⟨#[]⟩, .int .i64 0, .int .u32 0, .int .i64 0] 64 (0, 0)) := (hg2.block _ (by simp) (by simp; omega)).trans (heap_at _ _ rfl)
  have hgB2 : w.grownBy w2 (some B) := ((World.grownBy_alloc w _ _).trans hg1).trans ((World.grownBy_alloc w1 _ _).trans hg2)
  have hne : w1.heap.size ≠ w.heap.size := by omega
  have hneB1 : w1.heap.size ≠ B := by omega
  have hneB2 : B ≠ w1.heap.size := by omega
  have hneB : B ≠ w.heap.size := by omega
  have hlI2 := blk_lt hbI2
  have i3 := blk_cell hbI2 3
  simp at i3
  have hfI2 := blk_frozen hbI2
  have hbI2H := Lib.hid hbI2
  have hbR2H := Lib.hid hbR2
  clear hg1 hg2 hR1 hbR1 ct cx hbI2 hbR2
  go_wp2_with fail
  refine (cs.out _ (hR2.set hbI2H.out (by decide) (by decide) 3 _)).mono ?_
  rintro e w3 ⟨rfl, hR3, hg3⟩
  have hz3 := hg3.size
  simp only [World.size_setCell] at hz3
  have hbI3 : w3.heap[w1.heap.size]? = some (.cells #[.int .i64 t.1.1, .int .u32 t.1.2, .int .i64 t.2, .string (bs f), .int .i64 0, .int .u32 0, .int .i64 0] 64 (0, 0)) := (hg3.block _ (by simp [World.setCell]; omega) (by simp; omega)).trans (by rw [blk_set hbI2H.out]; rfl)
  have hbR3 : w3.heap[w.heap.size]? = some (.cells #[.int .i64 0, .int .u32 0, .int .i64 0, .string ⟨#[]⟩, .int .i64 0, .int .u32 0, .int .i64 0] 64 (0, 0)) := (hg3.block _ (by simp [World.setCell]; omega) (by simp; omega)).trans (heap_set_ne (by dsimp only; omega) hbR2H.out)
  have hgB3 : w.grownBy w3 (some B) := (gr_set_new hgB2 (by omega) 3 _).trans hg3
  have hlI3 := blk_lt hbI3
  clear i3 hfI2
  have i4 := blk_cell hbI3 4
  simp at i4
  have hfI3 := blk_frozen hbI3
  have hbI3H := Lib.hid hbI3
  have hbR3H := Lib.hid hbR3
  clear hg3 hR2 hbI3 hbR3 cs hgB2
  go_wp2_with fail
  refine (cl.out _ (hR3.set hbI3H.out (by decide) (by decide) 4 _)).mono ?_
  rintro e w4 ⟨rfl, hR4, hg4⟩
  have hbI4 : w4.heap[w1.heap.size]? = some (.cells #[.int .i64 t.1.1, .int .u32 t.1.2, .int .i64 t.2, .string (bs f), .int .i64 v, .int .u32 0, .int .i64 0] 64 (0, 0)) := (hg4.block _ (by simp [World.setCell]; omega) (by simp; omega)).trans (by rw [blk_set hbI3H.out]; rfl)
  have hbR4 : w4.heap[w.heap.size]? = some (.cells #[.int .i64 0, .int .u32 0, .int .i64 0, .string ⟨#[]⟩, .int .i64 0, .int .u32 0, .int .i64 0] 64 (0, 0)) := (hg4.block _ (by simp [World.setCell]; omega) (by simp; omega)).trans (heap_set_ne (by dsimp only; omega) hbR3H.out)
  have hgB4 : w.grownBy w4 (some B) := (gr_set_new hgB3 (by omega) 4 _).trans hg4
  have hlI4 := blk_lt hbI4
  have hlR4 := blk_lt hbR4
  clear i4 hfI3
  have i0 := blk_cell hbI4 0
  have i1 := blk_cell hbI4 1
  have i2 := blk_cell hbI4 2
  have i3 := blk_cell hbI4 3
  have i4 := blk_cell hbI4 4
  have i5 := blk_cell hbI4 5
  have i6 := blk_cell hbI4 6
  have r0 := blk_cell hbR4 0
  have r1 := blk_cell hbR4 1
  have r2 := blk_cell hbR4 2
  have r3 := blk_cell hbR4 3
  have r4 := blk_cell hbR4 4
  have r5 := blk_cell hbR4 5
  have r6 := blk_cell hbR4 6
  simp at i0 i1 i2 i3 i4 i5 i6 r0 r1 r2 r3 r4 r5 r6
  have hfI4 := blk_frozen hbI4
  have hfR4 := blk_frozen hbR4
  have hoI := Lib.hid (Oth.mk' hbI4 (by decide) (by decide) (by decide))
  have hoR := Lib.hid (Oth.mk' hbR4 (by decide) (by decide) (by decide))
  have hR4k := Lib.hid hR4
  clear hg4 hR3 hbI4 hbR4 cl hgB3 hR4
  go_wp2
  refine bodyPost_ret (v := .agg #[.int .i64 t.1.1, .int .u32 t.1.2, .int .i64 t.2, .string (bs f), .int .i64 v, .int .u32 s.1, .int .i64 s.2]) (by simp [results, Tryz.results31, go_sem, r0, r1, r2, r3, r4, r5, r6]) rfl ⟨rfl, ?_, ?_⟩
  · repeat (with_reducible refine RdrP.seto ?_ ?_ _ _)
    all_goals first
      | exact hR4k.out
      | (repeat (with_reducible refine Oth.set ?_ _ _ _)
         first | exact hoI.out | exact hoR.out)
  · repeat (with_reducible refine gr_set_new ?_ (by omega) _ _)
    exact hgB4
end Go.Proofs.YtadldndmmobpdaaGreatDoor
