/- The document's reader: Int. -/
import Derived.Test.YthfjbbijcemmoaaDoorRsD
namespace Go.Proofs.YthfjbbijcemmoaaDoor
open Go.RowKit

theorem intS_num {S : Rs} (m : Nat) : intS m S = if (numS S).2.fe ≠ 0 then (0, (numS S).2) else if m < (numS S).1 then (0, failS S 2) else numS S := by
  unfold intS
  by_cases h0 : S.fe = 0
  · obtain ⟨v, n, e, hr⟩ : ∃ v n e, numR (S.l.drop S.a) = (v, n, e) := ⟨_, _, _, rfl⟩
    rw [nextS_eq h0 hr, numS_eq h0 hr]
    by_cases he : e = 0
    · subst he
      by_cases hz : m < v
      · simp [hz, h0]
      · simp [hz, h0]
    · simp [he, failS, h0]
  · unfold numS
    rw [nextS_bad h0, nextS_bad h0]
    simp [h0]
theorem numS_fe {S : Rs} (h : (numS S).2.fe = 0) : S.fe = 0 ∧ (numS S).2 = { S with a := (numS S).2.a } := by
  by_cases h0 : S.fe = 0
  · obtain ⟨v, n, e, hr⟩ : ∃ v n e, numR (S.l.drop S.a) = (v, n, e) := ⟨_, _, _, rfl⟩
    rw [numS_eq h0 hr] at h ⊢
    by_cases he : e = 0
    · subst he; exact ⟨h0, by simp⟩
    · simp [he, failS, h0] at h
  · unfold numS at h
    rw [nextS_bad h0] at h
    exact absurd h h0
theorem numS_lt (S : Rs) : (numS S).1 < 18446744073709551616 := by
  by_cases h0 : S.fe = 0
  · obtain ⟨v, n, e, hr⟩ : ∃ v n e, numR (S.l.drop S.a) = (v, n, e) := ⟨_, _, _, rfl⟩
    have := numR_some hr
    rw [numS_eq h0 hr]
    by_cases he : e = 0
    · subst he; simpa using (this.2 rfl).2.2.2
    · simp [he]
  · unfold numS
    rw [nextS_bad h0]; show 0 < 18446744073709551616; decide
set_option maxRecDepth 100000 in
set_option maxHeartbeats 1000000 in
theorem dint_any (m B : Nat) (hm : m ≤ 1099511627776) (S : Rs) (w : World) (h : RdrD w B S) (hS : S.wf) :
    Calls Tryd.prog 40 #[.pointer (some ⟨B, 0, none⟩), .int .i64 (m : Int)] w
      fun r w' => r = .returned (.int .i64 ((intS m S).1 : Int)) ∧ RdrD w' B (intS m S).2 ∧ w.grownBy w' (some B) := by
  have hn := dnum_any B S w h hS
  have hlt := numS_lt S
  have hfe := @numS_fe S
  obtain ⟨v', S', hv⟩ : ∃ v' S', intS m S = (v', S') := ⟨_, _, rfl⟩
  rw [hv]
  rw [intS_num] at hv
  obtain ⟨v, T, hT⟩ : ∃ v T, numS S = (v, T) := ⟨_, _, rfl⟩
  rw [hT] at hv hn hlt hfe
  dsimp only at hv hn hlt hfe
  have hm0 : (0 : Int) ≤ (m : Int) := by omega
  have hm1 : (m : Int) ≤ 1099511627776 := by omega
  have hb := h
  unfold RdrD at hb
  have hlt0 := blk_lt hb
  have q0 := blk_cell hb 0
  have q1 := blk_cell hb 1
  have q2 := blk_cell hb 2
  have q3 := blk_cell hb 3
  simp at q0 q1 q2 q3
  have hn := Lib.hid hn
  clear hb
  by_cases hf : T.fe = 0
  · rw [if_neg (by simp [hf])] at hv
    obtain ⟨hS0, hTa⟩ := hfe hf
    by_cases hmv : m < v
    · rw [if_pos hmv] at hv
      obtain ⟨rfl, rfl⟩ := Prod.mk.inj hv
      have hd : decide (m < v) = true := decide_eq_true hmv
      have hd0 : decide ((m : Int) < 0) = false := decide_eq_false (by omega)
      have hTH := Lib.hid hTa
      have hS0H := Lib.hid hS0
      clear hv hmv hfe hlt hTa hT h hS
      go_enter Tryd.func40, Tryd.ntmps40
      go_wp2_with fail
      refine hn.out.mono ?_
      rintro e w1 ⟨rfl, hR1, hg1⟩
      have hb1 := hR1
      unfold RdrD at hb1
      rw [hf] at hb1
      have hlt1 := blk_lt hb1
      have z0 := blk_cell hb1 0
      have z1 := blk_cell hb1 1
      have z2 := blk_cell hb1 2
      have z3 := blk_cell hb1 3
      have hfr1 := blk_frozen hb1
      simp at z0 z1 z2 z3
      have hb1H := Lib.hid hb1
      have hfH := Lib.hid hf
      clear hb1 q0 q1 q2 q3 hf
      have hR2 : RdrD (w1.setCell ⟨B, 1, none⟩ (.int .i64 (S.a : Int))) B S := by
        unfold RdrD
        rw [blk_set hb1H.out, hTH.out, hS0H.out]
        rfl
      go_wp2_with fail
      refine (dfail_any B S 2 _ hR2).mono ?_
      rintro e w2 ⟨rfl, hR3, hg3⟩
      have hb3 := hR3
      rw [show failS S 2 = ⟨S.l, S.a, S.a, 2⟩ from by unfold failS; rw [if_pos ⟨hS0H.out, by decide⟩]] at hb3
      unfold RdrD at hb3
      have hlt3 := blk_lt hb3
      clear z0 z1 z2 z3
      have z0 := blk_cell hb3 0
      have z1 := blk_cell hb3 1
      have z2 := blk_cell hb3 2
      have z3 := blk_cell hb3 3
      simp at z0 z1 z2 z3
      clear hb3
      go_wp2
      go_ret
      exact ⟨rfl, hR3, (gr_set hg1 1 _).trans hg3⟩
    · rw [if_neg hmv] at hv
      obtain ⟨rfl, rfl⟩ := Prod.mk.inj hv
      have hd : decide (m < v) = false := decide_eq_false hmv
      have hd0 : decide ((m : Int) < 0) = false := decide_eq_false (by omega)
      have hvm : (v : Int) ≤ 1099511627776 := by omega
      clear hv hmv hfe hlt hTa hT h hS
      go_enter Tryd.func40, Tryd.ntmps40
      go_wp2_with fail
      refine hn.out.mono ?_
      rintro e w1 ⟨rfl, hR1, hg1⟩
      have hb1 := hR1
      unfold RdrD at hb1
      rw [hf] at hb1
      have hlt1 := blk_lt hb1
      have z0 := blk_cell hb1 0
      have z1 := blk_cell hb1 1
      have z2 := blk_cell hb1 2
      have z3 := blk_cell hb1 3
      simp at z0 z1 z2 z3
      clear hb1 q0 q1 q2 q3 hf
      go_wp2
      go_ret
      exact ⟨rfl, hR1, hg1⟩
  · rw [if_pos hf] at hv
    obtain ⟨rfl, rfl⟩ := Prod.mk.inj hv
    have hen : (T.fe == 0) = false := by simpa using hf
    have hen2 : (T.fe != 0) = true := by simpa using hf
    clear hv hfe hlt hT h hS hf
    go_enter Tryd.func40, Tryd.ntmps40
    go_wp2_with fail
    refine hn.out.mono ?_
    rintro e w1 ⟨rfl, hR1, hg1⟩
    have hb1 := hR1
    unfold RdrD at hb1
    have hlt1 := blk_lt hb1
    have z0 := blk_cell hb1 0
    have z1 := blk_cell hb1 1
    have z2 := blk_cell hb1 2
    have z3 := blk_cell hb1 3
    simp at z0 z1 z2 z3
    clear hb1 q0 q1 q2 q3
    go_wp2
    go_ret
    exact ⟨rfl, hR1, hg1⟩
end Go.Proofs.YthfjbbijcemmoaaDoor
