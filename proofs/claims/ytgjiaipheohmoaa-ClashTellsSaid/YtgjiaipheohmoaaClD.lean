/- selkieref24.Txs: the reference's answer. -/
import Derived.Test.YtgjiaipheohmoaaClC
import Derived.Deep.DeepCutAuto
namespace Go.Proofs.Ytgjiaipheohmoaa
open Go.RowKit


set_option maxRecDepth 100000 in
set_option maxHeartbeats 2000000 in
theorem rtxs_any (h0 h1 h2 h3 h4 h5 h6 h7 h8 h9 h10 : Value) (g0 g1 g2 g3 g4 g5 g6 g7 g8 g9 g10 : Value) (A B : Option Addr) (n m c d : Nat) (ps qs : List Pt) (w : World)
    (hA : Rd w w.heap.size 10 A n (ps.map Pt.enc)) (hB : Rd w w.heap.size 10 B m (qs.map Pt.enc)) (hn : n ≤ maxLen) (hm : m ≤ maxLen) :
    Calls Try.prog 8 #[.agg #[h0, h1, h2, h3, h4, h5, h6, h7, h8, h9, h10, .slice A n c], .agg #[g0, g1, g2, g3, g4, g5, g6, g7, g8, g9, g10, .slice B m d]] w
      fun e w' => e = .returned (.bool (txsB ps qs)) ∧ Below w.heap.size w w' := by
  unfold maxLen at hn hm
  go_enter Try.func8, Try.ntmps8
  go_wp2
  go_loopg [5] (n + 1) (fun g i wr => ∃ k : Nat, k ≤ n ∧ g = n + 1 - k ∧ i = .int .i64 k ∧ (∀ p ∈ ps.take k, ∀ q ∈ qs, ptB p q = false) ∧ 
    Below (w.heap.size + 2) ((w.alloc (.cells #[h0, h1, h2, h3, h4, h5, h6, h7, h8, h9, h10, .slice A n c] 31)).alloc (.cells #[g0, g1, g2, g3, g4, g5, g6, g7, g8, g9, g10, .slice B m d] 31)) wr)
  case atStart => exact ⟨0, Nat.zero_le _, rfl, rfl, by simp, Below.refl _ _⟩
  case round =>
    obtain ⟨k, hk, rfl, rfl, hno, hbr⟩ := hrel
    obtain ⟨hc, hf⟩ := bcell hbr
    have hz := hbr.size
    simp only [World.size_alloc] at hz
    have hz1 : w.heap.size < wr.heap.size := by omega
    have hz2 : w.heap.size + 1 < wr.heap.size := by omega
    by_cases hlt : k < n
    · go_wp2
      obtain ⟨wo, rfl⟩ : ∃ wo : World, wo = wr := ⟨_, rfl⟩
      go_loopg [6] (m + 1) (fun g i wr => ∃ j : Nat, j ≤ m ∧ g = m + 1 - j ∧ i = .int .i64 j ∧ (∀ q ∈ qs.take j, ptB (ps.getD k default) q = false) ∧ 
        Below wo.heap.size wo wr)
      case atStart => exact ⟨0, Nat.zero_le _, rfl, rfl, by simp, Below.refl _ _⟩
      case round =>
        obtain ⟨j, hj, rfl, rfl, hnoj, hbj⟩ := hrel
        obtain ⟨hcj, hfj⟩ := bcell hbj
        have hsz := hbj.size
        have hy1 : w.heap.size < wr.heap.size := by omega
        have hy2 : w.heap.size + 1 < wr.heap.size := by omega
        by_cases hltj : j < m
        · have hbw : Below w.heap.size w wr := ((((Below.refl _ w).alloc (Nat.le_refl _) _).alloc (by simp) _).trans (hbr.mono (by omega))).trans (hbj.mono (by omega))
          obtain ⟨bA, oA, p, rfl, hbA, hp, hcp⟩ := (hA.below hbw).at_ hlt
          obtain ⟨bB, oB, q, rfl, hbB, hq, hcq⟩ := (hB.below hbw).at_ hltj
          have hgd : ps.getD k default = p := by rw [List.getD_eq_getElem?_getD, hp]; rfl
          have hgd := Lib.hid hgd
          have hy3 : bA < wr.heap.size := by omega
          have hy4 : bB < wr.heap.size := by omega
          have p0 := hcp 0 _ rfl
          have p1 := hcp 1 _ rfl
          have p2 := hcp 2 _ rfl
          have p3 := hcp 3 _ rfl
          have p4 := hcp 4 _ rfl
          have p5 := hcp 5 _ rfl
          have p6 := hcp 6 _ rfl
          have p7 := hcp 7 _ rfl
          have p8 := hcp 8 _ rfl
          have p9 := hcp 9 _ rfl
          rw [Nat.add_zero] at p0
          have q0 := hcq 0 _ rfl
          have q1 := hcq 1 _ rfl
          have q2 := hcq 2 _ rfl
          have q3 := hcq 3 _ rfl
          have q4 := hcq 4 _ rfl
          have q5 := hcq 5 _ rfl
          have q6 := hcq 6 _ rfl
          have q7 := hcq 7 _ rfl
          have q8 := hcq 8 _ rfl
          have q9 := hcq 9 _ rfl
          rw [Nat.add_zero] at q0
          clear hcp hcq hbw
          go_upto_region 7 with fail
          go_cut [7, 8] (fun s7 s8 wx => ∃ e1 e2 : Nat, s7 = .pointer (some ⟨e1, 0, none⟩) ∧ s8 = .pointer (some ⟨e2, 0, none⟩) ∧ e1 < wx.heap.size ∧ e2 < wx.heap.size ∧
            wx.cell? ⟨e1, 0, none⟩ = some (.int .i64 p.act) ∧ wx.cell? ⟨e1, 1, none⟩ = some (.string p.name) ∧ wx.cell? ⟨e1, 2, none⟩ = some (.int .i64 p.val) ∧
            wx.cell? ⟨e2, 0, none⟩ = some (.int .i64 q.act) ∧ wx.cell? ⟨e2, 1, none⟩ = some (.string q.name) ∧ wx.cell? ⟨e2, 2, none⟩ = some (.int .i64 q.val) ∧ Below wr.heap.size wr wx)
          case first =>
            go_region_held3 (fun w' => Below wr.heap.size wr w' ∧ ∀ b o, b < wr.heap.size → w'.cell? ⟨b, o, none⟩ = wr.cell? ⟨b, o, none⟩)
              (first | exact kp_drew _ | exact kp_alloc (kp_drew _) _ | exact kp_alloc (kp_alloc (kp_drew _) _) _) (first | fail)
            all_goals
              go_wp2_with fail
              go_meet
              first
                | exact ⟨wr.heap.size, wr.heap.size + 1, rfl, rfl, by simp <;> omega, by simp <;> omega, by simp [go_sem], by simp [go_sem], by simp [go_sem], by simp [go_sem], by simp [go_sem], by simp [go_sem], below_drewN ((((Below.refl _ wr)).alloc (Nat.le_refl _) _).alloc (by simp) _) 1⟩
                | exact ⟨wr.heap.size + 1, wr.heap.size, rfl, rfl, by simp <;> omega, by simp <;> omega, by simp [go_sem], by simp [go_sem], by simp [go_sem], by simp [go_sem], by simp [go_sem], by simp [go_sem], below_drewN ((((Below.refl _ wr)).alloc (Nat.le_refl _) _).alloc (by simp) _) 1⟩
          case rest =>
            obtain ⟨e1, e2, rfl, rfl, he1, he2, r0, r1, r2, r3, r4, r5, hbx⟩ := hcut
            obtain ⟨hcx, hfx⟩ := bcell hbx
            have hsx := hbx.size
            have hv1 : w.heap.size < wc.heap.size := by omega
            have hv2 : w.heap.size + 1 < wc.heap.size := by omega
            have hv3 : bA < wc.heap.size := by omega
            have hv4 : bB < wc.heap.size := by omega
            clear hfx
            have hbo : Below wo.heap.size wo wc := hbj.trans (hbx.mono hsz)
            by_cases hkey : (p.key.toList == q.key.toList) = true
            · go_wp2
              go_region_held3 (fun w' => Below wc.heap.size wc w' ∧ ∀ b o, b < wc.heap.size → w'.cell? ⟨b, o, none⟩ = wc.cell? ⟨b, o, none⟩)
                (first | exact kp_drew _ | exact kp_step (by assumption) (by assumption))
                (first
                  | (go_at_call 11; refine (rops_any _ _ _ _ _ _ _).mono ?_; rintro e w1 ⟨rfl, hb1⟩))
              have hS : Below wc.heap.size wc w1 ∧ ∀ b o, b < wc.heap.size → w1.cell? ⟨b, o, none⟩ = wc.cell? ⟨b, o, none⟩ := by assumption
              have hbw := hS.1
              have hbw2 : Below wo.heap.size wo w1 := hbo.trans (hbw.mono hbo.size)
              clear hS hcj hfj hc hf hcx
              generalize hop : opsB p.act q.act (p.name.toList == q.name.toList) = r
              cases r
              case true =>
                have hT : Hid (txsB ps qs = true) := by
                  have h1 : p ∈ ps := List.mem_of_getElem? hp
                  have h2 : q ∈ qs := List.mem_of_getElem? hq
                  exact List.any_eq_true.2 ⟨p, h1, List.any_eq_true.2 ⟨q, h2, by simp [ptB, hkey, hop]⟩⟩
                clear hop
                go_wp2
                go_ret
                exact ⟨ret_bool hT.out.symm, ((((Below.refl _ w).alloc (Nat.le_refl _) _).alloc (by simp) _).trans (hbr.mono (by omega))).trans (hbw2.mono (by omega))⟩
              case false =>
                have hpt : Hid (ptB p q = false) := by show ptB p q = false; simp [ptB, hop]
                clear hop
                go_wp2
                go_roundg (m + 1 - (j + 1))
                case measure => omega
                case rel => exact ⟨j + 1, by omega, rfl, by go_num, all_take_succ hnoj hq (by rw [hgd.out]; exact hpt.out), hbw2⟩
            · have hkey' : (p.key.toList == q.key.toList) = false := by simpa using hkey
              go_wp2
              go_quiet (fail)
              go_wp2
              go_roundg (m + 1 - (j + 1))
              case measure => omega
              case rel => exact ⟨j + 1, by omega, rfl, by go_num, all_take_succ hnoj hq (by rw [hgd.out]; simp [ptB, hkey']), below_drewN hbo _⟩
        · have hall : ∀ q ∈ qs, ptB (ps.getD k default) q = false := all_take_all (by rw [show j = m from by omega] at hnoj; exact hnoj) hB.len
          have hl := hA.len
          go_wp2
          go_roundg (n + 1 - (k + 1))
          case measure => omega
          case rel => exact ⟨k + 1, by omega, rfl, by go_num, all_take_succ hno (x := ps.getD k default) (by simp [hl, hlt]) hall, hbr.trans (hbj.mono (by omega))⟩
    · have hall : ∀ p ∈ ps, ∀ q ∈ qs, ptB p q = false := all_take_all (by rw [show k = n from by omega] at hno; exact hno) hA.len
      have hT : Hid (txsB ps qs = false) := by
        show txsB ps qs = false
        rw [← Bool.not_eq_true]
        intro h
        obtain ⟨p, h1, h2⟩ := List.any_eq_true.1 h
        obtain ⟨q, h3, h4⟩ := List.any_eq_true.1 h2
        rw [hall p h1 q h3] at h4
        cases h4
      clear hall
      go_wp2
      go_ret
      exact ⟨ret_bool hT.out.symm, (((Below.refl _ w).alloc (Nat.le_refl _) _).alloc (by simp) _).trans (hbr.mono (by omega))⟩
end Go.Proofs.Ytgjiaipheohmoaa
