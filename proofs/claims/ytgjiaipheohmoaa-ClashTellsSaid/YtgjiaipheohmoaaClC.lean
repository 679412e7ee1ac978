/- clash.Txs: whether two transactions clash, part by part. -/
import Derived.Test.YtgjiaipheohmoaaClB
import Derived.Test.YtgjiaipheohmoaaPt
import Derived.Deep.LoopGhost
import Derived.WalkMore
import Derived.Deep.RegionHeld3
import Derived.Deep.QuietTactic
import Derived.BigQuiet
import Derived.WalkSmall
namespace Go.Proofs.Ytgjiaipheohmoaa
open Go.RowKit

def ptB (p q : Pt) : Bool := (p.key.toList == q.key.toList) && opsB p.act q.act (p.name.toList == q.name.toList)
def txsB (ps qs : List Pt) : Bool := ps.any fun p => qs.any fun q => ptB p q

set_option maxRecDepth 100000 in
set_option maxHeartbeats 2000000 in
theorem txs_any (h0 h1 h2 h3 h4 h5 h6 h7 h8 h9 h10 : Value) (g0 g1 g2 g3 g4 g5 g6 g7 g8 g9 g10 : Value) (A B : Option Addr) (n m c d : Nat) (ps qs : List Pt) (w : World)
    (hA : Rd w w.heap.size 10 A n (ps.map Pt.enc)) (hB : Rd w w.heap.size 10 B m (qs.map Pt.enc)) (hn : n ≤ maxLen) (hm : m ≤ maxLen) :
    Calls Try.prog 7 #[.agg #[h0, h1, h2, h3, h4, h5, h6, h7, h8, h9, h10, .slice A n c], .agg #[g0, g1, g2, g3, g4, g5, g6, g7, g8, g9, g10, .slice B m d]] w
      fun e w' => e = .returned (.bool (txsB ps qs)) ∧ Below w.heap.size w w' := by
  unfold maxLen at hn hm
  go_enter Try.func7, Try.ntmps7
  go_wp2
  go_step3
  go_wp2
  go_step3
  go_wp2
  have hb0 : Below (w.heap.size + 2) ((w.alloc (.cells #[h0, h1, h2, h3, h4, h5, h6, h7, h8, h9, h10, .slice A n c] 37)).alloc (.cells #[g0, g1, g2, g3, g4, g5, g6, g7, g8, g9, g10, .slice B m d] 37)) ((w.alloc (.cells #[h0, h1, h2, h3, h4, h5, h6, h7, h8, h9, h10, .slice A n c] 37)).alloc (.cells #[g0, g1, g2, g3, g4, g5, g6, g7, g8, g9, g10, .slice B m d] 37)) := Below.refl _ _
  go_loopg [5, 13] (n + 1) (fun g r i wr => ∃ k : Nat, k ≤ n ∧ g = n + 1 - k ∧ i = .int .i64 k ∧ r = .bool false ∧ (∀ p ∈ ps.take k, ∀ q ∈ qs, ptB p q = false) ∧ 
    Below (w.heap.size + 2) ((w.alloc (.cells #[h0, h1, h2, h3, h4, h5, h6, h7, h8, h9, h10, .slice A n c] 37)).alloc (.cells #[g0, g1, g2, g3, g4, g5, g6, g7, g8, g9, g10, .slice B m d] 37)) wr)
  case atStart => exact ⟨0, Nat.zero_le _, rfl, rfl, rfl, by simp, hb0⟩
  case round =>
    obtain ⟨k, hk, rfl, rfl, rfl, hno, hbr⟩ := hrel
    obtain ⟨hc, hf⟩ := bcell hbr
    have hz := hbr.size
    simp only [World.size_alloc] at hz
    have hz1 : w.heap.size < wr.heap.size := by omega
    have hz2 : w.heap.size + 1 < wr.heap.size := by omega
    have hz3 : w.heap.size + 1 < wr.heap.size + 1 := by omega
    by_cases hlt : k < n
    · obtain ⟨bA, oA, p, rfl, hbA, hp, hcp⟩ := (hA.below ((((Below.refl _ w).alloc (Nat.le_refl _) _).alloc (by simp) _).trans (hbr.mono (by omega)))).at_ hlt
      have p0 := hcp 0 _ rfl
      have p1 := hcp 1 _ rfl
      have p2 := hcp 2 _ rfl
      have p3 := hcp 3 _ rfl
      have p4 := hcp 4 _ rfl
      have p5 := hcp 5 _ rfl
      have p6 := hcp 6 _ rfl
      have p7 := hcp 7 _ rfl
      have p8 := hcp 8 _ rfl
      have p9 := hcp 9 _ rfl
      clear hcp
      rw [Nat.add_zero] at p0
      go_wp2
      obtain ⟨wo, rfl⟩ : ∃ wo : World, wo = wr := ⟨_, rfl⟩
      clear p0 p1 p2 p3 p4 p5 p6 p7 p8 p9
      go_loopg [5, 20] (m + 1) (fun g r i wr => ∃ j : Nat, j ≤ m ∧ g = m + 1 - j ∧ i = .int .i64 j ∧ r = .bool false ∧ (∀ q ∈ qs.take j, ptB p q = false) ∧ 
        Below (wo.heap.size + 1) (wo.alloc (.cells #[.string p.key, .int .i64 p.act, .string p.name, .int .i64 p.val, .int .i64 p.o, .int .u32 p.s, .int .i64 p.n, .int .u32 p.t, .int .i64 p.ao, .slice p.A p.l p.c] 75)) wr)
      case atStart => exact ⟨0, Nat.zero_le _, rfl, rfl, rfl, by simp, Below.refl _ _⟩
      case round =>
        obtain ⟨j, hj, rfl, rfl, rfl, hnoj, hbj⟩ := hrel
        obtain ⟨hcj, hfj⟩ := bcell hbj
        by_cases hltj : j < m
        · obtain ⟨bB, oB, q, rfl, hbB, hq, hcq⟩ := (hB.below (((((Below.refl _ w).alloc (Nat.le_refl _) _).alloc (by simp) _).trans (hbr.mono (by omega))).trans (((Below.refl _ wo).alloc (by omega) _).trans (hbj.mono (by omega))))).at_ hltj
          have p0 := hcq 0 _ rfl
          have p1 := hcq 1 _ rfl
          have p2 := hcq 2 _ rfl
          have p3 := hcq 3 _ rfl
          have p4 := hcq 4 _ rfl
          have p5 := hcq 5 _ rfl
          have p6 := hcq 6 _ rfl
          have p7 := hcq 7 _ rfl
          have p8 := hcq 8 _ rfl
          have p9 := hcq 9 _ rfl
          rw [Nat.add_zero] at p0
          clear hcq
          have hsz := hbj.size
          simp only [World.size_alloc] at hsz
          have hy1 : w.heap.size < wr.heap.size := by omega
          have hy2 : w.heap.size + 1 < wr.heap.size := by omega
          have hy3 : wo.heap.size < wr.heap.size := by omega
          have hy4 : bB < wr.heap.size := by omega
          by_cases hkey : (p.key.toList == q.key.toList) = true
          · go_wp2
            go_region_held3 (fun w' => Below (wr.alloc (.cells #[.string q.key, .int .i64 q.act, .string q.name, .int .i64 q.val, .int .i64 q.o, .int .u32 q.s, .int .i64 q.n, .int .u32 q.t, .int .i64 q.ao, .slice q.A q.l q.c] 75)).heap.size (wr.alloc (.cells #[.string q.key, .int .i64 q.act, .string q.name, .int .i64 q.val, .int .i64 q.o, .int .u32 q.s, .int .i64 q.n, .int .u32 q.t, .int .i64 q.ao, .slice q.A q.l q.c] 75)) w' ∧ ∀ b o, b < (wr.alloc (.cells #[.string q.key, .int .i64 q.act, .string q.name, .int .i64 q.val, .int .i64 q.o, .int .u32 q.s, .int .i64 q.n, .int .u32 q.t, .int .i64 q.ao, .slice q.A q.l q.c] 75)).heap.size → w'.cell? ⟨b, o, none⟩ = (wr.alloc (.cells #[.string q.key, .int .i64 q.act, .string q.name, .int .i64 q.val, .int .i64 q.o, .int .u32 q.s, .int .i64 q.n, .int .u32 q.t, .int .i64 q.ao, .slice q.A q.l q.c] 75)).cell? ⟨b, o, none⟩)
              (first | exact kp_drew _ | exact kp_step (by assumption) (by assumption))
              (first
                | (go_at_call 17; refine (cop_any _ _ _ _ _ _ _ _ _ _ _ _).mono ?_; rintro e w1 ⟨rfl, hb1⟩)
                | (go_at_call 9; refine (ops_any _ _ _ _ _ _ _).mono ?_; rintro e w1 ⟨rfl, hb1⟩))
            have hS : Below (wr.alloc (.cells #[.string q.key, .int .i64 q.act, .string q.name, .int .i64 q.val, .int .i64 q.o, .int .u32 q.s, .int .i64 q.n, .int .u32 q.t, .int .i64 q.ao, .slice q.A q.l q.c] 75)).heap.size (wr.alloc (.cells #[.string q.key, .int .i64 q.act, .string q.name, .int .i64 q.val, .int .i64 q.o, .int .u32 q.s, .int .i64 q.n, .int .u32 q.t, .int .i64 q.ao, .slice q.A q.l q.c] 75)) w1 ∧ ∀ b o, b < (wr.alloc (.cells #[.string q.key, .int .i64 q.act, .string q.name, .int .i64 q.val, .int .i64 q.o, .int .u32 q.s, .int .i64 q.n, .int .u32 q.t, .int .i64 q.ao, .slice q.A q.l q.c] 75)).heap.size → w1.cell? ⟨b, o, none⟩ = (wr.alloc (.cells #[.string q.key, .int .i64 q.act, .string q.name, .int .i64 q.val, .int .i64 q.o, .int .u32 q.s, .int .i64 q.n, .int .u32 q.t, .int .i64 q.ao, .slice q.A q.l q.c] 75)).cell? ⟨b, o, none⟩ := by assumption
            have hbw := hS.1
            simp only [World.size_alloc] at hbw
            have hbw2 : Below (wo.heap.size + 1) (wo.alloc (.cells #[.string p.key, .int .i64 p.act, .string p.name, .int .i64 p.val, .int .i64 p.o, .int .u32 p.s, .int .i64 p.n, .int .u32 p.t, .int .i64 p.ao, .slice p.A p.l p.c] 75)) w1 := hbj.trans (((Below.refl _ wr).alloc (by omega) _).trans (hbw.mono (by omega)))
            clear hS hcj hfj hc hf
            generalize hop : opsB p.act q.act (p.name.toList == q.name.toList) = r
            cases r
            case true =>
              have hT : Hid (txsB ps qs = true) := by
                have h1 : p ∈ ps := List.mem_of_getElem? hp
                have h2 : q ∈ qs := List.mem_of_getElem? hq
                exact List.any_eq_true.2 ⟨p, h1, List.any_eq_true.2 ⟨q, h2, by simp [ptB, hkey, hop]⟩⟩
              clear hop
              go_wp2
              rw [Exit.noGoto_ret]
              go_ret
              exact ⟨ret_bool hT.out.symm, ((((Below.refl _ w).alloc (Nat.le_refl _) _).alloc (by simp) _).trans (hbr.mono (by omega))).trans (((Below.refl _ wo).alloc (by omega) _).trans (hbw2.mono (by omega)))⟩
            case false =>
              have hpt : Hid (ptB p q = false) := by show ptB p q = false; simp [ptB, hop]
              clear hop
              go_wp2
              go_roundg (m + 1 - (j + 1))
              case measure => omega
              case rel => exact ⟨j + 1, by omega, rfl, by go_num, rfl, all_take_succ hnoj hq hpt.out, hbw2⟩
          · have hkey' : (p.key.toList == q.key.toList) = false := by simpa using hkey
            go_wp2
            go_quiet (fail)
            go_wp2
            go_roundg (m + 1 - (j + 1))
            case measure => omega
            case rel => exact ⟨j + 1, by omega, rfl, by go_num, rfl, all_take_succ hnoj hq (by simp [ptB, hkey']), below_drewN (hbj.alloc (by omega) _) _⟩
        · have hall : ∀ q ∈ qs, ptB p q = false := all_take_all (by rw [show j = m from by omega] at hnoj; exact hnoj) hB.len
          go_wp2
          go_roundg (n + 1 - (k + 1))
          case measure => omega
          case rel => exact ⟨k + 1, by omega, rfl, by go_num, rfl, all_take_succ hno hp hall, hbr.trans (((Below.refl _ wo).alloc (by omega) _).trans (hbj.mono (by omega)))⟩
    · have hall : ∀ p ∈ ps, ∀ q ∈ qs, ptB p q = false := all_take_all (by rw [show k = n from by omega] at hno; exact hno) hA.len
      have hT : Hid (txsB ps qs = false) := by
        rw [← Bool.not_eq_true]
        intro h
        obtain ⟨p, h1, h2⟩ := List.any_eq_true.1 h
        obtain ⟨q, h3, h4⟩ := List.any_eq_true.1 h2
        rw [hall p h1 q h3] at h4
        cases h4
      clear hall
      go_wp2
      rw [Exit.noGoto_ret]
      go_ret
      exact ⟨ret_bool hT.out.symm, (((Below.refl _ w).alloc (Nat.le_refl _) _).alloc (by simp) _).trans (hbr.mono (by omega))⟩
end Go.Proofs.Ytgjiaipheohmoaa
