/- The program's Check of a list of who each comes behind. -/
import Derived.Test.YtebpghpeeedgcaaKo
import Derived.Test.YtebpghpeeedgcaaKd
namespace Go.Proofs.Ytebpghpeeedgcaa
open Go.RowKit

def okX (n : Nat) (rs : List Rw) : Bool := rs.all fun r => r.xs.all fun x => inR n x
def checkS (n : Nat) (rs : List Rw) : Int := if longP n rs = true then 8 else if okX n rs = true then 0 else 2
set_option maxRecDepth 100000 in
theorem chkC_any (A : Option Addr) (n c b : Nat) (x : Int) (w : World) (hb : w.cell? ⟨b, 0, none⟩ = some (.slice A n c)) (_hn : n ≤ maxLen) :
    Calls Try.prog 24 #[.int .i64 x, .pointer (some ⟨b, 0, none⟩)] w fun e w' => e = .returned (.bool (!inR n x)) ∧ Below w.heap.size w w' := by
  unfold maxLen at _hn
  by_cases h0 : x < 0
  · have hr : (!inR n x) = true := by unfold inR; rw [decide_eq_false (by omega)]; rfl
    rw [hr]
    go_enter Try.func24, Try.ntmps24
    go_wp2
    go_ret
    exact ⟨rfl, Below.refl _ _⟩
  · have h0d : decide (x < 0) = false := decide_eq_false h0
    have hr : (!inR n x) = decide ((n : Int) ≤ x) := by
      unfold inR
      rw [decide_eq_true (show 0 ≤ x by omega), Bool.true_and, Bool.eq_iff_iff, Bool.not_eq_true', decide_eq_false_iff_not, decide_eq_true_iff]
      omega
    rw [hr]
    clear hr
    go_enter Try.func24, Try.ntmps24
    go_wp2
    go_ret
    exact ⟨rfl, Below.refl _ _⟩
set_option maxRecDepth 100000 in
set_option maxHeartbeats 1000000 in
theorem scheck_any (A : Option Addr) (n c : Nat) (rs : List Rw) (w : World) (hA : RdG w w.heap.size A n rs) (hn : n ≤ maxLen) (hm : ∀ r ∈ rs, r.l ≤ 1000000) :
    Calls Try.prog 10 #[.slice A n c] w fun e w' => e = .returned (.int .i64 (checkS n rs)) ∧ Below w.heap.size w w' := by
  have hl := Lib.hid hA.len
  have hb0 : Below w.heap.size w (w.alloc (.cells #[.slice A n c] 22)) := (Below.refl _ w).alloc (Nat.le_refl _) _
  have hbx : (w.alloc (.cells #[.slice A n c] 22)).heap[w.heap.size]? = some (.cells #[.slice A n c] 22 (0, 0)) := heap_at _ _ rfl
  generalize hWe : w.alloc (.cells #[.slice A n c] 22) = W at hb0 hbx
  have hz0 := hb0.size
  have hAH := Lib.hid hA
  have hmH := Lib.hid hm
  have cL := Lib.hid (long_any A n c rs W ((hA.below hb0).more hz0) hn (fun r hr => Nat.le_trans (hm r hr) (by decide)))
  have hbxH := Lib.hid hbx
  have q0 := blk_cell hbx 0
  simp at q0
  have hlW := blk_lt hbx
  have hnH := Lib.hid hn
  unfold checkS
  clear hA hm hbx hn
  cases hL : longP n rs with
  | true =>
    rw [hL] at cL
    rw [if_pos rfl]
    clear hL
    go_enter Try.func10, Try.ntmps10
    go_wp2_with fail
    refine cL.out.mono ?_
    rintro e w1 ⟨rfl, hb1⟩
    have hG := hb0.trans (hb1.mono hz0)
    go_wp2
    go_ret
    exact ⟨rfl, hG⟩
  | false =>
  rw [hL] at cL
  rw [if_neg (by decide)]
  have hn1 : n ≤ 1024 := by
    unfold longP at hL
    rw [Bool.or_eq_false_iff, decide_eq_false_iff_not] at hL
    omega
  obtain ⟨R, hR⟩ : ∃ R : Int, (if okX n rs = true then 0 else 2) = R := ⟨_, rfl⟩
  rw [hR]
  replace hR := Lib.hid hR
  clear hL
  go_enter Try.func10, Try.ntmps10
  go_wp2_with fail
  refine cL.out.mono ?_
  rintro e w1 ⟨rfl, hb1⟩
  have hbx1 := blk_below hbxH.out hb1
  have r0 := blk_cell hbx1 0
  simp at r0
  have hl1 := blk_lt hbx1
  have hbw1 := hb0.trans (hb1.mono hz0)
  have hb1H := Lib.hid hb1
  clear hb1 cL
  go_wp2_with fail
  go_loopg [9] (n + 1) (fun g i wr => ∃ k : Nat, k ≤ n ∧ g = n + 1 - k ∧ i = .int .i64 k ∧ (∀ r ∈ rs.take k, (r.xs.all fun x => inR n x) = true) ∧ Below W.heap.size W wr ∧ Below w.heap.size w wr)
  case atStart => exact ⟨0, Nat.zero_le _, rfl, rfl, by simp, hb1H.out, hbw1⟩
  case round =>
    obtain ⟨k, hk, rfl, rfl, hno, hbr, hbw⟩ := hrel
    have hnoH := Lib.hid hno
    clear hno
    by_cases hlt : k < n
    · have hlti : (k : Int) < (n : Int) := by omega
      obtain ⟨bA, oA, r, rfl, hbA, hq, hcp, hrk⟩ := (hAH.out.below hbw).at_ hlt
      have hm := hmH.out r (List.mem_of_getElem? hq)
      have hqH := Lib.hid hq
      have hzr := hbr.size
      have hzw := hbw.size
      have cT := Lib.hid (ctN_gen 24 #[.pointer (some ⟨w.heap.size, 0, none⟩)] (fun x => !inR n x) (fun _ _ => rfl) W.heap.size r.A r.l r.c r.xs wr (Rd.more hrk hzw) hm
        (fun x hx w' hb' => chkC_any (some ⟨bA, oA, none⟩) n c w.heap.size x w' (by
          have h1 := blk_cell ((hb'.block _ hlW).trans (blk_below hbxH.out hbr)) 0
          simpa using h1) hnH.out) hzr)
      have hany : (r.xs.any fun x => !inR n x) = !(r.xs.all fun x => inR n x) := by rw [List.not_all_eq_any_not]
      rw [hany] at cT
      clear hany hq hrk
      cases hv : r.xs.all fun x => inR n x with
      | true =>
        rw [hv] at cT
        have hvH := Lib.hid hv
        clear hv
        go_wp2_with fail
        refine cT.out.mono ?_
        rintro e w2 ⟨rfl, hb2⟩
        have hG1 := hbr.trans (hb2.mono hzr)
        have hG2 := hbw.trans (hb2.mono hzw)
        clear cT hcp
        go_wp2
        go_roundg (n + 1 - (k + 1))
        case measure => omega
        case rel => exact ⟨k + 1, by omega, rfl, by go_num, all_take_succ hnoH.out hqH.out hvH.out, hG1, hG2⟩
      | false =>
        rw [hv] at cT
        have hT : Hid ((2 : Int) = R) := Lib.hid (by
          rw [← hR.out, if_neg]
          intro h
          unfold okX at h
          have := List.all_eq_true.1 h r (List.mem_of_getElem? hqH.out)
          rw [hv] at this
          cases this)
        clear hv
        go_wp2_with fail
        refine cT.out.mono ?_
        rintro e w2 ⟨rfl, hb2⟩
        have hG2 := hbw.trans (hb2.mono hzw)
        clear cT hcp
        go_wp2
        go_ret
        exact ⟨ret_intN hT.out, hG2⟩
    · have hnlt : ¬ (k : Int) < (n : Int) := by omega
      have hT : Hid ((0 : Int) = R) := Lib.hid (by
        rw [← hR.out, if_pos]
        unfold okX
        exact List.all_eq_true.2 (all_take_all (by rw [show k = n from by omega] at hnoH; exact hnoH.out) hl.out))
      go_wp2
      go_ret
      exact ⟨ret_intN hT.out, hbw⟩
end Go.Proofs.Ytebpghpeeedgcaa
