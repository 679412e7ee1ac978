/- The document's Check of interests. -/
import Derived.Test.YtelipindcacphaaDoorHg
import Derived.Deep.QuietTactic
import Derived.BigQuiet
namespace Go.Proofs.YtelipindcacphaaDoor
open Go.RowKit

theorem bytesLessH (x y : List UInt8) : Op.bytesLess (bs x).toList (bs y).toList = decide (x < y) := by rw [bs_emptyH, bs_emptyH]; exact bytesLess_eq x y
theorem below_dr {w : World} {B : Nat} {v : World} (h : Below B v w) (n : Nat) : Below B v (w.drewN n) := h.trans ⟨rfl, rfl, rfl, Nat.le_refl _, fun _ _ => rfl⟩
theorem quietW {x p : List UInt8} {f : Nat} {w : World} {b : Bool} {n : Nat} (h : Calls Tryd.prog f #[.string (bs x), .string (bs p)] (w.drewN n) fun e w' => e = .returned (.bool b) ∧ w.drewN n = w') : Calls Tryd.prog f #[.string (bs x), .string (bs p)] (w.drewN n) fun e w' => e = .returned (.bool b) ∧ w' = w.drewN n := h.mono fun _ _ h => ⟨h.1, h.2.symm⟩
set_option maxRecDepth 100000 in
set_option maxHeartbeats 2000000 in
theorem rCheckW_any (A : Option Addr) (n c : Nat) (xs : List (List UInt8)) (w : World) (hA : RdS w w.heap.size A n xs) (hn : n ≤ 100000) (hx : shortS xs) :
    Calls Tryd.prog 22 #[.slice A n c] w fun e w' => e = .returned (.int .i64 (chkW xs)) ∧ Below w.heap.size w w' := by
  have hnm : n ≤ maxLen := by simp [maxLen]; omega
  have c1 := rlong_any 16 (by decide) A n c xs w hA hnm hx.max
  generalize hr : chkW xs = r
  have hl := hA.len
  have hlt16 : (16 < xs.length ∨ xs.any (fun p => decide (24 < p.length)) = true) ∨ ¬ (16 < xs.length ∨ xs.any (fun p => decide (24 < p.length)) = true) := Classical.em _
  rcases hlt16 with h0 | h0
  · have hT : Hid (8 = r) := Lib.hid (by rw [← hr]; unfold chkW chkN; rw [if_pos h0, if_pos (by decide)])
    rw [decide_eq_true h0] at c1
    clear h0 hr
    go_enter Tryd.func22, Tryd.ntmps22
    go_wp2_with fail
    refine c1.mono ?_
    rintro e w1 ⟨rfl, hv1⟩
    go_wp2
    go_ret
    exact ⟨ret_int hT.out, hv1⟩
  rw [decide_eq_false h0] at c1
  have h24 : ∀ x ∈ xs, x.length ≤ 24 := fun x hx => Nat.le_of_not_lt fun e => h0 (.inr (List.any_eq_true.2 ⟨x, hx, by simpa using e⟩))
  have cP := Lib.hid (fun w' (h : Below w.heap.size w w') => rprefixes_any A n c xs w' ((hA.below h).more h.size) hnm h24)
  unfold chkW at hr
  rw [show chkN 16 xs = if xs.all prefOk = true then 0 else 3 by unfold chkN; rw [if_neg h0]] at hr
  have c1 := Lib.hid c1
  cases hp : xs.all prefOk with
  | false =>
    have hT : Hid (3 = r) := Lib.hid (by rw [← hr, hp]; rfl)
    rw [hp] at cP
    clear hp h0 hr
    go_enter Tryd.func22, Tryd.ntmps22
    go_wp2_with fail
    refine c1.out.mono ?_
    rintro e w1 ⟨rfl, hv1⟩
    go_wp2_with fail
    refine (cP.out w1 hv1).mono ?_
    rintro e w2 ⟨rfl, hv2⟩
    have hG := hv1.trans (hv2.mono hv1.size)
    go_wp2
    go_ret
    exact ⟨ret_int hT.out, hG⟩
  | true =>
  have hrr : (if outW xs = xs then (0 : Int) else 3) = r := by rw [← hr, hp]; rfl
  rw [hp] at cP
  have hrH := Lib.hid hrr
  have hbad : Hid ((∃ i, i < xs.length ∧ ¬ okAt xs i) → 3 = r) := Lib.hid (fun ⟨i, hi, h⟩ => by rw [← hrr, if_neg]; intro e; exact h (okAt_all.2 e i hi))
  have hget : Hid (∀ i u, xs[i]? = some u → xs.getD i [] = u) := Lib.hid (fun i u h => by rw [List.getD, h]; rfl)
  have hlH := Lib.hid hl
  clear hp h0 hr hrr hl
  go_enter Tryd.func22, Tryd.ntmps22
  go_wp2_with fail
  refine c1.out.mono ?_
  rintro e w1 ⟨rfl, hv1⟩
  go_wp2_with fail
  refine (cP.out w1 hv1).mono ?_
  rintro e w2 ⟨rfl, hv2⟩
  have hb2 := hv1.trans (hv2.mono hv1.size)
  clear c1 cP
  go_wp2_with fail
  go_loopg [3] (n + 1) (fun g i wr => ∃ k : Nat, k ≤ n ∧ g = n + 1 - k ∧ i = .int .i64 (k : Int) ∧ (∀ j, j < k → okAt xs j) ∧ Below w.heap.size w wr)
  case atStart => exact ⟨0, Nat.zero_le _, rfl, rfl, by omega, hb2⟩
  case round =>
    clear hb2 hv1 hv2
    obtain ⟨k, hk, rfl, rfl, hok, hbr⟩ := hrel
    have hokH := Lib.hid hok
    clear hok
    by_cases hlt : k < n
    case neg =>
      obtain rfl : k = n := by omega
      have hnli : ¬ (k : Int) < (k : Int) := by omega
      have hT : Hid (0 = r) := Lib.hid (by rw [← hrH.out, if_pos (okAt_all.1 (fun i hi => hokH.out i (by have := hlH.out; omega)))])
      go_wp2
      go_ret
      exact ⟨ret_int hT.out, hbr⟩
    have hlti : (k : Int) < (n : Int) := by omega
    obtain ⟨bA, oA, u, rfl, hbA, hp, hcp⟩ := (hA.below hbr).at_ hlt
    have p0 := hcp 0 _ rfl
    rw [Nat.add_zero, Nat.mul_one] at p0
    clear hcp
    have hz := hbr.size
    have hbA2 : bA < wr.heap.size := by omega
    have hpH := Lib.hid hp
    have huD : Hid (xs.getD k [] = u) := Lib.hid (hget.out k u hp)
    have hul : u.length ≤ maxLen := hx.max u (List.mem_of_getElem? hp)
    clear hp
    -- the first test
    go_upto_region 8 with (fail)
    go_cut [29] (fun s wx => ∃ b : Bool, s = .bool b ∧ (b = false → (0 < k → xs.getD (k - 1) [] < xs.getD k [])) ∧ (b = true → 3 = r) ∧ Below w.heap.size w wx)
    case first =>
      by_cases hk0 : k = 0
      · subst hk0
        have hd : decide (0 < 0) = false := rfl
        go_quiet (fail)
        go_wp2_with fail
        go_meet
        exact ⟨false, rfl, by omega, by simp, below_dr hbr _⟩
      · obtain ⟨j, rfl⟩ : ∃ j, k = j + 1 := ⟨k - 1, by omega⟩
        have hd : decide (0 < j + 1) = true := decide_eq_true (by omega)
        have hw : IntKind.i64.wrap (((j + 1 : Nat) : Int) - 1) = (j : Int) := by rw [IntWalk.i64_in _ (by omega)]; omega
        have hw2 : IntKind.i64.wrap ((j : Int) + 1 - 1) = (j : Int) := by rw [IntWalk.i64_in _ (by omega)]; omega
        have hji : (0 : Int) ≤ (j : Int) := by omega
        have hjn : (j : Int) < (n : Int) := by omega
        have hjn1 : (j : Int) + 1 < (n : Int) := by omega
        have hj0 : (0 : Int) ≤ (j : Int) + 1 := by omega
        obtain ⟨b', o', v, he, _, hq, hcq⟩ := (hA.below hbr).at_ (show j < n by omega)
        injection he with he
        injection he with he1 he2
        subst he1
        subst he2
        have q0 := hcq 0 _ rfl
        rw [Nat.add_zero, Nat.mul_one] at q0
        have hvD : xs.getD j [] = v := hget.out j v hq
        clear hcq hq
        by_cases hvu : v < u
        · have hcmp : Op.bytesLess (bs v).toList (bs u).toList = true := by rw [bytesLessH]; exact decide_eq_true hvu
          have hT : Hid (0 < j + 1 → xs.getD (j + 1 - 1) [] < xs.getD (j + 1) []) := Lib.hid (fun _ => by rw [Nat.add_sub_cancel, hvD, huD.out]; exact hvu)
          clear hvu hvD
          go_quiet (fail)
          go_wp2_with fail
          go_meet
          exact ⟨false, rfl, fun _ => hT.out, by simp, below_dr hbr _⟩
        · have hcmp : Op.bytesLess (bs v).toList (bs u).toList = false := by rw [bytesLessH]; exact decide_eq_false hvu
          have hT : Hid (3 = r) := Lib.hid (hbad.out ⟨j + 1, by have := hlH.out; omega, fun h => hvu (by have := h.1 (by omega); rw [Nat.add_sub_cancel, hvD, huD.out] at this; exact this)⟩)
          clear hvu hvD
          go_quiet (fail)
          go_wp2_with fail
          go_meet
          exact ⟨true, rfl, by simp, fun _ => hT.out, below_dr hbr _⟩
    obtain ⟨b, rfl, hb1, hb2, hbc⟩ := hcut
    obtain ⟨w3, hw3⟩ : ∃ w3, w3 = wc := ⟨_, rfl⟩
    obtain rfl := hw3
    cases b with
    | true =>
      have hT : Hid (3 = r) := Lib.hid (hb2 rfl)
      clear hb1 hb2
      go_wp2
      go_ret
      exact ⟨ret_int hT.out, hbc⟩
    | false =>
    have hok1 : Hid (0 < k → xs.getD (k - 1) [] < xs.getD k []) := Lib.hid (hb1 rfl)
    have hzc := hbc.size
    clear hb1 hb2 hbr hz p0
    go_wp2
    go_loopg [4] (n + 1) (fun g i wr => ∃ q : Nat, q ≤ n ∧ g = n + 1 - q ∧ i = .int .i64 (q : Int) ∧ (∀ j, j < q → j ≠ k → withinB u (xs.getD j []) = false) ∧ Below w.heap.size w wr)
    case atStart => exact ⟨0, Nat.zero_le _, rfl, rfl, by omega, hbc⟩
    case round =>
      clear hbc
      obtain ⟨q, hq, rfl, rfl, hno, hbr⟩ := hrel
      have hnoH := Lib.hid hno
      clear hno
      have hz := hbr.size
      by_cases hqt : q < n
      case neg =>
        obtain rfl : q = n := by omega
        have hnli : ¬ (q : Int) < (q : Int) := by omega
        have hT : Hid (∀ j, j < k + 1 → okAt xs j) := Lib.hid (fun j hj => by
          by_cases e : j = k
          · subst e
            exact ⟨hok1.out, fun i hi hne => by rw [huD.out]; exact hnoH.out i (by have := hlH.out; omega) hne⟩
          · exact hokH.out j (by omega))
        go_wp2
        go_roundg (q + 1 - (k + 1))
        case measure => omega
        case rel => exact ⟨k + 1, by omega, rfl, by go_num, hT.out, hbr⟩
      have hqti : (q : Int) < (n : Int) := by omega
      obtain ⟨b', o', y, he, hbB, hyq, hcq⟩ := (hA.below hbr).at_ hqt
      injection he with he
      injection he with he1 he2
      subst he1
      subst he2
      have q0 := hcq 0 _ rfl
      rw [Nat.add_zero, Nat.mul_one] at q0
      have hbB2 : bA < wr.heap.size := by omega
      have hyD : Hid (xs.getD q [] = y) := Lib.hid (hget.out q y hyq)
      have hyl : y.length ≤ maxLen := hx.max y (List.mem_of_getElem? hyq)
      obtain ⟨b', o', u', he, _, hpu, hcp⟩ := (hA.below hbr).at_ hlt
      injection he with he
      injection he with he1 he2
      subst he1
      subst he2
      obtain rfl : u = u' := by have := hpH.out.symm.trans hpu; injection this
      have p0 := hcp 0 _ rfl
      rw [Nat.add_zero, Nat.mul_one] at p0
      clear hcq hyq hcp hpu
      by_cases hqk : q = k
      · subst hqk
        have hd : ((q : Int) != (q : Int)) = false := by simp
        have hT : Hid (∀ j, j < q + 1 → j ≠ q → withinB u (xs.getD j []) = false) := Lib.hid (fun j hj hne => hnoH.out j (by omega) hne)
        go_upto_region 13 with (fail)
        go_quiet (fail)
        have hG := below_dr hbr nq
        go_wp2
        go_roundg (n + 1 - (q + 1))
        case measure => omega
        case rel => exact ⟨q + 1, by omega, rfl, by go_num, hT.out, hG⟩
      · have hd : ((q : Int) != (k : Int)) = true := by simp; omega
        have hq0i : (0 : Int) ≤ (q : Int) := by omega
        have hk0i : (0 : Int) ≤ (k : Int) := by omega
        cases hw : withinB u y with
        | false =>
          have cW := Lib.hid (fun m => hw ▸ rwithin_any u y hul hyl (wr.drewN m))
          have hT : Hid (∀ j, j < q + 1 → j ≠ k → withinB u (xs.getD j []) = false) := Lib.hid (fun j hj hne => by
            by_cases e : j = q
            · subst e; rw [hyD.out]; exact hw
            · exact hnoH.out j (by omega) hne)
          clear hw hqk
          go_upto_region 13 with (fail)
          go_quiet ((go_at_call 30; exact Calls.quiet_of_same (quietW (cW.out _))))
          have hG := below_dr hbr nq
          go_wp2
          go_roundg (n + 1 - (q + 1))
          case measure => omega
          case rel => exact ⟨q + 1, by omega, rfl, by go_num, hT.out, hG⟩
        | true =>
          have cW := Lib.hid (fun m => hw ▸ rwithin_any u y hul hyl (wr.drewN m))
          have hT : Hid (3 = r) := Lib.hid (hbad.out ⟨k, by have := hlH.out; omega, fun h => by
            have := h.2 q (by have := hlH.out; omega) hqk
            rw [huD.out, hyD.out, hw] at this
            cases this⟩)
          clear hw hqk
          go_upto_region 13 with (fail)
          go_quiet ((go_at_call 30; exact Calls.quiet_of_same (quietW (cW.out _))))
          have hG := below_dr hbr nq
          go_wp2
          go_ret
          exact ⟨ret_int hT.out, hG⟩
end Go.Proofs.YtelipindcacphaaDoor
