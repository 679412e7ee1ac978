/- Interests of the program: Check, Make, Join, Minus. -/
import Derived.Test.YtelipindcacphaaGreatDoorHf
namespace Go.Proofs.YtelipindcacphaaGreatDoor
open Go.RowKit

theorem shortS.max {xs : List (List UInt8)} (h : shortS xs) : ∀ x ∈ xs, x.length ≤ maxLen := fun x hx => by have := h x hx; simp [maxLen]; omega
theorem shortS.mid {xs : List (List UInt8)} (h : shortS xs) : ∀ x ∈ xs, x.length ≤ 1099511627776 := fun x hx => by have := h x hx; omega
set_option maxRecDepth 100000 in
theorem tCheck_any (A : Option Addr) (n c : Nat) (xs : List (List UInt8)) (w : World) (hA : RdS w w.heap.size A n xs) (hn : n ≤ 100000) (hx : shortS xs) (hv : VarM w) :
    Calls Tryz.prog 15 #[.slice A n c] w fun e w' => e = .returned (.int .i64 (chkW xs)) ∧ Below w.heap.size w w' := by
  have hnm : n ≤ maxLen := by simp [maxLen]; omega
  have c1 := tcheck_any 16 (by decide) A n c xs w hA hnm hx.max hv
  generalize hr : chkW xs = r
  unfold chkW at hr
  have cO := Lib.hid (fun w' (h : Below w.heap.size w w') => touter_any A n c xs w' ((hA.below h).more h.size) hn hx.mid)
  have hoL := outW_len xs
  rw [hA.len] at hoL
  by_cases h0 : chkN 16 xs = 0
  case neg =>
    rw [if_pos h0] at hr
    rw [hr] at c1 h0
    have hne : (r == 0) = false := by simpa using h0
    have c1 := Lib.hid c1
    clear hr h0 cO
    go_enter Tryz.func15, Tryz.ntmps15
    go_wp2_with fail
    refine c1.out.mono ?_
    rintro e w1 ⟨rfl, hv1⟩
    go_wp2
    go_ret
    exact ⟨rfl, hv1⟩
  rw [if_neg (by simp [h0])] at hr
  rw [h0] at c1
  have c1 := Lib.hid c1
  have hrH := Lib.hid hr
  have hAr := Lib.hid (fun w' (h : Below w.heap.size w w') => (hA.below h).more h.size)
  clear h0 hr hA
  go_enter Tryz.func15, Tryz.ntmps15
  go_wp2_with fail
  refine c1.out.mono ?_
  rintro e w1 ⟨rfl, hv1⟩
  go_wp2_with fail
  refine (cO.out w1 hv1).mono ?_
  rintro e w2 ⟨B, m, d, rfl, oB, hv2⟩
  have hml : (outW xs).length = m := by simpa using oB.rd.2.1
  have hb2 := hv1.trans (hv2.mono hv1.size)
  have cE := Lib.hid (equalS_any B A m n d c (outW xs) xs w2 oB.rd.1 (hAr.out w2 hb2) (by simp [maxLen]; omega) hnm)
  have hz2 := hb2.size
  clear hml
  by_cases he : outW xs = xs
  · have hT : Hid (0 = r) := Lib.hid (by rw [← hrH.out, if_pos he])
    rw [decide_eq_true he] at cE
    clear he
    go_wp2_with fail
    refine cE.out.mono ?_
    rintro e w3 ⟨rfl, hv3⟩
    have hG := hb2.trans (hv3.mono hz2)
    go_wp2
    go_ret
    exact ⟨ret_int hT.out, hG⟩
  · have hT : Hid (3 = r) := Lib.hid (by rw [← hrH.out, if_neg he])
    rw [decide_eq_false he] at cE
    clear he
    go_wp2_with fail
    refine cE.out.mono ?_
    rintro e w3 ⟨rfl, hv3⟩
    have hG := hb2.trans (hv3.mono hz2)
    go_wp2
    go_ret
    exact ⟨ret_int hT.out, hG⟩
/-- A list of texts that a call gives. -/
def GotS (w : World) (A : Option Addr) (n : Nat) (xs : List (List UInt8)) : Prop := RdS w w.heap.size A n xs ∧ n ≤ 100000
end Go.Proofs.YtelipindcacphaaGreatDoor
