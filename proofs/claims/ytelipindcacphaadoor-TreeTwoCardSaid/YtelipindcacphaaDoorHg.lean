/- Interests of the program: Check, Make, Join, Minus. -/
import Derived.Test.YtelipindcacphaaDoorHf
namespace Go.Proofs.YtelipindcacphaaDoor
open Go.RowKit

theorem shortS.max {xs : List (List UInt8)} (h : shortS xs) : ∀ x ∈ xs, x.length ≤ maxLen := fun x hx => by have := h x hx; simp [maxLen]; omega
theorem shortS.mid {xs : List (List UInt8)} (h : shortS xs) : ∀ x ∈ xs, x.length ≤ 1099511627776 := fun x hx => by have := h x hx; omega
theorem orE_any (g : Nat) (p q : Int) (w : World) (hg : g < w.heap.size) (h0 : w.cell? ⟨g, 0, none⟩ = some (.int .i64 p)) (h1 : w.cell? ⟨g, 1, none⟩ = some (.int .i64 q)) :
    Calls Tryd.prog 18 #[.slice (some ⟨g, 0, none⟩) 2 2] w fun e w' => e = .returned (.int .i64 (if p ≠ 0 then p else q)) ∧ w' = w := by
  generalize hr : (if p ≠ 0 then p else q) = r
  have hrH := Lib.hid hr
  clear hr
  go_enter Tryd.func18, Tryd.ntmps18
  go_wp2
  go_loopg [8] 3 (fun g' i wr => ∃ k : Nat, k ≤ 2 ∧ g' = 3 - k ∧ i = .int .i64 k ∧ wr = w ∧ (1 ≤ k → p = 0) ∧ (2 ≤ k → q = 0))
  case atStart => exact ⟨0, by omega, rfl, rfl, rfl, by omega, by omega⟩
  case round =>
    obtain ⟨k, hk, rfl, rfl, rfl, hp, hq⟩ := hrel
    obtain rfl | rfl | rfl : k = 0 ∨ k = 1 ∨ k = 2 := by omega
    · by_cases h : p = 0
      · subst h
        go_wp2
        go_roundg 2
        case measure => omega
        case rel => exact ⟨1, by omega, rfl, by go_num, rfl, fun _ => (by first | trivial | rfl), by omega⟩
      · have hT := Lib.hid h
        have hd : (p == 0) = false := by simpa using h
        go_wp2
        go_ret
        exact ⟨ret_int (by rw [← hrH.out, if_pos hT.out]), rfl⟩
    · have hp' := Lib.hid (hp (by omega))
      clear hp
      by_cases h : q = 0
      · subst h
        go_wp2
        go_roundg 1
        case measure => omega
        case rel => exact ⟨2, by omega, rfl, by go_num, rfl, fun _ => hp'.out, fun _ => (by first | trivial | rfl)⟩
      · have hd : (q == 0) = false := by simpa using h
        go_wp2
        go_ret
        exact ⟨ret_int (by rw [← hrH.out, if_neg (by simp [hp'.out])]), rfl⟩
    · have hp' := Lib.hid (hp (by omega))
      have hq' := Lib.hid (hq (by omega))
      clear hp hq
      go_wp2
      go_ret
      exact ⟨ret_int (by rw [← hrH.out, if_neg (by simp [hp'.out])]; exact hq'.out.symm), rfl⟩
set_option maxRecDepth 100000 in
theorem tCheck_any (A : Option Addr) (n c : Nat) (xs : List (List UInt8)) (w : World) (hA : RdS w w.heap.size A n xs) (hn : n ≤ 100000) (hx : shortS xs) (hv : VarM w) :
    Calls Tryd.prog 19 #[.slice A n c] w fun e w' => e = .returned (.int .i64 (chkW xs)) ∧ Below w.heap.size w w' := by
  have hnm : n ≤ maxLen := by simp [maxLen]; omega
  have c1 := tcheck_any 16 (by decide) A n c xs w hA hnm hx.max hv
  generalize hr : chkW xs = r
  unfold chkW at hr
  have cO := Lib.hid (fun w' (h : Below w.heap.size w w') => touter_any A n c xs w' ((hA.below h).more h.size) hn hx.mid)
  have hoL := outW_len xs
  rw [hA.len] at hoL
  by_cases h0 : chkN 16 xs = 0
  case neg =>
    rw [if_pos h0] at hr
    rw [hr] at c1 h0
    have hne : (r == 0) = false := by simpa using h0
    have c1 := Lib.hid c1
    clear hr h0 cO
    go_enter Tryd.func19, Tryd.ntmps19
    go_wp2_with fail
    refine c1.out.mono ?_
    rintro e w1 ⟨rfl, hv1⟩
    go_wp2
    go_ret
    exact ⟨rfl, hv1⟩
  rw [if_neg (by simp [h0])] at hr
  rw [h0] at c1
  have c1 := Lib.hid c1
  have hrH := Lib.hid hr
  have hAr := Lib.hid (fun w' (h : Below w.heap.size w w') => (hA.below h).more h.size)
  clear h0 hr hA
  go_enter Tryd.func19, Tryd.ntmps19
  go_wp2_with fail
  refine c1.out.mono ?_
  rintro e w1 ⟨rfl, hv1⟩
  go_wp2_with fail
  refine (cO.out w1 hv1).mono ?_
  rintro e w2 ⟨B, m, d, rfl, oB, hv2⟩
  have hml : (outW xs).length = m := by simpa using oB.rd.2.1
  have hb2 := hv1.trans (hv2.mono hv1.size)
  have cE := Lib.hid (equalS_any B A m n d c (outW xs) xs w2 oB.rd.1 (hAr.out w2 hb2) (by simp [maxLen]; omega) hnm)
  have hz2 := hb2.size
  clear hml
  by_cases he : outW xs = xs
  · have hT : Hid (0 = r) := Lib.hid (by rw [← hrH.out, if_pos he])
    rw [decide_eq_true he] at cE
    clear he
    go_wp2_with fail
    refine cE.out.mono ?_
    rintro e w3 ⟨rfl, hv3⟩
    have hG := hb2.trans (hv3.mono hz2)
    go_wp2
    go_ret
    exact ⟨ret_int hT.out, hG⟩
  · have hT : Hid (3 = r) := Lib.hid (by rw [← hrH.out, if_neg he])
    rw [decide_eq_false he] at cE
    clear he
    go_wp2_with fail
    refine cE.out.mono ?_
    rintro e w3 ⟨rfl, hv3⟩
    have hG := hb2.trans (hv3.mono hz2)
    go_wp2
    go_ret
    exact ⟨ret_int hT.out, hG⟩
/-- A list of texts that a call gives. -/
def GotS (w : World) (A : Option Addr) (n : Nat) (xs : List (List UInt8)) : Prop := RdS w w.heap.size A n xs ∧ n ≤ 100000
set_option maxRecDepth 100000 in
theorem tmake_any (A : Option Addr) (n c : Nat) (xs : List (List UInt8)) (w : World) (hA : RdS w w.heap.size A n xs) (hn : n ≤ 100000) (hx : shortS xs) (hv : VarM w) :
    Calls Tryd.prog 20 #[.slice A n c] w fun e w' => ∃ A' n' c', e = .returned (.tuple #[.slice A' n' c', .int .i64 (makeWE xs)]) ∧ GotS w' A' n' (makeW xs) ∧ Below w.heap.size w w' := by
  have hnm : n ≤ maxLen := by simp [maxLen]; omega
  have c1 := tcheck_any 256 (by decide) A n c xs w hA hnm hx.max hv
  have hnil : ∀ w, GotS w none 0 [] := fun w => ⟨Rd.nil_, by omega⟩
  generalize hr : makeWE xs = r
  generalize hm : makeW xs = out
  unfold makeW at hm
  rw [hr] at hm
  unfold makeWE at hr
  have cO := Lib.hid (fun w' (h : Below w.heap.size w w') => touter_any A n c xs w' ((hA.below h).more h.size) hn hx.mid)
  have hoL := outW_len xs
  rw [hA.len] at hoL
  by_cases h0 : chkN 256 xs = 0
  case neg =>
    rw [if_pos h0] at hr
    rw [hr] at c1 h0
    rw [if_pos h0] at hm
    subst hm
    have hne : (r == 0) = false := by simpa using h0
    have c1 := Lib.hid c1
    clear hr h0 cO
    go_enter Tryd.func20, Tryd.ntmps20
    go_wp2_with fail
    refine c1.out.mono ?_
    rintro e w1 ⟨rfl, hv1⟩
    go_wp2
    refine bodyPost_ret (v := .tuple #[.slice none 0 0, .int .i64 r]) (by simp [results, Tryd.results20, go_sem]) rfl ⟨none, 0, 0, rfl, hnil _, hv1⟩
  rw [if_neg (by simp [h0])] at hr
  rw [h0] at c1
  have c1 := Lib.hid c1
  have hrH := Lib.hid hr
  have hmH := Lib.hid hm
  clear h0 hr hA hm
  go_enter Tryd.func20, Tryd.ntmps20
  go_wp2_with fail
  refine c1.out.mono ?_
  rintro e w1 ⟨rfl, hv1⟩
  go_wp2_with fail
  refine (cO.out w1 hv1).mono ?_
  rintro e w2 ⟨B, m, d, rfl, oB, hv2⟩
  have hml : (outW xs).length = m := by simpa using oB.rd.2.1
  have hb2 := hv1.trans (hv2.mono hv1.size)
  have hB : RdS w2 w2.heap.size B m (outW xs) := oB.rd.1
  clear oB
  by_cases h16 : 16 < m
  · have hr2 : Hid (r = 8) := Lib.hid (by rw [← hrH.out, if_pos (by omega)])
    have hm2 : Hid (out = []) := Lib.hid (by rw [← hmH.out, if_pos (by rw [hr2.out]; decide)])
    have hd : decide ((16 : Int) < (m : Int)) = true := decide_eq_true (by omega)
    clear hml h16
    go_wp2
    refine bodyPost_ret (v := .tuple #[.slice none 0 0, .int .i64 8]) (by simp [results, Tryd.results20, go_sem]) rfl ⟨none, 0, 0, by rw [hr2.out], by rw [hm2.out]; exact hnil _, hb2⟩
  · have hr2 : Hid (r = 0) := Lib.hid (by rw [← hrH.out, if_neg (by omega)])
    have hm2 : Hid (out = outW xs) := Lib.hid (by rw [← hmH.out, if_neg (by rw [hr2.out]; decide)])
    have hd : decide ((16 : Int) < (m : Int)) = false := decide_eq_false (by omega)
    have hm3 : m ≤ 100000 := by omega
    clear hml h16
    go_wp2
    refine bodyPost_ret (v := .tuple #[.slice B m d, .int .i64 0]) (by simp [results, Tryd.results20, go_sem]) rfl ⟨B, m, d, by rw [hr2.out], by rw [hm2.out]; exact ⟨hB, hm3⟩, hb2⟩
set_option maxRecDepth 100000 in
set_option maxHeartbeats 1000000 in
theorem tjoin_any (A : Option Addr) (n c : Nat) (xs : List (List UInt8)) (B : Option Addr) (m d : Nat) (ys : List (List UInt8)) (w : World) (hA : RdS w w.heap.size A n xs) (hB : RdS w w.heap.size B m ys) (hn : n ≤ 10000) (hm : m ≤ 10000) (hx : shortS xs) (hy : shortS ys) (hv : VarM w) :
    Calls Tryd.prog 6 #[.slice A n c, .slice B m d] w fun e w' => ∃ A' n' c', e = .returned (.tuple #[.slice A' n' c', .int .i64 (joinWE xs ys)]) ∧ GotS w' A' n' (joinW xs ys) ∧ Below w.heap.size w w' := by
  have c1 := Lib.hid (tCheck_any A n c xs w hA (by omega) hx hv)
  have c2 := Lib.hid (fun w' (h : Below w.heap.size w w') => tCheck_any B m d ys w' ((hB.below h).more h.size) (by omega) hy (hv.below h hv.lt))
  have cC := Lib.hid (fun g w' (h : Below w.heap.size w w') (hb : w'.heap[g]? = some (.cells #[.slice A n c, .slice B m d] 22 (0, 0))) => concatS_any g A B n m c d xs ys w' hb ((hA.below h).more h.size) ((hB.below h).more h.size) (by omega) (by omega))
  have hvr := Lib.hid (fun w' (h : Below w.heap.size w w') => hv.below h hv.lt)
  have hxy : shortS (xs ++ ys) := fun x h => (List.mem_append.1 h).elim (hx x) (hy x)
  have hnil : ∀ w, GotS w none 0 [] := fun w => ⟨Rd.nil_, by omega⟩
  have hor := Lib.hid (fun g w hg h0 h1 => orE_any g (chkW xs) (chkW ys) w hg h0 h1)
  generalize hr : joinWE xs ys = r
  generalize hq : joinW xs ys = out
  unfold joinW at hq
  rw [hr] at hq
  unfold joinWE at hr
  have hr2 : (if (if chkW xs ≠ 0 then chkW xs else chkW ys) ≠ 0 then (if chkW xs ≠ 0 then chkW xs else chkW ys) else makeWE (xs ++ ys)) = r := by
    rw [← hr]
    by_cases h1 : chkW xs = 0
    · rw [if_neg (show ¬ chkW xs ≠ 0 by simp [h1]), if_neg (show ¬ chkW xs ≠ 0 by simp [h1])]
    · rw [if_pos h1, if_pos h1, if_pos h1]
  clear hr
  generalize (if chkW xs ≠ 0 then chkW xs else chkW ys) = e0 at hor hr2
  generalize chkW xs = ex at c1 hor
  generalize chkW ys = ey at c2 hor
  have hr2H := Lib.hid hr2
  have hqH := Lib.hid hq
  clear hr2 hq hA hB hv
  go_enter Tryd.func6, Tryd.ntmps6
  go_wp2_with fail
  refine c1.out.mono ?_
  rintro e w1 ⟨rfl, hv1⟩
  go_wp2_with fail
  refine (c2.out w1 hv1).mono ?_
  rintro e w2 ⟨rfl, hv2⟩
  have hb2 := hv1.trans (hv2.mono hv1.size)
  have hz2 := hb2.size
  have hbE : (w2.alloc (.cells #[.int .i64 ex, .int .i64 ey] 33)).heap[w2.heap.size]? = some (.cells #[.int .i64 ex, .int .i64 ey] 33 (0, 0)) := heap_at _ _ rfl
  have cE := Lib.hid (hor.out w2.heap.size _ (by simp) (blk_cell hbE 0) (blk_cell hbE 1))
  clear hbE
  go_wp2_with fail
  refine cE.out.mono ?_
  rintro e w3 ⟨rfl, rfl⟩
  have hb3 : Below w.heap.size w (w2.alloc (.cells #[.int .i64 ex, .int .i64 ey] 33)) := hb2.alloc hz2 _
  by_cases h0 : e0 = 0
  case neg =>
    have hne : (e0 == 0) = false := by simpa using h0
    have hr3 : Hid (r = e0) := Lib.hid (by rw [← hr2H.out, if_pos h0])
    have hq3 : Hid (out = []) := Lib.hid (by rw [← hqH.out, if_pos (by rw [hr3.out]; exact h0)])
    clear h0
    go_wp2
    refine bodyPost_ret (v := .tuple #[.slice none 0 0, .int .i64 e0]) (by simp [results, Tryd.results6, go_sem]) rfl ⟨none, 0, 0, by rw [hr3.out], by rw [hq3.out]; exact hnil _, hb3⟩
  subst h0
  have hr3 : Hid (r = makeWE (xs ++ ys)) := Lib.hid (by rw [← hr2H.out, if_neg (by decide)])
  have hq3 : Hid (out = makeW (xs ++ ys)) := Lib.hid (by rw [← hqH.out]; unfold makeW; rw [hr3.out])
  clear cE hor hr2H hqH c1 c2 hv1 hv2
  generalize w2.alloc (.cells #[.int .i64 ex, .int .i64 ey] 33) = W3 at hb3
  have hz3 := hb3.size
  have hb4 : Below w.heap.size w (W3.alloc (.cells #[.slice A n c, .slice B m d] 22)) := hb3.alloc hz3 _
  have cC4 := Lib.hid (cC.out W3.heap.size _ hb4 (heap_at _ _ rfl))
  go_wp2_with fail
  refine cC4.out.mono ?_
  rintro e w5 ⟨T, t, rfl, oT, hv5⟩
  have hb5 := hb4.trans (hv5.mono hb4.size)
  have cM := Lib.hid (tmake_any T (n + m) t (xs ++ ys) w5 oT.rd.1 (by omega) hxy (hvr.out w5 hb5))
  have hz5 := hb5.size
  clear oT cC4
  go_wp2_with fail
  refine cM.out.mono ?_
  rintro e w6 ⟨U, u, v, rfl, hU, hv6⟩
  have hG := hb5.trans (hv6.mono hz5)
  go_wp2
  refine bodyPost_ret (v := .tuple #[.slice U u v, .int .i64 (makeWE (xs ++ ys))]) (by simp [results, Tryd.results6, go_sem]) rfl ⟨U, u, v, by rw [hr3.out], by rw [hq3.out]; exact hU, hG⟩
end Go.Proofs.YtelipindcacphaaDoor
