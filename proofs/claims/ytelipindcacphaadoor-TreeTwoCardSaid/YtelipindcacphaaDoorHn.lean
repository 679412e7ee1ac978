/- The document's Join and Minus of interests. -/
import Derived.Test.YtelipindcacphaaDoorHj
import Derived.Test.YtelipindcacphaaDoorHh
namespace Go.Proofs.YtelipindcacphaaDoor
open Go.RowKit

theorem chkN_one (p : List UInt8) : chkN 1 [p] = prefErr p := by
  unfold chkN prefErr
  by_cases h : 24 < p.length
  · rw [if_pos (Or.inr (by simp [h])), if_pos h]
  · rw [if_neg (by simp [h]), if_neg h]
    simp
set_option maxRecDepth 100000 in
set_option maxHeartbeats 2000000 in
theorem rjoinW_any (A : Option Addr) (n c : Nat) (xs : List (List UInt8)) (B : Option Addr) (m d : Nat) (ys : List (List UInt8)) (w : World) (hA : RdS w w.heap.size A n xs) (hB : RdS w w.heap.size B m ys) (hn : n ≤ 10000) (hm : m ≤ 10000) (hx : shortS xs) (hy : shortS ys) :
    Calls Tryd.prog 8 #[.slice A n c, .slice B m d] w (PostMk w (joinWE xs ys) (joinW xs ys)) := by
  have c1 := Lib.hid (rCheckW_any A n c xs w hA (by omega) hx)
  have c2 := Lib.hid (fun w' (h : Below w.heap.size w w') => rCheckW_any B m d ys w' ((hB.below h).more h.size) (by omega) hy)
  have hnil : ∀ w, GotS w none 0 [] := fun w => ⟨Rd.nil_, by omega⟩
  have hxyl : (xs ++ ys).length = n + m := by rw [List.length_append, hA.len, hB.len]
  have hsh : shortS (xs ++ ys) := fun x hx' => (List.mem_append.1 hx').elim (hx x) (hy x)
  have cM := Lib.hid (fun A' c' w' (h : RdS w' w'.heap.size A' (n + m) (xs ++ ys)) => rmakeW_any A' (n + m) c' (xs ++ ys) w' h (by omega) hsh)
  generalize hr : joinWE xs ys = r
  generalize ho : joinW xs ys = out
  unfold joinW at ho
  rw [hr] at ho
  unfold joinWE at hr
  have hAH := Lib.hid hA
  have hBH := Lib.hid hB
  by_cases h1 : chkW xs = 0
  case neg =>
    rw [if_pos h1] at hr
    rw [if_pos (by rw [← hr]; exact h1)] at ho
    subst ho
    rw [hr] at c1 h1
    have hb1 : (r != 0) = true := by simpa using h1
    have hb2 : (r == 0) = false := by simpa using h1
    clear hr h1 hxyl hsh cM c2 hA hB
    go_enter Tryd.func8, Tryd.ntmps8
    go_wp2_with fail
    refine c1.out.mono ?_
    rintro e w1 ⟨rfl, hv1⟩
    go_wp2
    refine bodyPost_ret (v := .tuple #[.slice none 0 0, .int .i64 r]) (by simp [results, Tryd.results8, go_sem]) rfl ⟨none, 0, 0, rfl, hnil _, hv1⟩
  rw [if_neg (by simp [h1])] at hr
  rw [h1] at c1
  by_cases h2 : chkW ys = 0
  case neg =>
    rw [if_pos h2] at hr
    rw [if_pos (by rw [← hr]; exact h2)] at ho
    subst ho
    rw [hr] at c2 h2
    have hb1 : (r != 0) = true := by simpa using h2
    clear hr h1 h2 hxyl hsh cM hA hB
    go_enter Tryd.func8, Tryd.ntmps8
    go_wp2_with fail
    refine c1.out.mono ?_
    rintro e w1 ⟨rfl, hv1⟩
    go_wp2_with fail
    refine (c2.out w1 hv1).mono ?_
    rintro e w2 ⟨rfl, hv2⟩
    have hG := hv1.trans (hv2.mono hv1.size)
    go_wp2
    refine bodyPost_ret (v := .tuple #[.slice none 0 0, .int .i64 r]) (by simp [results, Tryd.results8, go_sem]) rfl ⟨none, 0, 0, rfl, hnil _, hG⟩
  rw [if_neg (by simp [h2])] at hr
  rw [h2] at c2
  have hmk : Hid (makeW (xs ++ ys) = out) := Lib.hid (by unfold makeW; rw [hr]; exact ho)
  rw [hr, hmk.out] at cM
  have hxL := Lib.hid hA.len
  have hyL := Lib.hid hB.len
  clear hr ho h1 h2 hxyl hsh hA hB
  go_enter Tryd.func8, Tryd.ntmps8
  go_wp2_with fail
  refine c1.out.mono ?_
  rintro e w1 ⟨rfl, hv1⟩
  go_wp2_with fail
  refine (c2.out w1 hv1).mono ?_
  rintro e w2 ⟨rfl, hv2⟩
  have hG := hv1.trans (hv2.mono hv1.size)
  have hGz := hG.size
  have hbm : Below w2.heap.size w2 (w2.alloc (.cells #[] 9)) := (Below.refl _ w2).alloc (Nat.le_refl _) _
  have hGm := hG.trans (hbm.mono hGz)
  have hrX := Lib.hid ((hAH.out.below hGm))
  have hrY := Lib.hid ((hBH.out.below hGm))
  go_wp2_with (first
    | (at_builtin; refine wpList_append_rd _ rfl _ _ _ rfl eStr (base := w2.heap.size) (v := .slice A2 n c2) (xs := xs.map encS) rfl hown2 rfl (Rd.below hBH.out hGm4) encS_len encS_one (by simp only [List.length_map, hxL.out]; unfold maxLen; omega) (by simp only [List.length_map, hxL.out]; omega) (by first | omega | (simp; omega)) ?_; intro A3 n3 c3 w5 hn3 hown3 hg5 hat5; (obtain rfl : n3 = n + m := (by rw [hn3]; simp only [List.length_map, hxL.out])); clear hn3)
    | (at_builtin; refine wpList_append_rd _ rfl _ _ _ rfl eStr (base := w2.heap.size) (v := .slice (some ⟨w2.heap.size, 0, none⟩) 0 0) (xs := []) rfl (Ow.made0 _ _ _ (Nat.le_refl _)) rfl (Rd.below hAH.out hGm) encS_len encS_one (by simp [maxLen]; omega) (by simp; omega) (by simp) ?_; intro A2 n2 c2 w4 hn2 hown2 hg4 hat2; (obtain rfl : n = n2 := (by rw [hn2]; simp)); clear hn2; (have hGm4 : Below w.heap.size w w4 := hGm.grown hg4 (by simp; omega) (fun g e => by simp [Value.ownBlock] at e; omega)); (have hs4 := hg4.size); (simp only [World.size_alloc] at hs4); (have hs5 := hGm4.size)))
  have hGn := hGm4.grown hg5 hs5 (fun g e => by have := (hown2.block g e).1; omega)
  have hrd3 : RdS w5 w5.heap.size A3 (n + m) (xs ++ ys) := by have := hown3.rd.1; rw [← List.map_append] at this; exact this
  clear hown2 hown3 hg4 hg5 hat2 hat5 hs4 hs5 hrX hrY hGm hbm
  refine (cM.out A3 c3 w5 hrd3).mono ?_
  rintro e w6 ⟨A', n', c', rfl, hG6, hv6⟩
  have hGf := hGn.trans (hv6.mono hGn.size)
  go_wp2
  refine bodyPost_ret (v := .tuple #[.slice A' n' c', .int .i64 r]) (by simp [results, Tryd.results8, go_sem]) rfl ⟨A', n', c', rfl, hG6, hGf⟩
theorem filter_takeW {l : List (List UInt8)} {p : List UInt8 → Bool} {k : Nat} {u : List UInt8} (h : l[k]? = some u) : (l.take (k + 1)).filter p = (l.take k).filter p ++ if p u then [u] else [] := filter_takeH h
set_option maxRecDepth 100000 in
set_option maxHeartbeats 2000000 in
theorem rminusW_any (A : Option Addr) (n c : Nat) (xs : List (List UInt8)) (p : List UInt8) (w : World) (hA : RdS w w.heap.size A n xs) (hn : n ≤ 10000) (hx : shortS xs) (hp : p.length ≤ 1000) :
    Calls Tryd.prog 10 #[.slice A n c, .string (bs p)] w (PostMk w (minusWE xs p) (minusW xs p)) := by
  have c1 := Lib.hid (rCheckW_any A n c xs w hA (by omega) hx)
  have c2 := Lib.hid (fun w' => rprefix_any (bs p) (by rw [bs_size]; simp [maxLen]; omega) w')
  rw [bs_list] at c2
  have hnil : ∀ w, GotS w none 0 [] := fun w => ⟨Rd.nil_, by omega⟩
  generalize hr : minusWE xs p = r
  generalize ho : minusW xs p = out
  unfold minusW at ho
  rw [hr] at ho
  unfold minusWE at hr
  rw [chkN_one] at hr
  have hAH := Lib.hid hA
  by_cases h1 : chkW xs = 0
  case neg =>
    rw [if_pos h1] at hr
    rw [if_pos (by rw [← hr]; exact h1)] at ho
    subst ho
    rw [hr] at c1 h1
    have hb1 : (r != 0) = true := by simpa using h1
    have hb2 : (r == 0) = false := by simpa using h1
    clear hr h1 c2 hA
    go_enter Tryd.func10, Tryd.ntmps10
    go_wp2_with fail
    refine c1.out.mono ?_
    rintro e w1 ⟨rfl, hv1⟩
    go_wp2
    refine bodyPost_ret (v := .tuple #[.slice none 0 0, .int .i64 r]) (by simp [results, Tryd.results10, go_sem]) rfl ⟨none, 0, 0, rfl, hnil _, hv1⟩
  rw [if_neg (by simp [h1])] at hr
  rw [h1] at c1
  have hlx := hA.len
  by_cases h2 : prefErr p = 0
  case neg =>
    rw [if_pos (by rw [← hr]; exact h2)] at ho
    subst ho
    rw [hr] at c2 h2
    have hb1 : (r != 0) = true := by simpa using h2
    clear hr h1 h2 hA
    go_enter Tryd.func10, Tryd.ntmps10
    go_wp2_with fail
    refine c1.out.mono ?_
    rintro e w1 ⟨rfl, hv1⟩
    go_wp2_with fail
    refine (c2.out w1).mono ?_
    rintro e w2 ⟨rfl, rfl⟩
    go_wp2
    refine bodyPost_ret (v := .tuple #[.slice none 0 0, .int .i64 r]) (by simp [results, Tryd.results10, go_sem]) rfl ⟨none, 0, 0, rfl, hnil _, hv1⟩
  rw [h2] at c2
  obtain rfl : r = 0 := by rw [← hr]; exact h2
  rw [if_neg (by simp)] at ho
  have hoH := Lib.hid ho
  have hlxH := Lib.hid hlx
  have hxs := Lib.hid hx
  clear hr ho h1 h2 hA hlx hx
  go_enter Tryd.func10, Tryd.ntmps10
  go_wp2_with fail
  refine c1.out.mono ?_
  rintro e w1 ⟨rfl, hv1⟩
  go_wp2_with fail
  refine (c2.out w1).mono ?_
  rintro e w2 ⟨rfl, rfl⟩
  clear c1 c2
  go_wp2_with fail
  go_loopg [7, 8] (n + 1) (fun g o i wr => ∃ (k m : Nat) (T : Option Addr) (c' : Nat), k ≤ n ∧ m ≤ k ∧ g = n + 1 - k ∧ i = .int .i64 (k : Int) ∧ o = .slice T m c' ∧ Ow wr w.heap.size 9 1 (.slice T m c') (((xs.take k).filter fun x => !withinB x p).map encS) ∧ Below w.heap.size w wr)
  case atStart => exact ⟨0, 0, none, 0, Nat.zero_le _, Nat.le_refl _, rfl, rfl, rfl, Ow.nil_ _ _ _ _, hv1⟩
  case round =>
    clear hv1
    obtain ⟨k, m, T, c', hk, hmk, rfl, rfl, rfl, hown, hbr⟩ := hrel
    have hz := hbr.size
    have hml : ((xs.take k).filter fun x => !withinB x p).length = m := by simpa using hown.rd.2.1
    have hmlH := Lib.hid hml
    clear hml
    by_cases hlt : k < n
    · obtain ⟨bA, oA, u, rfl, hbA, hq, hcp⟩ := (hAH.out.below hbr).at_ hlt
      have p0 := hcp 0 _ rfl
      rw [Nat.add_zero, Nat.mul_one] at p0
      clear hcp
      have hbA2 : bA < wr.heap.size := by omega
      have hlti : (k : Int) < (n : Int) := by omega
      have hul := hxs.out u (List.mem_of_getElem? hq)
      have cw := Lib.hid (fun w' => rwithin_any u p (by simp [maxLen]; omega) (by simp [maxLen]; omega) w')
      have hstep := Lib.hid (filter_takeW (p := fun x => !withinB x p) hq)
      clear hq
      generalize hwi : withinB u p = b at cw
      have hwiH := Lib.hid hwi
      clear hwi
      cases b with
      | true =>
        have hT : Hid (((xs.take (k + 1)).filter fun x => !withinB x p) = (xs.take k).filter fun x => !withinB x p) := Lib.hid (by rw [hstep.out, hwiH.out]; simp)
        clear hstep
        go_wp2_with fail
        refine (cw.out wr).mono ?_
        rintro e w3 ⟨rfl, rfl⟩
        go_wp2
        go_roundg (n + 1 - (k + 1))
        case measure => omega
        case rel => exact ⟨k + 1, m, T, c', by omega, by omega, rfl, by go_num, rfl, by rw [hT.out]; exact hown, hbr⟩
      | false =>
        have hT : Hid (((xs.take (k + 1)).filter fun x => !withinB x p) = ((xs.take k).filter fun x => !withinB x p) ++ [u]) := Lib.hid (by rw [hstep.out, hwiH.out]; simp)
        clear hstep
        go_wp2_with fail
        refine (cw.out wr).mono ?_
        rintro e w3 ⟨rfl, rfl⟩
        have hbO : Below wr.heap.size wr (wr.alloc (.cells #[.string (bs u)] 9)) := (Below.refl _ wr).alloc (Nat.le_refl _) _
        have hlen1 : ∀ y ∈ ([[.string (bs u)]] : List (List Value)), y.length = 1 := by simp
        have hone1 : ∀ y ∈ ([[.string (bs u)]] : List (List Value)), ∀ v ∈ y, v.oneCell' = true := by simp [Value.oneCell']
        go_wp2_with (at_builtin; refine wpList_append_rd _ rfl _ _ _ rfl eStr (base := w.heap.size) (v := .slice T m c') (xs := ((xs.take k).filter fun x => !withinB x p).map encS) rfl (hown.below hbO) rfl (Rd.one' [.string (bs u)] rfl) hlen1 hone1 (by rw [List.length_map, hmlH.out]; unfold maxLen; omega) (by rw [List.length_map, hmlH.out]; omega) (by simp; omega) ?_; intro A2 n2 c2 w4 hn2 hown4 hg4 hat2; (obtain rfl : n2 = m + 1 := (by rw [hn2, List.length_map, hmlH.out])); clear hn2)
        have hG4 : Below w.heap.size w w4 := (hbr.trans (hbO.mono hz)).grown hg4 (by simp; omega) (fun g e => (hown.block g e).1)
        have hown5 : Hid (Ow w4 w.heap.size 9 1 (.slice A2 (m + 1) c2) (((xs.take (k + 1)).filter fun x => !withinB x p).map encS)) := Lib.hid (by rw [hT.out, List.map_append]; exact hown4)
        go_roundg (n + 1 - (k + 1))
        case measure => omega
        case rel => exact ⟨k + 1, m + 1, A2, c2, by omega, by omega, rfl, by go_num, rfl, hown5.out, hG4⟩
    · obtain rfl : k = n := by omega
      have hnli : ¬ (k : Int) < (k : Int) := by omega
      have hT : Hid ((xs.take k).filter (fun x => !withinB x p) = out) := Lib.hid (by rw [List.take_of_length_le (by have := hlxH.out; omega)]; exact hoH.out)
      have hrd : RdS wr wr.heap.size T m out := by have := hown.rd.1; rw [hT.out] at this; exact this
      go_wp2
      refine bodyPost_ret (v := .tuple #[.slice T m c', .int .i64 0]) (by simp [results, Tryd.results10, go_sem]) rfl ⟨T, m, c', rfl, ⟨hrd, by omega⟩, hbr⟩
end Go.Proofs.YtelipindcacphaaDoor
