/- The document's Make of interests. -/
import Derived.Test.YtelipindcacphaaDoorHi
namespace Go.Proofs.YtelipindcacphaaDoor
open Go.RowKit

def cndR (l : List (List UInt8)) (i k : Nat) : Bool := !((!decide (l.getD k [] = l.getD i []) && withinB (l.getD i []) (l.getD k [])) || (decide (l.getD k [] = l.getD i []) && decide (k < i)))
/-- What Make leaves. -/
def PostMk (w : World) (r : Int) (out : List (List UInt8)) (e : Ending) (w' : World) : Prop := ∃ A' n' c', e = .returned (.tuple #[.slice A' n' c', .int .i64 r]) ∧ GotS w' A' n' out ∧ Below w.heap.size w w'
theorem keepR_all (l : List (List UInt8)) (i : Nat) : keepR l i = (List.range l.length).all (cndR l i) := rfl
theorem all_range_succ (f : Nat → Bool) (q : Nat) : (List.range (q + 1)).all f = ((List.range q).all f && f q) := by rw [List.range_succ, List.all_append]; simp
theorem Ow.dr {w : World} {base : Nat} {e : TypeId} {sz : Nat} {v : Value} {xs : List (List Value)} (h : Ow w base e sz v xs) (n : Nat) : Ow (w.drewN n) base e sz v xs := h.below (below_dr (Below.refl _ _) n)
set_option maxRecDepth 100000 in
set_option maxHeartbeats 4000000 in
theorem rmakeW_any (A : Option Addr) (n c : Nat) (xs : List (List UInt8)) (w : World) (hA : RdS w w.heap.size A n xs) (hn : n ≤ 100000) (hx : shortS xs) :
    Calls Tryd.prog 23 #[.slice A n c] w (PostMk w (makeWE xs) (makeW xs)) := by
  have hnm : n ≤ maxLen := by simp [maxLen]; omega
  have c1 := rlong_any 256 (by decide) A n c xs w hA hnm hx.max
  have hnil : ∀ w, GotS w none 0 [] := fun w => ⟨Rd.nil_, by omega⟩
  generalize hr : makeWE xs = r
  generalize hm : makeW xs = out
  unfold makeW at hm
  rw [hr] at hm
  have hl := hA.len
  have hlt16 : (256 < xs.length ∨ xs.any (fun p => decide (24 < p.length)) = true) ∨ ¬ (256 < xs.length ∨ xs.any (fun p => decide (24 < p.length)) = true) := Classical.em _
  rcases hlt16 with h0 | h0
  · have hT : Hid (r = 8) := Lib.hid (by rw [← hr]; unfold makeWE chkN; rw [if_pos h0, if_pos (by decide)])
    have hm2 : Hid (out = []) := Lib.hid (by rw [← hm, if_pos (by rw [hT.out]; decide)])
    rw [decide_eq_true h0] at c1
    clear h0 hr hm
    go_enter Tryd.func23, Tryd.ntmps23
    go_wp2_with fail
    refine c1.mono ?_
    rintro e w1 ⟨rfl, hv1⟩
    go_wp2
    refine bodyPost_ret (v := .tuple #[.slice none 0 0, .int .i64 8]) (by simp [results, Tryd.results23, go_sem]) rfl ⟨none, 0, 0, by rw [hT.out], by rw [hm2.out]; exact hnil _, hv1⟩
  rw [decide_eq_false h0] at c1
  have h24 : ∀ x ∈ xs, x.length ≤ 24 := fun x hx => Nat.le_of_not_lt fun e => h0 (.inr (List.any_eq_true.2 ⟨x, hx, by simpa using e⟩))
  have cP := Lib.hid (fun w' (h : Below w.heap.size w w') => rprefixes_any A n c xs w' ((hA.below h).more h.size) hnm h24)
  unfold makeWE at hr
  rw [show chkN 256 xs = if xs.all prefOk = true then 0 else 3 by unfold chkN; rw [if_neg h0]] at hr
  have c1 := Lib.hid c1
  cases hp : xs.all prefOk with
  | false =>
    have hT : Hid (r = 3) := Lib.hid (by rw [← hr, hp]; rfl)
    have hm2 : Hid (out = []) := Lib.hid (by rw [← hm, if_pos (by rw [hT.out]; decide)])
    rw [hp] at cP
    clear hp h0 hr hm
    go_enter Tryd.func23, Tryd.ntmps23
    go_wp2_with fail
    refine c1.out.mono ?_
    rintro e w1 ⟨rfl, hv1⟩
    go_wp2_with fail
    refine (cP.out w1 hv1).mono ?_
    rintro e w2 ⟨rfl, hv2⟩
    have hG := hv1.trans (hv2.mono hv1.size)
    go_wp2
    refine bodyPost_ret (v := .tuple #[.slice none 0 0, .int .i64 3]) (by simp [results, Tryd.results23, go_sem]) rfl ⟨none, 0, 0, by rw [hT.out], by rw [hm2.out]; exact hnil _, hG⟩
  | true =>
  have hrr : (if 16 < (outW xs).length then (8 : Int) else 0) = r := by rw [← hr, hp]; rfl
  rw [hp] at cP
  have hrH := Lib.hid hrr
  have hmH := Lib.hid hm
  have hget : Hid (∀ i u, xs[i]? = some u → xs.getD i [] = u) := Lib.hid (fun i u h => by rw [List.getD, h]; rfl)
  have hlH := Lib.hid hl
  clear hp h0 hr hrr hl hm
  go_enter Tryd.func23, Tryd.ntmps23
  go_wp2_with fail
  refine c1.out.mono ?_
  rintro e w1 ⟨rfl, hv1⟩
  go_wp2_with fail
  refine (cP.out w1 hv1).mono ?_
  rintro e w2 ⟨rfl, hv2⟩
  have hb2 := hv1.trans (hv2.mono hv1.size)
  clear c1 cP
  go_wp2_with fail
  go_loopg [4, 5] (n + 1) (fun g o i wr => ∃ (k m : Nat) (T : Option Addr) (c' : Nat) (zs : List (List UInt8)), k ≤ n ∧ m ≤ k ∧ g = n + 1 - k ∧ i = .int .i64 (k : Int) ∧ o = .slice T m c' ∧ Ow wr w.heap.size 9 1 (.slice T m c') (zs.map encS) ∧ zs = makeR xs k ∧ Below w.heap.size w wr)
  case atStart => exact ⟨0, 0, none, 0, [], Nat.zero_le _, Nat.le_refl _, rfl, rfl, rfl, Ow.nil_ _ _ _ _, rfl, hb2⟩
  case round =>
    clear hb2 hv1 hv2
    obtain ⟨k, m, T, c', zs, hk, hmk, rfl, rfl, rfl, hown, hzs, hbr⟩ := hrel
    have hzl : zs.length = m := by simpa using hown.rd.2.1
    have hzsH := Lib.hid hzs
    have hzlH := Lib.hid hzl
    have hz := hbr.size
    clear hzs hzl
    by_cases hlt : k < n
    case neg =>
      obtain rfl : k = n := by omega
      have hnli : ¬ (k : Int) < (k : Int) := by omega
      have hzo : Hid (zs = outW xs) := Lib.hid (by rw [hzsH.out, ← makeR_out, hlH.out])
      have hrd : RdS wr wr.heap.size T m zs := hown.rd.1
      by_cases h16 : 16 < m
      · have hr2 : Hid (r = 8) := Lib.hid (by rw [← hrH.out, if_pos (by rw [← hzo.out, hzlH.out]; exact h16)])
        have hm2 : Hid (out = []) := Lib.hid (by rw [← hmH.out, if_pos (by rw [hr2.out]; decide)])
        have hd : decide ((16 : Int) < (m : Int)) = true := decide_eq_true (by omega)
        clear h16
        go_wp2
        refine bodyPost_ret (v := .tuple #[.slice none 0 0, .int .i64 8]) (by simp [results, Tryd.results23, go_sem]) rfl ⟨none, 0, 0, by rw [hr2.out], by rw [hm2.out]; exact hnil _, hbr⟩
      · have hr2 : Hid (r = 0) := Lib.hid (by rw [← hrH.out, if_neg (by rw [← hzo.out, hzlH.out]; exact h16)])
        have hm2 : Hid (out = zs) := Lib.hid (by rw [← hmH.out, if_neg (by rw [hr2.out]; decide), hzo.out])
        have hd : decide ((16 : Int) < (m : Int)) = false := decide_eq_false (by omega)
        have hm3 : m ≤ 100000 := by omega
        clear h16
        go_wp2
        refine bodyPost_ret (v := .tuple #[.slice T m c', .int .i64 0]) (by simp [results, Tryd.results23, go_sem]) rfl ⟨T, m, c', by rw [hr2.out], by rw [hm2.out]; exact ⟨hrd, hm3⟩, hbr⟩
    have hlti : (k : Int) < (n : Int) := by omega
    obtain ⟨bA, oA, u, rfl, hbA, hp, hcp⟩ := (hA.below hbr).at_ hlt
    have hpH := Lib.hid hp
    have huD : Hid (xs.getD k [] = u) := Lib.hid (hget.out k u hp)
    have hul : u.length ≤ maxLen := hx.max u (List.mem_of_getElem? hp)
    clear hp hcp
    have hst : Hid (makeR xs (k + 1) = stepR xs zs k) := Lib.hid (by rw [makeR_succ, hzsH.out])
    go_wp2
    -- may it stay?
    obtain ⟨wo, hwo⟩ : ∃ wo, wr = wo := ⟨_, rfl⟩
    subst hwo
    go_loopg [6, 7] (n + 1) (fun g s i wq => ∃ (q : Nat) (b : Bool), q ≤ n ∧ g = n + 1 - q ∧ s = .bool b ∧ i = .int .i64 (q : Int) ∧ b = (List.range q).all (cndR xs k) ∧ Below wr.heap.size wr wq)
    case atStart => exact ⟨0, true, Nat.zero_le _, rfl, rfl, rfl, rfl, Below.refl _ _⟩
    case round =>
      obtain ⟨q, b, hq, rfl, rfl, rfl, hball, hbq⟩ := hrel
      have hzq := hbq.size
      have hballH := Lib.hid hball
      clear hball
      have hbw : Below w.heap.size w wr := hbr.trans (hbq.mono hz)
      have hGw := hbw
      by_cases hqt : q < n
      · have hqti : (q : Int) < (n : Int) := by omega
        obtain ⟨b', o', y, he, hbB, hyq, hcq⟩ := (hA.below hbw).at_ hqt
        injection he with he
        injection he with he1 he2
        subst he1
        subst he2
        have q0 := hcq 0 _ rfl
        rw [Nat.add_zero, Nat.mul_one] at q0
        have hbB2 : bA < wr.heap.size := by have := hbw.size; omega
        have hyD := hget.out q y hyq
        have hyl : y.length ≤ maxLen := hx.max y (List.mem_of_getElem? hyq)
        obtain ⟨b', o', u', he, _, hpu, hcp⟩ := (hA.below hbw).at_ hlt
        injection he with he
        injection he with he1 he2
        subst he1
        subst he2
        obtain rfl : u = u' := by have := hpH.out.symm.trans hpu; injection this
        have p0 := hcp 0 _ rfl
        rw [Nat.add_zero, Nat.mul_one] at p0
        have hq0i : (0 : Int) ≤ (q : Int) := by omega
        have hk0i : (0 : Int) ≤ (k : Int) := by omega
        have hcnd : cndR xs k q = !((!decide (y = u) && withinB u y) || (decide (y = u) && decide (q < k))) := by unfold cndR; rw [hyD, huD.out]
        clear hcq hyq hcp hpu hyD
        by_cases heq : y = u
        · have hqb : ((bs y).toList == (bs u).toList) = true := by rw [bs_emptyH, bs_emptyH, heq]; simp
          have hqb2 : ((bs y).toList != (bs u).toList) = false := by rw [bs_emptyH, bs_emptyH, heq]; simp
          by_cases hqk : q < k
          · have hd : decide (q < k) = true := decide_eq_true hqk
            have hd2 : decide ((q : Int) < (k : Int)) = true := decide_eq_true (by omega)
            have hT : Hid (false = (List.range (q + 1)).all (cndR xs k)) := Lib.hid (by rw [all_range_succ, hcnd, decide_eq_true heq, decide_eq_true hqk]; simp)
            clear hcnd heq hqk
            go_upto_region 13 with (fail)
            go_quiet (fail)
            have hG := below_dr hbq nq
            go_wp2
            go_roundg (n + 1 - (q + 1))
            case measure => omega
            case rel => exact ⟨q + 1, false, by omega, rfl, rfl, by go_num, hT.out, hG⟩
          · have hd : decide (q < k) = false := decide_eq_false hqk
            have hd2 : decide ((q : Int) < (k : Int)) = false := decide_eq_false (by omega)
            have hT : Hid (b = (List.range (q + 1)).all (cndR xs k)) := Lib.hid (by rw [all_range_succ, hcnd, decide_eq_true heq, decide_eq_false hqk, ← hballH.out]; simp)
            clear hcnd heq hqk
            go_upto_region 13 with (fail)
            go_quiet (fail)
            have hG := below_dr hbq nq
            go_wp2
            go_roundg (n + 1 - (q + 1))
            case measure => omega
            case rel => exact ⟨q + 1, b, by omega, rfl, rfl, by go_num, hT.out, hG⟩
        · have hqb : ((bs y).toList == (bs u).toList) = false := by rw [bs_emptyH, bs_emptyH, beq_eq_false_iff_ne]; exact heq
          have hqb2 : ((bs y).toList != (bs u).toList) = true := by rw [bs_emptyH, bs_emptyH, bne_iff_ne]; exact heq
          cases hw : withinB u y with
          | true =>
            have cW := Lib.hid (fun m => hw ▸ rwithin_any u y hul hyl (wr.drewN m))
            have hT : Hid (false = (List.range (q + 1)).all (cndR xs k)) := Lib.hid (by rw [all_range_succ, hcnd, decide_eq_false heq, hw]; simp)
            clear hcnd heq hw
            go_upto_region 13 with (fail)
            go_quiet ((go_at_call 30; exact Calls.quiet_of_same (quietW (cW.out _))))
            have hG := below_dr hbq nq
            go_wp2
            go_roundg (n + 1 - (q + 1))
            case measure => omega
            case rel => exact ⟨q + 1, false, by omega, rfl, rfl, by go_num, hT.out, hG⟩
          | false =>
            have cW := Lib.hid (fun m => hw ▸ rwithin_any u y hul hyl (wr.drewN m))
            have hT : Hid (b = (List.range (q + 1)).all (cndR xs k)) := Lib.hid (by rw [all_range_succ, hcnd, decide_eq_false heq, hw, ← hballH.out]; simp)
            clear hcnd heq hw
            go_upto_region 13 with (fail)
            go_quiet ((go_at_call 30; exact Calls.quiet_of_same (quietW (cW.out _))))
            have hG := below_dr hbq nq
            go_wp2
            go_roundg (n + 1 - (q + 1))
            case measure => omega
            case rel => exact ⟨q + 1, b, by omega, rfl, rfl, by go_num, hT.out, hG⟩
      · obtain rfl : q = n := by omega
        have hnlq : ¬ (q : Int) < (q : Int) := by omega
        have hkeep : Hid (keepR xs k = b) := Lib.hid (by rw [keepR_all, hballH.out, hlH.out])
        have hownq := hown.below hbq
        cases b with
        | false =>
          have hT : Hid (zs = makeR xs (k + 1)) := Lib.hid (by rw [hst.out]; unfold stepR; rw [if_neg (by rw [hkeep.out]; simp)])
          go_wp2
          go_roundg (q + 1 - (k + 1))
          case measure => omega
          case rel => exact ⟨k + 1, m, T, c', zs, by omega, by omega, rfl, by go_num, rfl, hownq, hT.out, hGw⟩
        | true =>
          have hT : Hid (makeR xs (k + 1) = sinkS m (zs ++ [u])) := Lib.hid (by rw [hst.out]; unfold stepR; rw [if_pos hkeep.out, huD.out, hzlH.out])
          obtain ⟨b', o', u', he, hbB, hpu, hcp⟩ := (hA.below hbw).at_ hlt
          injection he with he
          injection he with he1 he2
          subst he1
          subst he2
          obtain rfl : u = u' := by have := hpH.out.symm.trans hpu; injection this
          have p0 := hcp 0 _ rfl
          rw [Nat.add_zero, Nat.mul_one] at p0
          have hbA2 : bA < wr.heap.size := by have := hbw.size; omega
          clear hcp hpu
          have hbO : Below wr.heap.size wr (wr.alloc (.cells #[.string (bs u)] 9)) := (Below.refl _ wr).alloc (Nat.le_refl _) _
          have hlk : Hid ((zs.map encS).length = m) := Lib.hid (by rw [List.length_map]; exact hzlH.out)
          have hlen1 : ∀ y ∈ ([[.string (bs u)]] : List (List Value)), y.length = 1 := by simp
          have hone1 : ∀ y ∈ ([[.string (bs u)]] : List (List Value)), ∀ v ∈ y, v.oneCell' = true := by simp [Value.oneCell']
          have hzw := hbw.size
          go_wp2_with (at_builtin; refine wpList_append_rd _ rfl _ _ _ rfl eStr (base := w.heap.size) (v := .slice T m c') (xs := zs.map encS) rfl (hownq.below hbO) rfl (Rd.one' [.string (bs u)] rfl) hlen1 hone1 (by rw [hlk.out]; unfold maxLen; omega) (by rw [hlk.out]; omega) (by simp; omega) ?_; intro A2 M c2 w4 hn4 hown4 hg4 hat4; (have hMm : M = m + 1 := (by rw [hn4, hlk.out])); (have hw0 : IntKind.i64.wrap ((M : Int) - 1) = (m : Int) := (by rw [IntWalk.i64_in _ (by omega)]; omega)); (have hMH := Lib.hid hMm); clear hn4 hMm)
          have hb4 : Below w.heap.size w w4 := (hbw.alloc (by omega) _).grown hg4 (by simp; omega) (fun g e => (hown.block g e).1)
          clear p0 hbA2 hbO hzw hownq hzq hkeep hbq hGw hbw
          obtain ⟨wp, hwp⟩ : ∃ wp, wr = wp := ⟨_, rfl⟩
          subst hwp
          go_loopg [8] (m + 1) (fun g j wr => ∃ (p : Nat) (L : List (List UInt8)), p ≤ m ∧ g = p + 1 ∧ j = .int .i64 (p : Int) ∧ Ow wr w.heap.size 9 1 (.slice A2 M c2) (L.map encS) ∧
            sinkS p L = sinkS m (zs ++ [u]) ∧ L.length = m + 1 ∧ Below w.heap.size w wr)
          case atStart => exact ⟨m, zs ++ [u], Nat.le_refl _, rfl, by go_num, by rw [List.map_append]; exact hown4, rfl, by rw [List.length_append, hzlH.out]; rfl, hb4⟩
          case round =>
            obtain ⟨p, L, hpm, rfl, rfl, hownL, hsink, hLl, hbi⟩ := hrel
            have hzi := hbi.size
            obtain ⟨g, rfl, hgb, hgl, hgf, hgc⟩ := hownL.addr (by have := hMH.out; omega)
            have hsinkH := Lib.hid hsink
            have hLlH := Lib.hid hLl
            clear hsink hLl hb4 hown4
            by_cases hp0 : p = 0
            · subst hp0
              have hfin : Hid (L = makeR xs (k + 1)) := Lib.hid (by rw [hT.out, ← hsinkH.out]; rfl)
              have hd : decide (0 < 0) = false := rfl
              have hMk : M ≤ k + 1 := by have := hMH.out; omega
              clear hgf hgc
              go_upto_region 18 with (fail)
              go_quiet (fail)
              have hG := below_dr hbi nq
              go_wp2
              go_roundg (q + 1 - (k + 1))
              case measure => omega
              case rel => exact ⟨k + 1, M, _, c2, L, by omega, hMk, rfl, by go_num, rfl, hownL.dr _, hfin.out, hG⟩
            · obtain ⟨r0, hr0⟩ : ∃ r0, p = r0 + 1 := ⟨p - 1, by omega⟩
              have hw : IntKind.i64.wrap ((p : Int) - 1) = (r0 : Int) := by rw [IntWalk.i64_in _ (by omega)]; omega
              have hrM : r0 < M := by have := hMH.out; omega
              have hpM : p < M := by have := hMH.out; omega
              have hpp : 0 < p := by omega
              have hd : decide (0 < p) = true := decide_eq_true hpp
              have hri : (0 : Int) ≤ (r0 : Int) := by omega
              have hri2 : (r0 : Int) < (M : Int) := by omega
              have hpi : (0 : Int) ≤ (p : Int) := by omega
              have hpi2 : (p : Int) < (M : Int) := by omega
              obtain ⟨x, hxx⟩ : ∃ x, L[r0]? = some x := ⟨_, List.getElem?_eq_getElem (by rw [hLlH.out]; omega)⟩
              obtain ⟨y, hyy⟩ : ∃ y, L[p]? = some y := ⟨_, List.getElem?_eq_getElem (by rw [hLlH.out]; omega)⟩
              have x0 := hgc r0 (encS x) (by rw [List.getElem?_map, hxx]; rfl) 0 _ rfl
              have y0 := hgc p (encS y) (by rw [List.getElem?_map, hyy]; rfl) 0 _ rfl
              rw [Nat.add_zero, Nat.mul_one] at x0 y0
              have hsk : Hid (sinkS p L = if y < x then sinkS r0 ((L.set p x).set r0 y) else L) := Lib.hid (by
                subst hr0
                rw [sinkS, List.getD, List.getD, hxx, hyy]; rfl)
              have hr0H := Lib.hid hr0
              clear hr0 hxx hyy hgc hp0
              by_cases hyx : y < x
              · have hcmp : Op.bytesLess (bs x).toList (bs y).toList = false := by rw [bytesLessH]; exact decide_eq_false (fun h => ltS_irrefl _ (ltS_trans h hyx))
                have hcme : ((bs x).toList == (bs y).toList) = false := by rw [bs_emptyH, bs_emptyH, beq_eq_false_iff_ne]; rintro rfl; exact ltS_irrefl _ hyx
                have hsk2 : Hid (sinkS r0 ((L.set p x).set r0 y) = sinkS m (zs ++ [u])) := Lib.hid (by rw [← hsinkH.out, hsk.out, if_pos hyx])
                have hn1 : r0 ≠ p := by have := hr0H.out; omega
                have hn2 : p ≠ r0 := by have := hr0H.out; omega
                clear hyx hsk
                go_upto_region 18 with (fail)
                go_quiet (fail)
                have hG := below_dr hbi nq
                have ho := hownL.dr nq
                go_wp2
                go_roundg p
                case measure => omega
                case rel =>
                  refine ⟨r0, (L.set p x).set r0 y, by have := hr0H.out; omega, hr0H.out, by go_num, ?_, hsk2.out, by rw [List.length_set, List.length_set]; exact hLlH.out, (hG.setCell hgb _).setCell hgb _⟩
                  rw [List.map_set, List.map_set]
                  have h8 := (ho.setL (k := p) hpM (vs := encS x) rfl).setL (k := r0) hrM (vs := encS y) rfl
                  rw [Nat.mul_one, Nat.mul_one] at h8
                  exact h8
              · have hfin : Hid (L = makeR xs (k + 1)) := Lib.hid (by rw [hT.out, ← hsinkH.out, hsk.out, if_neg hyx])
                have hMk : M ≤ k + 1 := by have := hMH.out; omega
                clear hsk
                by_cases hxy : x = y
                · have hcme : ((bs x).toList == (bs y).toList) = true := by rw [hxy]; simp
                  have hcmp : Op.bytesLess (bs x).toList (bs y).toList = false := by rw [bytesLessH]; exact decide_eq_false (fun h => by rw [hxy] at h; exact ltS_irrefl _ h)
                  clear hyx hxy
                  go_upto_region 18 with (fail)
                  go_quiet (fail)
                  have hG := below_dr hbi nq
                  go_wp2
                  go_roundg (q + 1 - (k + 1))
                  case measure => omega
                  case rel => exact ⟨k + 1, M, _, c2, L, by omega, hMk, rfl, by go_num, rfl, hownL.dr _, hfin.out, hG⟩
                · have hcmp : Op.bytesLess (bs x).toList (bs y).toList = true := by rw [bytesLessH]; exact decide_eq_true (ltS_total (Ne.symm hxy) hyx)
                  clear hyx hxy
                  go_upto_region 18 with (fail)
                  go_quiet (fail)
                  have hG := below_dr hbi nq
                  go_wp2
                  go_roundg (q + 1 - (k + 1))
                  case measure => omega
                  case rel => exact ⟨k + 1, M, _, c2, L, by omega, hMk, rfl, by go_num, rfl, hownL.dr _, hfin.out, hG⟩
end Go.Proofs.YtelipindcacphaaDoor
