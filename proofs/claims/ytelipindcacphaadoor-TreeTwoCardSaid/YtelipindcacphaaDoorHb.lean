/- The library at lists of texts: IndexFunc, ContainsFunc, Clone, DeleteFunc, Grow, Concat, Equal. -/
import Derived.Test.YtelipindcacphaaDoorM29
import Derived.Test.YtelipindcacphaaDoorGc
import Derived.Test.YtelipindcacphaaDoorM4
import Derived.Test.YtelipindcacphaaDoorHx
import Derived.Lib.SliceRun
import Derived.Lib.AppendZeros
import Derived.Shelf.Abstract
import Derived.Deep.DeepCutAuto
import Derived.Deep.RegionHeld3
import Derived.Deep.LoopGhost
namespace Go.Proofs.YtelipindcacphaaDoor
open Go.RowKit

theorem bs_emptyH (e : List UInt8) : (bs e).toList = e := by rw [ByteArray.toList_eq]; rfl
theorem filter_takeH {α : Type} {l : List α} {p : α → Bool} {k : Nat} {u : α} (h : l[k]? = some u) : (l.take (k + 1)).filter p = (l.take k).filter p ++ if p u then [u] else [] := by
  rw [List.take_add_one, h, List.filter_append]
  by_cases hp : p u = true
  · simp [hp]
  · simp [hp]
set_option maxRecDepth 100000
/-- A function value that answers p of such things, wherever what lay below block B stands. -/
def PredStr (g : Nat) (lb : Array Value) (p : List UInt8 → Bool) (B : Nat) (w : World) (xs : List (List UInt8)) : Prop :=
  ∀ x ∈ xs, ∀ w', Below B w w' → Calls Tryd.prog g (#[.string (bs x)] ++ lb) w' fun e w'' => e = .returned (.bool (p x)) ∧ Below w'.heap.size w' w''
theorem ixfS_gen (g : Nat) (lb : Array Value) (p : List UInt8 → Bool) (eg : ∀ args w, (callFunc g args).run Tryd.prog w = .ok (.enter g args) w) (B : Nat) (A : Option Addr) (n c : Nat) (xs : List (List UInt8)) (w : World) (hA : RdS w w.heap.size A n xs) (hn : n ≤ maxLen) (hp : PredStr g lb p B w xs) (hB : B ≤ w.heap.size) :
    Calls Tryd.prog 50 #[.slice A n c, .func (.func g) #[] lb] w
      fun e w' => e = .returned (.int .i64 (firstH p xs)) ∧ Below w.heap.size w w' := by
  unfold maxLen at hn
  have hp := Lib.hid hp
  go_enter Tryd.func50, Tryd.ntmps50
  go_wp2
  go_loopg [8] (n + 1) (fun g i wr => ∃ k : Nat, k ≤ n ∧ g = n + 1 - k ∧ i = .int .i64 k ∧ (∀ u ∈ xs.take k, p u = false) ∧ Below w.heap.size w wr)
  case atStart => exact ⟨0, Nat.zero_le _, rfl, rfl, by simp, Below.refl _ _⟩
  case round =>
    obtain ⟨k, hk, rfl, rfl, hno, hbr⟩ := hrel
    have hz := hbr.size
    by_cases hlt : k < n
    · obtain ⟨bA, oA, u, rfl, hbA, hq, hcp⟩ := (hA.below hbr).at_ hlt
      have p0 := hcp 0 _ rfl
      rw [Nat.add_zero, Nat.mul_one] at p0
      clear hcp
      have hnoH := Lib.hid hno
      have hqH := Lib.hid hq
      clear hno hq
      go_wp2_with fail
      refine (hp.out u (List.mem_of_getElem? hqH.out) wr (hbr.mono hB)).mono ?_
      rintro e w1 ⟨rfl, hb1⟩
      have hb2 := hbr.trans (hb1.mono hz)
      generalize hx' : p u = r
      cases r
      case true =>
        have hT := Lib.hid (firstH_at hnoH.out hqH.out hx')
        clear hx'
        go_wp2
        go_ret
        exact ⟨ret_int hT.out.symm, hb2⟩
      case false =>
        have hT := Lib.hid hx'
        clear hx'
        go_wp2
        go_roundg (n + 1 - (k + 1))
        case measure => omega
        case rel => exact ⟨k + 1, by omega, rfl, by go_num, all_take_succ hnoH.out hqH.out hT.out, hb2⟩
    · have hT := Lib.hid (firstH_none (p := p) (all_take_all (by rw [show k = n from by omega] at hno; exact hno) hA.len))
      clear hno
      go_wp2
      go_ret
      exact ⟨ret_int hT.out.symm, hbr⟩
theorem cfS_gen (g : Nat) (lb : Array Value) (p : List UInt8 → Bool) (eg : ∀ args w, (callFunc g args).run Tryd.prog w = .ok (.enter g args) w) (B : Nat) (A : Option Addr) (n c : Nat) (xs : List (List UInt8)) (w : World) (hA : RdS w w.heap.size A n xs) (hn : n ≤ maxLen) (hp : PredStr g lb p B w xs) (hB : B ≤ w.heap.size) :
    Calls Tryd.prog 45 #[.slice A n c, .func (.func g) #[] lb] w
      fun e w' => e = .returned (.bool (xs.any p)) ∧ Below w.heap.size w w' := by
  have h := ixfS_gen g lb p eg B A n c xs w hA hn hp hB
  have hrH := Lib.hid (firstH_any p xs)
  clear eg hp
  generalize firstH p xs = z at h hrH
  go_enter Tryd.func45, Tryd.ntmps45
  go_wp2_with fail
  refine h.mono ?_
  rintro e w1 ⟨rfl, hb1⟩
  go_wp2
  go_ret
  exact ⟨ret_bool hrH.out, hb1⟩
set_option maxRecDepth 100000 in
theorem cloneS_any (A : Option Addr) (n c : Nat) (xs : List (List UInt8)) (w : World) (hA : RdS w w.heap.size A n xs) (hn : n ≤ 100000) :
    Calls Tryd.prog 26 #[.slice A n c] w fun e w' => ∃ A' c', e = .returned (.slice A' n c') ∧ Ow w' w.heap.size 9 1 (.slice A' n c') (xs.map encS) ∧ Below w.heap.size w w' := by
  have hl := hA.len
  cases A with
  | none =>
    obtain rfl : n = 0 := by
      rcases Nat.eq_zero_or_pos n with h | h
      · exact h
      · obtain ⟨b, o, h2, _⟩ := hA.2 h; cases h2
    obtain rfl : xs = [] := List.eq_nil_of_length_eq_zero hl
    have hnil : ∀ w, (binOp .eql 22 (.slice none 0 c) (.slice none 0 0)).run Tryd.prog w = .ok (.bool true) w := fun w => by rw [Lib.run_eql_slice_nil w _ _ none 0 c 0 0 Tryd.underlying22]; rfl
    go_enter Tryd.func26, Tryd.ntmps26
    go_wp2
    go_ret
    exact ⟨none, 0, rfl, Ow.nil_ _ _ _ _, Below.refl _ _⟩
  | some a =>
    have hnil : ∀ w, (binOp .eql 22 (.slice (some a) n c) (.slice none 0 0)).run Tryd.prog w = .ok (.bool false) w := fun w => by rw [Lib.run_eql_slice_nil w _ _ (some a) n c 0 0 Tryd.underlying22]; rfl
    go_enter Tryd.func26, Tryd.ntmps26
    go_wp2_with (at_builtin; refine wpList_append_rd _ rfl _ _ _ rfl eStr (base := w.heap.size) (v := .slice (some ⟨w.heap.size, 0, none⟩) 0 0) (xs := []) rfl (Ow.made0 _ _ _ (Nat.le_refl _)) rfl (Rd.below hA ((Below.refl _ w).alloc (Nat.le_refl _) _)) encS_len encS_one (by simp [maxLen]; omega) (by simp; omega) (by simp) ?_; intro A2 n2 c2 w4 hn2 hown2 hg4 hat2; (obtain rfl : n2 = n := (by rw [hn2]; simp)); clear hn2)
    go_ret
    exact ⟨A2, c2, rfl, by simpa using hown2, ((Below.refl _ w).alloc (Nat.le_refl _) _).grown hg4 (by simp) (fun g e => by simp [Value.ownBlock] at e; omega)⟩
set_option maxRecDepth 100000 in
set_option maxHeartbeats 2000000 in
theorem delfS_gen (fg : Nat) (lb : Array Value) (pr : List UInt8 → Bool) (eg : ∀ args w, (callFunc fg args).run Tryd.prog w = .ok (.enter fg args) w) (base : Nat) (A : Option Addr) (n c : Nat) (xs : List (List UInt8)) (w : World)
    (hown : Ow w base 9 1 (.slice A n c) (xs.map encS)) (hn : n ≤ 100000) (hp : PredStr fg lb pr base w xs) (hB : base ≤ w.heap.size) :
    Calls Tryd.prog 25 #[.slice A n c, .func (.func fg) #[] lb] w
      fun e w' => ∃ n', e = .returned (.slice A n' c) ∧ Ow w' base 9 1 (.slice A n' c) ((xs.filter fun x => !pr x).map encS) ∧ w.grownBy w' (Value.slice A n c).ownBlock := by
  have hix := ixfS_gen fg lb pr eg base A n c xs w hown.rd.1 (by simp [maxLen]; omega) hp hB
  have hl : xs.length = n := by simpa using hown.rd.2.1
  have hcm : c ≤ maxLen := hown.rd.2.2.2
  have hnc : n ≤ c := hown.rd.2.2.1
  unfold maxLen at hcm
  cases hf : xs.findIdx? pr with
  | none =>
    have hall : xs.filter (fun x => !pr x) = xs := by
      rw [List.filter_eq_self]; intro x hx
      have := List.findIdx?_eq_none_iff.1 hf x hx
      simp [this]
    rw [hall]
    rw [show firstH pr xs = -1 by simp [firstH, hf]] at hix
    clear hf
    go_enter Tryd.func25, Tryd.ntmps25
    go_wp2_with fail
    refine hix.mono ?_
    rintro e w1 ⟨rfl, hb1⟩
    go_wp2
    go_ret
    exact ⟨n, rfl, hown.below hb1, gr_below hb1 _⟩
  | some i0 =>
    obtain ⟨hi, hpi, hno⟩ := List.findIdx?_eq_some_iff_getElem.1 hf
    rw [show firstH pr xs = (i0 : Int) by simp [firstH, hf]] at hix
    obtain ⟨g, rfl, hgb, hgl, _, _⟩ := hown.addr (by omega)
    have hne : ((i0 : Int) == -1) = false := by simp
    have hst : Hid (xs.take i0 = (xs.take (i0 + 1)).filter fun x => !pr x) := Lib.hid (by
      have h1 : (xs.take i0).filter (fun x => !pr x) = xs.take i0 := by
        rw [List.filter_eq_self]; intro x hx
        obtain ⟨j, hj⟩ := List.mem_iff_getElem?.1 hx
        have hjl := (List.getElem?_eq_some_iff.1 hj).1
        rw [List.length_take] at hjl
        rw [List.getElem?_take_of_lt (by omega), List.getElem?_eq_getElem (by omega)] at hj
        injection hj with hj
        have := hno j (by omega)
        rw [hj] at this
        simp [this]
      rw [filter_takeH (List.getElem?_eq_getElem hi), h1, hpi]
      simp)
    have hi0 : i0 < n := by omega
    have hp := Lib.hid hp
    have hlH := Lib.hid hl
    clear hf hno hpi hi hl
    go_enter Tryd.func25, Tryd.ntmps25
    go_wp2_with fail
    refine hix.mono ?_
    rintro e w1 ⟨rfl, hb1⟩
    go_wp2_with fail
    go_loopg [5, 6] (n + 1 - (i0 + 1)) (fun gh i j wr => ∃ (p q : Nat) (L : List (List UInt8)), p < q ∧ q ≤ n ∧ gh = n + 1 - q ∧ i = .int .i64 p ∧ j = .int .i64 q ∧ L.length = n ∧ L.take p = (xs.take q).filter (fun x => !pr x) ∧ L.drop q = xs.drop q ∧
      Ow wr base 9 1 (.slice (some ⟨g, 0, none⟩) n c) (L.map encS) ∧ w.grownBy wr (some g))
    case atStart => exact ⟨i0, i0 + 1, xs, by omega, by omega, rfl, rfl, by go_num, hlH.out, hst.out, rfl, hown.below hb1, gr_below hb1 _⟩
    case round =>
      obtain ⟨p, q, L, hpq, hqn, rfl, rfl, rfl, hLl, hLt, hLd, hownL, hgr⟩ := hrel
      have hz := hgr.size
      have hbw : Below base w wr := (Below.refl _ _).grown hgr hB (fun k e => by injection e with e; omega)
      have hbw' : base ≤ wr.heap.size := by omega
      obtain ⟨g', he, _, hgl', hgf, hgc⟩ := hownL.addr (by omega)
      injection he with he
      injection he with he
      subst he
      have hLlH := Lib.hid hLl
      have hLtH := Lib.hid hLt
      have hLdH := Lib.hid hLd
      clear hLt hLd
      by_cases hlt : q < n
      · obtain ⟨u, huu⟩ : ∃ u, L[q]? = some u := ⟨_, List.getElem?_eq_getElem (by omega)⟩
        have hux : xs[q]? = some u := by
          have h1 : (L.drop q)[0]? = some u := by rw [List.getElem?_drop]; exact huu
          rw [hLdH.out, List.getElem?_drop] at h1; exact h1
        obtain ⟨y, hyy⟩ : ∃ y, L[p]? = some y := ⟨_, List.getElem?_eq_getElem (by omega)⟩
        clear hLl
        have hcu := hgc q (encS u) (by rw [List.getElem?_map, huu]; rfl)
        have hcy := hgc p (encS y) (by rw [List.getElem?_map, hyy]; rfl)
        have p0 := hcu 0 _ rfl
        have q0 := hcy 0 _ rfl
        rw [Nat.add_zero, Nat.mul_one] at p0 q0
        clear hcu hcy hgc
        have hum : u ∈ xs := List.mem_of_getElem? hux
        have hfs := Lib.hid (filter_takeH (p := fun x => !pr x) hux)
        have hdr : Hid (L.drop (q + 1) = xs.drop (q + 1)) := Lib.hid (by rw [← List.drop_drop, hLdH.out, List.drop_drop])
        have hcall := Lib.hid (hp.out u hum)
        clear huu hux hyy hum
        go_wp2_with fail
        refine (hcall.out _ ?_).mono ?_
        · exact hbw
        rintro e w2 ⟨rfl, hb2⟩
        have hz2 := hb2.size
        have hb3 : Below wr.heap.size wr w2 := hb2
        have hgr3 : w.grownBy w2 (some g) := hgr.trans (gr_below hb3 _)
        have hown3 := hownL.below hb3
        replace q0 := (hb3.cell (p := ⟨g, _, none⟩) hgl').trans q0
        have hgf3 : ∀ o, w2.frozen? ⟨g, o, none⟩ = false := fun o => (hb3.frozen (p := ⟨g, o, none⟩) hgl').trans (hgf o)
        clear hgf p0 hown
        generalize pr u = b at hfs
        cases b
        · go_wp2
          go_roundg (n + 1 - (q + 1))
          case measure => omega
          case rel =>
            refine ⟨p + 1, q + 1, L.set p u, by omega, by omega, rfl, by go_num, by go_num, by rw [List.length_set]; exact hLlH.out, ?_, ?_, ?_, ?_⟩
            · rw [hfs.out, ← hLtH.out, List.take_add_one, List.getElem?_set_self (by rw [hLlH.out]; omega), List.take_set_of_le (Nat.le_refl _)]; simp
            · rw [List.drop_set_of_lt (by omega)]; exact hdr.out
            · rw [List.map_set]; have h8 := hown3.setL (k := p) (by omega) (vs := encS u) rfl; rw [Nat.mul_one] at h8; exact h8
            · (repeat (first | exact hgr3 | refine gr_set ?_ _ _))
        · go_wp2
          go_roundg (n + 1 - (q + 1))
          case measure => omega
          case rel => exact ⟨p, q + 1, L, by omega, by omega, rfl, by go_num, by go_num, hLlH.out, by rw [hfs.out, ← hLtH.out]; simp, hdr.out, hown3, hgr3⟩
      · obtain rfl : q = n := by omega
        have hfin : Hid (L.take p = xs.filter fun x => !pr x) := Lib.hid (by rw [hLtH.out, List.take_of_length_le (by rw [hlH.out]; exact Nat.le_refl _)])
        have hzv : ∀ w, (zeroValue 9).run Tryd.prog w = .ok (.string ⟨#[]⟩) w := fun _ => by kernel_rfl
        obtain ⟨wc, hrun, hown4, hgr4⟩ := run_clear_row (sz := 1) (c' := c - p) Tryd.underlying22 hzv (by simp [Value.cells, Value.oneCell']) rfl (by decide) hownL hpq
        rw [Nat.mul_one] at hrun
        clear hgf hgc hown
        have hown5 := hown4.front (k := p) (by omega)
        have hfr : Hid (((L.map encS).take p ++ List.replicate (q - p) (Value.string ⟨#[]⟩).cells.toList).take p = (xs.filter fun x => !pr x).map encS) := Lib.hid (by
          rw [List.take_append_of_le_length (by simp; omega), List.take_take, Nat.min_self, ← hfin.out, List.map_take])
        go_wp2
        go_ret
        exact ⟨p, rfl, by rw [← hfr.out]; exact hown5, hgr.trans hgr4⟩
set_option maxRecDepth 100000 in
theorem growS_any (n : Nat) (hn : n ≤ 200000) (w : World) :
    Calls Tryd.prog 42 #[.slice none 0 0, .int .i64 (n : Int)] w fun e w' => ∃ A c, e = .returned (.slice A 0 c) ∧ Ow w' w.heap.size 9 1 (.slice A 0 c) [] ∧ Below w.heap.size w w' := by
  rcases Nat.eq_zero_or_pos n with rfl | hp
  · go_enter Tryd.func42, Tryd.ntmps42
    go_wp2
    go_ret
    exact ⟨none, 0, rfl, Ow.nil_ _ _ _ _, Below.refl _ _⟩
  · obtain ⟨i, z, hi, hz, hs, hby, hzs⟩ := eStr.info
    have hr := fun ty => Lib.run_append_nil_zeros (P := Tryd.prog) (ty := ty) w 22 3 9 i z .i64 .i64 eStr.slice Tryd.underlying3 hi hz n hp (by omega) (by omega) (by rw [hby]; omega)
    have hge := grownCap_ge w n 0 9
    have hle := grownCap_le_maxLen w n 0 9 (by simp [maxLen]; omega)
    have hOw : Ow (w.drew.alloc (.cells (Builtin.zeroCells z.cells n ++ Builtin.zeroCells z.cells (grownCap w n 0 9 - n)) 9)) w.heap.size 9 1 (.slice (some ⟨w.heap.size, 0, none⟩) 0 (grownCap w n 0 9)) [] :=
      ⟨by simp, World.ownsRow_made w.drew _ _ (by simp) hle (by rw [Array.size_append, size_zeroCells, size_zeroCells, hzs]; omega)⟩
    have hB : Below w.heap.size w (w.drew.alloc (.cells (Builtin.zeroCells z.cells n ++ Builtin.zeroCells z.cells (grownCap w n 0 9 - n)) 9)) := (Below.refl _ w).drew.alloc (by simp) _
    generalize grownCap w n 0 9 = cap at *
    generalize (w.drew.alloc (.cells (Builtin.zeroCells z.cells n ++ Builtin.zeroCells z.cells (cap - n)) 9)) = w9 at *
    unfold maxLen at hle
    go_enter Tryd.func42, Tryd.ntmps42
    go_wp2_with (at_builtin; refine Lib.wpList_append_run _ rfl _ _ _ _ rfl _ _ rfl rfl _ _ (hr _) ?_)
    go_ret
    exact ⟨_, _, rfl, hOw, hB⟩

set_option maxRecDepth 100000 in
set_option maxHeartbeats 1000000 in
theorem concatS_any (B : Nat) (A1 A2 : Option Addr) (n m c1 c2 : Nat) (xs ys : List (List UInt8)) (w : World) (hb : w.heap[B]? = some (.cells #[.slice A1 n c1, .slice A2 m c2] 22 (0, 0))) (hA : RdS w w.heap.size A1 n xs) (hB : RdS w w.heap.size A2 m ys) (hn : n ≤ 100000) (hm : m ≤ 100000) :
    Calls Tryd.prog 21 #[.slice (some ⟨B, 0, none⟩) 2 2] w fun e w' => ∃ A c, e = .returned (.slice A (n + m) c) ∧ Ow w' w.heap.size 9 1 (.slice A (n + m) c) ((xs ++ ys).map encS) ∧ Below w.heap.size w w' := by
  have hl := hA.len
  have hl2 := hB.len
  have hlt := blk_lt hb
  have hc0 := blk_cell hb 0
  have hc1 := blk_cell hb 1
  simp at hc0 hc1
  have hbk := Lib.hid hb
  clear hb
  have cG := Lib.hid (growS_any (n + m) (by omega) w)
  go_enter Tryd.func21, Tryd.ntmps21
  go_wp2_with fail
  go_loopg [3, 11] 3 (fun g s i wr => (∃ k : Nat, k ≤ 2 ∧ g = 3 - k ∧ s = .int .i64 (if k = 0 then 0 else if k = 1 then (n : Int) else (n : Int) + m) ∧ i = .int .i64 (k : Int)) ∧ w = wr)
  case atStart => exact ⟨⟨0, by omega, rfl, rfl, rfl⟩, rfl⟩
  case round =>
    obtain ⟨⟨k, hk, rfl, rfl, rfl⟩, rfl⟩ := hrel
    obtain rfl | rfl | rfl : k = 0 ∨ k = 1 ∨ k = 2 := by omega
    · simp only [if_true]
      go_wp2
      go_roundg 2
      case measure => omega
      case rel => exact ⟨⟨1, by omega, rfl, by simp, by go_num⟩, rfl⟩
    · simp only [if_neg (show ¬ (1 = 0) by decide), if_true]
      go_wp2
      go_roundg 1
      case measure => omega
      case rel => exact ⟨⟨2, by omega, rfl, by simp, by go_num⟩, rfl⟩
    · simp only [if_neg (show ¬ (2 = 0) by decide), if_neg (show ¬ (2 = 1) by decide)]
      have cG2 := cG.out
      rw [Int.natCast_add] at cG2
      have cG2 := Lib.hid cG2
      go_wp2_with fail
      refine cG2.out.mono ?_
      rintro e w1 ⟨A3, c3, rfl, o3, hb3⟩
      clear hc0 hc1 cG cG2
      go_wp2_with fail
      go_loopg [6, 27] 3 (fun g s i wr => ∃ (k : Nat) (A : Option Addr) (l c : Nat) (L : List (List UInt8)), k ≤ 2 ∧ g = 3 - k ∧ s = .slice A l c ∧ i = .int .i64 (k : Int) ∧ L = (if k = 0 then [] else if k = 1 then xs else xs ++ ys) ∧ l = L.length ∧ Ow wr w.heap.size 9 1 (.slice A l c) (L.map encS) ∧ Below w.heap.size w wr)
      case atStart => exact ⟨0, A3, 0, c3, [], by omega, rfl, rfl, rfl, rfl, rfl, o3, hb3⟩
      case round =>
        clear hb3 o3
        obtain ⟨k, A, l, c, L, hk, rfl, rfl, rfl, hL, hlen, hown, hbi⟩ := hrel
        have hzi := hbi.size
        have hbB1 := blk_below hbk.out hbi
        have hlt1 := blk_lt hbB1
        have hc0 := blk_cell hbB1 0
        have hc1 := blk_cell hbB1 1
        simp at hc0 hc1
        clear hbB1
        obtain rfl | rfl | rfl : k = 0 ∨ k = 1 ∨ k = 2 := by omega
        · simp only [if_true] at hL
          subst hL
          obtain rfl : l = 0 := hlen
          go_wp2_with (at_builtin; refine wpList_append_rd _ rfl _ _ _ rfl eStr (base := w.heap.size) (v := .slice A 0 c) (xs := []) rfl (by simpa using hown) rfl (hA.below hbi) encS_len encS_one (by simp [maxLen]; omega) (by simp; omega) hzi ?_; intro A4 n4 c4 w4 hn4 hown4 hg4 hat4; (obtain rfl : n4 = n := (by rw [hn4]; simp)); clear hn4)
          have hb4 : Below w.heap.size w w4 := hbi.grown hg4 hzi (fun g e => (hown.block g e).1)
          go_roundg 2
          case measure => omega
          case rel => exact ⟨1, A4, n4, c4, xs, by omega, rfl, rfl, by go_num, rfl, hl.symm, by simpa using hown4, hb4⟩
        · simp only [if_neg (show ¬ (1 = 0) by decide), if_true] at hL
          subst hL
          obtain rfl : l = n := by omega
          clear hlen
          go_wp2_with (at_builtin; refine wpList_append_rd _ rfl _ _ _ rfl eStr (base := w.heap.size) (v := .slice A l c) (xs := L.map encS) rfl hown rfl (hB.below hbi) encS_len encS_one (by simp [maxLen]; omega) (by simp; omega) hzi ?_; intro A4 n4 c4 w4 hn4 hown4 hg4 hat4; (have hn5 : n4 = l + m := (by rw [hn4]; simp; omega)); clear hn4)
          subst hn5
          have hb4 : Below w.heap.size w w4 := hbi.grown hg4 hzi (fun g e => (hown.block g e).1)
          go_roundg 1
          case measure => omega
          case rel => exact ⟨2, A4, l + m, c4, L ++ ys, by omega, rfl, rfl, by go_num, rfl, by simp; omega, by rw [List.map_append]; exact hown4, hb4⟩
        · simp only [if_neg (show ¬ (2 = 0) by decide), if_neg (show ¬ (2 = 1) by decide)] at hL
          subst hL
          obtain rfl : l = n + m := by rw [hlen]; simp; omega
          go_wp2
          go_ret
          exact ⟨_, _, rfl, hown, hbi⟩

set_option maxRecDepth 100000 in
theorem equalS_any (A B : Option Addr) (n m c d : Nat) (xs ys : List (List UInt8)) (w : World) (hA : RdS w w.heap.size A n xs) (hB : RdS w w.heap.size B m ys) (hn : n ≤ maxLen) (hm : m ≤ maxLen) :
    Calls Tryd.prog 40 #[.slice A n c, .slice B m d] w fun e w' => e = .returned (.bool (decide (xs = ys))) ∧ Below w.heap.size w w' := by
  have hl := hA.len
  have hl2 := hB.len
  unfold maxLen at hn hm
  generalize hr : decide (xs = ys) = r
  have hrH := Lib.hid hr
  clear hr
  by_cases hnm : (n : Int) = (m : Int)
  · obtain rfl : n = m := by omega
    clear hnm
    go_enter Tryd.func40, Tryd.ntmps40
    go_wp2
    go_loopg [13] (n + 1) (fun g i wr => ∃ k : Nat, k ≤ n ∧ g = n + 1 - k ∧ i = .int .i64 (k : Int) ∧ xs.take k = ys.take k ∧ Below w.heap.size w wr)
    case atStart => exact ⟨0, Nat.zero_le _, rfl, rfl, rfl, Below.refl _ _⟩
    case round =>
      obtain ⟨k, hk, rfl, rfl, htk, hbr⟩ := hrel
      have hz := hbr.size
      by_cases hlt : k < n
      · obtain ⟨bA, oA, x, rfl, hbA, hp, hcp⟩ := (hA.below hbr).at_ hlt
        obtain ⟨bB, oB, y, rfl, hbB, hq, hcq⟩ := (hB.below hbr).at_ hlt
        have p0 := hcp 0 _ rfl
        have q0 := hcq 0 _ rfl
        rw [Nat.add_zero, Nat.mul_one] at p0 q0
        clear hcp hcq
        have hbA2 : bA < wr.heap.size := by omega
        have hbB2 : bB < wr.heap.size := by omega
        have htkH := Lib.hid htk
        have hpH := Lib.hid hp
        have hqH := Lib.hid hq
        clear htk hp hq
        have hq0 : KQ wr.heap.size wr wr := kq (Below.refl _ _)
        by_cases he : x = y
        · subst he
          have hT : Hid (xs.take (k + 1) = ys.take (k + 1)) := Lib.hid (by rw [List.take_add_one, List.take_add_one, htkH.out, hpH.out, hqH.out])
          go_wp2
          go_region_held3 (fun w' => KQ wr.heap.size wr w') (first
      | with_reducible exact kq_call (by assumption) (by simp) (by assumption)
      | with_reducible exact kq_grown (by assumption) (by simp) (by assumption) (by simp [Value.ownBlock])
      | ((with_reducible refine kq ?_); (repeat (first | (with_reducible exact Below.refl _ _) | (with_reducible refine Below.drew ?_) | (with_reducible refine Below.alloc ?_ (by simp) _) | (with_reducible refine Below.setCell ?_ (by simp) _) | (with_reducible exact (by assumption : KQ _ _ _).1))); done)) (first | (go_at_call 0; skip))
          have hG : Below w.heap.size w wr.drew := hbr.drew
          go_wp2
          go_roundg (n + 1 - (k + 1))
          case measure => omega
          case rel => exact ⟨k + 1, by omega, rfl, by go_num, hT.out, hG⟩
        · have hT : Hid (false = r) := Lib.hid (by
            rw [← hrH.out]; symm; apply decide_eq_false; intro e; subst e
            have := hpH.out.symm.trans hqH.out
            injection this with this; exact he this)
          have hG : Below w.heap.size w wr.drew := hbr.drew
          have hsn : ((bs x).toList == (bs y).toList) = false := by rw [bs_emptyH, bs_emptyH, beq_eq_false_iff_ne]; exact he
          clear he
          go_wp2
          go_region_held3 (fun w' => KQ wr.heap.size wr w') (first
      | with_reducible exact kq_call (by assumption) (by simp) (by assumption)
      | with_reducible exact kq_grown (by assumption) (by simp) (by assumption) (by simp [Value.ownBlock])
      | ((with_reducible refine kq ?_); (repeat (first | (with_reducible exact Below.refl _ _) | (with_reducible refine Below.drew ?_) | (with_reducible refine Below.alloc ?_ (by simp) _) | (with_reducible refine Below.setCell ?_ (by simp) _) | (with_reducible exact (by assumption : KQ _ _ _).1))); done)) (first | (go_at_call 0; skip))
          go_wp2
          go_ret
          exact ⟨ret_bool hT.out, hG⟩
      · have hT : Hid (true = r) := Lib.hid (by
          rw [← hrH.out]; symm; apply decide_eq_true
          rw [List.take_of_length_le (by omega), List.take_of_length_le (by omega)] at htk
          exact htk)
        clear htk
        go_wp2
        go_ret
        exact ⟨ret_bool hT.out, hbr⟩
  · have hT : Hid (false = r) := Lib.hid (by
      rw [← hrH.out]; symm; apply decide_eq_false; rintro rfl; omega)
    have hd : ((n : Int) == (m : Int)) = false := by simpa using hnm
    go_enter Tryd.func40, Tryd.ntmps40
    go_wp2
    go_ret
    exact ⟨ret_bool hT.out, Below.refl _ _⟩
end Go.Proofs.YtelipindcacphaaDoor
