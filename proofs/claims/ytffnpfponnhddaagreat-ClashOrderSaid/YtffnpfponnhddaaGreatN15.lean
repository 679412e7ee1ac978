/- slices.Clone, DeleteFunc, Grow and Concat at tags; Clone and DeleteFunc at additions. slices.Clone and DeleteFunc at additions. The additions of an element that hold: Tags, both; Has. Is a name within a vector? (both). -/
import Derived.Test.YtffnpfponnhddaaGreatOsT
import Derived.Test.YtffnpfponnhddaaGreatN13
import Derived.Lib.SliceRun
import Derived.Lib.AppendZeros
import Derived.Shelf.Abstract
import Derived.Test.YtffnpfponnhddaaGreatN05
import Derived.Deep.RegionWith
namespace Go.Proofs.YtffnpfponnhddaaGreat
open Go.RowKit

theorem filter_takeG {α : Type} {l : List α} {p : α → Bool} {k : Nat} {u : α} (h : l[k]? = some u) : (l.take (k + 1)).filter p = (l.take k).filter p ++ if p u then [u] else [] := by
  rw [List.take_add_one, h, List.filter_append]
  cases hp : p u <;> simp [hp]
set_option maxRecDepth 100000 in
theorem cloneT_any (A : Option Addr) (n c : Nat) (xs : List Tm) (w : World) (hA : RdT w w.heap.size A n xs) (hn : n ≤ 100000) :
    Calls Tryz.prog 63 #[.slice A n c] w fun e w' => ∃ A' c', e = .returned (.slice A' n c') ∧ Ow w' w.heap.size 45 3 (.slice A' n c') (xs.map Tm.enc) ∧ Below w.heap.size w w' := by
  have hl := hA.len
  cases A with
  | none =>
    obtain rfl : n = 0 := by
      rcases Nat.eq_zero_or_pos n with h | h
      · exact h
      · obtain ⟨b, o, h2, _⟩ := hA.2 h; cases h2
    obtain rfl : xs = [] := List.eq_nil_of_length_eq_zero hl
    have hnil : ∀ w, (binOp .eql 30 (.slice none 0 c) (.slice none 0 0)).run Tryz.prog w = .ok (.bool true) w := fun w => by rw [Lib.run_eql_slice_nil w _ _ none 0 c 0 0 Tryz.underlying30]; rfl
    go_enter Tryz.func63, Tryz.ntmps63
    go_wp2
    go_ret
    exact ⟨none, 0, rfl, Ow.nil_ _ _ _ _, Below.refl _ _⟩
  | some a =>
    have hnil : ∀ w, (binOp .eql 30 (.slice (some a) n c) (.slice none 0 0)).run Tryz.prog w = .ok (.bool false) w := fun w => by rw [Lib.run_eql_slice_nil w _ _ (some a) n c 0 0 Tryz.underlying30]; rfl
    go_enter Tryz.func63, Tryz.ntmps63
    go_wp2_with (at_builtin; refine wpList_append_rd _ rfl _ _ _ rfl eTag (base := w.heap.size) (v := .slice (some ⟨w.heap.size, 0, none⟩) 0 0) (xs := []) rfl (Ow.made0 _ _ _ (Nat.le_refl _)) rfl (Rd.below hA ((Below.refl _ w).alloc (Nat.le_refl _) _)) Tm.len Tm.one (by simp [maxLen]; omega) (by simp; omega) (by simp) ?_; intro A2 n2 c2 w4 hn2 hown2 hg4 hat2; (obtain rfl : n2 = n := (by rw [hn2]; simp)); clear hn2)
    go_ret
    exact ⟨A2, c2, rfl, by simpa using hown2, ((Below.refl _ w).alloc (Nat.le_refl _) _).grown hg4 (by simp) (fun g e => by simp [Value.ownBlock] at e; omega)⟩
set_option maxRecDepth 100000 in
theorem growT_any (n : Nat) (hn : n ≤ 200000) (w : World) :
    Calls Tryz.prog 109 #[.slice none 0 0, .int .i64 (n : Int)] w fun e w' => ∃ A c, e = .returned (.slice A 0 c) ∧ Ow w' w.heap.size 45 3 (.slice A 0 c) [] ∧ Below w.heap.size w w' := by
  rcases Nat.eq_zero_or_pos n with rfl | hp
  · go_enter Tryz.func109, Tryz.ntmps109
    go_wp2
    go_ret
    exact ⟨none, 0, rfl, Ow.nil_ _ _ _ _, Below.refl _ _⟩
  · obtain ⟨i, z, hi, hz, hs, hby, hzs⟩ := eTag.info
    have hr := fun ty => Lib.run_append_nil_zeros (P := Tryz.prog) (ty := ty) w 30 3 45 i z .i64 .i64 eTag.slice Tryz.underlying3 hi hz n hp (by omega) (by omega) (by rw [hby]; omega)
    have hge := grownCap_ge w n 0 45
    have hle := grownCap_le_maxLen w n 0 45 (by simp [maxLen]; omega)
    have hOw : Ow (w.drew.alloc (.cells (Builtin.zeroCells z.cells n ++ Builtin.zeroCells z.cells (grownCap w n 0 45 - n)) 45)) w.heap.size 45 3 (.slice (some ⟨w.heap.size, 0, none⟩) 0 (grownCap w n 0 45)) [] :=
      ⟨by simp, World.ownsRow_made w.drew _ _ (by simp) hle (by rw [Array.size_append, size_zeroCells, size_zeroCells, hzs]; omega)⟩
    have hB : Below w.heap.size w (w.drew.alloc (.cells (Builtin.zeroCells z.cells n ++ Builtin.zeroCells z.cells (grownCap w n 0 45 - n)) 45)) := (Below.refl _ w).drew.alloc (by simp) _
    generalize grownCap w n 0 45 = cap at *
    generalize (w.drew.alloc (.cells (Builtin.zeroCells z.cells n ++ Builtin.zeroCells z.cells (cap - n)) 45)) = w9 at *
    unfold maxLen at hle
    go_enter Tryz.func109, Tryz.ntmps109
    go_wp2_with (at_builtin; refine Lib.wpList_append_run _ rfl _ _ _ _ rfl _ _ rfl rfl _ _ (hr _) ?_)
    go_ret
    exact ⟨_, _, rfl, hOw, hB⟩

set_option maxRecDepth 100000 in
set_option maxHeartbeats 1000000 in
theorem concatT_any (B : Nat) (A1 A2 : Option Addr) (n m c1 c2 : Nat) (xs ys : List Tm) (w : World) (hb : w.heap[B]? = some (.cells #[.slice A1 n c1, .slice A2 m c2] 30 (0, 0))) (hA : RdT w w.heap.size A1 n xs) (hB : RdT w w.heap.size A2 m ys) (hn : n ≤ 100000) (hm : m ≤ 100000) :
    Calls Tryz.prog 73 #[.slice (some ⟨B, 0, none⟩) 2 2] w fun e w' => ∃ A c, e = .returned (.slice A (n + m) c) ∧ Ow w' w.heap.size 45 3 (.slice A (n + m) c) ((xs ++ ys).map Tm.enc) ∧ Below w.heap.size w w' := by
  have hl := hA.len
  have hl2 := hB.len
  have hlt := blk_lt hb
  have hc0 := blk_cell hb 0
  have hc1 := blk_cell hb 1
  simp at hc0 hc1
  have hbk := Lib.hid hb
  clear hb
  have cG := Lib.hid (growT_any (n + m) (by omega) w)
  go_enter Tryz.func73, Tryz.ntmps73
  go_wp2_with fail
  go_loopg [3, 11] 3 (fun g s i wr => (∃ k : Nat, k ≤ 2 ∧ g = 3 - k ∧ s = .int .i64 (if k = 0 then 0 else if k = 1 then (n : Int) else (n : Int) + m) ∧ i = .int .i64 (k : Int)) ∧ w = wr)
  case atStart => exact ⟨⟨0, by omega, rfl, rfl, rfl⟩, rfl⟩
  case round =>
    obtain ⟨⟨k, hk, rfl, rfl, rfl⟩, rfl⟩ := hrel
    obtain rfl | rfl | rfl : k = 0 ∨ k = 1 ∨ k = 2 := by omega
    · simp only [if_true]
      go_wp2
      go_roundg 2
      case measure => omega
      case rel => exact ⟨⟨1, by omega, rfl, by simp, by go_num⟩, rfl⟩
    · simp only [if_neg (show ¬ (1 = 0) by decide), if_true]
      go_wp2
      go_roundg 1
      case measure => omega
      case rel => exact ⟨⟨2, by omega, rfl, by simp, by go_num⟩, rfl⟩
    · simp only [if_neg (show ¬ (2 = 0) by decide), if_neg (show ¬ (2 = 1) by decide)]
      have cG2 := cG.out
      rw [Int.natCast_add] at cG2
      have cG2 := Lib.hid cG2
      go_wp2_with fail
      refine cG2.out.mono ?_
      rintro e w1 ⟨A3, c3, rfl, o3, hb3⟩
      clear hc0 hc1 cG cG2
      go_wp2_with fail
      go_loopg [6, 27] 3 (fun g s i wr => ∃ (k : Nat) (A : Option Addr) (l c : Nat) (L : List Tm), k ≤ 2 ∧ g = 3 - k ∧ s = .slice A l c ∧ i = .int .i64 (k : Int) ∧ L = (if k = 0 then [] else if k = 1 then xs else xs ++ ys) ∧ l = L.length ∧ Ow wr w.heap.size 45 3 (.slice A l c) (L.map Tm.enc) ∧ Below w.heap.size w wr)
      case atStart => exact ⟨0, A3, 0, c3, [], by omega, rfl, rfl, rfl, rfl, rfl, o3, hb3⟩
      case round =>
        clear hb3 o3
        obtain ⟨k, A, l, c, L, hk, rfl, rfl, rfl, hL, hlen, hown, hbi⟩ := hrel
        have hzi := hbi.size
        have hbB1 := blk_below hbk.out hbi
        have hlt1 := blk_lt hbB1
        have hc0 := blk_cell hbB1 0
        have hc1 := blk_cell hbB1 1
        simp at hc0 hc1
        clear hbB1
        obtain rfl | rfl | rfl : k = 0 ∨ k = 1 ∨ k = 2 := by omega
        · simp only [if_true] at hL
          subst hL
          obtain rfl : l = 0 := hlen
          go_wp2_with (at_builtin; refine wpList_append_rd _ rfl _ _ _ rfl eTag (base := w.heap.size) (v := .slice A 0 c) (xs := []) rfl (by simpa using hown) rfl (hA.below hbi) Tm.len Tm.one (by simp [maxLen]; omega) (by simp; omega) hzi ?_; intro A4 n4 c4 w4 hn4 hown4 hg4 hat4; (obtain rfl : n4 = n := (by rw [hn4]; simp)); clear hn4)
          have hb4 : Below w.heap.size w w4 := hbi.grown hg4 hzi (fun g e => (hown.block g e).1)
          go_roundg 2
          case measure => omega
          case rel => exact ⟨1, A4, n4, c4, xs, by omega, rfl, rfl, by go_num, rfl, hl.symm, by simpa using hown4, hb4⟩
        · simp only [if_neg (show ¬ (1 = 0) by decide), if_true] at hL
          subst hL
          obtain rfl : l = n := by omega
          clear hlen
          go_wp2_with (at_builtin; refine wpList_append_rd _ rfl _ _ _ rfl eTag (base := w.heap.size) (v := .slice A l c) (xs := L.map Tm.enc) rfl hown rfl (hB.below hbi) Tm.len Tm.one (by simp [maxLen]; omega) (by simp; omega) hzi ?_; intro A4 n4 c4 w4 hn4 hown4 hg4 hat4; (have hn5 : n4 = l + m := (by rw [hn4]; simp; omega)); clear hn4)
          subst hn5
          have hb4 : Below w.heap.size w w4 := hbi.grown hg4 hzi (fun g e => (hown.block g e).1)
          go_roundg 1
          case measure => omega
          case rel => exact ⟨2, A4, l + m, c4, L ++ ys, by omega, rfl, rfl, by go_num, rfl, by simp; omega, by rw [List.map_append]; exact hown4, hb4⟩
        · simp only [if_neg (show ¬ (2 = 0) by decide), if_neg (show ¬ (2 = 1) by decide)] at hL
          subst hL
          obtain rfl : l = n + m := by rw [hlen]; simp; omega
          go_wp2
          go_ret
          exact ⟨_, _, rfl, hown, hbi⟩

end Go.Proofs.YtffnpfponnhddaaGreat
namespace Go.Proofs.YtffnpfponnhddaaGreat
open Go.RowKit

set_option maxRecDepth 100000 in
theorem cloneA_any (A : Option Addr) (n c : Nat) (xs : List Am) (w : World) (hA : RdA w w.heap.size A n xs) (hn : n ≤ 100000) :
    Calls Tryz.prog 62 #[.slice A n c] w fun e w' => ∃ A' c', e = .returned (.slice A' n c') ∧ Ow w' w.heap.size 123 4 (.slice A' n c') (xs.map Am.enc) ∧ Below w.heap.size w w' := by
  have hl := hA.len
  cases A with
  | none =>
    obtain rfl : n = 0 := by
      rcases Nat.eq_zero_or_pos n with h | h
      · exact h
      · obtain ⟨b, o, h2, _⟩ := hA.2 h; cases h2
    obtain rfl : xs = [] := List.eq_nil_of_length_eq_zero hl
    have hnil : ∀ w, (binOp .eql 57 (.slice none 0 c) (.slice none 0 0)).run Tryz.prog w = .ok (.bool true) w := fun w => by rw [Lib.run_eql_slice_nil w _ _ none 0 c 0 0 Tryz.underlying57]; rfl
    go_enter Tryz.func62, Tryz.ntmps62
    go_wp2
    go_ret
    exact ⟨none, 0, rfl, Ow.nil_ _ _ _ _, Below.refl _ _⟩
  | some a =>
    have hnil : ∀ w, (binOp .eql 57 (.slice (some a) n c) (.slice none 0 0)).run Tryz.prog w = .ok (.bool false) w := fun w => by rw [Lib.run_eql_slice_nil w _ _ (some a) n c 0 0 Tryz.underlying57]; rfl
    go_enter Tryz.func62, Tryz.ntmps62
    go_wp2_with (at_builtin; refine wpList_append_rd _ rfl _ _ _ rfl eAddP (base := w.heap.size) (v := .slice (some ⟨w.heap.size, 0, none⟩) 0 0) (xs := []) rfl (Ow.made0 _ _ _ (Nat.le_refl _)) rfl (Rd.below hA ((Below.refl _ w).alloc (Nat.le_refl _) _)) Am.len Am.one (by simp [maxLen]; omega) (by simp; omega) (by simp) ?_; intro A2 n2 c2 w4 hn2 hown2 hg4 hat2; (obtain rfl : n2 = n := (by rw [hn2]; simp)); clear hn2)
    go_ret
    exact ⟨A2, c2, rfl, by simpa using hown2, ((Below.refl _ w).alloc (Nat.le_refl _) _).grown hg4 (by simp) (fun g e => by simp [Value.ownBlock] at e; omega)⟩
set_option maxRecDepth 100000 in
set_option maxHeartbeats 2000000 in
theorem delfA_gen (fg : Nat) (lb : Array Value) (pr : Am → Bool) (eg : ∀ args w, (callFunc fg args).run Tryz.prog w = .ok (.enter fg args) w) (base : Nat) (A : Option Addr) (n c : Nat) (xs : List Am) (w : World)
    (hown : Ow w base 123 4 (.slice A n c) (xs.map Am.enc)) (hn : n ≤ 100000) (hp : PredA fg lb pr base w xs) (hB : base ≤ w.heap.size) :
    Calls Tryz.prog 76 #[.slice A n c, .func (.func fg) #[] lb] w
      fun e w' => ∃ n', e = .returned (.slice A n' c) ∧ Ow w' base 123 4 (.slice A n' c) ((xs.filter fun x => !pr x).map Am.enc) ∧ w.grownBy w' (Value.slice A n c).ownBlock := by
  have hix := ixfA_gen fg lb pr eg base A n c xs w hown.rd.1 (by simp [maxLen]; omega) hp hB
  have hl : xs.length = n := by simpa using hown.rd.2.1
  have hcm : c ≤ maxLen := hown.rd.2.2.2
  have hnc : n ≤ c := hown.rd.2.2.1
  unfold maxLen at hcm
  cases hf : xs.findIdx? pr with
  | none =>
    have hall : xs.filter (fun x => !pr x) = xs := by
      rw [List.filter_eq_self]; intro x hx
      have := List.findIdx?_eq_none_iff.1 hf x hx
      simp [this]
    rw [hall]
    rw [show firstG pr xs = -1 by simp [firstG, hf]] at hix
    clear hf
    go_enter Tryz.func76, Tryz.ntmps76
    go_wp2_with fail
    refine hix.mono ?_
    rintro e w1 ⟨rfl, hb1⟩
    go_wp2
    go_ret
    exact ⟨n, rfl, hown.below hb1, gr_below hb1 _⟩
  | some i0 =>
    obtain ⟨hi, hpi, hno⟩ := List.findIdx?_eq_some_iff_getElem.1 hf
    rw [show firstG pr xs = (i0 : Int) by simp [firstG, hf]] at hix
    obtain ⟨g, rfl, hgb, hgl, _, _⟩ := hown.addr (by omega)
    have hne : ((i0 : Int) == -1) = false := by simp
    have hst : Hid (xs.take i0 = (xs.take (i0 + 1)).filter fun x => !pr x) := Lib.hid (by
      have h1 : (xs.take i0).filter (fun x => !pr x) = xs.take i0 := by
        rw [List.filter_eq_self]; intro x hx
        obtain ⟨j, hj⟩ := List.mem_iff_getElem?.1 hx
        have hjl := (List.getElem?_eq_some_iff.1 hj).1
        rw [List.length_take] at hjl
        rw [List.getElem?_take_of_lt (by omega), List.getElem?_eq_getElem (by omega)] at hj
        injection hj with hj
        have := hno j (by omega)
        rw [hj] at this
        simp [this]
      rw [filter_takeG (List.getElem?_eq_getElem hi), h1, hpi]
      simp)
    have hi0 : i0 < n := by omega
    have hp := Lib.hid hp
    have hlH := Lib.hid hl
    clear hf hno hpi hi hl
    go_enter Tryz.func76, Tryz.ntmps76
    go_wp2_with fail
    refine hix.mono ?_
    rintro e w1 ⟨rfl, hb1⟩
    go_wp2_with fail
    go_loopg [5, 6] (n + 1 - (i0 + 1)) (fun gh i j wr => ∃ (p q : Nat) (L : List Am), p < q ∧ q ≤ n ∧ gh = n + 1 - q ∧ i = .int .i64 p ∧ j = .int .i64 q ∧ L.length = n ∧ L.take p = (xs.take q).filter (fun x => !pr x) ∧ L.drop q = xs.drop q ∧
      Ow wr base 123 4 (.slice (some ⟨g, 0, none⟩) n c) (L.map Am.enc) ∧ w.grownBy wr (some g))
    case atStart => exact ⟨i0, i0 + 1, xs, by omega, by omega, rfl, rfl, by go_num, hlH.out, hst.out, rfl, hown.below hb1, gr_below hb1 _⟩
    case round =>
      obtain ⟨p, q, L, hpq, hqn, rfl, rfl, rfl, hLl, hLt, hLd, hownL, hgr⟩ := hrel
      have hz := hgr.size
      have hbw : Below base w wr := (Below.refl _ _).grown hgr hB (fun k e => by injection e with e; omega)
      have hbw' : base ≤ wr.heap.size := by omega
      obtain ⟨g', he, _, hgl', hgf, hgc⟩ := hownL.addr (by omega)
      injection he with he
      injection he with he
      subst he
      have hLlH := Lib.hid hLl
      have hLtH := Lib.hid hLt
      have hLdH := Lib.hid hLd
      clear hLt hLd
      by_cases hlt : q < n
      · obtain ⟨u, huu⟩ : ∃ u, L[q]? = some u := ⟨_, List.getElem?_eq_getElem (by omega)⟩
        have hux : xs[q]? = some u := by
          have h1 : (L.drop q)[0]? = some u := by rw [List.getElem?_drop]; exact huu
          rw [hLdH.out, List.getElem?_drop] at h1; exact h1
        obtain ⟨y, hyy⟩ : ∃ y, L[p]? = some y := ⟨_, List.getElem?_eq_getElem (by omega)⟩
        clear hLl
        have hcu := hgc q u.enc (by rw [List.getElem?_map, huu]; rfl)
        have hcy := hgc p y.enc (by rw [List.getElem?_map, hyy]; rfl)
        have p0 := hcu 0 _ rfl
        have p1 := hcu 1 _ rfl
        have p2 := hcu 2 _ rfl
        have p3 := hcu 3 _ rfl
        have q0 := hcy 0 _ rfl
        have q1 := hcy 1 _ rfl
        have q2 := hcy 2 _ rfl
        have q3 := hcy 3 _ rfl
        rw [Nat.add_zero] at p0 q0
        clear hcu hcy hgc
        have hum : u ∈ xs := List.mem_of_getElem? hux
        have hfs := Lib.hid (filter_takeG (p := fun x => !pr x) hux)
        have hdr : Hid (L.drop (q + 1) = xs.drop (q + 1)) := Lib.hid (by rw [← List.drop_drop, hLdH.out, List.drop_drop])
        have hcall := Lib.hid (hp.out u hum)
        clear huu hux hyy hum
        go_wp2_with fail
        refine (hcall.out _ ?_).mono ?_
        · exact hbw.alloc hbw' _
        rintro e w2 ⟨rfl, hb2⟩
        have hz2 := hb2.size
        simp only [World.size_alloc] at hz2
        have hb3 : Below wr.heap.size wr w2 := ((Below.refl _ wr).alloc (Nat.le_refl _) _).trans (hb2.mono (by simp))
        have hgr3 : w.grownBy w2 (some g) := hgr.trans (gr_below hb3 _)
        have hown3 := hownL.below hb3
        replace q0 := (hb3.cell (p := ⟨g, _, none⟩) hgl').trans q0
        replace q1 := (hb3.cell (p := ⟨g, _, none⟩) hgl').trans q1
        replace q2 := (hb3.cell (p := ⟨g, _, none⟩) hgl').trans q2
        replace q3 := (hb3.cell (p := ⟨g, _, none⟩) hgl').trans q3
        have hgf3 : ∀ o, w2.frozen? ⟨g, o, none⟩ = false := fun o => (hb3.frozen (p := ⟨g, o, none⟩) hgl').trans (hgf o)
        have hbox : w2.heap[wr.heap.size]? = some (.cells #[.int .i64 u.1.1.1, .int .u32 u.1.1.2, .int .i64 u.1.2, .string (bs u.2)] 123 (0, 0)) := (hb2.block _ (by simp)).trans (heap_at _ _ rfl)
        have r0 := blk_cell hbox 0
        have r1 := blk_cell hbox 1
        have r2 := blk_cell hbox 2
        have r3 := blk_cell hbox 3
        simp at r0 r1 r2 r3
        clear hbox hgf p0 p1 p2 p3 hown
        generalize pr u = b at hfs
        cases b
        · have hn1 : g ≠ wr.heap.size := by omega
          go_wp2
          go_roundg (n + 1 - (q + 1))
          case measure => omega
          case rel =>
            refine ⟨p + 1, q + 1, L.set p u, by omega, by omega, rfl, by go_num, by go_num, by rw [List.length_set]; exact hLlH.out, ?_, ?_, ?_, ?_⟩
            · rw [hfs.out, ← hLtH.out, List.take_add_one, List.getElem?_set_self (by rw [hLlH.out]; omega), List.take_set_of_le (Nat.le_refl _)]; simp
            · rw [List.drop_set_of_lt (by omega)]; exact hdr.out
            · rw [List.map_set]; exact hown3.setL (by omega) (vs := Am.enc u) rfl
            · (repeat (first | exact hgr3 | refine gr_set ?_ _ _))
        · go_wp2
          go_roundg (n + 1 - (q + 1))
          case measure => omega
          case rel => exact ⟨p, q + 1, L, by omega, by omega, rfl, by go_num, by go_num, hLlH.out, by rw [hfs.out, ← hLtH.out]; simp, hdr.out, hown3, hgr3⟩
      · obtain rfl : q = n := by omega
        have hfin : Hid (L.take p = xs.filter fun x => !pr x) := Lib.hid (by rw [hLtH.out, List.take_of_length_le (by rw [hlH.out]; exact Nat.le_refl _)])
        have hzv : ∀ w, (zeroValue 123).run Tryz.prog w = .ok (.agg #[.int .i64 0, .int .u32 0, .int .i64 0, .string ⟨#[]⟩]) w := fun _ => by kernel_rfl
        obtain ⟨wc, hrun, hown4, hgr4⟩ := run_clear_row (sz := 4) (c' := c - p) Tryz.underlying57 hzv (by simp [Value.cells, Value.oneCell']) rfl (by decide) hownL hpq
        clear hgf hgc hown
        have hown5 := hown4.front (k := p) (by omega)
        have hfr : Hid (((L.map Am.enc).take p ++ List.replicate (q - p) (Value.agg #[.int .i64 0, .int .u32 0, .int .i64 0, .string ⟨#[]⟩]).cells.toList).take p = (xs.filter fun x => !pr x).map Am.enc) := Lib.hid (by
          rw [List.take_append_of_le_length (by simp; omega), List.take_take, Nat.min_self, ← hfin.out, List.map_take])
        go_wp2
        go_ret
        exact ⟨p, rfl, by rw [← hfr.out]; exact hown5, hgr.trans hgr4⟩
end Go.Proofs.YtffnpfponnhddaaGreat
namespace Go.Proofs.YtffnpfponnhddaaGreat
open Go.RowKit

/-- The additions of an element that hold. -/
def tagsO (xs : List Am) (gs : List Tm) (e : List UInt8) : List Tm := if oErr xs gs ≠ 0 then [] else (xs.filter fun a => decide (a.2 = e)).map Prod.fst
def hasO (xs : List Am) (gs : List Tm) (e : List UInt8) : Bool := decide (0 < (tagsO xs gs e).length)
set_option maxRecDepth 100000 in
set_option maxHeartbeats 2000000 in
theorem otags_any (A : Option Addr) (n c : Nat) (xs : List Am) (B : Option Addr) (m d : Nat) (gs : List Tm) (e : List UInt8) (w : World) (hA : RdA w w.heap.size A n xs) (hB : RdT w w.heap.size B m gs) (hn : n ≤ 100000) (hm : m ≤ 100000) (hx : ∀ a ∈ xs, a.wf) (hg : ∀ t ∈ gs, t.wf) (hl : ∀ a ∈ xs, a.2.length ≤ maxLen) :
    Calls Tryz.prog 33 #[.agg #[.slice A n c, .slice B m d], .string (bs e)] w fun r w' => ∃ T t c', r = .returned (.slice T t c') ∧ Ow w' w.heap.size 45 3 (.slice T t c') ((tagsO xs gs e).map Tm.enc) ∧ Below w.heap.size w w' := by
  have hb0 : Below w.heap.size w (w.alloc (.cells #[.slice A n c, .slice B m d] 59)) := (Below.refl _ w).alloc (Nat.le_refl _) _
  have hbx : (w.alloc (.cells #[.slice A n c, .slice B m d] 59)).heap[w.heap.size]? = some (.cells #[.slice A n c, .slice B m d] 59 (0, 0)) := heap_at _ _ rfl
  generalize hW : w.alloc (.cells #[.slice A n c, .slice B m d] 59) = W at hb0 hbx
  have hbxH := Lib.hid hbx
  have hltx := blk_lt hbx
  have s0 := blk_cell hbx 0
  have s1 := blk_cell hbx 1
  simp at s0 s1
  have hnl := Lib.hid hA.len
  have hck := Lib.hid (ocheck_any A n c xs B m d gs W ((hA.below hb0).more hb0.size) ((hB.below hb0).more hb0.size) (by first | omega | (simp [maxLen]; omega)) (by first | omega | (simp [maxLen]; omega)) hx hg hl)
  have hAr := Lib.hid (fun w' (h : Below w.heap.size w w') => hA.below h)
  generalize hr : tagsO xs gs e = out
  unfold tagsO at hr
  generalize hpe : oErr xs gs = p at hck hr
  by_cases hp : p = 0
  case neg =>
    rw [if_pos hp] at hr
    subst hr
    have hpn : (p != 0) = true := by simpa using hp
    clear hpe hp hbx hA hB
    go_enter Tryz.func33, Tryz.ntmps33
    go_wp2_with fail
    refine hck.out.mono ?_
    rintro e w1 ⟨rfl, hv1⟩
    have hG := hb0.trans (hv1.mono hb0.size)
    go_wp2
    go_ret
    exact ⟨none, 0, 0, rfl, Ow.nil_ _ _ _ _, hG⟩
  subst hp
  rw [if_neg (by simp)] at hr
  have hrH := Lib.hid hr
  have hzW := hb0.size
  clear hpe hr hbx hA hB hx hg hl
  go_enter Tryz.func33, Tryz.ntmps33
  go_wp2_with fail
  refine hck.out.mono ?_
  rintro e' w1 ⟨rfl, hv1⟩
  have hs1 := blk_below hbxH.out hv1
  clear s0 s1
  have hltx := blk_lt hs1
  have s0 := blk_cell hs1 0
  have s1 := blk_cell hs1 1
  simp at s0 s1
  clear hck
  go_wp2_with fail
  clear s0 s1 hltx hs1
  go_loopg [5, 14] (n + 1) (fun g o i wr => ∃ (k t : Nat) (T : Option Addr) (c' : Nat), k ≤ n ∧ g = n + 1 - k ∧ i = .int .i64 (k : Int) ∧ o = .slice T t c' ∧ Ow wr W.heap.size 45 3 (.slice T t c') ((((xs.take k).filter fun a => decide (a.2 = e)).map Prod.fst).map Tm.enc) ∧ Below W.heap.size W wr)
  case atStart => exact ⟨0, 0, none, 0, Nat.zero_le _, rfl, rfl, rfl, Ow.nil_ _ _ _ _, hv1⟩
  case round =>
    clear hv1
    obtain ⟨k, t, T, c', hk, rfl, rfl, rfl, hown, hbr⟩ := hrel
    have hz := hbr.size
    have hGw := hb0.trans (hbr.mono hzW)
    have hsr := blk_below hbxH.out hbr
    have hltx := blk_lt hsr
    have s0 := blk_cell hsr 0
    have s1 := blk_cell hsr 1
    simp at s0 s1
    by_cases hlt : k < n
    · obtain ⟨bA, oA, u, rfl, hbA, hq, hcp⟩ := (hAr.out wr hGw).at_ hlt
      have p0 := hcp 0 _ rfl
      have p1 := hcp 1 _ rfl
      have p2 := hcp 2 _ rfl
      have p3 := hcp 3 _ rfl
      rw [Nat.add_zero] at p0
      clear hcp hsr
      have hlti : (k : Int) < (n : Int) := by omega
      have hbA2 : bA < wr.heap.size := by omega
      have htk : Hid (t ≤ k) := Lib.hid (by
        have h1 := hown.rd.2.1
        rw [List.length_map, List.length_map] at h1
        have h2 := List.length_filter_le (fun a : Am => decide (a.2 = e)) (xs.take k)
        rw [List.length_take] at h2
        omega)
      have hst := Lib.hid (filter_takeG (p := fun a : Am => decide (a.2 = e)) hq)
      have hlt2 : Hid (((((xs.take k).filter fun a => decide (a.2 = e)).map Prod.fst).map Tm.enc).length = t) := Lib.hid hown.rd.2.1
      clear hq
      by_cases heq : u.2 = e
      · have hqb : ((bs u.2).toList == (bs e).toList) = true := by rw [bs_empty, bs_empty, heq]; simp
        have hT : Hid (((((xs.take (k + 1)).filter fun a => decide (a.2 = e)).map Prod.fst).map Tm.enc) = ((((xs.take k).filter fun a => decide (a.2 = e)).map Prod.fst).map Tm.enc) ++ [[.int .i64 u.1.1.1, .int .u32 u.1.1.2, .int .i64 u.1.2]]) := Lib.hid (by rw [hst.out, decide_eq_true heq, if_pos rfl]; simp [Tm.enc])
        have hbO : Below wr.heap.size wr ((wr.alloc (.cells #[.int .i64 u.1.1.1, .int .u32 u.1.1.2, .int .i64 u.1.2, .string (bs u.2)] 123)).alloc (.cells #[.int .i64 u.1.1.1, .int .u32 u.1.1.2, .int .i64 u.1.2] 45)) := ((Below.refl _ wr).alloc (Nat.le_refl _) _).alloc (by simp) _
        have hlen1 : ∀ y ∈ ([[.int .i64 u.1.1.1, .int .u32 u.1.1.2, .int .i64 u.1.2]] : List (List Value)), y.length = 3 := by simp
        have hone1 : ∀ y ∈ ([[.int .i64 u.1.1.1, .int .u32 u.1.1.2, .int .i64 u.1.2]] : List (List Value)), ∀ v ∈ y, v.oneCell' = true := by simp [Value.oneCell']
        have hkn : k ≤ 100000 := by omega
        clear heq
        go_wp2_with (at_builtin; refine wpList_append_rd _ rfl _ _ _ rfl eTag (base := W.heap.size) (v := .slice T t c') (xs := (((xs.take k).filter fun a => decide (a.2 = e)).map Prod.fst).map Tm.enc) rfl (hown.below hbO) rfl (Rd.one' [.int .i64 u.1.1.1, .int .u32 u.1.1.2, .int .i64 u.1.2] (by first | rfl | simp)) hlen1 hone1 (by rw [hlt2.out]; have := htk.out; unfold maxLen; omega) (by rw [hlt2.out]; have := htk.out; omega) (by simp; omega) ?_; intro A2 n2 c2 w4 hn2 hown4 hg4 hat4; (obtain rfl : n2 = t + 1 := (by rw [hn2, hlt2.out])); clear hn2)
        have hG : Below W.heap.size W w4 := ((hbr.alloc hz _).alloc (by simp; omega) _).grown hg4 (by simp; omega) (fun g e => (hown.block g e).1)
        go_roundg (n + 1 - (k + 1))
        case measure => omega
        case rel => exact ⟨k + 1, t + 1, A2, c2, by omega, rfl, by go_num, rfl, by rw [hT.out]; exact hown4, hG⟩
      · have hqb : ((bs u.2).toList == (bs e).toList) = false := by rw [bs_empty, bs_empty, beq_eq_false_iff_ne]; exact heq
        have hT : Hid (((((xs.take (k + 1)).filter fun a => decide (a.2 = e)).map Prod.fst).map Tm.enc) = ((((xs.take k).filter fun a => decide (a.2 = e)).map Prod.fst).map Tm.enc)) := Lib.hid (by rw [hst.out, decide_eq_false heq]; simp)
        have hG : Below W.heap.size W (wr.alloc (.cells #[.int .i64 u.1.1.1, .int .u32 u.1.1.2, .int .i64 u.1.2, .string (bs u.2)] 123)) := hbr.alloc hz _
        have hbO : Below wr.heap.size wr (wr.alloc (.cells #[.int .i64 u.1.1.1, .int .u32 u.1.1.2, .int .i64 u.1.2, .string (bs u.2)] 123)) := (Below.refl _ wr).alloc (Nat.le_refl _) _
        clear heq
        go_wp2
        go_roundg (n + 1 - (k + 1))
        case measure => omega
        case rel => exact ⟨k + 1, t, T, c', by omega, rfl, by go_num, rfl, by rw [hT.out]; exact hown.below hbO, hG⟩
    · obtain rfl : k = n := by omega
      have hnli : ¬ (k : Int) < (k : Int) := by omega
      have hT : Hid ((((xs.take k).filter fun a => decide (a.2 = e)).map Prod.fst) = out) := Lib.hid (by rw [List.take_of_length_le (by have := hnl.out; omega)]; exact hrH.out)
      rw [hT.out] at hown
      clear hsr
      go_wp2
      go_ret
      exact ⟨T, t, c', rfl, hown.base hzW, hGw⟩
end Go.Proofs.YtffnpfponnhddaaGreat
namespace Go.Proofs.YtffnpfponnhddaaGreat
open Go.RowKit

end Go.Proofs.YtffnpfponnhddaaGreat
