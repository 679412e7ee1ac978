/- slices.IndexFunc, Clone and DeleteFunc at puts. -/
import Derived.Test.YtadldndmmobpdaaM27
import Derived.Test.YtadldndmmobpdaaM13
namespace Go.Proofs.Ytadldndmmobpdaa
open Go.RowKit

/-- A function value that answers p of such things, wherever what lay below block B stands. -/
def PredP (g : Nat) (lb : Array Value) (p : Pm → Bool) (B : Nat) (w : World) (xs : List Pm) : Prop :=
  ∀ x ∈ xs, ∀ w', Below B w w' → Calls Try.prog g (#[.agg #[.int .i64 x.1.1.1, .int .u32 x.1.1.2, .int .i64 x.1.2, .string (bs x.2.1), .int .i64 x.2.2.1, .int .u32 x.2.2.2.1, .int .i64 x.2.2.2.2]] ++ lb) w' fun e w'' => e = .returned (.bool (p x)) ∧ Below w'.heap.size w' w''
theorem ixfP_gen (g : Nat) (lb : Array Value) (p : Pm → Bool) (eg : ∀ args w, (callFunc g args).run Try.prog w = .ok (.enter g args) w) (B : Nat) (A : Option Addr) (n c : Nat) (xs : List Pm) (w : World) (hA : RdP w w.heap.size A n xs) (hn : n ≤ maxLen) (hp : PredP g lb p B w xs) (hB : B ≤ w.heap.size) :
    Calls Try.prog 135 #[.slice A n c, .func (.func g) #[] lb] w
      fun e w' => e = .returned (.int .i64 (firstG p xs)) ∧ Below w.heap.size w w' := by
  unfold maxLen at hn
  have hp := Lib.hid hp
  go_enter Try.func135, Try.ntmps135
  go_wp2
  go_loopg [8] (n + 1) (fun g i wr => ∃ k : Nat, k ≤ n ∧ g = n + 1 - k ∧ i = .int .i64 k ∧ (∀ u ∈ xs.take k, p u = false) ∧ Below w.heap.size w wr)
  case atStart => exact ⟨0, Nat.zero_le _, rfl, rfl, by simp, Below.refl _ _⟩
  case round =>
    obtain ⟨k, hk, rfl, rfl, hno, hbr⟩ := hrel
    have hz := hbr.size
    by_cases hlt : k < n
    · obtain ⟨bA, oA, u, rfl, hbA, hq, hcp⟩ := (hA.below hbr).at_ hlt
      have p0 := hcp 0 _ rfl
      have p1 := hcp 1 _ rfl
      have p2 := hcp 2 _ rfl
      have p3 := hcp 3 _ rfl
      have p4 := hcp 4 _ rfl
      have p5 := hcp 5 _ rfl
      have p6 := hcp 6 _ rfl
      rw [Nat.add_zero] at p0
      clear hcp
      have hnoH := Lib.hid hno
      have hqH := Lib.hid hq
      clear hno hq
      go_wp2_with fail
      refine (hp.out u (List.mem_of_getElem? hqH.out) wr (hbr.mono hB)).mono ?_
      rintro e w1 ⟨rfl, hb1⟩
      have hb2 := hbr.trans (hb1.mono hz)
      generalize hx' : p u = r
      cases r
      case true =>
        have hT := Lib.hid (firstG_at hnoH.out hqH.out hx')
        clear hx'
        go_wp2
        go_ret
        exact ⟨ret_int hT.out.symm, hb2⟩
      case false =>
        have hT := Lib.hid hx'
        clear hx'
        go_wp2
        go_roundg (n + 1 - (k + 1))
        case measure => omega
        case rel => exact ⟨k + 1, by omega, rfl, by go_num, all_take_succ hnoH.out hqH.out hT.out, hb2⟩
    · have hT := Lib.hid (firstG_none (p := p) (all_take_all (by rw [show k = n from by omega] at hno; exact hno) hA.len))
      clear hno
      go_wp2
      go_ret
      exact ⟨ret_int hT.out.symm, hbr⟩
set_option maxRecDepth 100000 in
theorem cloneP_any (A : Option Addr) (n c : Nat) (xs : List Pm) (w : World) (hA : RdP w w.heap.size A n xs) (hn : n ≤ 100000) :
    Calls Try.prog 107 #[.slice A n c] w fun e w' => ∃ A' c', e = .returned (.slice A' n c') ∧ Ow w' w.heap.size 96 7 (.slice A' n c') (xs.map Pm.enc) ∧ Below w.heap.size w w' := by
  have hl := hA.len
  cases A with
  | none =>
    obtain rfl : n = 0 := by
      rcases Nat.eq_zero_or_pos n with h | h
      · exact h
      · obtain ⟨b, o, h2, _⟩ := hA.2 h; cases h2
    obtain rfl : xs = [] := List.eq_nil_of_length_eq_zero hl
    have hnil : ∀ w, (binOp .eql 54 (.slice none 0 c) (.slice none 0 0)).run Try.prog w = .ok (.bool true) w := fun w => by rw [Lib.run_eql_slice_nil w _ _ none 0 c 0 0 Try.underlying54]; rfl
    go_enter Try.func107, Try.ntmps107
    go_wp2
    go_ret
    exact ⟨none, 0, rfl, Ow.nil_ _ _ _ _, Below.refl _ _⟩
  | some a =>
    have hnil : ∀ w, (binOp .eql 54 (.slice (some a) n c) (.slice none 0 0)).run Try.prog w = .ok (.bool false) w := fun w => by rw [Lib.run_eql_slice_nil w _ _ (some a) n c 0 0 Try.underlying54]; rfl
    go_enter Try.func107, Try.ntmps107
    go_wp2_with (at_builtin; refine wpList_append_rd _ rfl _ _ _ rfl ePutP (base := w.heap.size) (v := .slice (some ⟨w.heap.size, 0, none⟩) 0 0) (xs := []) rfl (Ow.made0 _ _ _ (Nat.le_refl _)) rfl (Rd.below hA ((Below.refl _ w).alloc (Nat.le_refl _) _)) Pm.len Pm.one (by simp [maxLen]; omega) (by simp; omega) (by simp) ?_; intro A2 n2 c2 w4 hn2 hown2 hg4 hat2; (obtain rfl : n2 = n := (by rw [hn2]; simp)); clear hn2)
    go_ret
    exact ⟨A2, c2, rfl, by simpa using hown2, ((Below.refl _ w).alloc (Nat.le_refl _) _).grown hg4 (by simp) (fun g e => by simp [Value.ownBlock] at e; omega)⟩
set_option maxRecDepth 100000 in
set_option maxHeartbeats 4000000 in
theorem delfP_gen (fg : Nat) (lb : Array Value) (pr : Pm → Bool) (eg : ∀ args w, (callFunc fg args).run Try.prog w = .ok (.enter fg args) w) (base : Nat) (A : Option Addr) (n c : Nat) (xs : List Pm) (w : World)
    (hown : Ow w base 96 7 (.slice A n c) (xs.map Pm.enc)) (hn : n ≤ 100000) (hp : PredP fg lb pr base w xs) (hB : base ≤ w.heap.size) :
    Calls Try.prog 106 #[.slice A n c, .func (.func fg) #[] lb] w
      fun e w' => ∃ n', e = .returned (.slice A n' c) ∧ Ow w' base 96 7 (.slice A n' c) ((xs.filter fun x => !pr x).map Pm.enc) ∧ w.grownBy w' (Value.slice A n c).ownBlock := by
  have hix := ixfP_gen fg lb pr eg base A n c xs w hown.rd.1 (by simp [maxLen]; omega) hp hB
  have hl : xs.length = n := by simpa using hown.rd.2.1
  have hcm : c ≤ maxLen := hown.rd.2.2.2
  have hnc : n ≤ c := hown.rd.2.2.1
  unfold maxLen at hcm
  cases hf : xs.findIdx? pr with
  | none =>
    have hall : xs.filter (fun x => !pr x) = xs := by
      rw [List.filter_eq_self]; intro x hx
      have := List.findIdx?_eq_none_iff.1 hf x hx
      simp [this]
    rw [hall]
    rw [show firstG pr xs = -1 by simp [firstG, hf]] at hix
    clear hf
    go_enter Try.func106, Try.ntmps106
    go_wp2_with fail
    refine hix.mono ?_
    rintro e w1 ⟨rfl, hb1⟩
    go_wp2
    go_ret
    exact ⟨n, rfl, hown.below hb1, gr_below hb1 _⟩
  | some i0 =>
    obtain ⟨hi, hpi, hno⟩ := List.findIdx?_eq_some_iff_getElem.1 hf
    rw [show firstG pr xs = (i0 : Int) by simp [firstG, hf]] at hix
    obtain ⟨g, rfl, hgb, hgl, _, _⟩ := hown.addr (by omega)
    have hne : ((i0 : Int) == -1) = false := by simp
    have hst : Hid (xs.take i0 = (xs.take (i0 + 1)).filter fun x => !pr x) := Lib.hid (by
      have h1 : (xs.take i0).filter (fun x => !pr x) = xs.take i0 := by
        rw [List.filter_eq_self]; intro x hx
        obtain ⟨j, hj⟩ := List.mem_iff_getElem?.1 hx
        have hjl := (List.getElem?_eq_some_iff.1 hj).1
        rw [List.length_take] at hjl
        rw [List.getElem?_take_of_lt (by omega), List.getElem?_eq_getElem (by omega)] at hj
        injection hj with hj
        have := hno j (by omega)
        rw [hj] at this
        simp [this]
      rw [filter_takeG (List.getElem?_eq_getElem hi), h1, hpi]
      simp)
    have hi0 : i0 < n := by omega
    have hp := Lib.hid hp
    have hlH := Lib.hid hl
    clear hf hno hpi hi hl
    go_enter Try.func106, Try.ntmps106
    go_wp2_with fail
    refine hix.mono ?_
    rintro e w1 ⟨rfl, hb1⟩
    go_wp2_with fail
    go_loopg [5, 6] (n + 1 - (i0 + 1)) (fun gh i j wr => ∃ (p q : Nat) (L : List Pm), p < q ∧ q ≤ n ∧ gh = n + 1 - q ∧ i = .int .i64 p ∧ j = .int .i64 q ∧ L.length = n ∧ L.take p = (xs.take q).filter (fun x => !pr x) ∧ L.drop q = xs.drop q ∧
      Ow wr base 96 7 (.slice (some ⟨g, 0, none⟩) n c) (L.map Pm.enc) ∧ w.grownBy wr (some g))
    case atStart => exact ⟨i0, i0 + 1, xs, by omega, by omega, rfl, rfl, by go_num, hlH.out, hst.out, rfl, hown.below hb1, gr_below hb1 _⟩
    case round =>
      obtain ⟨p, q, L, hpq, hqn, rfl, rfl, rfl, hLl, hLt, hLd, hownL, hgr⟩ := hrel
      have hz := hgr.size
      have hbw : Below base w wr := (Below.refl _ _).grown hgr hB (fun k e => by injection e with e; omega)
      have hbw' : base ≤ wr.heap.size := by omega
      obtain ⟨g', he, _, hgl', hgf, hgc⟩ := hownL.addr (by omega)
      injection he with he
      injection he with he
      subst he
      have hLlH := Lib.hid hLl
      have hLtH := Lib.hid hLt
      have hLdH := Lib.hid hLd
      clear hLt hLd
      by_cases hlt : q < n
      · obtain ⟨u, huu⟩ : ∃ u, L[q]? = some u := ⟨_, List.getElem?_eq_getElem (by omega)⟩
        have hux : xs[q]? = some u := by
          have h1 : (L.drop q)[0]? = some u := by rw [List.getElem?_drop]; exact huu
          rw [hLdH.out, List.getElem?_drop] at h1; exact h1
        obtain ⟨y, hyy⟩ : ∃ y, L[p]? = some y := ⟨_, List.getElem?_eq_getElem (by omega)⟩
        clear hLl
        have hcu := hgc q u.enc (by rw [List.getElem?_map, huu]; rfl)
        have hcy := hgc p y.enc (by rw [List.getElem?_map, hyy]; rfl)
        have p0 := hcu 0 _ rfl
        have p1 := hcu 1 _ rfl
        have p2 := hcu 2 _ rfl
        have p3 := hcu 3 _ rfl
        have p4 := hcu 4 _ rfl
        have p5 := hcu 5 _ rfl
        have p6 := hcu 6 _ rfl
        have q0 := hcy 0 _ rfl
        have q1 := hcy 1 _ rfl
        have q2 := hcy 2 _ rfl
        have q3 := hcy 3 _ rfl
        have q4 := hcy 4 _ rfl
        have q5 := hcy 5 _ rfl
        have q6 := hcy 6 _ rfl
        rw [Nat.add_zero] at p0 q0
        clear hcu hcy hgc
        have hum : u ∈ xs := List.mem_of_getElem? hux
        have hfs := Lib.hid (filter_takeG (p := fun x => !pr x) hux)
        have hdr : Hid (L.drop (q + 1) = xs.drop (q + 1)) := Lib.hid (by rw [← List.drop_drop, hLdH.out, List.drop_drop])
        have hcall := Lib.hid (hp.out u hum)
        clear huu hux hyy hum
        go_wp2_with fail
        refine (hcall.out _ ?_).mono ?_
        · exact hbw.alloc hbw' _
        rintro e w2 ⟨rfl, hb2⟩
        have hz2 := hb2.size
        simp only [World.size_alloc] at hz2
        have hb3 : Below wr.heap.size wr w2 := ((Below.refl _ wr).alloc (Nat.le_refl _) _).trans (hb2.mono (by simp))
        have hgr3 : w.grownBy w2 (some g) := hgr.trans (gr_below hb3 _)
        have hown3 := hownL.below hb3
        replace q0 := (hb3.cell (p := ⟨g, _, none⟩) hgl').trans q0
        replace q1 := (hb3.cell (p := ⟨g, _, none⟩) hgl').trans q1
        replace q2 := (hb3.cell (p := ⟨g, _, none⟩) hgl').trans q2
        replace q3 := (hb3.cell (p := ⟨g, _, none⟩) hgl').trans q3
        replace q4 := (hb3.cell (p := ⟨g, _, none⟩) hgl').trans q4
        replace q5 := (hb3.cell (p := ⟨g, _, none⟩) hgl').trans q5
        replace q6 := (hb3.cell (p := ⟨g, _, none⟩) hgl').trans q6
        have hgf3 : ∀ o, w2.frozen? ⟨g, o, none⟩ = false := fun o => (hb3.frozen (p := ⟨g, o, none⟩) hgl').trans (hgf o)
        have hbox : w2.heap[wr.heap.size]? = some (.cells #[.int .i64 u.1.1.1, .int .u32 u.1.1.2, .int .i64 u.1.2, .string (bs u.2.1), .int .i64 u.2.2.1, .int .u32 u.2.2.2.1, .int .i64 u.2.2.2.2] 96 (0, 0)) := (hb2.block _ (by simp)).trans (heap_at _ _ rfl)
        have r0 := blk_cell hbox 0
        have r1 := blk_cell hbox 1
        have r2 := blk_cell hbox 2
        have r3 := blk_cell hbox 3
        have r4 := blk_cell hbox 4
        have r5 := blk_cell hbox 5
        have r6 := blk_cell hbox 6
        simp at r0 r1 r2 r3 r4 r5 r6
        clear hbox hgf p0 p1 p2 p3 p4 p5 p6 hown
        generalize pr u = b at hfs
        cases b
        · have hn1 : g ≠ wr.heap.size := by omega
          go_wp2
          go_roundg (n + 1 - (q + 1))
          case measure => omega
          case rel =>
            refine ⟨p + 1, q + 1, L.set p u, by omega, by omega, rfl, by go_num, by go_num, by rw [List.length_set]; exact hLlH.out, ?_, ?_, ?_, ?_⟩
            · rw [hfs.out, ← hLtH.out, List.take_add_one, List.getElem?_set_self (by rw [hLlH.out]; omega), List.take_set_of_le (Nat.le_refl _)]; simp
            · rw [List.drop_set_of_lt (by omega)]; exact hdr.out
            · rw [List.map_set]; (have h9 := hown3.setL (k := p) (by omega) (vs := Pm.enc u) rfl); simp only [Pm.enc, World.setCells, Nat.add_assoc, Nat.reduceAdd] at h9; (show Ow _ _ _ _ _ ((L.map Pm.enc).set p [.int .i64 u.1.1.1, .int .u32 u.1.1.2, .int .i64 u.1.2, .string (bs u.2.1), .int .i64 u.2.2.1, .int .u32 u.2.2.2.1, .int .i64 u.2.2.2.2])); exact h9
            · exact gr_set (gr_set (gr_set (gr_set (gr_set (gr_set (gr_set hgr3 _ _) _ _) _ _) _ _) _ _) _ _) _ _
        · go_wp2
          go_roundg (n + 1 - (q + 1))
          case measure => omega
          case rel => exact ⟨p, q + 1, L, by omega, by omega, rfl, by go_num, by go_num, hLlH.out, by rw [hfs.out, ← hLtH.out]; simp, hdr.out, hown3, hgr3⟩
      · obtain rfl : q = n := by omega
        have hfin : Hid (L.take p = xs.filter fun x => !pr x) := Lib.hid (by rw [hLtH.out, List.take_of_length_le (by rw [hlH.out]; exact Nat.le_refl _)])
        have hzv : ∀ w, (zeroValue 96).run Try.prog w = .ok (.agg #[.int .i64 0, .int .u32 0, .int .i64 0, .string ⟨#[]⟩, .int .i64 0, .int .u32 0, .int .i64 0]) w := fun _ => by kernel_rfl
        obtain ⟨wc, hrun, hown4, hgr4⟩ := run_clear_row (sz := 7) (c' := c - p) Try.underlying54 hzv (by simp [Value.cells, Value.oneCell']) rfl (by decide) hownL hpq
        clear hgf hgc hown
        have hown5 := hown4.front (k := p) (by omega)
        have hfr : Hid (((L.map Pm.enc).take p ++ List.replicate (q - p) (Value.agg #[.int .i64 0, .int .u32 0, .int .i64 0, .string ⟨#[]⟩, .int .i64 0, .int .u32 0, .int .i64 0]).cells.toList).take p = (xs.filter fun x => !pr x).map Pm.enc) := Lib.hid (by
          rw [List.take_append_of_le_length (by simp; omega), List.take_take, Nat.min_self, ← hfin.out, List.map_take])
        go_wp2
        go_ret
        exact ⟨p, rfl, by rw [← hfr.out]; exact hown5, hgr.trans hgr4⟩
end Go.Proofs.Ytadldndmmobpdaa
