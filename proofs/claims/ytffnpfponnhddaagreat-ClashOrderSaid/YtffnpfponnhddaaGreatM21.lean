/- slices.IndexFunc, Clone and DeleteFunc at puts. slices.Insert of one put. -/
import Derived.Test.YtffnpfponnhddaaGreatN15
import Derived.Test.YtffnpfponnhddaaGreatM13
import Derived.Test.YtffnpfponnhddaaGreatIns
namespace Go.Proofs.YtffnpfponnhddaaGreat
open Go.RowKit

/-- A function value that answers p of such things, wherever what lay below block B stands. -/
def PredP (g : Nat) (lb : Array Value) (p : Pm → Bool) (B : Nat) (w : World) (xs : List Pm) : Prop :=
  ∀ x ∈ xs, ∀ w', Below B w w' → Calls Tryz.prog g (#[.agg #[.int .i64 x.1.1.1, .int .u32 x.1.1.2, .int .i64 x.1.2, .string (bs x.2.1), .int .i64 x.2.2.1, .int .u32 x.2.2.2.1, .int .i64 x.2.2.2.2]] ++ lb) w' fun e w'' => e = .returned (.bool (p x)) ∧ Below w'.heap.size w' w''
theorem ixfP_gen (g : Nat) (lb : Array Value) (p : Pm → Bool) (eg : ∀ args w, (callFunc g args).run Tryz.prog w = .ok (.enter g args) w) (B : Nat) (A : Option Addr) (n c : Nat) (xs : List Pm) (w : World) (hA : RdP w w.heap.size A n xs) (hn : n ≤ maxLen) (hp : PredP g lb p B w xs) (hB : B ≤ w.heap.size) :
    Calls Tryz.prog 114 #[.slice A n c, .func (.func g) #[] lb] w
      fun e w' => e = .returned (.int .i64 (firstG p xs)) ∧ Below w.heap.size w w' := by
  unfold maxLen at hn
  have hp := Lib.hid hp
  go_enter Tryz.func114, Tryz.ntmps114
  go_wp2
  go_loopg [8] (n + 1) (fun g i wr => ∃ k : Nat, k ≤ n ∧ g = n + 1 - k ∧ i = .int .i64 k ∧ (∀ u ∈ xs.take k, p u = false) ∧ Below w.heap.size w wr)
  case atStart => exact ⟨0, Nat.zero_le _, rfl, rfl, by simp, Below.refl _ _⟩
  case round =>
    obtain ⟨k, hk, rfl, rfl, hno, hbr⟩ := hrel
    have hz := hbr.size
    by_cases hlt : k < n
    · obtain ⟨bA, oA, u, rfl, hbA, hq, hcp⟩ := (hA.below hbr).at_ hlt
      have p0 := hcp 0 _ rfl
      have p1 := hcp 1 _ rfl
      have p2 := hcp 2 _ rfl
      have p3 := hcp 3 _ rfl
      have p4 := hcp 4 _ rfl
      have p5 := hcp 5 _ rfl
      have p6 := hcp 6 _ rfl
      rw [Nat.add_zero] at p0
      clear hcp
      have hnoH := Lib.hid hno
      have hqH := Lib.hid hq
      clear hno hq
      go_wp2_with fail
      refine (hp.out u (List.mem_of_getElem? hqH.out) wr (hbr.mono hB)).mono ?_
      rintro e w1 ⟨rfl, hb1⟩
      have hb2 := hbr.trans (hb1.mono hz)
      generalize hx' : p u = r
      cases r
      case true =>
        have hT := Lib.hid (firstG_at hnoH.out hqH.out hx')
        clear hx'
        go_wp2
        go_ret
        exact ⟨ret_int hT.out.symm, hb2⟩
      case false =>
        have hT := Lib.hid hx'
        clear hx'
        go_wp2
        go_roundg (n + 1 - (k + 1))
        case measure => omega
        case rel => exact ⟨k + 1, by omega, rfl, by go_num, all_take_succ hnoH.out hqH.out hT.out, hb2⟩
    · have hT := Lib.hid (firstG_none (p := p) (all_take_all (by rw [show k = n from by omega] at hno; exact hno) hA.len))
      clear hno
      go_wp2
      go_ret
      exact ⟨ret_int hT.out.symm, hbr⟩
set_option maxRecDepth 100000 in
theorem cloneP_any (A : Option Addr) (n c : Nat) (xs : List Pm) (w : World) (hA : RdP w w.heap.size A n xs) (hn : n ≤ 100000) :
    Calls Tryz.prog 64 #[.slice A n c] w fun e w' => ∃ A' c', e = .returned (.slice A' n c') ∧ Ow w' w.heap.size 127 7 (.slice A' n c') (xs.map Pm.enc) ∧ Below w.heap.size w w' := by
  have hl := hA.len
  cases A with
  | none =>
    obtain rfl : n = 0 := by
      rcases Nat.eq_zero_or_pos n with h | h
      · exact h
      · obtain ⟨b, o, h2, _⟩ := hA.2 h; cases h2
    obtain rfl : xs = [] := List.eq_nil_of_length_eq_zero hl
    have hnil : ∀ w, (binOp .eql 60 (.slice none 0 c) (.slice none 0 0)).run Tryz.prog w = .ok (.bool true) w := fun w => by rw [Lib.run_eql_slice_nil w _ _ none 0 c 0 0 Tryz.underlying60]; rfl
    go_enter Tryz.func64, Tryz.ntmps64
    go_wp2
    go_ret
    exact ⟨none, 0, rfl, Ow.nil_ _ _ _ _, Below.refl _ _⟩
  | some a =>
    have hnil : ∀ w, (binOp .eql 60 (.slice (some a) n c) (.slice none 0 0)).run Tryz.prog w = .ok (.bool false) w := fun w => by rw [Lib.run_eql_slice_nil w _ _ (some a) n c 0 0 Tryz.underlying60]; rfl
    go_enter Tryz.func64, Tryz.ntmps64
    go_wp2_with (at_builtin; refine wpList_append_rd _ rfl _ _ _ rfl ePutP (base := w.heap.size) (v := .slice (some ⟨w.heap.size, 0, none⟩) 0 0) (xs := []) rfl (Ow.made0 _ _ _ (Nat.le_refl _)) rfl (Rd.below hA ((Below.refl _ w).alloc (Nat.le_refl _) _)) Pm.len Pm.one (by simp [maxLen]; omega) (by simp; omega) (by simp) ?_; intro A2 n2 c2 w4 hn2 hown2 hg4 hat2; (obtain rfl : n2 = n := (by rw [hn2]; simp)); clear hn2)
    go_ret
    exact ⟨A2, c2, rfl, by simpa using hown2, ((Below.refl _ w).alloc (Nat.le_refl _) _).grown hg4 (by simp) (fun g e => by simp [Value.ownBlock] at e; omega)⟩
set_option maxRecDepth 100000 in
set_option maxHeartbeats 4000000 in
theorem delfP_gen (fg : Nat) (lb : Array Value) (pr : Pm → Bool) (eg : ∀ args w, (callFunc fg args).run Tryz.prog w = .ok (.enter fg args) w) (base : Nat) (A : Option Addr) (n c : Nat) (xs : List Pm) (w : World)
    (hown : Ow w base 127 7 (.slice A n c) (xs.map Pm.enc)) (hn : n ≤ 100000) (hp : PredP fg lb pr base w xs) (hB : base ≤ w.heap.size) :
    Calls Tryz.prog 84 #[.slice A n c, .func (.func fg) #[] lb] w
      fun e w' => ∃ n', e = .returned (.slice A n' c) ∧ Ow w' base 127 7 (.slice A n' c) ((xs.filter fun x => !pr x).map Pm.enc) ∧ w.grownBy w' (Value.slice A n c).ownBlock := by
  have hix := ixfP_gen fg lb pr eg base A n c xs w hown.rd.1 (by simp [maxLen]; omega) hp hB
  have hl : xs.length = n := by simpa using hown.rd.2.1
  have hcm : c ≤ maxLen := hown.rd.2.2.2
  have hnc : n ≤ c := hown.rd.2.2.1
  unfold maxLen at hcm
  cases hf : xs.findIdx? pr with
  | none =>
    have hall : xs.filter (fun x => !pr x) = xs := by
      rw [List.filter_eq_self]; intro x hx
      have := List.findIdx?_eq_none_iff.1 hf x hx
      simp [this]
    rw [hall]
    rw [show firstG pr xs = -1 by simp [firstG, hf]] at hix
    clear hf
    go_enter Tryz.func84, Tryz.ntmps84
    go_wp2_with fail
    refine hix.mono ?_
    rintro e w1 ⟨rfl, hb1⟩
    go_wp2
    go_ret
    exact ⟨n, rfl, hown.below hb1, gr_below hb1 _⟩
  | some i0 =>
    obtain ⟨hi, hpi, hno⟩ := List.findIdx?_eq_some_iff_getElem.1 hf
    rw [show firstG pr xs = (i0 : Int) by simp [firstG, hf]] at hix
    obtain ⟨g, rfl, hgb, hgl, _, _⟩ := hown.addr (by omega)
    have hne : ((i0 : Int) == -1) = false := by simp
    have hst : Hid (xs.take i0 = (xs.take (i0 + 1)).filter fun x => !pr x) := Lib.hid (by
      have h1 : (xs.take i0).filter (fun x => !pr x) = xs.take i0 := by
        rw [List.filter_eq_self]; intro x hx
        obtain ⟨j, hj⟩ := List.mem_iff_getElem?.1 hx
        have hjl := (List.getElem?_eq_some_iff.1 hj).1
        rw [List.length_take] at hjl
        rw [List.getElem?_take_of_lt (by omega), List.getElem?_eq_getElem (by omega)] at hj
        injection hj with hj
        have := hno j (by omega)
        rw [hj] at this
        simp [this]
      rw [filter_takeG (List.getElem?_eq_getElem hi), h1, hpi]
      simp)
    have hi0 : i0 < n := by omega
    have hp := Lib.hid hp
    have hlH := Lib.hid hl
    clear hf hno hpi hi hl
    go_enter Tryz.func84, Tryz.ntmps84
    go_wp2_with fail
    refine hix.mono ?_
    rintro e w1 ⟨rfl, hb1⟩
    go_wp2_with fail
    go_loopg [5, 6] (n + 1 - (i0 + 1)) (fun gh i j wr => ∃ (p q : Nat) (L : List Pm), p < q ∧ q ≤ n ∧ gh = n + 1 - q ∧ i = .int .i64 p ∧ j = .int .i64 q ∧ L.length = n ∧ L.take p = (xs.take q).filter (fun x => !pr x) ∧ L.drop q = xs.drop q ∧
      Ow wr base 127 7 (.slice (some ⟨g, 0, none⟩) n c) (L.map Pm.enc) ∧ w.grownBy wr (some g))
    case atStart => exact ⟨i0, i0 + 1, xs, by omega, by omega, rfl, rfl, by go_num, hlH.out, hst.out, rfl, hown.below hb1, gr_below hb1 _⟩
    case round =>
      obtain ⟨p, q, L, hpq, hqn, rfl, rfl, rfl, hLl, hLt, hLd, hownL, hgr⟩ := hrel
      have hz := hgr.size
      have hbw : Below base w wr := (Below.refl _ _).grown hgr hB (fun k e => by injection e with e; omega)
      have hbw' : base ≤ wr.heap.size := by omega
      obtain ⟨g', he, _, hgl', hgf, hgc⟩ := hownL.addr (by omega)
      injection he with he
      injection he with he
      subst he
      have hLlH := Lib.hid hLl
      have hLtH := Lib.hid hLt
      have hLdH := Lib.hid hLd
      clear hLt hLd
      by_cases hlt : q < n
      · obtain ⟨u, huu⟩ : ∃ u, L[q]? = some u := ⟨_, List.getElem?_eq_getElem (by omega)⟩
        have hux : xs[q]? = some u := by
          have h1 : (L.drop q)[0]? = some u := by rw [List.getElem?_drop]; exact huu
          rw [hLdH.out, List.getElem?_drop] at h1; exact h1
        obtain ⟨y, hyy⟩ : ∃ y, L[p]? = some y := ⟨_, List.getElem?_eq_getElem (by omega)⟩
        clear hLl
        have hcu := hgc q u.enc (by rw [List.getElem?_map, huu]; rfl)
        have hcy := hgc p y.enc (by rw [List.getElem?_map, hyy]; rfl)
        have p0 := hcu 0 _ rfl
        have p1 := hcu 1 _ rfl
        have p2 := hcu 2 _ rfl
        have p3 := hcu 3 _ rfl
        have p4 := hcu 4 _ rfl
        have p5 := hcu 5 _ rfl
        have p6 := hcu 6 _ rfl
        have q0 := hcy 0 _ rfl
        have q1 := hcy 1 _ rfl
        have q2 := hcy 2 _ rfl
        have q3 := hcy 3 _ rfl
        have q4 := hcy 4 _ rfl
        have q5 := hcy 5 _ rfl
        have q6 := hcy 6 _ rfl
        rw [Nat.add_zero] at p0 q0
        clear hcu hcy hgc
        have hum : u ∈ xs := List.mem_of_getElem? hux
        have hfs := Lib.hid (filter_takeG (p := fun x => !pr x) hux)
        have hdr : Hid (L.drop (q + 1) = xs.drop (q + 1)) := Lib.hid (by rw [← List.drop_drop, hLdH.out, List.drop_drop])
        have hcall := Lib.hid (hp.out u hum)
        clear huu hux hyy hum
        go_wp2_with fail
        refine (hcall.out _ ?_).mono ?_
        · exact hbw.alloc hbw' _
        rintro e w2 ⟨rfl, hb2⟩
        have hz2 := hb2.size
        simp only [World.size_alloc] at hz2
        have hb3 : Below wr.heap.size wr w2 := ((Below.refl _ wr).alloc (Nat.le_refl _) _).trans (hb2.mono (by simp))
        have hgr3 : w.grownBy w2 (some g) := hgr.trans (gr_below hb3 _)
        have hown3 := hownL.below hb3
        replace q0 := (hb3.cell (p := ⟨g, _, none⟩) hgl').trans q0
        replace q1 := (hb3.cell (p := ⟨g, _, none⟩) hgl').trans q1
        replace q2 := (hb3.cell (p := ⟨g, _, none⟩) hgl').trans q2
        replace q3 := (hb3.cell (p := ⟨g, _, none⟩) hgl').trans q3
        replace q4 := (hb3.cell (p := ⟨g, _, none⟩) hgl').trans q4
        replace q5 := (hb3.cell (p := ⟨g, _, none⟩) hgl').trans q5
        replace q6 := (hb3.cell (p := ⟨g, _, none⟩) hgl').trans q6
        have hgf3 : ∀ o, w2.frozen? ⟨g, o, none⟩ = false := fun o => (hb3.frozen (p := ⟨g, o, none⟩) hgl').trans (hgf o)
        have hbox : w2.heap[wr.heap.size]? = some (.cells #[.int .i64 u.1.1.1, .int .u32 u.1.1.2, .int .i64 u.1.2, .string (bs u.2.1), .int .i64 u.2.2.1, .int .u32 u.2.2.2.1, .int .i64 u.2.2.2.2] 127 (0, 0)) := (hb2.block _ (by simp)).trans (heap_at _ _ rfl)
        have r0 := blk_cell hbox 0
        have r1 := blk_cell hbox 1
        have r2 := blk_cell hbox 2
        have r3 := blk_cell hbox 3
        have r4 := blk_cell hbox 4
        have r5 := blk_cell hbox 5
        have r6 := blk_cell hbox 6
        simp at r0 r1 r2 r3 r4 r5 r6
        clear hbox hgf p0 p1 p2 p3 p4 p5 p6 hown
        generalize pr u = b at hfs
        cases b
        · have hn1 : g ≠ wr.heap.size := by omega
          go_wp2
          go_roundg (n + 1 - (q + 1))
          case measure => omega
          case rel =>
            refine ⟨p + 1, q + 1, L.set p u, by omega, by omega, rfl, by go_num, by go_num, by rw [List.length_set]; exact hLlH.out, ?_, ?_, ?_, ?_⟩
            · rw [hfs.out, ← hLtH.out, List.take_add_one, List.getElem?_set_self (by rw [hLlH.out]; omega), List.take_set_of_le (Nat.le_refl _)]; simp
            · rw [List.drop_set_of_lt (by omega)]; exact hdr.out
            · rw [List.map_set]; (have h9 := hown3.setL (k := p) (by omega) (vs := Pm.enc u) rfl); simp only [Pm.enc, World.setCells, Nat.add_assoc, Nat.reduceAdd] at h9; (show Ow _ _ _ _ _ ((L.map Pm.enc).set p [.int .i64 u.1.1.1, .int .u32 u.1.1.2, .int .i64 u.1.2, .string (bs u.2.1), .int .i64 u.2.2.1, .int .u32 u.2.2.2.1, .int .i64 u.2.2.2.2])); exact h9
            · exact gr_set (gr_set (gr_set (gr_set (gr_set (gr_set (gr_set hgr3 _ _) _ _) _ _) _ _) _ _) _ _) _ _
        · go_wp2
          go_roundg (n + 1 - (q + 1))
          case measure => omega
          case rel => exact ⟨p, q + 1, L, by omega, by omega, rfl, by go_num, by go_num, hLlH.out, by rw [hfs.out, ← hLtH.out]; simp, hdr.out, hown3, hgr3⟩
      · obtain rfl : q = n := by omega
        have hfin : Hid (L.take p = xs.filter fun x => !pr x) := Lib.hid (by rw [hLtH.out, List.take_of_length_le (by rw [hlH.out]; exact Nat.le_refl _)])
        have hzv : ∀ w, (zeroValue 127).run Tryz.prog w = .ok (.agg #[.int .i64 0, .int .u32 0, .int .i64 0, .string ⟨#[]⟩, .int .i64 0, .int .u32 0, .int .i64 0]) w := fun _ => by kernel_rfl
        obtain ⟨wc, hrun, hown4, hgr4⟩ := run_clear_row (sz := 7) (c' := c - p) Tryz.underlying60 hzv (by simp [Value.cells, Value.oneCell']) rfl (by decide) hownL hpq
        clear hgf hgc hown
        have hown5 := hown4.front (k := p) (by omega)
        have hfr : Hid (((L.map Pm.enc).take p ++ List.replicate (q - p) (Value.agg #[.int .i64 0, .int .u32 0, .int .i64 0, .string ⟨#[]⟩, .int .i64 0, .int .u32 0, .int .i64 0]).cells.toList).take p = (xs.filter fun x => !pr x).map Pm.enc) := Lib.hid (by
          rw [List.take_append_of_le_length (by simp; omega), List.take_take, Nat.min_self, ← hfin.out, List.map_take])
        go_wp2
        go_ret
        exact ⟨p, rfl, by rw [← hfr.out]; exact hown5, hgr.trans hgr4⟩
end Go.Proofs.YtffnpfponnhddaaGreat
namespace Go.Proofs.YtffnpfponnhddaaGreat
open Go.RowKit

set_option maxRecDepth 100000 in
set_option maxHeartbeats 4000000 in
theorem insP_any (base : Nat) (A : Option Addr) (n c p : Nat) (xs : List Pm) (x : Pm) (vb : Nat) (w : World) (hown : Ow w base 127 7 (.slice A n c) (xs.map Pm.enc)) (hn : n ≤ 100000) (hp : p ≤ n)
    (hv : w.heap[vb]? = some (.cells #[.int .i64 x.1.1.1, .int .u32 x.1.1.2, .int .i64 x.1.2, .string (bs x.2.1), .int .i64 x.2.2.1, .int .u32 x.2.2.2.1, .int .i64 x.2.2.2.2] 127 (0, 0))) (hvb : ∀ q, (Value.slice A n c).ownBlock = some q → q ≠ vb) (hB : base ≤ w.heap.size) :
    Calls Tryz.prog 83 #[.slice A n c, .int .i64 (p : Int), .slice (some ⟨vb, 0, none⟩) 1 1] w
      fun e w' => ∃ A' c', e = .returned (.slice A' (n + 1) c') ∧ Ow w' base 127 7 (.slice A' (n + 1) c') ((xs.take p ++ x :: xs.drop p).map Pm.enc) ∧ w.grownBy w' (Value.slice A n c).ownBlock := by
  generalize hR : (xs.take p ++ x :: xs.drop p).map Pm.enc = R
  have hl : xs.length = n := by simpa using hown.rd.2.1
  have hnc := hown.rd.2.2.1
  have hcm := hown.rd.2.2.2
  have hlv := blk_lt hv
  have hcm2 : c ≤ 9223372036854775807 := by simpa [maxLen] using hcm
  by_cases hpn : p = n
  · subst hpn
    have hT : Hid (R = xs.map Pm.enc ++ [[.int .i64 x.1.1.1, .int .u32 x.1.1.2, .int .i64 x.1.2, .string (bs x.2.1), .int .i64 x.2.2.1, .int .u32 x.2.2.2.1, .int .i64 x.2.2.2.2]]) := Lib.hid (by rw [← hR, List.take_of_length_le (by omega), List.drop_eq_nil_of_le (by omega)]; simp [Pm.enc])
    have hlH : Hid ((xs.map Pm.enc).length = p) := Lib.hid (by rw [List.length_map]; exact hl)
    have hr := Lib.hid (Rd.one_at (sz := 7) [.int .i64 x.1.1.1, .int .u32 x.1.1.2, .int .i64 x.1.2, .string (bs x.2.1), .int .i64 x.2.2.1, .int .u32 x.2.2.2.1, .int .i64 x.2.2.2.2] hv)
    have hlen1 : ∀ y ∈ ([[.int .i64 x.1.1.1, .int .u32 x.1.1.2, .int .i64 x.1.2, .string (bs x.2.1), .int .i64 x.2.2.1, .int .u32 x.2.2.2.1, .int .i64 x.2.2.2.2]] : List (List Value)), y.length = 7 := by simp
    have hone1 : ∀ y ∈ ([[.int .i64 x.1.1.1, .int .u32 x.1.1.2, .int .i64 x.1.2, .string (bs x.2.1), .int .i64 x.2.2.1, .int .u32 x.2.2.2.1, .int .i64 x.2.2.2.2]] : List (List Value)), ∀ v ∈ y, v.oneCell' = true := by simp [Value.oneCell']
    have hownH := Lib.hid hown
    clear hv hown hl hvb hR
    rcases Classical.em (c = p) with hcp | hcp
    · obtain rfl : c = p := hcp
      go_enter Tryz.func83, Tryz.ntmps83
      go_wp2_with (at_builtin; refine wpList_append_rd _ rfl _ _ _ rfl ePutP (base := base) (v := .slice A c c) (xs := xs.map Pm.enc) rfl hownH.out rfl hr.out hlen1 hone1 (by rw [hlH.out]; unfold maxLen; omega) (by rw [hlH.out]; omega) hB ?_; intro A2 n2 c2 w4 hn2 hown2 hg4 hat2; (obtain rfl : n2 = c + 1 := by rw [hn2, hlH.out]); clear hn2 hat2)
      go_ret
      exact ⟨A2, c2, rfl, by rw [hT.out]; exact hown2, hg4⟩
    have hcp2 : ¬ p = c := fun e => hcp e.symm
    have hcq : (c == p) = false := by rw [beq_eq_false_iff_ne]; exact hcp
    go_enter Tryz.func83, Tryz.ntmps83
    go_wp2_with (at_builtin; refine wpList_append_rd _ rfl _ _ _ rfl ePutP (base := base) (v := .slice A p c) (xs := xs.map Pm.enc) rfl hownH.out rfl hr.out hlen1 hone1 (by rw [hlH.out]; unfold maxLen; omega) (by rw [hlH.out]; omega) hB ?_; intro A2 n2 c2 w4 hn2 hown2 hg4 hat2; (obtain rfl : n2 = p + 1 := by rw [hn2, hlH.out]); clear hn2 hat2)
    go_ret
    exact ⟨A2, c2, rfl, by rw [hT.out]; exact hown2, hg4⟩
  have hpn2 : p < n := by omega
  have hpi : ((p : Int) == (n : Int)) = false := by rw [beq_eq_false_iff_ne]; omega
  have hpi2 : ¬ (p : Int) = (n : Int) := by omega
  rcases hown.2.2 with ⟨hv0, h0⟩ | ⟨g, cap, cur, hv0, hgb, hgg, hn1, hm1, hs1, ht1⟩
  · rw [List.length_map, hl] at h0
    omega
  injection hv0 with e1 e2 e3
  subst e1
  subst e3
  clear e2
  have hgv : g ≠ vb := hvb g rfl
  have hglt := blk_lt hgg
  have hown1 := hown.1
  rw [List.length_map, hl] at hn1 ht1
  have hfs := flat_split hown1 (p := p) (by rw [List.length_map, hl]; exact hp)
  rw [List.length_map, hl] at hfs
  obtain ⟨hX1, hX2, hX1l, hX2l⟩ := hfs
  obtain ⟨X1, hX1e⟩ : ∃ X1, X1 = ((xs.map Pm.enc).take p).flatten := ⟨_, rfl⟩
  obtain ⟨X2, hX2e⟩ : ∃ X2, X2 = ((xs.map Pm.enc).drop p).flatten := ⟨_, rfl⟩
  rw [← hX1e] at hX1 hX1l
  rw [← hX2e] at hX2 hX2l
  have hX2one : ∀ v ∈ X2, v.oneCell' = true := fun v hv => by
    rw [hX2e] at hv
    obtain ⟨y, hy, hvy⟩ := List.mem_flatten.1 hv
    exact Pm.one y (List.mem_of_mem_drop hy) v hvy
  have hall : R.flatten = X1 ++ ([.int .i64 x.1.1.1, .int .u32 x.1.1.2, .int .i64 x.1.2, .string (bs x.2.1), .int .i64 x.2.2.1, .int .u32 x.2.2.2.1, .int .i64 x.2.2.2.2] ++ X2) := by
    rw [← hR, hX1e, hX2e, List.map_append, List.map_cons, List.map_take, List.map_drop]
    simp [Pm.enc]
  have hnew : ∀ y ∈ R, y.length = 7 := by rw [← hR]; exact Pm.len
  have hnl : R.length = n + 1 := by
    rw [← hR, List.length_map, List.length_append, List.length_cons, List.length_take, List.length_drop]
    omega
  have hcl0 : cur.toList.length = c * 7 := by rw [Array.length_toList]; exact hs1
  have hct : cur.toList.take (p * 7) = X1 := by
    rw [hX1, ← ht1, List.take_take, Nat.min_eq_left (Nat.mul_le_mul_right _ hp)]
  have hgetX2 : ∀ j v, X2[j]? = some v → cur[p * 7 + j]? = some v := fun j v hj => by
    rw [hX2, ← ht1, List.getElem?_drop] at hj
    rw [← Array.getElem?_toList]
    exact List.getElem?_take_of_lt' hj
  have hcp1 : ¬ c = p := by omega
  have hcp2 : ¬ p = c := by omega
  have hcq : (c == p) = false := by rw [beq_eq_false_iff_ne]; omega
  have hpn3 : (p : Int) ≤ (n : Int) := by omega
  have hw1 : IntKind.i64.wrap ((p : Int) + 1) = (p : Int) + 1 := by rw [IntKind.wrap_i64]; omega
  have hw2 : IntKind.i64.wrap ((n : Int) + 1) = (n : Int) + 1 := by rw [IntKind.wrap_i64]; omega
  have htn : ((p : Int) + 1).toNat = p + 1 := by omega
  have htn2 : ((n : Int) + 1).toNat = n + 1 := by omega
  have hb1 : (0 : Int) ≤ (p : Int) + 1 := by omega
  have hb2 : (0 : Int) ≤ (n : Int) + 1 := by omega
  have hu : Tryz.prog.underlying 60 = some (.slice 127) := ePutP.slice
  have hsz : (Tryz.prog.info? 127).map (·.size) = some 7 := by
    obtain ⟨i, z, h1, _, h3, _, _⟩ := ePutP.info
    rw [h1, ← h3]; rfl
  by_cases hroom : n + 1 ≤ c
  · have hcr : decide ((c : Int) < (n : Int) + 1) = false := decide_eq_false (by omega)
    have hcr2 : ¬ (c : Int) < (n : Int) + 1 := by omega
    have hb3 : (n : Int) + 1 ≤ (c : Int) := by omega
    have hcp3 : ¬ c = p + 1 := by omega
    have hcp4 : ¬ p + 1 = c := by omega
    have hb4 : (p : Int) + 1 ≤ (n : Int) + 1 := by omega
    have hb5 : (p : Int) ≤ (n : Int) + 1 := by omega
    have hov : ∀ o lb cb, (callFunc 112 #[.slice (some ⟨vb, 0, none⟩) 1 1, .slice (some ⟨g, o, none⟩) lb cb]).run Tryz.prog w = .ok (.value (.bool false)) w := fun o lb cb => by
      rw [run_callFunc_extern Tryz.func112 (by kernel_rfl) (by kernel_rfl) (by kernel_rfl) (e := Extern.SlicesOverlaps.overlaps #[60, 60] #[4]) (by kernel_rfl),
        Lib.run_overlaps_apart w 60 4 127 hu 7 Tryz.sizeOf127 ⟨vb, 0, none⟩ ⟨g, o, none⟩ 1 1 lb cb (fun e => hgv e.symm) 127 127 7 cur.size (by simp [World.shape?, hv]) (by simp [World.shape?, hgg]) (by rw [hs1]; omega) (blk_frozen hv 0) (blk_frozen hv 7)]
      rfl
    have hnewH := Lib.hid hnew
    have hallH := Lib.hid hall
    have hctH := Lib.hid hct
    clear hown ht1 hall hnew hX1e hX2e hX1 hX2 hct
    go_enter Tryz.func83, Tryz.ntmps83
    go_wp2_with (simp only [hov])
    refine wp_region_M (fun _ => True) (fun _ => True) 99 (by kernel_rfl) trivial trivial ?_
    intro hcl
    have hC : True := trivial
    have hE : True := trivial
    (refine wpM_take (i := 0) (v := ?_) rfl (by kernel_rfl) (by kernel_rfl) (by kernel_rfl) (by decide) (fun _ _ _ h => h) hcl hC (fun _ => hE) (Or.inl ⟨by rfl, ?_⟩) ?_; rotate_left; (· (intro w hSw; (try dsimp only at hSw); go_simp; (try with_reducible rfl))); clear hcl; intro hcl; (try simp only [Act.put, List.getElem_toArray, List.getElem_cons_zero, List.setIfInBounds_toArray, List.set_cons_zero, List.set_cons_succ]))
    (refine wpM_take (i := 1) (v := ?_) rfl (by kernel_rfl) (by kernel_rfl) (by kernel_rfl) (by decide) (fun _ _ _ h => h) hcl hC (fun _ => hE) (Or.inl ⟨by rfl, ?_⟩) ?_; rotate_left; (· (intro w hSw; (try dsimp only at hSw); go_simp; (try with_reducible rfl))); clear hcl; intro hcl; (try simp only [Act.put, List.getElem_toArray, List.getElem_cons_zero, List.getElem_cons_succ, List.setIfInBounds_toArray, List.set_cons_zero, List.set_cons_succ]))
    (refine wpM_take (i := 2) (v := ?_) rfl (by kernel_rfl) (by kernel_rfl) (by kernel_rfl) (by decide) (fun _ _ _ h => h) hcl hC (fun _ => hE) (Or.inl ⟨by rfl, ?_⟩) ?_; rotate_left; (· (intro w hSw; (try dsimp only at hSw); go_simp; (try with_reducible rfl))); clear hcl; intro hcl; (try simp only [Act.put, List.getElem_toArray, List.getElem_cons_zero, List.getElem_cons_succ, List.setIfInBounds_toArray, List.set_cons_zero, List.set_cons_succ]))
    (refine wpM_take (i := 3) (v := ?_) rfl (by kernel_rfl) (by kernel_rfl) (by kernel_rfl) (by decide) (fun _ _ _ h => h) hcl hC (fun _ => hE) (Or.inl ⟨by rfl, ?_⟩) ?_; rotate_left; (· (intro w hSw; (try dsimp only at hSw); go_simp; (try with_reducible rfl))); clear hcl; intro hcl; (try simp only [Act.put, List.getElem_toArray, List.getElem_cons_zero, List.getElem_cons_succ, List.setIfInBounds_toArray, List.set_cons_zero, List.set_cons_succ]))
    (refine wpM_take (i := 4) (v := ?_) rfl (by kernel_rfl) (by kernel_rfl) (by kernel_rfl) (by decide) (fun _ _ _ h => h) hcl hC (fun _ => hE) (Or.inl ⟨by rfl, ?_⟩) ?_; rotate_left; (· (intro w hSw; (try dsimp only at hSw); go_simp; (try with_reducible rfl))); clear hcl; intro hcl; (try simp only [Act.put, List.getElem_toArray, List.getElem_cons_zero, List.getElem_cons_succ, List.setIfInBounds_toArray, List.set_cons_zero, List.set_cons_succ]))
    (refine wpM_take (i := 5) (v := ?_) rfl (by kernel_rfl) (by kernel_rfl) (by kernel_rfl) (by decide) (fun _ _ _ h => h) hcl hC (fun _ => hE) (Or.inl ⟨by rfl, ?_⟩) ?_; rotate_left; (· (intro w hSw; (try dsimp only at hSw); go_simp; (try with_reducible rfl))); clear hcl; intro hcl; (try simp only [Act.put, List.getElem_toArray, List.getElem_cons_zero, List.getElem_cons_succ, List.setIfInBounds_toArray, List.set_cons_zero, List.set_cons_succ]))
    (refine wpM_take (i := 6) (v := ?_) rfl (by kernel_rfl) (by kernel_rfl) (by kernel_rfl) (by decide) (fun _ _ _ h => h) hcl hC (fun _ => hE) (Or.inl ⟨by rfl, ?_⟩) ?_; rotate_left; (· (intro w hSw; (try dsimp only at hSw); go_simp; (try with_reducible rfl))); clear hcl; intro hcl; (try simp only [Act.put, List.getElem_toArray, List.getElem_cons_zero, List.getElem_cons_succ, List.setIfInBounds_toArray, List.set_cons_zero, List.set_cons_succ]))
    (refine wpM_take (i := 7) (v := ?_) rfl (by kernel_rfl) (by kernel_rfl) (by kernel_rfl) (by decide) (fun _ _ _ h => h) hcl hC (fun _ => hE) (Or.inl ⟨by rfl, ?_⟩) ?_; rotate_left; (· (intro w hSw; (try dsimp only at hSw); go_simp; (try with_reducible rfl))); clear hcl; intro hcl; (try simp only [Act.put, List.getElem_toArray, List.getElem_cons_zero, List.getElem_cons_succ, List.setIfInBounds_toArray, List.set_cons_zero, List.set_cons_succ]))
    refine wpM_only (i := 8) rfl (by kernel_rfl) hcl (fun K hK => ?_)
    refine step_copy_spliceK rfl (.tmp 73) (.tmp 76) 60 60 rfl 127 hu 7 (n - p) hsz g ((p + 1) * 7) (n - p) (c - (p + 1)) ⟨g, p * 7, none⟩ (n + 1 - p) (c - p) rfl rfl cur.toList 127 (by rw [Array.toArray_toList]; exact hgg) X2 (by simp only [Nat.min_def]; split <;> omega) hX2l.symm (fun j v hj => by rw [addr_add]; exact (blk_cell (heap_drew hgg) _).trans (hgetX2 j v hj)) (by rw [hcl0, hX2l]; omega) hX2one ?_
    intro w4 hW4 hg4
    refine hK.out _ _ trivial trivial ?_
    clear hK K
    clear hcl
    intro hcl
    (try simp only [Act.put, List.getElem_toArray, List.getElem_cons_zero, List.getElem_cons_succ, List.setIfInBounds_toArray, List.set_cons_zero, List.set_cons_succ])
    refine wpM_done (by kernel_rfl) ?_
    clear hcl hC hE
    (try simp only [Act.put, List.getElem_toArray, List.getElem_cons_zero, List.getElem_cons_succ, List.setIfInBounds_toArray, List.set_cons_zero, List.set_cons_succ])
    have hv4 : w4.heap[vb]? = some (.cells #[.int .i64 x.1.1.1, .int .u32 x.1.1.2, .int .i64 x.1.2, .string (bs x.2.1), .int .i64 x.2.2.1, .int .u32 x.2.2.2.1, .int .i64 x.2.2.2.2] 127 (0, 0)) := (hg4.block vb (blk_lt (heap_drew hv)) (fun e => hgv (by injection e with e; exact e.symm))).trans (heap_drew hv)
    have hv4H := Lib.hid hv4
    have hl4 := Lib.hid (length_splice cur.toList ((p + 1) * 7) X2 (by rw [hcl0, hX2l]; omega))
    clear hv4
    have k1 : Hid (Nat.min 1 (n + 1 - p) = 1) := Lib.hid (by simp only [Nat.min_def]; split <;> omega)
    have k2 : Hid (p * 7 + ([.int .i64 x.1.1.1, .int .u32 x.1.1.2, .int .i64 x.1.2, .string (bs x.2.1), .int .i64 x.2.2.1, .int .u32 x.2.2.2.1, .int .i64 x.2.2.2.2] : List Value).length ≤ (splice cur.toList ((p + 1) * 7) X2).length) := Lib.hid (by rw [hl4.out, hcl0]; show p * 7 + 7 ≤ c * 7; omega)
    have k3 : ∀ v ∈ ([.int .i64 x.1.1.1, .int .u32 x.1.1.2, .int .i64 x.1.2, .string (bs x.2.1), .int .i64 x.2.2.1, .int .u32 x.2.2.2.1, .int .i64 x.2.2.2.2] : List Value), v.oneCell' = true := by simp [Value.oneCell']
    have k4 : Hid (∀ j v, ([.int .i64 x.1.1.1, .int .u32 x.1.1.2, .int .i64 x.1.2, .string (bs x.2.1), .int .i64 x.2.2.1, .int .u32 x.2.2.2.1, .int .i64 x.2.2.2.2] : List Value)[j]? = some v → w4.cell? ((⟨vb, 0, none⟩ : Addr).add j) = some v) := Lib.hid (fun j v hj => by rw [addr_add]; exact (blk_cell hv4H.out _).trans (by simpa using hj))
    have hcp5 : Hid (((p + 1) * 7) = p * 7 + 7) := Lib.hid (by omega)
    go_wp2_with ((with_reducible show wpList _ _ _ _ _ _); refine wpList_copy_spliceK rfl (.tmp 80) (.tmp 81) 60 60 rfl 127 hu 7 1 hsz g (p * 7) (n + 1 - p) (c - p) ⟨vb, 0, none⟩ 1 1 rfl rfl (splice cur.toList ((p + 1) * 7) X2) 127 hW4.out [.int .i64 x.1.1.1, .int .u32 x.1.1.2, .int .i64 x.1.2, .string (bs x.2.1), .int .i64 x.2.2.1, .int .u32 x.2.2.2.1, .int .i64 x.2.2.2.2] k1.out rfl k4.out k2.out k3 ?_; intro w5 hW5 hg5)
    go_ret
    have hl5 := length_splice (splice cur.toList ((p + 1) * 7) X2) (p * 7) [.int .i64 x.1.1.1, .int .u32 x.1.1.2, .int .i64 x.1.2, .string (bs x.2.1), .int .i64 x.2.2.1, .int .u32 x.2.2.2.1, .int .i64 x.2.2.2.2] k2.out
    refine ⟨_, c, rfl, ⟨hnewH.out, flat_len hnewH.out, .inr ⟨g, c, _, by rw [hnl], hgb, hW5.out, by rw [hnl]; exact hroom, hcm, by rw [List.size_toArray, hl5, hl4.out, hcl0], ?_⟩⟩, gr_drew (gr_trans hg4 hg5)⟩
    rw [hnl, hallH.out]
    have h9 := splice_room cur.toList [.int .i64 x.1.1.1, .int .u32 x.1.1.2, .int .i64 x.1.2, .string (bs x.2.1), .int .i64 x.2.2.1, .int .u32 x.2.2.2.1, .int .i64 x.2.2.2.2] X2 (p * 7) 7 rfl (by rw [hcl0, hX2l]; omega)
    rw [hctH.out, hX2l, ← hcp5.out, show (p + 1) * 7 + (n - p) * 7 = (n + 1) * 7 by omega] at h9
    exact h9
  · obtain rfl : c = n := by omega
    obtain ⟨i0, z0, hi0, hz0, hzs, hzb, hzc⟩ := ePutP.info
    have hcr : decide ((c : Int) < (c : Int) + 1) = true := decide_eq_true (by omega)
    have hcr2 : (c : Int) < (c : Int) + 1 := by omega
    have hw3 : IntKind.i64.wrap ((c : Int) + 1 - (p : Int)) = (c : Int) + 1 - (p : Int) := by rw [IntKind.wrap_i64]; omega
    have hkk : (c : Int) + 1 - (p : Int) = ((c + 1 - p : Nat) : Int) := by omega
    have hpc : (p : Int) ≤ (c : Int) := by omega
    have hold : (Builtin.firstCells i0.size p (.slice (some ⟨g, 0, none⟩) p c)).run Tryz.prog w.drew = .ok X1.toArray w.drew := by
      rw [hzs]
      exact run_firstCells_some w.drew 7 p ⟨g, 0, none⟩ p c X1 hX1l (fun j v hj => by
        rw [addr_add]
        refine (blk_cell (heap_drew hgg) _).trans ?_
        rw [← hct] at hj
        rw [Nat.zero_add, ← Array.getElem?_toList]
        exact List.getElem?_take_of_lt' hj)
    have hrz : ∀ ty, (Builtin.append_ #[60, 3] ty #[.slice (some ⟨g, 0, none⟩) p c, .int .i64 ((c + 1 - p : Nat) : Int)]).run Tryz.prog w =
        .ok (.slice (some ⟨w.heap.size, 0, none⟩) (c + 1) (grownCap w (c + 1) c 127)) (w.drew.alloc (.cells (X1.toArray ++ Builtin.zeroCells z0.cells (c + 1 - p) ++ Builtin.zeroCells z0.cells (grownCap w (c + 1) c 127 - (c + 1))) 127)) := fun ty => by
      have h := Lib.run_append_grow_zeros w 60 3 ty 127 i0 z0 .i64 .i64 hu Tryz.underlying3 hi0 hz0 (some ⟨g, 0, none⟩) p c X1 hold (c + 1 - p) (by omega) (by omega) (by omega) (by omega) (by rw [hzb]; omega) (by rw [hzb, show p + (c + 1 - p) = c + 1 by omega]; exact growslice_fits (by omega) (by omega))
      rw [show p + (c + 1 - p) = c + 1 by omega] at h
      exact h
    have hGn : c + 1 ≤ grownCap w (c + 1) c 127 := grownCap_ge w _ _ _
    have hGm := grownCap_le_maxLen w (c + 1) c 127 (by unfold maxLen; omega)
    generalize grownCap w (c + 1) c 127 = G at hrz hGn hGm
    have hG63 : G ≤ 9223372036854775807 := by simpa [maxLen] using hGm
    obtain ⟨ROW, hROW⟩ : ∃ ROW : List Value, ROW = X1 ++ ((Builtin.zeroCells z0.cells (c + 1 - p)).toList ++ (Builtin.zeroCells z0.cells (G - (c + 1))).toList) := ⟨_, rfl⟩
    have hRa : X1.toArray ++ Builtin.zeroCells z0.cells (c + 1 - p) ++ Builtin.zeroCells z0.cells (G - (c + 1)) = ROW.toArray := by rw [hROW]; apply Array.ext'; simp
    have hRl : ROW.length = G * 7 := by
      rw [hROW, List.length_append, List.length_append, hX1l]
      simp [Builtin.zeroCells, hzc]
      omega
    have hRt : ROW.take (p * 7) = X1 := by rw [hROW]; exact List.take_left' hX1l
    rw [hRa] at hrz
    have hg1 : w.grownBy (w.drew.alloc (.cells ROW.toArray 127)) (some g) := ⟨rfl, rfl, rfl, by simp, fun q hq _ => Below.heap_alloc _ _ _ hq⟩
    have hN : (w.drew.alloc (.cells ROW.toArray 127)).heap[w.heap.size]? = some (.cells ROW.toArray 127 (0, 0)) := heap_at _ _ rfl
    have hz1 : (w.drew.alloc (.cells ROW.toArray 127)).heap.size = w.heap.size + 1 := by simp
    have hv1 : (w.drew.alloc (.cells ROW.toArray 127)).heap[vb]? = some (.cells #[.int .i64 x.1.1.1, .int .u32 x.1.1.2, .int .i64 x.1.2, .string (bs x.2.1), .int .i64 x.2.2.1, .int .u32 x.2.2.2.1, .int .i64 x.2.2.2.2] 127 (0, 0)) := heap_old _ hlv (heap_drew hv)
    have hgg1 : (w.drew.alloc (.cells ROW.toArray 127)).heap[g]? = some (.cells cur 127 (0, 0)) := heap_old _ hglt (heap_drew hgg)
    generalize (w.drew.alloc (.cells ROW.toArray 127)) = W1 at hrz hg1 hN hz1 hv1 hgg1
    have hnewH := Lib.hid hnew
    have hallH := Lib.hid hall
    have hctH := Lib.hid hct
    have hGp1 : ¬ G = p := by omega
    have hGp2 : ¬ G = p + 1 := by omega
    have hGp3 : ¬ p = G := by omega
    have hGp4 : ¬ p + 1 = G := by omega
    have hb4 : (p : Int) + 1 ≤ (c : Int) + 1 := by omega
    have hb5 : (p : Int) ≤ (c : Int) + 1 := by omega
    have hv1H := Lib.hid hv1
    have hggH := Lib.hid hgg1
    have hNH := Lib.hid hN
    have k1 : Hid (Nat.min 1 (c + 1 - p) = 1) := Lib.hid (by simp only [Nat.min_def]; split <;> omega)
    have k2 : Hid (p * 7 + ([.int .i64 x.1.1.1, .int .u32 x.1.1.2, .int .i64 x.1.2, .string (bs x.2.1), .int .i64 x.2.2.1, .int .u32 x.2.2.2.1, .int .i64 x.2.2.2.2] : List Value).length ≤ ROW.length) := Lib.hid (by rw [hRl]; show p * 7 + 7 ≤ G * 7; omega)
    have k3 : ∀ v ∈ ([.int .i64 x.1.1.1, .int .u32 x.1.1.2, .int .i64 x.1.2, .string (bs x.2.1), .int .i64 x.2.2.1, .int .u32 x.2.2.2.1, .int .i64 x.2.2.2.2] : List Value), v.oneCell' = true := by simp [Value.oneCell']
    have k4 : Hid (∀ j v, ([.int .i64 x.1.1.1, .int .u32 x.1.1.2, .int .i64 x.1.2, .string (bs x.2.1), .int .i64 x.2.2.1, .int .u32 x.2.2.2.1, .int .i64 x.2.2.2.2] : List Value)[j]? = some v → W1.cell? ((⟨vb, 0, none⟩ : Addr).add j) = some v) := Lib.hid (fun j v hj => by rw [addr_add]; exact (blk_cell hv1H.out _).trans (by simpa using hj))
    have hcp5 : Hid (((p + 1) * 7) = p * 7 + 7) := Lib.hid (by omega)
    have hl5 := Lib.hid (length_splice ROW (p * 7) [.int .i64 x.1.1.1, .int .u32 x.1.1.2, .int .i64 x.1.2, .string (bs x.2.1), .int .i64 x.2.2.1, .int .u32 x.2.2.2.1, .int .i64 x.2.2.2.2] k2.out)
    have hrzH := Lib.hid hrz
    have hRlH := Lib.hid hRl
    have hRtH := Lib.hid hRt
    have hold := trivial
    clear hown ht1 hall hnew hX1e hX2e hX1 hX2 hct hv1 hgg1 hN hRt hRl hROW hRa hrz hold
    go_enter Tryz.func83, Tryz.ntmps83
    go_wp2_with (first
      | (at_builtin; refine Lib.wpList_append_run _ rfl (.tmp 34) (.tmp 39) 60 3 rfl _ _ rfl rfl _ _ (hrzH.out _) ?_)
      | ((with_reducible show wpList _ _ _ _ _ _); refine wpList_copy_spliceK rfl (.tmp 43) (.tmp 44) 60 60 rfl 127 hu 7 1 hsz w.heap.size (p * 7) (c + 1 - p) (G - p) ⟨vb, 0, none⟩ 1 1 rfl rfl ROW 127 hNH.out [.int .i64 x.1.1.1, .int .u32 x.1.1.2, .int .i64 x.1.2, .string (bs x.2.1), .int .i64 x.2.2.1, .int .u32 x.2.2.2.1, .int .i64 x.2.2.2.2] k1.out rfl k4.out k2.out k3 ?_; intro w5 hW5 hg5))
    have hgw : g ≠ w.heap.size := by omega
    have hgg5 : w5.heap[g]? = some (.cells cur 127 (0, 0)) := (hg5.block g (blk_lt hggH.out) (fun e => hgw (by injection e with e))).trans hggH.out
    refine wp_region_M (fun _ => True) (fun _ => True) 99 (by kernel_rfl) trivial trivial ?_
    intro hcl
    have hC : True := trivial
    have hE : True := trivial
    (refine wpM_take (i := 0) (v := ?_) rfl (by kernel_rfl) (by kernel_rfl) (by kernel_rfl) (by decide) (fun _ _ _ h => h) hcl hC (fun _ => hE) (Or.inl ⟨by rfl, ?_⟩) ?_; rotate_left; (· (intro w hSw; (try dsimp only at hSw); go_simp; (try with_reducible rfl))); clear hcl; intro hcl; (try simp only [Act.put, List.getElem_toArray, List.getElem_cons_zero, List.setIfInBounds_toArray, List.set_cons_zero, List.set_cons_succ]))
    (refine wpM_take (i := 1) (v := ?_) rfl (by kernel_rfl) (by kernel_rfl) (by kernel_rfl) (by decide) (fun _ _ _ h => h) hcl hC (fun _ => hE) (Or.inl ⟨by rfl, ?_⟩) ?_; rotate_left; (· (intro w hSw; (try dsimp only at hSw); go_simp; (try with_reducible rfl))); clear hcl; intro hcl; (try simp only [Act.put, List.getElem_toArray, List.getElem_cons_zero, List.getElem_cons_succ, List.setIfInBounds_toArray, List.set_cons_zero, List.set_cons_succ]))
    (refine wpM_take (i := 2) (v := ?_) rfl (by kernel_rfl) (by kernel_rfl) (by kernel_rfl) (by decide) (fun _ _ _ h => h) hcl hC (fun _ => hE) (Or.inl ⟨by rfl, ?_⟩) ?_; rotate_left; (· (intro w hSw; (try dsimp only at hSw); go_simp; (try with_reducible rfl))); clear hcl; intro hcl; (try simp only [Act.put, List.getElem_toArray, List.getElem_cons_zero, List.getElem_cons_succ, List.setIfInBounds_toArray, List.set_cons_zero, List.set_cons_succ]))
    (refine wpM_take (i := 3) (v := ?_) rfl (by kernel_rfl) (by kernel_rfl) (by kernel_rfl) (by decide) (fun _ _ _ h => h) hcl hC (fun _ => hE) (Or.inl ⟨by rfl, ?_⟩) ?_; rotate_left; (· (intro w hSw; (try dsimp only at hSw); go_simp; (try with_reducible rfl))); clear hcl; intro hcl; (try simp only [Act.put, List.getElem_toArray, List.getElem_cons_zero, List.getElem_cons_succ, List.setIfInBounds_toArray, List.set_cons_zero, List.set_cons_succ]))
    (refine wpM_take (i := 4) (v := ?_) rfl (by kernel_rfl) (by kernel_rfl) (by kernel_rfl) (by decide) (fun _ _ _ h => h) hcl hC (fun _ => hE) (Or.inl ⟨by rfl, ?_⟩) ?_; rotate_left; (· (intro w hSw; (try dsimp only at hSw); go_simp; (try with_reducible rfl))); clear hcl; intro hcl; (try simp only [Act.put, List.getElem_toArray, List.getElem_cons_zero, List.getElem_cons_succ, List.setIfInBounds_toArray, List.set_cons_zero, List.set_cons_succ]))
    (refine wpM_take (i := 5) (v := ?_) rfl (by kernel_rfl) (by kernel_rfl) (by kernel_rfl) (by decide) (fun _ _ _ h => h) hcl hC (fun _ => hE) (Or.inl ⟨by rfl, ?_⟩) ?_; rotate_left; (· (intro w hSw; (try dsimp only at hSw); go_simp; (try with_reducible rfl))); clear hcl; intro hcl; (try simp only [Act.put, List.getElem_toArray, List.getElem_cons_zero, List.getElem_cons_succ, List.setIfInBounds_toArray, List.set_cons_zero, List.set_cons_succ]))
    (refine wpM_take (i := 6) (v := ?_) rfl (by kernel_rfl) (by kernel_rfl) (by kernel_rfl) (by decide) (fun _ _ _ h => h) hcl hC (fun _ => hE) (Or.inl ⟨by rfl, ?_⟩) ?_; rotate_left; (· (intro w hSw; (try dsimp only at hSw); go_simp; (try with_reducible rfl))); clear hcl; intro hcl; (try simp only [Act.put, List.getElem_toArray, List.getElem_cons_zero, List.getElem_cons_succ, List.setIfInBounds_toArray, List.set_cons_zero, List.set_cons_succ]))
    (refine wpM_take (i := 7) (v := ?_) rfl (by kernel_rfl) (by kernel_rfl) (by kernel_rfl) (by decide) (fun _ _ _ h => h) hcl hC (fun _ => hE) (Or.inl ⟨by rfl, ?_⟩) ?_; rotate_left; (· (intro w hSw; (try dsimp only at hSw); go_simp; (try with_reducible rfl))); clear hcl; intro hcl; (try simp only [Act.put, List.getElem_toArray, List.getElem_cons_zero, List.getElem_cons_succ, List.setIfInBounds_toArray, List.set_cons_zero, List.set_cons_succ]))
    refine wpM_only (i := 8) rfl (by kernel_rfl) hcl (fun K hK => ?_)
    refine step_copy_spliceK rfl (.tmp 50) (.tmp 53) 60 60 rfl 127 hu 7 (c - p) hsz w.heap.size ((p + 1) * 7) (c - p) (G - (p + 1)) ⟨g, p * 7, none⟩ (c - p) (c - p) rfl rfl (splice ROW (p * 7) [.int .i64 x.1.1.1, .int .u32 x.1.1.2, .int .i64 x.1.2, .string (bs x.2.1), .int .i64 x.2.2.1, .int .u32 x.2.2.2.1, .int .i64 x.2.2.2.2]) 127 (heap_drew hW5.out) X2 (Nat.min_self _) hX2l.symm (fun j v hj => by rw [addr_add]; exact (blk_cell (heap_drew hgg5) _).trans (hgetX2 j v hj)) (by rw [hl5.out, hRlH.out, hX2l]; omega) hX2one ?_
    intro w6 hW6 hg6
    refine hK.out _ _ trivial trivial ?_
    clear hK K
    clear hcl
    intro hcl
    (try simp only [Act.put, List.getElem_toArray, List.getElem_cons_zero, List.getElem_cons_succ, List.setIfInBounds_toArray, List.set_cons_zero, List.set_cons_succ])
    refine wpM_done (by kernel_rfl) ?_
    clear hcl hC hE
    (try simp only [Act.put, List.getElem_toArray, List.getElem_cons_zero, List.getElem_cons_succ, List.setIfInBounds_toArray, List.set_cons_zero, List.set_cons_succ])
    go_wp2
    go_ret
    have hl6 := length_splice (splice ROW (p * 7) [.int .i64 x.1.1.1, .int .u32 x.1.1.2, .int .i64 x.1.2, .string (bs x.2.1), .int .i64 x.2.2.1, .int .u32 x.2.2.2.1, .int .i64 x.2.2.2.2]) ((p + 1) * 7) X2 (by rw [hl5.out, hRlH.out, hX2l]; omega)
    refine ⟨_, G, rfl, ⟨hnewH.out, flat_len hnewH.out, .inr ⟨w.heap.size, G, _, by rw [hnl], hB, hW6.out, by rw [hnl]; exact hGn, hGm, by rw [List.size_toArray, hl6, hl5.out, hRlH.out], ?_⟩⟩, gr_new (gr_new hg1 hg5 (Nat.le_refl _)) (gr_drew hg6) (Nat.le_refl _)⟩
    rw [hnl, hallH.out]
    have h9 := splice_new ROW [.int .i64 x.1.1.1, .int .u32 x.1.1.2, .int .i64 x.1.2, .string (bs x.2.1), .int .i64 x.2.2.1, .int .u32 x.2.2.2.1, .int .i64 x.2.2.2.2] X2 (p * 7) 7 rfl (by rw [hRlH.out, hX2l]; omega)
    rw [hRtH.out, hX2l, ← hcp5.out, show (p + 1) * 7 + (c - p) * 7 = (c + 1) * 7 by omega] at h9
    exact h9
end Go.Proofs.YtffnpfponnhddaaGreat
