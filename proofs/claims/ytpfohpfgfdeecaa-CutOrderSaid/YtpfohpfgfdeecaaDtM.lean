/- slices.IndexFunc and slices.DeleteFunc at names, whatever the function value. -/
import Derived.Test.YtpfohpfgfdeecaaDtR
import Derived.Test.YtpfohpfgfdeecaaGc
import Derived.Shelf.Abstract
namespace Go.Proofs.Ytpfohpfgfdeecaa
open Go.RowKit

/-- A function value that answers p of names, wherever what lay below block B stands. -/
def PredI (g : Nat) (lb : Array Value) (p : Im → Bool) (B : Nat) (w : World) (xs : List Im) : Prop :=
  ∀ x ∈ xs, ∀ w', Below B w w' → Calls Try.prog g (#[.agg #[.int .i64 x.1, .int .u32 x.2]] ++ lb) w' fun e w'' => e = .returned (.bool (p x)) ∧ Below w'.heap.size w' w''

theorem ixf_gen (g : Nat) (lb : Array Value) (p : Im → Bool) (eg : ∀ args w, (callFunc g args).run Try.prog w = .ok (.enter g args) w) (B : Nat) (A : Option Addr) (n c : Nat) (xs : List Im) (w : World) (hA : RdI w w.heap.size A n xs) (hn : n ≤ maxLen) (hp : PredI g lb p B w xs) (hB : B ≤ w.heap.size) :
    Calls Try.prog 35 #[.slice A n c, .func (.func g) #[] lb] w
      fun e w' => e = .returned (.int .i64 (firstI p xs)) ∧ Below w.heap.size w w' := by
  unfold maxLen at hn
  have hp := Lib.hid hp
  go_enter Try.func35, Try.ntmps35
  go_wp2
  go_loopg [8] (n + 1) (fun g i wr => ∃ k : Nat, k ≤ n ∧ g = n + 1 - k ∧ i = .int .i64 k ∧ (∀ u ∈ xs.take k, p u = false) ∧ Below w.heap.size w wr)
  case atStart => exact ⟨0, Nat.zero_le _, rfl, rfl, by simp, Below.refl _ _⟩
  case round =>
    obtain ⟨k, hk, rfl, rfl, hno, hbr⟩ := hrel
    have hz := hbr.size
    by_cases hlt : k < n
    · obtain ⟨bA, oA, u, rfl, hbA, hq, hcp⟩ := (hA.below hbr).at_ hlt
      have p0 := hcp 0 _ rfl
      have p1 := hcp 1 _ rfl
      rw [Nat.add_zero] at p0
      clear hcp
      have hnoH := Lib.hid hno
      have hqH := Lib.hid hq
      clear hno hq
      go_wp2_with fail
      refine (hp.out u (List.mem_of_getElem? hqH.out) wr (hbr.mono hB)).mono ?_
      rintro e w1 ⟨rfl, hb1⟩
      have hb2 := hbr.trans (hb1.mono hz)
      generalize hx' : p u = r
      cases r
      case true =>
        have hT := Lib.hid (firstI_at hnoH.out hqH.out hx')
        clear hx'
        go_wp2
        go_ret
        exact ⟨ret_int hT.out.symm, hb2⟩
      case false =>
        have hT := Lib.hid hx'
        clear hx'
        go_wp2
        go_roundg (n + 1 - (k + 1))
        case measure => omega
        case rel => exact ⟨k + 1, by omega, rfl, by go_num, all_take_succ hnoH.out hqH.out hT.out, hb2⟩
    · have hT := Lib.hid (firstI_none (p := p) (all_take_all (by rw [show k = n from by omega] at hno; exact hno) hA.len))
      clear hno
      go_wp2
      go_ret
      exact ⟨ret_int hT.out.symm, hbr⟩

set_option maxRecDepth 100000 in
set_option maxHeartbeats 1000000 in
theorem delf_gen (fg : Nat) (lb : Array Value) (pr : Im → Bool) (eg : ∀ args w, (callFunc fg args).run Try.prog w = .ok (.enter fg args) w) (base : Nat) (A : Option Addr) (n c : Nat) (xs : List Im) (w : World)
    (hown : Ow w base 37 2 (.slice A n c) (xs.map Im.enc)) (hn : n ≤ 1100) (hp : PredI fg lb pr base w xs) (hB : base ≤ w.heap.size) :
    Calls Try.prog 45 #[.slice A n c, .func (.func fg) #[] lb] w
      fun e w' => ∃ n', e = .returned (.slice A n' c) ∧ Ow w' base 37 2 (.slice A n' c) ((xs.filter fun x => !pr x).map Im.enc) ∧ w.grownBy w' (Value.slice A n c).ownBlock := by
  have hix := ixf_gen fg lb pr eg base A n c xs w hown.rd.1 (by simp [maxLen]; omega) hp hB
  have hl : xs.length = n := by simpa using hown.rd.2.1
  have hcm : c ≤ maxLen := hown.rd.2.2.2
  have hnc : n ≤ c := hown.rd.2.2.1
  unfold maxLen at hcm
  cases hf : xs.findIdx? pr with
  | none =>
    have hall : xs.filter (fun x => !pr x) = xs := by
      rw [List.filter_eq_self]; intro x hx
      have := List.findIdx?_eq_none_iff.1 hf x hx
      simp [this]
    rw [hall]
    rw [show firstI pr xs = -1 by simp [firstI, hf]] at hix
    clear hf
    go_enter Try.func45, Try.ntmps45
    go_wp2_with fail
    refine hix.mono ?_
    rintro e w1 ⟨rfl, hb1⟩
    go_wp2
    go_ret
    exact ⟨n, rfl, hown.below hb1, gr_below hb1 _⟩
  | some i0 =>
    obtain ⟨hi, hpi, hno⟩ := List.findIdx?_eq_some_iff_getElem.1 hf
    rw [show firstI pr xs = (i0 : Int) by simp [firstI, hf]] at hix
    obtain ⟨g, rfl, hgb, hgl, _, _⟩ := hown.addr (by omega)
    have hne : ((i0 : Int) == -1) = false := by simp
    have hst : Hid (xs.take i0 = (xs.take (i0 + 1)).filter fun x => !pr x) := Lib.hid (by
      have h1 : (xs.take i0).filter (fun x => !pr x) = xs.take i0 := by
        rw [List.filter_eq_self]; intro x hx
        obtain ⟨j, hj⟩ := List.mem_iff_getElem?.1 hx
        have hjl := (List.getElem?_eq_some_iff.1 hj).1
        rw [List.length_take] at hjl
        rw [List.getElem?_take_of_lt (by omega), List.getElem?_eq_getElem (by omega)] at hj
        injection hj with hj
        have := hno j (by omega)
        rw [hj] at this
        simp [this]
      rw [filter_take_succ (List.getElem?_eq_getElem hi), h1, hpi]
      simp)
    have hi0 : i0 < n := by omega
    have hp := Lib.hid hp
    have hlH := Lib.hid hl
    clear hf hno hpi hi hl
    go_enter Try.func45, Try.ntmps45
    go_wp2_with fail
    refine hix.mono ?_
    rintro e w1 ⟨rfl, hb1⟩
    go_wp2_with fail
    go_loopg [5, 6] (n + 1 - (i0 + 1)) (fun gh i j wr => ∃ (p q : Nat) (L : List Im), p < q ∧ q ≤ n ∧ gh = n + 1 - q ∧ i = .int .i64 p ∧ j = .int .i64 q ∧ L.length = n ∧ L.take p = (xs.take q).filter (fun x => !pr x) ∧ L.drop q = xs.drop q ∧
      Ow wr base 37 2 (.slice (some ⟨g, 0, none⟩) n c) (L.map Im.enc) ∧ w.grownBy wr (some g))
    case atStart => exact ⟨i0, i0 + 1, xs, by omega, by omega, rfl, rfl, by go_num, hlH.out, hst.out, rfl, hown.below hb1, gr_below hb1 _⟩
    case round =>
      obtain ⟨p, q, L, hpq, hqn, rfl, rfl, rfl, hLl, hLt, hLd, hownL, hgr⟩ := hrel
      have hz := hgr.size
      have hbw : Below base w wr := (Below.refl _ _).grown hgr hB (fun k e => by injection e with e; omega)
      have hbw' : base ≤ wr.heap.size := by omega
      obtain ⟨g', he, _, hgl', hgf, hgc⟩ := hownL.addr (by omega)
      injection he with he
      injection he with he
      subst he
      have hLlH := Lib.hid hLl
      have hLtH := Lib.hid hLt
      have hLdH := Lib.hid hLd
      clear hLt hLd
      by_cases hlt : q < n
      · obtain ⟨u, huu⟩ : ∃ u, L[q]? = some u := ⟨_, List.getElem?_eq_getElem (by omega)⟩
        have hux : xs[q]? = some u := by
          have h1 : (L.drop q)[0]? = some u := by rw [List.getElem?_drop]; exact huu
          rw [hLdH.out, List.getElem?_drop] at h1; exact h1
        obtain ⟨y, hyy⟩ : ∃ y, L[p]? = some y := ⟨_, List.getElem?_eq_getElem (by omega)⟩
        clear hLl
        have hcu := hgc q u.enc (by rw [List.getElem?_map, huu]; rfl)
        have hcy := hgc p y.enc (by rw [List.getElem?_map, hyy]; rfl)
        have p0 := hcu 0 _ rfl
        have p1 := hcu 1 _ rfl
        have q0 := hcy 0 _ rfl
        have q1 := hcy 1 _ rfl
        rw [Nat.add_zero] at p0 q0
        clear hcu hcy hgc
        have hum : u ∈ xs := List.mem_of_getElem? hux
        have hfs := Lib.hid (filter_take_succ (p := fun x => !pr x) hux)
        have hdr : Hid (L.drop (q + 1) = xs.drop (q + 1)) := Lib.hid (by rw [← List.drop_drop, hLdH.out, List.drop_drop])
        have hcall := Lib.hid (hp.out u hum)
        clear huu hux hyy hum
        go_wp2_with fail
        refine (hcall.out _ ?_).mono ?_
        · exact hbw.alloc hbw' _
        rintro e w2 ⟨rfl, hb2⟩
        have hz2 := hb2.size
        simp only [World.size_alloc] at hz2
        have hb3 : Below wr.heap.size wr w2 := ((Below.refl _ wr).alloc (Nat.le_refl _) _).trans (hb2.mono (by simp))
        have hgr3 : w.grownBy w2 (some g) := hgr.trans (gr_below hb3 _)
        have hown3 := hownL.below hb3
        replace q0 := (hb3.cell (p := ⟨g, _, none⟩) hgl').trans q0
        replace q1 := (hb3.cell (p := ⟨g, _, none⟩) hgl').trans q1
        have hgf3 : ∀ o, w2.frozen? ⟨g, o, none⟩ = false := fun o => (hb3.frozen (p := ⟨g, o, none⟩) hgl').trans (hgf o)
        have hbox : w2.heap[wr.heap.size]? = some (.cells #[.int .i64 u.1, .int .u32 u.2] 37 (0, 0)) := (hb2.block _ (by simp)).trans (heap_at _ _ rfl)
        have r0 := blk_cell hbox 0
        have r1 := blk_cell hbox 1
        simp at r0 r1
        clear hbox hgf p0 p1 hown
        generalize pr u = b at hfs
        cases b
        · have hn1 : g ≠ wr.heap.size := by omega
          go_wp2
          go_roundg (n + 1 - (q + 1))
          case measure => omega
          case rel =>
            refine ⟨p + 1, q + 1, L.set p u, by omega, by omega, rfl, by go_num, by go_num, by rw [List.length_set]; exact hLlH.out, ?_, ?_, ?_, ?_⟩
            · rw [hfs.out, ← hLtH.out, List.take_add_one, List.getElem?_set_self (by rw [hLlH.out]; omega), List.take_set_of_le (Nat.le_refl _)]; simp
            · rw [List.drop_set_of_lt (by omega)]; exact hdr.out
            · rw [List.map_set]; exact hown3.set2 (by omega) (.int .i64 u.1) (.int .u32 u.2)
            · exact gr_set (gr_set hgr3 _ _) _ _
        · go_wp2
          go_roundg (n + 1 - (q + 1))
          case measure => omega
          case rel => exact ⟨p, q + 1, L, by omega, by omega, rfl, by go_num, by go_num, hLlH.out, by rw [hfs.out, ← hLtH.out]; simp, hdr.out, hown3, hgr3⟩
      · obtain rfl : q = n := by omega
        have hfin : Hid (L.take p = xs.filter fun x => !pr x) := Lib.hid (by rw [hLtH.out, List.take_of_length_le (by rw [hlH.out]; exact Nat.le_refl _)])
        have hzv : ∀ w, (zeroValue 37).run Try.prog w = .ok (.agg #[.int .i64 0, .int .u32 0]) w := fun _ => by kernel_rfl
        obtain ⟨wc, hrun, hown4, hgr4⟩ := run_clear_row (sz := 2) (c' := c - p) Try.underlying25 hzv (by simp [Value.cells, Value.oneCell']) rfl (by decide) hownL hpq
        clear hgf hgc hown
        have hown5 := hown4.front (k := p) (by omega)
        have hfr : Hid (((L.map Im.enc).take p ++ List.replicate (q - p) (Value.agg #[.int .i64 0, .int .u32 0]).cells.toList).take p = (xs.filter fun x => !pr x).map Im.enc) := Lib.hid (by
          rw [List.take_append_of_le_length (by simp; omega), List.take_take, Nat.min_self, ← hfin.out, List.map_take])
        go_wp2
        go_ret
        exact ⟨p, rfl, by rw [← hfr.out]; exact hown5, hgr.trans hgr4⟩
end Go.Proofs.Ytpfohpfgfdeecaa
