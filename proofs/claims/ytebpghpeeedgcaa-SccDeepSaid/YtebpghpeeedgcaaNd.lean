/- The library's MinFunc and DeleteFunc at rows of numbers. -/
import Derived.Test.YtebpghpeeedgcaaKo
import Derived.Test.YtebpghpeeedgcaaKg
namespace Go.Proofs.Ytebpghpeeedgcaa
open Go.RowKit

/-- A function value that compares numbers by a key. -/
def CmpN (g : Nat) (lb : Array Value) (key : Nat → Int) (B : Nat) (w : World) (xs : List Nat) : Prop :=
  ∀ x ∈ xs, ∀ y ∈ xs, ∀ w', Below B w w' → Calls Try.prog g (#[.int .i64 (x : Int), .int .i64 (y : Int)] ++ lb) w' fun e w'' => e = .returned (.int .i64 (key x - key y)) ∧ Below w'.heap.size w' w''
def MinP (key : Nat → Int) (xs : List Nat) (w : World) (e : Ending) (w' : World) : Prop := ∃ m : Nat, e = .returned (.int .i64 (m : Int)) ∧ m ∈ xs ∧ (∀ q ∈ xs, key m ≤ key q) ∧ Below w.heap.size w w'
set_option maxRecDepth 100000 in
theorem minN_any (g : Nat) (lb : Array Value) (key : Nat → Int) (eg : ∀ args w, (callFunc g args).run Try.prog w = .ok (.enter g args) w) (B : Nat) (A : Option Addr) (n c : Nat) (xs : List Nat) (w : World) (hA : Rd w w.heap.size 1 A n (xs.map eN)) (hn : n ≤ 1000000) (h0 : 0 < n) (hp : CmpN g lb key B w xs) (hB : B ≤ w.heap.size) :
    Calls Try.prog 18 #[.slice A n c, .func (.func g) #[] lb] w fun e w' => MinP key xs w e w' := by
  have hp := Lib.hid hp
  have hl : xs.length = n := by simpa using hA.1
  have hlH := Lib.hid hl
  have hAH := Lib.hid hA
  obtain ⟨bA, oA, u, hAe, hbA, hq, hcp⟩ := Rd.at_ (enc := eN) hA h0
  subst hAe
  have p0 := hcp 0 _ rfl
  simp only [Nat.zero_mul, Nat.add_zero] at p0
  have hn1 : ¬ (n : Int) < 1 := by omega
  have hn1d : decide ((n : Int) < 1) = false := decide_eq_false hn1
  have h0i : (0 : Int) < (n : Int) := by omega
  have hu := Lib.hid (List.mem_of_getElem? hq)
  have ht1 : Hid (∀ q ∈ xs.take 1, key u ≤ key q) := Lib.hid (fun q hq2 => by
    rw [List.take_add_one, hq] at hq2
    have : q = u := by simpa using hq2
    rw [this]; exact Int.le_refl _)
  clear hA hl hcp hq
  go_enter Try.func18, Try.ntmps18
  go_wp2_with fail
  go_loopg [5, 6] n (fun gg mv iv wr => ∃ (k m : Nat), 1 ≤ k ∧ k ≤ n ∧ gg = n + 1 - k ∧ iv = .int .i64 (k : Int) ∧ mv = .int .i64 (m : Int) ∧ m ∈ xs ∧ (∀ q ∈ xs.take k, key m ≤ key q) ∧ Below w.heap.size w wr)
  case atStart => exact ⟨1, u, Nat.le_refl _, h0, by omega, rfl, rfl, hu.out, ht1.out, Below.refl _ _⟩
  case round =>
    obtain ⟨k, m, hk1, hk, rfl, rfl, rfl, hm, hmin, hbr⟩ := hrel
    have hz := hbr.size
    have hminH := Lib.hid hmin
    have hmH := Lib.hid hm
    clear hmin hm p0
    by_cases hlt : k < n
    · have hlti : (k : Int) < (n : Int) := by omega
      obtain ⟨b1, o1, v, he1, hb1, hqk, hck⟩ := Rd.at_ (enc := eN) (hAH.out.below hbr) hlt
      injection he1 with he1
      injection he1 with he1 he2
      subst he1
      subst he2
      have pk := hck 0 _ rfl
      rw [Nat.mul_one, Nat.add_zero] at pk
      have hqkH := Lib.hid hqk
      have cC := Lib.hid (hp.out v (List.mem_of_getElem? hqk) m hmH.out wr (hbr.mono hB))
      clear hck hqk
      by_cases hc : key v - key m < 0
      · have hcd : decide (key v - key m < 0) = true := decide_eq_true hc
        have hT : Hid (∀ q ∈ xs.take (k + 1), key v ≤ key q) := Lib.hid (all_take_succ (fun q hq => by have := hminH.out q hq; omega) hqkH.out (Int.le_refl _))
        have hvm := Lib.hid (List.mem_of_getElem? hqkH.out)
        go_wp2_with fail
        refine cC.out.mono ?_
        rintro e w1 ⟨rfl, hbw⟩
        have hb2 := hbr.trans (hbw.mono hz)
        replace pk := (hbw.cell (p := ⟨bA, oA + k, none⟩) (by show bA < _; omega)).trans pk
        clear cC
        go_wp2
        go_roundg (n + 1 - (k + 1))
        case measure => omega
        case rel => exact ⟨k + 1, v, by omega, by omega, rfl, by go_num, rfl, hvm.out, hT.out, hb2⟩
      · have hcd : decide (key v - key m < 0) = false := decide_eq_false hc
        have hT : Hid (∀ q ∈ xs.take (k + 1), key m ≤ key q) := Lib.hid (all_take_succ hminH.out hqkH.out (by omega))
        go_wp2_with fail
        refine cC.out.mono ?_
        rintro e w1 ⟨rfl, hbw⟩
        have hb2 := hbr.trans (hbw.mono hz)
        clear cC
        go_wp2
        go_roundg (n + 1 - (k + 1))
        case measure => omega
        case rel => exact ⟨k + 1, m, by omega, by omega, rfl, by go_num, rfl, hmH.out, hT.out, hb2⟩
    · have hnlt : ¬ (k : Int) < (n : Int) := by omega
      have hT := Lib.hid (all_take_all (by rw [show k = n from by omega] at hminH; exact hminH.out) hlH.out)
      go_wp2
      go_ret
      exact ⟨m, rfl, hmH.out, hT.out, hbr⟩
theorem filter_takeN {p : Int → Bool} {xs : List Int} {q : Nat} {u : Int} (h : xs[q]? = some u) : (xs.take (q + 1)).filter p = (xs.take q).filter p ++ if p u = true then [u] else [] := by
  rw [List.take_add_one, h, List.filter_append]
  cases hp : p u <;> simp [hp]
/-- A function value that tells of numbers, also where one row of one's own has changed. -/
def PredG (g : Nat) (lb : Array Value) (p : Int → Bool) (row : Option Nat) (w : World) (xs : List Int) : Prop :=
  ∀ x ∈ xs, ∀ w', w.grownBy w' row → Calls Try.prog g (#[.int .i64 x] ++ lb) w' fun e w'' => e = .returned (.bool (p x)) ∧ Below w'.heap.size w' w''
set_option maxRecDepth 100000 in
set_option maxHeartbeats 1000000 in
theorem delN_gen (fg : Nat) (lb : Array Value) (pr : Int → Bool) (eg : ∀ args w, (callFunc fg args).run Try.prog w = .ok (.enter fg args) w) (base : Nat) (A : Option Addr) (n c : Nat) (xs : List Int) (w : World)
    (hown : Ow w base 3 1 (.slice A n c) (xs.map eI)) (hn : n ≤ 100000) (hp : PredG fg lb pr (Value.slice A n c).ownBlock w xs) (hB : base ≤ w.heap.size) :
    Calls Try.prog 19 #[.slice A n c, .func (.func fg) #[] lb] w
      fun e w' => ∃ n', e = .returned (.slice A n' c) ∧ Ow w' base 3 1 (.slice A n' c) ((xs.filter fun x => !pr x).map eI) ∧ w.grownBy w' (Value.slice A n c).ownBlock := by
  have hix := ixN_gen fg lb pr eg w.heap.size A n c xs w hown.rd.1 (by omega) (fun x hx w' hw' => hp x hx w' (gr_below hw' _)) (Nat.le_refl _)
  have hl : xs.length = n := by simpa using hown.rd.2.1
  have hcm : c ≤ maxLen := hown.rd.2.2.2
  have hnc : n ≤ c := hown.rd.2.2.1
  unfold maxLen at hcm
  cases hf : xs.findIdx? pr with
  | none =>
    have hall : xs.filter (fun x => !pr x) = xs := by
      rw [List.filter_eq_self]; intro x hx
      have := List.findIdx?_eq_none_iff.1 hf x hx
      simp [this]
    rw [hall]
    rw [show firstZ pr xs = -1 by simp [firstZ, hf]] at hix
    clear hf
    go_enter Try.func19, Try.ntmps19
    go_wp2_with fail
    refine hix.mono ?_
    rintro e w1 ⟨rfl, hb1⟩
    go_wp2
    go_ret
    exact ⟨n, rfl, hown.below hb1, gr_below hb1 _⟩
  | some i0 =>
    obtain ⟨hi, hpi, hno⟩ := List.findIdx?_eq_some_iff_getElem.1 hf
    rw [show firstZ pr xs = (i0 : Int) by simp [firstZ, hf]] at hix
    obtain ⟨g, rfl, hgb, hgl, _, _⟩ := hown.addr (by omega)
    have hne : ((i0 : Int) == -1) = false := by simp
    have hst : Hid (xs.take i0 = (xs.take (i0 + 1)).filter fun x => !pr x) := Lib.hid (by
      have h1 : (xs.take i0).filter (fun x => !pr x) = xs.take i0 := by
        rw [List.filter_eq_self]; intro x hx
        obtain ⟨j, hj⟩ := List.mem_iff_getElem?.1 hx
        have hjl := (List.getElem?_eq_some_iff.1 hj).1
        rw [List.length_take] at hjl
        rw [List.getElem?_take_of_lt (by omega), List.getElem?_eq_getElem (by omega)] at hj
        injection hj with hj
        have := hno j (by omega)
        rw [hj] at this
        simp [this]
      rw [filter_takeN (List.getElem?_eq_getElem hi), h1, hpi]
      simp)
    have hi0 : i0 < n := by omega
    have hp := Lib.hid hp
    have hlH := Lib.hid hl
    clear hf hno hpi hi hl
    go_enter Try.func19, Try.ntmps19
    go_wp2_with fail
    refine hix.mono ?_
    rintro e w1 ⟨rfl, hb1⟩
    go_wp2_with fail
    go_loopg [5, 6] (n + 1 - (i0 + 1)) (fun gh i j wr => ∃ (p q : Nat) (L : List Int), p < q ∧ q ≤ n ∧ gh = n + 1 - q ∧ i = .int .i64 p ∧ j = .int .i64 q ∧ L.length = n ∧ L.take p = (xs.take q).filter (fun x => !pr x) ∧ L.drop q = xs.drop q ∧
      Ow wr base 3 1 (.slice (some ⟨g, 0, none⟩) n c) (L.map eI) ∧ w.grownBy wr (some g))
    case atStart => exact ⟨i0, i0 + 1, xs, by omega, by omega, rfl, rfl, by go_num, hlH.out, hst.out, rfl, hown.below hb1, gr_below hb1 _⟩
    case round =>
      obtain ⟨p, q, L, hpq, hqn, rfl, rfl, rfl, hLl, hLt, hLd, hownL, hgr⟩ := hrel
      have hz := hgr.size
      have hbw : Below base w wr := (Below.refl _ _).grown hgr hB (fun k e => by injection e with e; omega)
      have hbw' : base ≤ wr.heap.size := by omega
      obtain ⟨g', he, _, hgl', hgf, hgc⟩ := hownL.addr (by omega)
      injection he with he
      injection he with he
      subst he
      have hLlH := Lib.hid hLl
      have hLtH := Lib.hid hLt
      have hLdH := Lib.hid hLd
      clear hLt hLd
      by_cases hlt : q < n
      · have hlti : (q : Int) < (n : Int) := by omega
        obtain ⟨u, huu⟩ : ∃ u, L[q]? = some u := ⟨_, List.getElem?_eq_getElem (by omega)⟩
        have hux : xs[q]? = some u := by
          have h1 : (L.drop q)[0]? = some u := by rw [List.getElem?_drop]; exact huu
          rw [hLdH.out, List.getElem?_drop] at h1; exact h1
        obtain ⟨y, hyy⟩ : ∃ y, L[p]? = some y := ⟨_, List.getElem?_eq_getElem (by omega)⟩
        clear hLl
        have p0 := hgc q (eI u) (by rw [List.getElem?_map, huu]; rfl) 0 _ rfl
        have q0 := hgc p (eI y) (by rw [List.getElem?_map, hyy]; rfl) 0 _ rfl
        simp only [Nat.mul_one, Nat.add_zero] at p0 q0
        clear hgc
        have hum : u ∈ xs := List.mem_of_getElem? hux
        have hfs := Lib.hid (filter_takeN (p := fun x => !pr x) hux)
        have hdr : Hid (L.drop (q + 1) = xs.drop (q + 1)) := Lib.hid (by rw [← List.drop_drop, hLdH.out, List.drop_drop])
        have hcall := Lib.hid (hp.out u hum wr hgr)
        clear huu hux hyy hum
        go_wp2_with fail
        refine hcall.out.mono ?_
        rintro e w2 ⟨rfl, hb2⟩
        have hz2 := hb2.size
        have hgr3 : w.grownBy w2 (some g) := hgr.trans (gr_below hb2 _)
        have hown3 := hownL.below hb2
        replace q0 := (hb2.cell (p := ⟨g, _, none⟩) hgl').trans q0
        have hgf3 : w2.frozen? ⟨g, p, none⟩ = false := (hb2.frozen (p := ⟨g, p, none⟩) hgl').trans (hgf p)
        have hgl3 : g < w2.heap.size := by omega
        clear hgf p0 hown
        generalize pr u = b at hfs
        cases b
        · go_wp2
          go_roundg (n + 1 - (q + 1))
          case measure => omega
          case rel =>
            refine ⟨p + 1, q + 1, L.set p u, by omega, by omega, rfl, by go_num, by go_num, by rw [List.length_set]; exact hLlH.out, ?_, ?_, ?_, ?_⟩
            · rw [hfs.out, ← hLtH.out, List.take_add_one, List.getElem?_set_self (by rw [hLlH.out]; omega), List.take_set_of_le (Nat.le_refl _)]; simp
            · rw [List.drop_set_of_lt (by omega)]; exact hdr.out
            · rw [List.map_set]
              have h1 := hown3.setL (k := p) (by omega) (vs := eI u) rfl
              rw [Nat.mul_one] at h1
              exact h1
            · exact gr_set hgr3 _ _
        · go_wp2
          go_roundg (n + 1 - (q + 1))
          case measure => omega
          case rel => exact ⟨p, q + 1, L, by omega, by omega, rfl, by go_num, by go_num, hLlH.out, by rw [hfs.out, ← hLtH.out]; simp, hdr.out, hown3, hgr3⟩
      · obtain rfl : q = n := by omega
        have hnlt : ¬ (q : Int) < (q : Int) := by omega
        have hfin : Hid (L.take p = xs.filter fun x => !pr x) := Lib.hid (by rw [hLtH.out, List.take_of_length_le (by rw [hlH.out]; exact Nat.le_refl _)])
        have hzv : ∀ w, (zeroValue 3).run Try.prog w = .ok (.int .i64 0) w := fun _ => by kernel_rfl
        obtain ⟨wc, hrun, hown4, hgr4⟩ := run_clear_row (sz := 1) (c' := c - p) Try.underlying31 hzv (by simp [Value.cells, Value.oneCell']) rfl (by decide) hownL hpq
        rw [Nat.mul_one] at hrun
        clear hgf hgc hown
        have hown5 := hown4.front (k := p) (by omega)
        have hfr : Hid (((L.map eI).take p ++ List.replicate (q - p) (Value.int IntKind.i64 0).cells.toList).take p = (xs.filter fun x => !pr x).map eI) := Lib.hid (by
          rw [List.take_append_of_le_length (by simp; omega), List.take_take, Nat.min_self, ← hfin.out, List.map_take])
        go_wp2
        go_ret
        exact ⟨p, rfl, by rw [← hfr.out]; exact hown5, hgr.trans hgr4⟩
end Go.Proofs.Ytebpghpeeedgcaa
