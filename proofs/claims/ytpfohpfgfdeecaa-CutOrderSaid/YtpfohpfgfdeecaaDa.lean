/- Names of transactions: what ident and the document's chapter 5 say of one, of two, of a list. Lists of names: too great to be asked, the same, made of names alone, in order. Sets of names: what is wrong with one (both checks), whether two lists are the same, a list of one's own. -/
import Derived.Test.YtpfohpfgfdeecaaRows
import Derived.Test.YtpfohpfgfdeecaaDef
import Derived.Deep.DeepCutAuto
import Derived.Deep.RegionHeld3
import Derived.Test.YtpfohpfgfdeecaaGb
import Derived.Deep.LoopGhost
namespace Go.Proofs.Ytpfohpfgfdeecaa
open Go.RowKit

def Im.enc (x : Im) : List Value := [.int .i64 x.1, .int .u32 x.2]
theorem Im.len {xs : List Im} : ∀ x ∈ xs.map Im.enc, x.length = 2 := by
  intro x hx; obtain ⟨t, _, rfl⟩ := List.mem_map.1 hx; rfl
theorem Im.one {xs : List Im} : ∀ x ∈ xs.map Im.enc, ∀ u ∈ x, u.oneCell' = true := by
  intro x hx u hu; obtain ⟨t, _, rfl⟩ := List.mem_map.1 hx
  simp only [Im.enc, List.mem_cons, List.not_mem_nil, or_false] at hu
  rcases hu with rfl | rfl <;> rfl
/-- A list of names, read whole. -/
def RdI (w : World) (B : Nat) (A : Option Addr) (n : Nat) (xs : List Im) : Prop := Rd w B 2 A n (xs.map Im.enc)


theorem chk_any (x : Im) (hx : x.wf) (w : World) :
    Calls Try.prog 20 #[.agg #[.int .i64 x.1, .int .u32 x.2]] w fun e w' => e = .returned (.int .i64 (errI (chk x))) ∧ Below w.heap.size w w' := by
  obtain ⟨o, s⟩ := x
  obtain ⟨h0, hm⟩ := hx
  dsimp only at h0 hm ⊢
  by_cases h1 : o < 0
  · have hr : chk (o, s) = false := by simp [chk]; omega
    rw [hr]
    go_enter Try.func20, Try.ntmps20
    go_wp2
    go_ret
    exact ⟨rfl, (Below.refl _ _).alloc (Nat.le_refl _) _⟩
  by_cases h2 : 8 ≤ o
  · have hr : chk (o, s) = false := by simp [chk]; omega
    rw [hr]
    go_enter Try.func20, Try.ntmps20
    go_wp2
    go_ret
    exact ⟨rfl, (Below.refl _ _).alloc (Nat.le_refl _) _⟩
  by_cases h3 : s = 0
  · have hr : chk (o, s) = false := by simp [chk]; omega
    rw [hr]
    go_enter Try.func20, Try.ntmps20
    go_wp2
    go_ret
    exact ⟨rfl, (Below.refl _ _).alloc (Nat.le_refl _) _⟩
  by_cases h4 : 1048576 < s
  · have hr : chk (o, s) = false := by simp [chk]; omega
    rw [hr]
    go_enter Try.func20, Try.ntmps20
    go_wp2
    go_ret
    exact ⟨rfl, (Below.refl _ _).alloc (Nat.le_refl _) _⟩
  · have hr : chk (o, s) = true := by simp [chk]; omega
    rw [hr]
    go_enter Try.func20, Try.ntmps20
    go_wp2
    go_ret
    exact ⟨rfl, (Below.refl _ _).alloc (Nat.le_refl _) _⟩

theorem nan_any (a : Int) (w : World) : Calls Try.prog 52 #[.int .i64 a] w fun e w' => e = .returned (.bool false) ∧ w' = w := by
  go_enter Try.func52, Try.ntmps52
  go_wp2
  go_ret
  exact ⟨rfl, rfl⟩
theorem nanu_any (a : Int) (w : World) : Calls Try.prog 53 #[.int .u32 a] w fun e w' => e = .returned (.bool false) ∧ w' = w := by
  go_enter Try.func53, Try.ntmps53
  go_wp2
  go_ret
  exact ⟨rfl, rfl⟩
theorem ccmp_any (a b : Int) (w : World) :
    Calls Try.prog 43 #[.int .i64 a, .int .i64 b] w fun e w' => e = .returned (.int .i64 (ordI a b)) ∧ w' = w := by
  by_cases h1 : a < b
  · go_enter Try.func43, Try.ntmps43
    go_wp2_with (go_at_call 52; refine (nan_any _ _).mono ?_; rintro e w' ⟨rfl, rfl⟩)
    go_ret
    exact ⟨ret_int (by unfold ordI; (repeat' split) <;> omega), rfl⟩
  by_cases h2 : b < a
  · go_enter Try.func43, Try.ntmps43
    go_wp2_with (go_at_call 52; refine (nan_any _ _).mono ?_; rintro e w' ⟨rfl, rfl⟩)
    go_ret
    exact ⟨ret_int (by unfold ordI; (repeat' split) <;> omega), rfl⟩
  · go_enter Try.func43, Try.ntmps43
    go_wp2_with (go_at_call 52; refine (nan_any _ _).mono ?_; rintro e w' ⟨rfl, rfl⟩)
    go_ret
    exact ⟨ret_int (by unfold ordI; (repeat' split) <;> omega), rfl⟩
theorem ccmpu_any (a b : Int) (w : World) :
    Calls Try.prog 44 #[.int .u32 a, .int .u32 b] w fun e w' => e = .returned (.int .i64 (ordI a b)) ∧ w' = w := by
  by_cases h1 : a < b
  · go_enter Try.func44, Try.ntmps44
    go_wp2_with (go_at_call 53; refine (nanu_any _ _).mono ?_; rintro e w' ⟨rfl, rfl⟩)
    go_ret
    exact ⟨ret_int (by unfold ordI; (repeat' split) <;> omega), rfl⟩
  by_cases h2 : b < a
  · go_enter Try.func44, Try.ntmps44
    go_wp2_with (go_at_call 53; refine (nanu_any _ _).mono ?_; rintro e w' ⟨rfl, rfl⟩)
    go_ret
    exact ⟨ret_int (by unfold ordI; (repeat' split) <;> omega), rfl⟩
  · go_enter Try.func44, Try.ntmps44
    go_wp2_with (go_at_call 53; refine (nanu_any _ _).mono ?_; rintro e w' ⟨rfl, rfl⟩)
    go_ret
    exact ⟨ret_int (by unfold ordI; (repeat' split) <;> omega), rfl⟩
theorem or_any (g : Nat) (p q : Int) (w : World) (hg : g < w.heap.size) (h0 : w.cell? ⟨g, 0, none⟩ = some (.int .i64 p)) (h1 : w.cell? ⟨g, 1, none⟩ = some (.int .i64 q)) :
    Calls Try.prog 42 #[.slice (some ⟨g, 0, none⟩) 2 2] w fun e w' => e = .returned (.int .i64 (if p ≠ 0 then p else q)) ∧ w' = w := by
  generalize hr : (if p ≠ 0 then p else q) = r
  have hrH := Lib.hid hr
  clear hr
  go_enter Try.func42, Try.ntmps42
  go_wp2
  go_loopg [8] 3 (fun g' i wr => ∃ k : Nat, k ≤ 2 ∧ g' = 3 - k ∧ i = .int .i64 k ∧ wr = w ∧ (1 ≤ k → p = 0) ∧ (2 ≤ k → q = 0))
  case atStart => exact ⟨0, by omega, rfl, rfl, rfl, by omega, by omega⟩
  case round =>
    obtain ⟨k, hk, rfl, rfl, rfl, hp, hq⟩ := hrel
    obtain rfl | rfl | rfl : k = 0 ∨ k = 1 ∨ k = 2 := by omega
    · by_cases h : p = 0
      · subst h
        go_wp2
        go_roundg 2
        case measure => omega
        case rel => exact ⟨1, by omega, rfl, by go_num, rfl, fun _ => (by first | trivial | rfl), by omega⟩
      · have hT := Lib.hid h
        have hd : (p == 0) = false := by simpa using h
        go_wp2
        go_ret
        exact ⟨ret_int (by rw [← hrH.out, if_pos hT.out]), rfl⟩
    · have hp' := Lib.hid (hp (by omega))
      clear hp
      by_cases h : q = 0
      · subst h
        go_wp2
        go_roundg 1
        case measure => omega
        case rel => exact ⟨2, by omega, rfl, by go_num, rfl, fun _ => hp'.out, fun _ => (by first | trivial | rfl)⟩
      · have hd : (q == 0) = false := by simpa using h
        go_wp2
        go_ret
        exact ⟨ret_int (by rw [← hrH.out, if_neg (by simp [hp'.out])]), rfl⟩
    · have hp' := Lib.hid (hp (by omega))
      have hq' := Lib.hid (hq (by omega))
      clear hp hq
      go_wp2
      go_ret
      exact ⟨ret_int (by rw [← hrH.out, if_neg (by simp [hp'.out])]; exact hq'.out.symm), rfl⟩
set_option maxRecDepth 100000 in
theorem cmp_any (x y : Im) (w : World) :
    Calls Try.prog 31 #[.agg #[.int .i64 x.1, .int .u32 x.2], .agg #[.int .i64 y.1, .int .u32 y.2]] w fun e w' => e = .returned (.int .i64 (cmpI x y)) ∧ Below w.heap.size w w' := by
  generalize hr : cmpI x y = r
  rw [cmpI_ord] at hr
  have hc1 := ccmp_any x.1 y.1
  have hc2 := ccmpu_any x.2 y.2
  have ho := or_any
  generalize ordI x.1 y.1 = p at *
  generalize ordI x.2 y.2 = q at *
  have hc1 := Lib.hid hc1
  have hc2 := Lib.hid hc2
  have ho := Lib.hid (fun g w h0 h1 h2 => hr ▸ ho g p q w h0 h1 h2)
  clear hr
  go_enter Try.func31, Try.ntmps31
  go_wp2
  go_region_held3 (fun w' => KQ (w.heap.size + 2) ((w.alloc (.cells #[.int .i64 x.1, .int .u32 x.2] 37)).alloc (.cells #[.int .i64 y.1, .int .u32 y.2] 37)) w') (first
      | with_reducible exact kq_call (by assumption) (by simp) (by assumption)
      | with_reducible exact kq_grown (by assumption) (by simp) (by assumption) (by simp [Value.ownBlock])
      | ((with_reducible refine kq ?_); (repeat (first | (with_reducible exact Below.refl _ _) | (with_reducible refine Below.drew ?_) | (with_reducible refine Below.alloc ?_ (by simp) _) | (with_reducible refine Below.setCell ?_ (by simp) _) | (with_reducible exact (by assumption : KQ _ _ _).1))); done))
    (first
      | (go_at_call 43; refine (hc1.out _).mono ?_; rintro e w1 ⟨rfl, rfl⟩)
      | (go_at_call 44; refine (hc2.out _).mono ?_; rintro e w1 ⟨rfl, rfl⟩)
      | (go_at_call 42; refine (ho.out _ _ (by simp) (blk_cell (heap_drew (heap_at _ _ (by simp))) 0) (blk_cell (heap_drew (heap_at _ _ (by simp))) 1)).mono ?_; rintro e w1 ⟨rfl, rfl⟩))
  go_wp2
  go_ret
  exact ⟨rfl, ((((Below.refl _ w).alloc (Nat.le_refl _) _).alloc (by simp) _).alloc (by simp; omega) _).drew⟩
end Go.Proofs.Ytpfohpfgfdeecaa
namespace Go.Proofs.Ytpfohpfgfdeecaa
open Go.RowKit

theorem RdI.below {w w' : World} {B n : Nat} {A : Option Addr} {xs : List Im} (h : RdI w B A n xs) (hb : Below B w w') : RdI w' B A n xs := Rd.below h hb
theorem RdI.more {w : World} {B B' n : Nat} {A : Option Addr} {xs : List Im} (h : RdI w B A n xs) (hb : B ≤ B') : RdI w B' A n xs := Rd.more h hb
theorem RdI.len {w : World} {B n : Nat} {A : Option Addr} {xs : List Im} (h : RdI w B A n xs) : xs.length = n := by simpa using h.1
theorem great_any (A : Option Addr) (n c : Nat) (w : World) :
    Calls Try.prog 5 #[.slice A n c] w fun e w' => e = .returned (.bool (grI n)) ∧ w' = w := by
  generalize hr : grI n = r
  have hrH := Lib.hid hr
  clear hr
  by_cases h1 : (400 : Int) < (n : Int)
  · by_cases h2 : (n : Int) = 1024
    · have hd : ((n : Int) == 1024) = true := by simpa using h2
      have hq := Lib.hid h2
      go_enter Try.func5, Try.ntmps5
      go_wp2
      go_ret
      exact ⟨ret_bool (by rw [← hrH.out]; have := hq.out; unfold grI; symm; first | (apply decide_eq_true; omega) | (apply decide_eq_false; omega) | (rw [Bool.eq_iff_iff]; simp; omega)), rfl⟩
    · by_cases h3 : (n : Int) = 1025
      · have hq := Lib.hid h3
        go_enter Try.func5, Try.ntmps5
        go_wp2
        go_ret
        exact ⟨ret_bool (by rw [← hrH.out]; have := hq.out; unfold grI; symm; first | (apply decide_eq_true; omega) | (apply decide_eq_false; omega) | (rw [Bool.eq_iff_iff]; simp; omega)), rfl⟩
      · have hq := Lib.hid h3
        have hq2 := Lib.hid h2
        have hq1 := Lib.hid h1
        go_enter Try.func5, Try.ntmps5
        go_wp2
        go_ret
        exact ⟨ret_bool (by rw [← hrH.out]; have := hq.out; have := hq1.out; have := hq2.out; unfold grI; symm; first | (apply decide_eq_true; omega) | (apply decide_eq_false; omega) | (rw [Bool.eq_iff_iff]; simp; omega)), rfl⟩
  · have hq1 := Lib.hid h1
    go_enter Try.func5, Try.ntmps5
    go_wp2
    go_ret
    exact ⟨ret_bool (by rw [← hrH.out]; have := hq1.out; unfold grI; symm; first | (apply decide_eq_true; omega) | (apply decide_eq_false; omega) | (rw [Bool.eq_iff_iff]; simp; omega)), rfl⟩

theorem names1_any (x : Im) (hx : x.wf) (w : World) :
    Calls Try.prog 38 #[.agg #[.int .i64 x.1, .int .u32 x.2]] w fun e w' => e = .returned (.bool (!chk x)) ∧ Below w.heap.size w w' := by
  have hch := chk_any x hx
  generalize chk x = r at hch ⊢
  cases r
  · rw [show errI false = 2 from rfl] at hch
    go_enter Try.func38, Try.ntmps38
    go_wp2_with fail
    refine (hch _).mono ?_
    rintro e w1 ⟨rfl, hb1⟩
    have hb2 : Below w.heap.size w w1 := ((Below.refl _ w).alloc (Nat.le_refl _) _).trans (hb1.mono (by simp))
    go_wp2
    go_ret
    exact ⟨rfl, hb2⟩
  · rw [show errI true = 0 from rfl] at hch
    go_enter Try.func38, Try.ntmps38
    go_wp2_with fail
    refine (hch _).mono ?_
    rintro e w1 ⟨rfl, hb1⟩
    have hb2 : Below w.heap.size w w1 := ((Below.refl _ w).alloc (Nat.le_refl _) _).trans (hb1.mono (by simp))
    go_wp2
    go_ret
    exact ⟨rfl, hb2⟩


theorem ixf_any (A : Option Addr) (n c : Nat) (xs : List Im) (w : World) (hA : RdI w w.heap.size A n xs) (hn : n ≤ maxLen) (hx : ∀ x ∈ xs, x.wf) :
    Calls Try.prog 35 #[.slice A n c, .func (.func 38) #[] #[]] w
      fun e w' => e = .returned (.int .i64 (firstI (fun x => !chk x) xs)) ∧ Below w.heap.size w w' := by
  unfold maxLen at hn
  go_enter Try.func35, Try.ntmps35
  go_wp2
  go_loopg [8] (n + 1) (fun g i wr => ∃ k : Nat, k ≤ n ∧ g = n + 1 - k ∧ i = .int .i64 k ∧ (∀ u ∈ xs.take k, (!chk u) = false) ∧ Below w.heap.size w wr)
  case atStart => exact ⟨0, Nat.zero_le _, rfl, rfl, by simp, Below.refl _ _⟩
  case round =>
    obtain ⟨k, hk, rfl, rfl, hno, hbr⟩ := hrel
    have hz := hbr.size
    by_cases hlt : k < n
    · obtain ⟨bA, oA, u, rfl, hbA, hp, hcp⟩ := (hA.below hbr).at_ hlt
      have p0 := hcp 0 _ rfl
      have p1 := hcp 1 _ rfl
      rw [Nat.add_zero] at p0
      clear hcp
      have huw := hx u (List.mem_of_getElem? hp)
      go_wp2_with fail
      refine (names1_any u huw wr).mono ?_
      rintro e w1 ⟨rfl, hb1⟩
      have hb2 := hbr.trans (hb1.mono hz)
      generalize hx' : (!chk u) = r
      cases r
      case true =>
        have hT := Lib.hid (firstI_at (p := fun x => !chk x) hno hp hx')
        clear hx'
        go_wp2
        go_ret
        exact ⟨ret_int hT.out.symm, hb2⟩
      case false =>
        have hT := Lib.hid hx'
        clear hx'
        go_wp2
        go_roundg (n + 1 - (k + 1))
        case measure => omega
        case rel => exact ⟨k + 1, by omega, rfl, by go_num, all_take_succ hno hp hT.out, hb2⟩
    · have hT := Lib.hid (firstI_none (p := fun x => !chk x) (all_take_all (by rw [show k = n from by omega] at hno; exact hno) hA.len))
      go_wp2
      go_ret
      exact ⟨ret_int hT.out.symm, hbr⟩
theorem names_any (A : Option Addr) (n c : Nat) (xs : List Im) (w : World) (hA : RdI w w.heap.size A n xs) (hn : n ≤ maxLen) (hx : ∀ x ∈ xs, x.wf) :
    Calls Try.prog 26 #[.slice A n c] w fun e w' => e = .returned (.int .i64 (errI (xs.all chk))) ∧ Below w.heap.size w w' := by
  have hcf : Calls Try.prog 17 #[.slice A n c, .func (.func 38) #[] #[]] w
      fun e w' => e = .returned (.bool (!xs.all chk)) ∧ Below w.heap.size w w' := by
    have hr : decide (0 ≤ firstI (fun x => !chk x) xs) = !xs.all chk := by rw [firstI_any, List.all_eq_not_any_not]; simp
    have hrH := Lib.hid hr
    clear hr
    go_enter Try.func17, Try.ntmps17
    go_wp2_with fail
    refine (ixf_any A n c xs w hA hn hx).mono ?_
    rintro e w1 ⟨rfl, hb1⟩
    generalize firstI (fun x => !chk x) xs = z at hrH ⊢
    go_wp2
    go_ret
    exact ⟨ret_bool hrH.out, hb1⟩
  generalize xs.all chk = r at hcf ⊢
  cases r
  · go_enter Try.func26, Try.ntmps26
    go_wp2_with fail
    refine hcf.mono ?_
    rintro e w1 ⟨rfl, hb1⟩
    go_wp2
    go_ret
    exact ⟨rfl, hb1⟩
  · go_enter Try.func26, Try.ntmps26
    go_wp2_with fail
    refine hcf.mono ?_
    rintro e w1 ⟨rfl, hb1⟩
    go_wp2
    go_ret
    exact ⟨rfl, hb1⟩
end Go.Proofs.Ytpfohpfgfdeecaa
namespace Go.Proofs.Ytpfohpfgfdeecaa
open Go.RowKit


set_option maxRecDepth 100000 in
theorem check_any (A : Option Addr) (n c : Nat) (xs : List Im) (w : World) (hA : RdI w w.heap.size A n xs) (hn : n ≤ maxLen) (hx : ∀ x ∈ xs, x.wf) :
    Calls Try.prog 32 #[.slice A n c] w fun e w' => e = .returned (.int .i64 (lerr xs)) ∧ Below w.heap.size w w' := by
  have hnm := names_any A n c xs w hA hn hx
  have hl := hA.len
  unfold maxLen at hn
  generalize hr : lerr xs = r
  unfold lerr at hr
  rw [hl] at hr
  by_cases h64 : (64 : Int) < (n : Int)
  · have hrH := Lib.hid hr
    clear hr
    go_enter Try.func32, Try.ntmps32
    go_wp2
    go_ret
    exact ⟨ret_int (by rw [← hrH.out, if_pos (by omega)]), Below.refl _ _⟩
  rw [if_neg (by omega)] at hr
  generalize hc : xs.all chk = r2 at hnm hr
  clear hc
  cases r2
  · rw [show errI false = 2 from rfl] at hnm
    rw [if_pos rfl] at hr
    subst hr
    go_enter Try.func32, Try.ntmps32
    go_wp2_with fail
    refine hnm.mono ?_
    rintro e w1 ⟨rfl, hb1⟩
    go_wp2
    go_ret
    exact ⟨rfl, hb1⟩
  rw [show errI true = 0 from rfl] at hnm
  rw [if_neg (by simp)] at hr
  have hrH := Lib.hid hr
  clear hr
  go_enter Try.func32, Try.ntmps32
  go_wp2_with fail
  refine hnm.mono ?_
  rintro e w1 ⟨rfl, hb1⟩
  go_wp2_with fail
  go_loopg [4] (n + 1) (fun g i wr => ∃ m k : Nat, k = m + 1 ∧ m ≤ n ∧ g = n + 1 - m ∧ i = .int .i64 (k : Int) ∧ (∀ j x y, j < m → xs[j]? = some x → xs[j + 1]? = some y → cmpI x y < 0) ∧ Below w.heap.size w wr)
  case atStart => exact ⟨0, 1, rfl, Nat.zero_le _, rfl, rfl, by simp, hb1⟩
  case round =>
    obtain ⟨m, k, hkm, hm, rfl, rfl, hno, hbr⟩ := hrel
    have hz := hbr.size
    by_cases hlt : k < n
    · have hw : IntKind.i64.wrap ((k : Int) - 1) = (m : Int) := by rw [IntWalk.i64_in _ (by omega)]; omega
      have hmn : m < n := by omega
      obtain ⟨bA, oA, x, rfl, hbA, hp, hcp⟩ := (hA.below hbr).at_ hmn
      obtain ⟨bB, oB, y, he, _, hq, hcq⟩ := (hA.below hbr).at_ hlt
      obtain ⟨rfl, rfl⟩ : bA = bB ∧ oA = oB := by simpa using he
      clear he
      have p0 := hcp 0 _ rfl
      have p1 := hcp 1 _ rfl
      have q0 := hcq 0 _ rfl
      have q1 := hcq 1 _ rfl
      rw [Nat.add_zero] at p0 q0
      clear hcp hcq
      have hbA2 : bA < wr.heap.size := by omega
      have hcm := fun w' => cmp_any x y w'
      have hqs : xs[m + 1]? = some y := by rw [← hkm]; exact hq
      clear hq
      have hq := hqs
      clear hqs
      have hkH := Lib.hid hkm
      clear hkm
      have hnoH := Lib.hid hno
      have hpH := Lib.hid hp
      have hqH := Lib.hid hq
      clear hno hp hq
      have hq0 : KQ wr.heap.size wr wr := kq (Below.refl _ _)
      by_cases hge : 0 ≤ cmpI x y
      · have hT : Hid (3 = r) := Lib.hid (by
          rw [← hrH.out, if_neg]
          intro ha
          have := (ascB_iff xs).1 ha m x y hpH.out hqH.out
          omega)
        generalize cmpI x y = z at hcm hge
        have hcm := Lib.hid hcm
        go_wp2
        go_region_held3 (fun w' => KQ wr.heap.size wr w') (first
      | with_reducible exact kq_call (by assumption) (by simp) (by assumption)
      | with_reducible exact kq_grown (by assumption) (by simp) (by assumption) (by simp [Value.ownBlock])
      | ((with_reducible refine kq ?_); (repeat (first | (with_reducible exact Below.refl _ _) | (with_reducible refine Below.drew ?_) | (with_reducible refine Below.alloc ?_ (by simp) _) | (with_reducible refine Below.setCell ?_ (by simp) _) | (with_reducible exact (by assumption : KQ _ _ _).1))); done))
          (first | (go_at_call 31; refine (hcm.out _).mono ?_; rintro e w2 ⟨rfl, hb2⟩))
        have hF : KQ wr.heap.size wr w2 := by with_reducible assumption
        have hG : Below w.heap.size w w2 := hbr.trans (hF.1.mono hz)
        clear hF
        go_wp2
        go_ret
        exact ⟨ret_int hT.out, hG⟩
      · have hT : Hid (∀ j x y, j < m + 1 → xs[j]? = some x → xs[j + 1]? = some y → cmpI x y < 0) := Lib.hid (by
          intro j x' y' hj h1 h2
          rcases Nat.lt_succ_iff_lt_or_eq.1 hj with h | rfl
          · exact hnoH.out j x' y' h h1 h2
          · rw [hpH.out] at h1
            rw [hqH.out] at h2
            cases h1
            cases h2
            omega)
        generalize cmpI x y = z at hcm hge
        have hcm := Lib.hid hcm
        have hdz : decide (0 ≤ z) = false := by simpa using hge
        go_wp2
        go_region_held3 (fun w' => KQ wr.heap.size wr w') (first
      | with_reducible exact kq_call (by assumption) (by simp) (by assumption)
      | with_reducible exact kq_grown (by assumption) (by simp) (by assumption) (by simp [Value.ownBlock])
      | ((with_reducible refine kq ?_); (repeat (first | (with_reducible exact Below.refl _ _) | (with_reducible refine Below.drew ?_) | (with_reducible refine Below.alloc ?_ (by simp) _) | (with_reducible refine Below.setCell ?_ (by simp) _) | (with_reducible exact (by assumption : KQ _ _ _).1))); done))
          (first | (go_at_call 31; refine (hcm.out _).mono ?_; rintro e w2 ⟨rfl, hb2⟩))
        have hF : KQ wr.heap.size wr w2 := by with_reducible assumption
        have hG : Below w.heap.size w w2 := hbr.trans (hF.1.mono hz)
        clear hF
        go_wp2
        go_roundg (n + 1 - (m + 1))
        case measure => omega
        case rel => exact ⟨m + 1, k + 1, by rw [← hkH.out], by omega, rfl, by go_num, hT.out, hG⟩
    · have hT : Hid (0 = r) := Lib.hid (by
        rw [← hrH.out, if_pos]
        rw [ascB_iff]
        intro j x y h1 h2
        have := (List.getElem?_eq_some_iff.1 h2).1
        exact hno j x y (by omega) h1 h2)
      go_wp2
      go_ret
      exact ⟨ret_int hT.out, hbr⟩
end Go.Proofs.Ytpfohpfgfdeecaa
