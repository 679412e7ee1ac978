/- Names of transactions: what ident and the document's chapter 5 say of one, of two, of a list. Lists of names: too great to be asked, the same, made of names alone, in order. Sets of names: what is wrong with one (both checks), whether two lists are the same, a list of one's own. Sets of names: the document's check; whether two lists are the same; a list of one's own. Are two lists of names the same? Is a name in one? -/
import Derived.Test.YtfhandglpjnonaaGreatDoorRows
import Derived.Test.YtfhandglpjnonaaGreatDoorDef
import Derived.Deep.DeepCutAuto
import Derived.Deep.RegionHeld3
import Derived.Test.YtfhandglpjnonaaGreatDoorGb
import Derived.Deep.LoopGhost
import Derived.RegionTactic
namespace Go.Proofs.YtfhandglpjnonaaGreatDoor
open Go.RowKit

def Im.enc (x : Im) : List Value := [.int .i64 x.1, .int .u32 x.2]
theorem Im.len {xs : List Im} : ∀ x ∈ xs.map Im.enc, x.length = 2 := by
  intro x hx; obtain ⟨t, _, rfl⟩ := List.mem_map.1 hx; rfl
theorem Im.one {xs : List Im} : ∀ x ∈ xs.map Im.enc, ∀ u ∈ x, u.oneCell' = true := by
  intro x hx u hu; obtain ⟨t, _, rfl⟩ := List.mem_map.1 hx
  simp only [Im.enc, List.mem_cons, List.not_mem_nil, or_false] at hu
  rcases hu with rfl | rfl <;> rfl
/-- A list of names, read whole. -/
def RdI (w : World) (B : Nat) (A : Option Addr) (n : Nat) (xs : List Im) : Prop := Rd w B 2 A n (xs.map Im.enc)


theorem chk_any (x : Im) (hx : x.wf) (w : World) :
    Calls Tryz.prog 80 #[.agg #[.int .i64 x.1, .int .u32 x.2]] w fun e w' => e = .returned (.int .i64 (errI (chk x))) ∧ Below w.heap.size w w' := by
  obtain ⟨o, s⟩ := x
  obtain ⟨h0, hm⟩ := hx
  dsimp only at h0 hm ⊢
  by_cases h1 : o < 0
  · have hr : chk (o, s) = false := by simp [chk]; omega
    rw [hr]
    go_enter Tryz.func80, Tryz.ntmps80
    go_wp2
    go_ret
    exact ⟨rfl, (Below.refl _ _).alloc (Nat.le_refl _) _⟩
  by_cases h2 : 8 ≤ o
  · have hr : chk (o, s) = false := by simp [chk]; omega
    rw [hr]
    go_enter Tryz.func80, Tryz.ntmps80
    go_wp2
    go_ret
    exact ⟨rfl, (Below.refl _ _).alloc (Nat.le_refl _) _⟩
  by_cases h3 : s = 0
  · have hr : chk (o, s) = false := by simp [chk]; omega
    rw [hr]
    go_enter Tryz.func80, Tryz.ntmps80
    go_wp2
    go_ret
    exact ⟨rfl, (Below.refl _ _).alloc (Nat.le_refl _) _⟩
  by_cases h4 : 1048576 < s
  · have hr : chk (o, s) = false := by simp [chk]; omega
    rw [hr]
    go_enter Tryz.func80, Tryz.ntmps80
    go_wp2
    go_ret
    exact ⟨rfl, (Below.refl _ _).alloc (Nat.le_refl _) _⟩
  · have hr : chk (o, s) = true := by simp [chk]; omega
    rw [hr]
    go_enter Tryz.func80, Tryz.ntmps80
    go_wp2
    go_ret
    exact ⟨rfl, (Below.refl _ _).alloc (Nat.le_refl _) _⟩

theorem rchk_any (x : Im) (hx : x.wf) (w : World) :
    Calls Tryz.prog 34 #[.agg #[.int .i64 x.1, .int .u32 x.2]] w fun e w' => e = .returned (.int .i64 (errI (chk x))) ∧ Below w.heap.size w w' := by
  obtain ⟨o, s⟩ := x
  obtain ⟨h0, hm⟩ := hx
  dsimp only at h0 hm ⊢
  by_cases h1 : o < 0
  · have hr : chk (o, s) = false := by simp [chk]; omega
    rw [hr]
    go_enter Tryz.func34, Tryz.ntmps34
    go_wp2
    go_ret
    exact ⟨rfl, (Below.refl _ _).alloc (Nat.le_refl _) _⟩
  by_cases h2 : 7 < o
  · have hr : chk (o, s) = false := by simp [chk]; omega
    rw [hr]
    go_enter Tryz.func34, Tryz.ntmps34
    go_wp2
    go_ret
    exact ⟨rfl, (Below.refl _ _).alloc (Nat.le_refl _) _⟩
  by_cases h3 : s < 1
  · have hr : chk (o, s) = false := by simp [chk]; omega
    rw [hr]
    go_enter Tryz.func34, Tryz.ntmps34
    go_wp2
    go_ret
    exact ⟨rfl, (Below.refl _ _).alloc (Nat.le_refl _) _⟩
  by_cases h4 : 1048576 < s
  · have hr : chk (o, s) = false := by simp [chk]; omega
    rw [hr]
    go_enter Tryz.func34, Tryz.ntmps34
    go_wp2
    go_ret
    exact ⟨rfl, (Below.refl _ _).alloc (Nat.le_refl _) _⟩
  · have hr : chk (o, s) = true := by simp [chk]; omega
    rw [hr]
    go_enter Tryz.func34, Tryz.ntmps34
    go_wp2
    go_ret
    exact ⟨rfl, (Below.refl _ _).alloc (Nat.le_refl _) _⟩

theorem order_any (a b : Int) (w : World) :
    Calls Tryz.prog 145 #[.int .i64 a, .int .i64 b] w fun e w' => e = .returned (.int .i64 (ordI a b)) ∧ w' = w := by
  by_cases h1 : a < b
  · go_enter Tryz.func145, Tryz.ntmps145
    go_wp2
    go_ret
    exact ⟨ret_int (by unfold ordI; (repeat' split) <;> omega), rfl⟩
  by_cases h2 : b < a
  · go_enter Tryz.func145, Tryz.ntmps145
    go_wp2
    go_ret
    exact ⟨ret_int (by unfold ordI; (repeat' split) <;> omega), rfl⟩
  · go_enter Tryz.func145, Tryz.ntmps145
    go_wp2
    go_ret
    exact ⟨ret_int (by unfold ordI; (repeat' split) <;> omega), rfl⟩
theorem nan_any (a : Int) (w : World) : Calls Tryz.prog 174 #[.int .i64 a] w fun e w' => e = .returned (.bool false) ∧ w' = w := by
  go_enter Tryz.func174, Tryz.ntmps174
  go_wp2
  go_ret
  exact ⟨rfl, rfl⟩
theorem nanu_any (a : Int) (w : World) : Calls Tryz.prog 179 #[.int .u32 a] w fun e w' => e = .returned (.bool false) ∧ w' = w := by
  go_enter Tryz.func179, Tryz.ntmps179
  go_wp2
  go_ret
  exact ⟨rfl, rfl⟩
theorem ccmp_any (a b : Int) (w : World) :
    Calls Tryz.prog 168 #[.int .i64 a, .int .i64 b] w fun e w' => e = .returned (.int .i64 (ordI a b)) ∧ w' = w := by
  by_cases h1 : a < b
  · go_enter Tryz.func168, Tryz.ntmps168
    go_wp2_with (go_at_call 174; refine (nan_any _ _).mono ?_; rintro e w' ⟨rfl, rfl⟩)
    go_ret
    exact ⟨ret_int (by unfold ordI; (repeat' split) <;> omega), rfl⟩
  by_cases h2 : b < a
  · go_enter Tryz.func168, Tryz.ntmps168
    go_wp2_with (go_at_call 174; refine (nan_any _ _).mono ?_; rintro e w' ⟨rfl, rfl⟩)
    go_ret
    exact ⟨ret_int (by unfold ordI; (repeat' split) <;> omega), rfl⟩
  · go_enter Tryz.func168, Tryz.ntmps168
    go_wp2_with (go_at_call 174; refine (nan_any _ _).mono ?_; rintro e w' ⟨rfl, rfl⟩)
    go_ret
    exact ⟨ret_int (by unfold ordI; (repeat' split) <;> omega), rfl⟩
theorem ccmpu_any (a b : Int) (w : World) :
    Calls Tryz.prog 173 #[.int .u32 a, .int .u32 b] w fun e w' => e = .returned (.int .i64 (ordI a b)) ∧ w' = w := by
  by_cases h1 : a < b
  · go_enter Tryz.func173, Tryz.ntmps173
    go_wp2_with (go_at_call 179; refine (nanu_any _ _).mono ?_; rintro e w' ⟨rfl, rfl⟩)
    go_ret
    exact ⟨ret_int (by unfold ordI; (repeat' split) <;> omega), rfl⟩
  by_cases h2 : b < a
  · go_enter Tryz.func173, Tryz.ntmps173
    go_wp2_with (go_at_call 179; refine (nanu_any _ _).mono ?_; rintro e w' ⟨rfl, rfl⟩)
    go_ret
    exact ⟨ret_int (by unfold ordI; (repeat' split) <;> omega), rfl⟩
  · go_enter Tryz.func173, Tryz.ntmps173
    go_wp2_with (go_at_call 179; refine (nanu_any _ _).mono ?_; rintro e w' ⟨rfl, rfl⟩)
    go_ret
    exact ⟨ret_int (by unfold ordI; (repeat' split) <;> omega), rfl⟩
theorem or_any (g : Nat) (p q : Int) (w : World) (hg : g < w.heap.size) (h0 : w.cell? ⟨g, 0, none⟩ = some (.int .i64 p)) (h1 : w.cell? ⟨g, 1, none⟩ = some (.int .i64 q)) :
    Calls Tryz.prog 166 #[.slice (some ⟨g, 0, none⟩) 2 2] w fun e w' => e = .returned (.int .i64 (if p ≠ 0 then p else q)) ∧ w' = w := by
  generalize hr : (if p ≠ 0 then p else q) = r
  have hrH := Lib.hid hr
  clear hr
  go_enter Tryz.func166, Tryz.ntmps166
  go_wp2
  go_loopg [8] 3 (fun g' i wr => ∃ k : Nat, k ≤ 2 ∧ g' = 3 - k ∧ i = .int .i64 k ∧ wr = w ∧ (1 ≤ k → p = 0) ∧ (2 ≤ k → q = 0))
  case atStart => exact ⟨0, by omega, rfl, rfl, rfl, by omega, by omega⟩
  case round =>
    obtain ⟨k, hk, rfl, rfl, rfl, hp, hq⟩ := hrel
    obtain rfl | rfl | rfl : k = 0 ∨ k = 1 ∨ k = 2 := by omega
    · by_cases h : p = 0
      · subst h
        go_wp2
        go_roundg 2
        case measure => omega
        case rel => exact ⟨1, by omega, rfl, by go_num, rfl, fun _ => (by first | trivial | rfl), by omega⟩
      · have hT := Lib.hid h
        have hd : (p == 0) = false := by simpa using h
        go_wp2
        go_ret
        exact ⟨ret_int (by rw [← hrH.out, if_pos hT.out]), rfl⟩
    · have hp' := Lib.hid (hp (by omega))
      clear hp
      by_cases h : q = 0
      · subst h
        go_wp2
        go_roundg 1
        case measure => omega
        case rel => exact ⟨2, by omega, rfl, by go_num, rfl, fun _ => hp'.out, fun _ => (by first | trivial | rfl)⟩
      · have hd : (q == 0) = false := by simpa using h
        go_wp2
        go_ret
        exact ⟨ret_int (by rw [← hrH.out, if_neg (by simp [hp'.out])]), rfl⟩
    · have hp' := Lib.hid (hp (by omega))
      have hq' := Lib.hid (hq (by omega))
      clear hp hq
      go_wp2
      go_ret
      exact ⟨ret_int (by rw [← hrH.out, if_neg (by simp [hp'.out])]; exact hq'.out.symm), rfl⟩
theorem rcmp_any (x y : Im) (hx : x.wf) (hy : y.wf) (w : World) :
    Calls Tryz.prog 144 #[.agg #[.int .i64 x.1, .int .u32 x.2], .agg #[.int .i64 y.1, .int .u32 y.2]] w fun e w' => e = .returned (.int .i64 (cmpI x y)) ∧ Below w.heap.size w w' := by
  obtain ⟨a, s⟩ := x
  obtain ⟨b, t⟩ := y
  obtain ⟨h0, h1⟩ := hx
  obtain ⟨h2, h3⟩ := hy
  generalize hr : cmpI (a, s) (b, t) = r
  rw [cmpI_ord] at hr
  dsimp only at h0 h1 h2 h3 hr ⊢
  have hrH := Lib.hid hr
  clear hr
  by_cases h : a = b
  · subst h
    go_enter Tryz.func144, Tryz.ntmps144
    go_wp2_with (go_at_call 145; refine (order_any s t _).mono ?_; rintro e w' ⟨rfl, rfl⟩)
    go_ret
    exact ⟨ret_int (by rw [← hrH.out]; simp [ordI]), ((Below.refl _ _).alloc (Nat.le_refl _) _).alloc (by simp) _⟩
  · have hT := Lib.hid h
    have hd : (a == b) = false := by simpa using h
    go_enter Tryz.func144, Tryz.ntmps144
    go_wp2_with (go_at_call 145; refine (order_any a b _).mono ?_; rintro e w' ⟨rfl, rfl⟩)
    go_ret
    exact ⟨ret_int (by rw [← hrH.out, if_pos]; have := hT.out; unfold ordI; (repeat' split) <;> omega), ((Below.refl _ _).alloc (Nat.le_refl _) _).alloc (by simp) _⟩
set_option maxRecDepth 100000 in
theorem cmp_any (x y : Im) (w : World) :
    Calls Tryz.prog 167 #[.agg #[.int .i64 x.1, .int .u32 x.2], .agg #[.int .i64 y.1, .int .u32 y.2]] w fun e w' => e = .returned (.int .i64 (cmpI x y)) ∧ Below w.heap.size w w' := by
  generalize hr : cmpI x y = r
  rw [cmpI_ord] at hr
  have hc1 := ccmp_any x.1 y.1
  have hc2 := ccmpu_any x.2 y.2
  have ho := or_any
  generalize ordI x.1 y.1 = p at *
  generalize ordI x.2 y.2 = q at *
  have hc1 := Lib.hid hc1
  have hc2 := Lib.hid hc2
  have ho := Lib.hid (fun g w h0 h1 h2 => hr ▸ ho g p q w h0 h1 h2)
  clear hr
  go_enter Tryz.func167, Tryz.ntmps167
  go_wp2
  go_region_held3 (fun w' => KQ (w.heap.size + 2) ((w.alloc (.cells #[.int .i64 x.1, .int .u32 x.2] 24)).alloc (.cells #[.int .i64 y.1, .int .u32 y.2] 24)) w') (first
      | with_reducible exact kq_call (by assumption) (by simp) (by assumption)
      | with_reducible exact kq_grown (by assumption) (by simp) (by assumption) (by simp [Value.ownBlock])
      | ((with_reducible refine kq ?_); (repeat (first | (with_reducible exact Below.refl _ _) | (with_reducible refine Below.drew ?_) | (with_reducible refine Below.alloc ?_ (by simp) _) | (with_reducible refine Below.setCell ?_ (by simp) _) | (with_reducible exact (by assumption : KQ _ _ _).1))); done))
    (first
      | (go_at_call 168; refine (hc1.out _).mono ?_; rintro e w1 ⟨rfl, rfl⟩)
      | (go_at_call 173; refine (hc2.out _).mono ?_; rintro e w1 ⟨rfl, rfl⟩)
      | (go_at_call 166; refine (ho.out _ _ (by simp) (blk_cell (heap_drew (heap_at _ _ (by simp))) 0) (blk_cell (heap_drew (heap_at _ _ (by simp))) 1)).mono ?_; rintro e w1 ⟨rfl, rfl⟩))
  go_wp2
  go_ret
  exact ⟨rfl, ((((Below.refl _ w).alloc (Nat.le_refl _) _).alloc (by simp) _).alloc (by simp; omega) _).drew⟩
end Go.Proofs.YtfhandglpjnonaaGreatDoor
namespace Go.Proofs.YtfhandglpjnonaaGreatDoor
open Go.RowKit

theorem RdI.below {w w' : World} {B n : Nat} {A : Option Addr} {xs : List Im} (h : RdI w B A n xs) (hb : Below B w w') : RdI w' B A n xs := Rd.below h hb
theorem RdI.more {w : World} {B B' n : Nat} {A : Option Addr} {xs : List Im} (h : RdI w B A n xs) (hb : B ≤ B') : RdI w B' A n xs := Rd.more h hb
theorem RdI.len {w : World} {B n : Nat} {A : Option Addr} {xs : List Im} (h : RdI w B A n xs) : xs.length = n := by simpa using h.1
end Go.Proofs.YtfhandglpjnonaaGreatDoor
namespace Go.Proofs.YtfhandglpjnonaaGreatDoor
open Go.RowKit


end Go.Proofs.YtfhandglpjnonaaGreatDoor
namespace Go.Proofs.YtfhandglpjnonaaGreatDoor
open Go.RowKit

theorem infoId : (Tryz.prog.info? 24).map (fun i => (i.zero, i.size, i.bytes)) = some (some (.agg #[.int .i64 0, .int .u32 0]), 2, 16) := by kernel_rfl
end Go.Proofs.YtfhandglpjnonaaGreatDoor
namespace Go.Proofs.YtfhandglpjnonaaGreatDoor
open Go.RowKit

end Go.Proofs.YtfhandglpjnonaaGreatDoor
