/- Plain words on numbers in bytes and on readers (no program in sight). octet.Num, the document's Num: a number's bytes. The document's Num. Names of transactions: what ident and the document's chapter 5 say of one, of two, of a list. Lists of names: too great to be asked, the same, made of names alone, in order. Sets of names: what is wrong with one (both checks), whether two lists are the same, a list of one's own. Sets of names: the document's check; whether two lists are the same; a list of one's own. Are two lists of names the same? Is a name in one? ident.Write and the document's: a name's bytes. dots.Write and the document's: a set's bytes. -/
import Derived.WalkKit
import Derived.Lib.Hide
import Derived.Test.YtffnpfponnhddaaGreatRows
import Derived.Deep.DeepCutAuto
import Derived.Deep.RegionHeld3
import Derived.Test.YtffnpfponnhddaaGreatGb
import Derived.Test.YtffnpfponnhddaaGreatGc
import Derived.Laws.IdiomStrings
import Derived.Deep.LoopGhost
import Derived.IntWalk
import Derived.Test.YtffnpfponnhddaaGreatDef
import Derived.RegionTactic
namespace Go.Proofs.YtffnpfponnhddaaGreat
open Go.RowKit

/-- A text of these bytes. -/
def bs (l : List UInt8) : ByteArray := ⟨l.toArray⟩
theorem bs_list (l : List UInt8) : (bs l).data.toList = l := rfl
theorem bs_size (l : List UInt8) : (bs l).size = l.length := by simp [bs, ByteArray.size]
theorem bs_append (l m : List UInt8) : bs l ++ bs m = bs (l ++ m) := by
  apply ByteArray.ext
  simp [bs, ByteArray.data_append]
theorem bs_of (s : ByteArray) : bs s.data.toList = s := by
  apply ByteArray.ext
  simp [bs]
theorem bs_inj {l m : List UInt8} : bs l = bs m ↔ l = m := by
  constructor
  · intro h
    have := congrArg (fun s : ByteArray => s.data.toList) h
    simpa [bs] using this
  · rintro rfl; rfl
theorem bs_nil : bs [] = ⟨#[]⟩ := rfl

/-- A number's digits to the base 256, the greatest first. -/
def beD (v : Nat) : List UInt8 := if v = 0 then [] else beD (v / 256) ++ [UInt8.ofNat (v % 256)]
termination_by v
decreasing_by omega
theorem beD_zero : beD 0 = [] := by rw [beD]; rfl
theorem beD_pos {v : Nat} (h : v ≠ 0) : beD v = beD (v / 256) ++ [UInt8.ofNat (v % 256)] := by rw [beD, if_neg h]
/-- A number's bytes. -/
def numB (v : Nat) : List UInt8 := UInt8.ofNat (beD v).length :: beD v
theorem beD_len : ∀ (k v : Nat), v < 256 ^ k → (beD v).length ≤ k
  | 0, v, h => by
    have : v = 0 := by simpa using h
    subst this; rw [beD_zero]; exact Nat.le_refl _
  | k + 1, v, h => by
    by_cases h0 : v = 0
    · subst h0; rw [beD_zero]; exact Nat.zero_le _
    · rw [beD_pos h0, List.length_append]
      have := beD_len k (v / 256) (by rw [Nat.pow_succ] at h; omega)
      simpa using this
theorem numB_len (v : Nat) (h : v < 18446744073709551616) : (numB v).length ≤ 9 := by
  have := beD_len 8 v (by simpa using h)
  simp [numB]; omega
/-- The value of digits. -/
def beV (l : List UInt8) : Nat := l.foldl (fun v c => v * 256 + c.toNat) 0
theorem beV_snoc (l : List UInt8) (c : UInt8) : beV (l ++ [c]) = beV l * 256 + c.toNat := by simp [beV]
theorem beV_beD (v : Nat) : beV (beD v) = v := by
  induction v using Nat.strongRecOn with
  | _ v ih =>
    by_cases h : v = 0
    · subst h; rw [beD_zero]; rfl
    · rw [beD_pos h, beV_snoc, ih _ (by omega)]
      simp
      omega
theorem beV_lt : ∀ (l : List UInt8), beV l < 256 ^ l.length := by
  intro l
  rw [← List.reverse_reverse l]
  induction l.reverse with
  | nil => simp [beV]
  | cons c r ih =>
    rw [List.reverse_cons, beV_snoc, List.length_append, List.length_singleton, Nat.pow_succ]
    have := c.toNat_lt
    omega

/-- The number at the front of bytes, how many bytes it has, what is wrong. -/
def numR : List UInt8 → Nat × Nat × Int
  | [] => (0, 0, 1)
  | c :: r => if 8 < c.toNat then (0, 0, 3) else if r.length < c.toNat then (0, 0, 1) else if 0 < c.toNat ∧ r.head? = some 0 then (0, 0, 3) else (beV (r.take c.toNat), 1 + c.toNat, 0)
/-- A reader: its bytes, its place, what was wrong first (e: 0, nothing), where. -/
structure Rs where
  l : List UInt8
  a : Nat
  fa : Int
  fe : Int
def Rs.wf (S : Rs) : Prop := S.a ≤ S.l.length ∧ S.l.length ≤ 1099511627776 ∧ 0 ≤ S.fa ∧ S.fa ≤ 1099511627776 ∧ (S.fe = 0 → S.fa = 0)
def failS (S : Rs) (e : Int) : Rs := if S.fe = 0 ∧ e ≠ 0 then { S with fa := S.a, fe := e } else S
/-- The next number, if it is right. -/
def nextS (right : Nat → Int) (S : Rs) : Nat × Rs :=
  if S.fe ≠ 0 then (0, S) else
    let r := numR (S.l.drop S.a)
    let e := if r.2.2 = 0 then right r.1 else r.2.2
    if e ≠ 0 then (0, failS S e) else (r.1, { S with a := S.a + r.2.1 })
def numS (S : Rs) : Nat × Rs := nextS (fun _ => 0) S
def intS (m : Nat) (S : Rs) : Nat × Rs := nextS (fun v => if m < v then 2 else 0) S
def textS (m : Nat) (S : Rs) : List UInt8 × Rs :=
  let r := intS m S
  if r.2.fe ≠ 0 then ([], r.2) else if r.2.l.length - r.2.a < r.1 then ([], failS { r.2 with a := S.a } 1) else ((r.2.l.drop r.2.a).take r.1, { r.2 with a := r.2.a + r.1 })
theorem numR_some {l : List UInt8} {v n : Nat} {e : Int} (h : numR l = (v, n, e)) : (e ≠ 0 → v = 0 ∧ n = 0 ∧ (e = 1 ∨ e = 3)) ∧ (e = 0 → n ≤ l.length ∧ 1 ≤ n ∧ n ≤ 9 ∧ v < 18446744073709551616) := by
  unfold numR at h
  cases l with
  | nil => simp at h; obtain ⟨rfl, rfl, rfl⟩ := h; simp
  | cons c r =>
    simp only at h
    split at h
    · simp at h; obtain ⟨rfl, rfl, rfl⟩ := h; simp
    · split at h
      · simp at h; obtain ⟨rfl, rfl, rfl⟩ := h; simp
      · split at h
        · simp at h; obtain ⟨rfl, rfl, rfl⟩ := h; simp
        · simp at h; obtain ⟨rfl, rfl, rfl⟩ := h
          refine ⟨by simp, fun _ => ⟨by simp; omega, by omega, by omega, ?_⟩⟩
          have h1 := beV_lt (r.take c.toNat)
          have h2 : 256 ^ (r.take c.toNat).length ≤ 256 ^ 8 := Nat.pow_le_pow_right (by decide) (by rw [List.length_take]; omega)
          omega
end Go.Proofs.YtffnpfponnhddaaGreat
namespace Go.Proofs.YtffnpfponnhddaaGreat
open Go.RowKit

theorem ret_str {a b : ByteArray} (h : a = b) : Ending.returned (.string a) = .returned (.string b) := by rw [h]
/-- Bytes as cells. -/
abbrev byC (l : List UInt8) : List Value := l.map fun c => Value.int .u8 (c.toNat : Int)
def numC (m : Nat) (t : List UInt8) : Array Value := (List.replicate (m + 1) (Value.int .u8 0) ++ byC t).toArray
theorem numC_set {m : Nat} {t : List UInt8} (c : UInt8) : (numC (m + 1) t).setIfInBounds (m + 1) (.int .u8 (c.toNat : Int)) = numC m (c :: t) := by
  unfold numC
  rw [List.replicate_succ']
  simp
theorem numC_last {m : Nat} {t : List UInt8} (c : UInt8) : (numC m t).setIfInBounds m (.int .u8 (c.toNat : Int)) = (List.replicate m (Value.int .u8 0) ++ byC (c :: t)).toArray := by
  unfold numC
  rw [List.replicate_succ']
  simp
theorem numC_at {m : Nat} {t : List UInt8} : (numC m t)[m]? = some (.int .u8 0) := by
  unfold numC
  simp only [List.getElem?_toArray]
  rw [List.getElem?_append_left (by simp)]
  simp

end Go.Proofs.YtffnpfponnhddaaGreat
namespace Go.Proofs.YtffnpfponnhddaaGreat
open Go.RowKit

theorem infoU8 : (Tryz.prog.info? 5).map (fun i => (i.zero, i.size, i.bytes)) = some (some (.int .u8 0), 1, 1) := by kernel_rfl
/-- A row of one element, built anew. -/
theorem Ow.built1 (w : World) {base : Nat} (e : TypeId) (u : Value) (hb : base ≤ w.heap.size) : Ow (w.alloc (.cells #[u] e)) base e 1 (.slice (some ⟨w.heap.size, 0, none⟩) 1 1) [[u]] :=
  ⟨by simp, by simp, .inr ⟨w.heap.size, 1, #[u], rfl, hb, heap_at _ _ rfl, Nat.le_refl _, by decide, rfl, rfl⟩⟩
/-- Bytes as elements of one cell each. -/
abbrev byE (l : List UInt8) : List (List Value) := l.map fun c => [Value.int .u8 (c.toNat : Int)]
theorem byE_len {l : List UInt8} : ∀ y ∈ byE l, y.length = 1 := by simp
theorem byE_one {l : List UInt8} : ∀ y ∈ byE l, ∀ u ∈ y, u.oneCell' = true := by simp [Value.oneCell']

end Go.Proofs.YtffnpfponnhddaaGreat
namespace Go.Proofs.YtffnpfponnhddaaGreat
open Go.RowKit

def Im.enc (x : Im) : List Value := [.int .i64 x.1, .int .u32 x.2]
theorem Im.len {xs : List Im} : ∀ x ∈ xs.map Im.enc, x.length = 2 := by
  intro x hx; obtain ⟨t, _, rfl⟩ := List.mem_map.1 hx; rfl
theorem Im.one {xs : List Im} : ∀ x ∈ xs.map Im.enc, ∀ u ∈ x, u.oneCell' = true := by
  intro x hx u hu; obtain ⟨t, _, rfl⟩ := List.mem_map.1 hx
  simp only [Im.enc, List.mem_cons, List.not_mem_nil, or_false] at hu
  rcases hu with rfl | rfl <;> rfl
/-- A list of names, read whole. -/
def RdI (w : World) (B : Nat) (A : Option Addr) (n : Nat) (xs : List Im) : Prop := Rd w B 2 A n (xs.map Im.enc)


theorem chk_any (x : Im) (hx : x.wf) (w : World) :
    Calls Tryz.prog 99 #[.agg #[.int .i64 x.1, .int .u32 x.2]] w fun e w' => e = .returned (.int .i64 (errI (chk x))) ∧ Below w.heap.size w w' := by
  obtain ⟨o, s⟩ := x
  obtain ⟨h0, hm⟩ := hx
  dsimp only at h0 hm ⊢
  by_cases h1 : o < 0
  · have hr : chk (o, s) = false := by simp [chk]; omega
    rw [hr]
    go_enter Tryz.func99, Tryz.ntmps99
    go_wp2
    go_ret
    exact ⟨rfl, (Below.refl _ _).alloc (Nat.le_refl _) _⟩
  by_cases h2 : 8 ≤ o
  · have hr : chk (o, s) = false := by simp [chk]; omega
    rw [hr]
    go_enter Tryz.func99, Tryz.ntmps99
    go_wp2
    go_ret
    exact ⟨rfl, (Below.refl _ _).alloc (Nat.le_refl _) _⟩
  by_cases h3 : s = 0
  · have hr : chk (o, s) = false := by simp [chk]; omega
    rw [hr]
    go_enter Tryz.func99, Tryz.ntmps99
    go_wp2
    go_ret
    exact ⟨rfl, (Below.refl _ _).alloc (Nat.le_refl _) _⟩
  by_cases h4 : 1048576 < s
  · have hr : chk (o, s) = false := by simp [chk]; omega
    rw [hr]
    go_enter Tryz.func99, Tryz.ntmps99
    go_wp2
    go_ret
    exact ⟨rfl, (Below.refl _ _).alloc (Nat.le_refl _) _⟩
  · have hr : chk (o, s) = true := by simp [chk]; omega
    rw [hr]
    go_enter Tryz.func99, Tryz.ntmps99
    go_wp2
    go_ret
    exact ⟨rfl, (Below.refl _ _).alloc (Nat.le_refl _) _⟩

theorem nan_any (a : Int) (w : World) : Calls Tryz.prog 135 #[.int .i64 a] w fun e w' => e = .returned (.bool false) ∧ w' = w := by
  go_enter Tryz.func135, Tryz.ntmps135
  go_wp2
  go_ret
  exact ⟨rfl, rfl⟩
theorem nanu_any (a : Int) (w : World) : Calls Tryz.prog 152 #[.int .u32 a] w fun e w' => e = .returned (.bool false) ∧ w' = w := by
  go_enter Tryz.func152, Tryz.ntmps152
  go_wp2
  go_ret
  exact ⟨rfl, rfl⟩
theorem ccmp_any (a b : Int) (w : World) :
    Calls Tryz.prog 104 #[.int .i64 a, .int .i64 b] w fun e w' => e = .returned (.int .i64 (ordI a b)) ∧ w' = w := by
  by_cases h1 : a < b
  · go_enter Tryz.func104, Tryz.ntmps104
    go_wp2_with (go_at_call 135; refine (nan_any _ _).mono ?_; rintro e w' ⟨rfl, rfl⟩)
    go_ret
    exact ⟨ret_int (by unfold ordI; (repeat' split) <;> omega), rfl⟩
  by_cases h2 : b < a
  · go_enter Tryz.func104, Tryz.ntmps104
    go_wp2_with (go_at_call 135; refine (nan_any _ _).mono ?_; rintro e w' ⟨rfl, rfl⟩)
    go_ret
    exact ⟨ret_int (by unfold ordI; (repeat' split) <;> omega), rfl⟩
  · go_enter Tryz.func104, Tryz.ntmps104
    go_wp2_with (go_at_call 135; refine (nan_any _ _).mono ?_; rintro e w' ⟨rfl, rfl⟩)
    go_ret
    exact ⟨ret_int (by unfold ordI; (repeat' split) <;> omega), rfl⟩
theorem ccmpu_any (a b : Int) (w : World) :
    Calls Tryz.prog 126 #[.int .u32 a, .int .u32 b] w fun e w' => e = .returned (.int .i64 (ordI a b)) ∧ w' = w := by
  by_cases h1 : a < b
  · go_enter Tryz.func126, Tryz.ntmps126
    go_wp2_with (go_at_call 152; refine (nanu_any _ _).mono ?_; rintro e w' ⟨rfl, rfl⟩)
    go_ret
    exact ⟨ret_int (by unfold ordI; (repeat' split) <;> omega), rfl⟩
  by_cases h2 : b < a
  · go_enter Tryz.func126, Tryz.ntmps126
    go_wp2_with (go_at_call 152; refine (nanu_any _ _).mono ?_; rintro e w' ⟨rfl, rfl⟩)
    go_ret
    exact ⟨ret_int (by unfold ordI; (repeat' split) <;> omega), rfl⟩
  · go_enter Tryz.func126, Tryz.ntmps126
    go_wp2_with (go_at_call 152; refine (nanu_any _ _).mono ?_; rintro e w' ⟨rfl, rfl⟩)
    go_ret
    exact ⟨ret_int (by unfold ordI; (repeat' split) <;> omega), rfl⟩
theorem or_any (g : Nat) (p q : Int) (w : World) (hg : g < w.heap.size) (h0 : w.cell? ⟨g, 0, none⟩ = some (.int .i64 p)) (h1 : w.cell? ⟨g, 1, none⟩ = some (.int .i64 q)) :
    Calls Tryz.prog 95 #[.slice (some ⟨g, 0, none⟩) 2 2] w fun e w' => e = .returned (.int .i64 (if p ≠ 0 then p else q)) ∧ w' = w := by
  generalize hr : (if p ≠ 0 then p else q) = r
  have hrH := Lib.hid hr
  clear hr
  go_enter Tryz.func95, Tryz.ntmps95
  go_wp2
  go_loopg [8] 3 (fun g' i wr => ∃ k : Nat, k ≤ 2 ∧ g' = 3 - k ∧ i = .int .i64 k ∧ wr = w ∧ (1 ≤ k → p = 0) ∧ (2 ≤ k → q = 0))
  case atStart => exact ⟨0, by omega, rfl, rfl, rfl, by omega, by omega⟩
  case round =>
    obtain ⟨k, hk, rfl, rfl, rfl, hp, hq⟩ := hrel
    obtain rfl | rfl | rfl : k = 0 ∨ k = 1 ∨ k = 2 := by omega
    · by_cases h : p = 0
      · subst h
        go_wp2
        go_roundg 2
        case measure => omega
        case rel => exact ⟨1, by omega, rfl, by go_num, rfl, fun _ => (by first | trivial | rfl), by omega⟩
      · have hT := Lib.hid h
        have hd : (p == 0) = false := by simpa using h
        go_wp2
        go_ret
        exact ⟨ret_int (by rw [← hrH.out, if_pos hT.out]), rfl⟩
    · have hp' := Lib.hid (hp (by omega))
      clear hp
      by_cases h : q = 0
      · subst h
        go_wp2
        go_roundg 1
        case measure => omega
        case rel => exact ⟨2, by omega, rfl, by go_num, rfl, fun _ => hp'.out, fun _ => (by first | trivial | rfl)⟩
      · have hd : (q == 0) = false := by simpa using h
        go_wp2
        go_ret
        exact ⟨ret_int (by rw [← hrH.out, if_neg (by simp [hp'.out])]), rfl⟩
    · have hp' := Lib.hid (hp (by omega))
      have hq' := Lib.hid (hq (by omega))
      clear hp hq
      go_wp2
      go_ret
      exact ⟨ret_int (by rw [← hrH.out, if_neg (by simp [hp'.out])]; exact hq'.out.symm), rfl⟩
set_option maxRecDepth 100000 in
theorem cmp_any (x y : Im) (w : World) :
    Calls Tryz.prog 103 #[.agg #[.int .i64 x.1, .int .u32 x.2], .agg #[.int .i64 y.1, .int .u32 y.2]] w fun e w' => e = .returned (.int .i64 (cmpI x y)) ∧ Below w.heap.size w w' := by
  generalize hr : cmpI x y = r
  rw [cmpI_ord] at hr
  have hc1 := ccmp_any x.1 y.1
  have hc2 := ccmpu_any x.2 y.2
  have ho := or_any
  generalize ordI x.1 y.1 = p at *
  generalize ordI x.2 y.2 = q at *
  have hc1 := Lib.hid hc1
  have hc2 := Lib.hid hc2
  have ho := Lib.hid (fun g w h0 h1 h2 => hr ▸ ho g p q w h0 h1 h2)
  clear hr
  go_enter Tryz.func103, Tryz.ntmps103
  go_wp2
  go_region_held3 (fun w' => KQ (w.heap.size + 2) ((w.alloc (.cells #[.int .i64 x.1, .int .u32 x.2] 43)).alloc (.cells #[.int .i64 y.1, .int .u32 y.2] 43)) w') (first
      | with_reducible exact kq_call (by assumption) (by simp) (by assumption)
      | with_reducible exact kq_grown (by assumption) (by simp) (by assumption) (by simp [Value.ownBlock])
      | ((with_reducible refine kq ?_); (repeat (first | (with_reducible exact Below.refl _ _) | (with_reducible refine Below.drew ?_) | (with_reducible refine Below.alloc ?_ (by simp) _) | (with_reducible refine Below.setCell ?_ (by simp) _) | (with_reducible exact (by assumption : KQ _ _ _).1))); done))
    (first
      | (go_at_call 104; refine (hc1.out _).mono ?_; rintro e w1 ⟨rfl, rfl⟩)
      | (go_at_call 126; refine (hc2.out _).mono ?_; rintro e w1 ⟨rfl, rfl⟩)
      | (go_at_call 95; refine (ho.out _ _ (by simp) (blk_cell (heap_drew (heap_at _ _ (by simp))) 0) (blk_cell (heap_drew (heap_at _ _ (by simp))) 1)).mono ?_; rintro e w1 ⟨rfl, rfl⟩))
  go_wp2
  go_ret
  exact ⟨rfl, ((((Below.refl _ w).alloc (Nat.le_refl _) _).alloc (by simp) _).alloc (by simp; omega) _).drew⟩
end Go.Proofs.YtffnpfponnhddaaGreat
namespace Go.Proofs.YtffnpfponnhddaaGreat
open Go.RowKit

theorem RdI.below {w w' : World} {B n : Nat} {A : Option Addr} {xs : List Im} (h : RdI w B A n xs) (hb : Below B w w') : RdI w' B A n xs := Rd.below h hb
theorem RdI.more {w : World} {B B' n : Nat} {A : Option Addr} {xs : List Im} (h : RdI w B A n xs) (hb : B ≤ B') : RdI w B' A n xs := Rd.more h hb
theorem RdI.len {w : World} {B n : Nat} {A : Option Addr} {xs : List Im} (h : RdI w B A n xs) : xs.length = n := by simpa using h.1
end Go.Proofs.YtffnpfponnhddaaGreat
namespace Go.Proofs.YtffnpfponnhddaaGreat
open Go.RowKit


end Go.Proofs.YtffnpfponnhddaaGreat
namespace Go.Proofs.YtffnpfponnhddaaGreat
open Go.RowKit

theorem infoId : (Tryz.prog.info? 43).map (fun i => (i.zero, i.size, i.bytes)) = some (some (.agg #[.int .i64 0, .int .u32 0]), 2, 16) := by kernel_rfl
end Go.Proofs.YtffnpfponnhddaaGreat
namespace Go.Proofs.YtffnpfponnhddaaGreat
open Go.RowKit

end Go.Proofs.YtffnpfponnhddaaGreat
namespace Go.Proofs.YtffnpfponnhddaaGreat
open Go.RowKit

/-- A name's bytes. -/
def writeI (x : Im) : List UInt8 := if chk x then numB x.1.toNat ++ numB x.2.toNat else []
end Go.Proofs.YtffnpfponnhddaaGreat
namespace Go.Proofs.YtffnpfponnhddaaGreat
open Go.RowKit

theorem val_str {a b : ByteArray} (h : a = b) : Value.string a = .string b := by rw [h]
/-- A set's bytes. -/
def writeD (xs : List Im) : List UInt8 := if lerr xs ≠ 0 then [] else numB xs.length ++ (xs.map writeI).flatten
/-- The first k names' part of it. -/
def partD (xs : List Im) (n k : Nat) : List UInt8 := numB n ++ ((xs.take k).map writeI).flatten
theorem lerr_len {xs : List Im} (h : lerr xs = 0) : xs.length ≤ 64 := by
  unfold lerr at h
  split at h
  · exact absurd h (by decide)
  · omega
theorem writeI_len (x : Im) : (writeI x).length ≤ 18 := by
  unfold writeI
  split
  · rename_i h
    simp [chk] at h
    have h1 := numB_len x.1.toNat (by omega)
    have h2 := numB_len x.2.toNat (by omega)
    rw [List.length_append]; omega
  · simp
theorem flatW_len : ∀ (xs : List Im), ((xs.map writeI).flatten).length ≤ 18 * xs.length
  | [] => by simp
  | x :: xs => by
    have h1 := flatW_len xs
    have h2 := writeI_len x
    simp only [List.map_cons, List.flatten_cons, List.length_append, List.length_cons]
    omega
end Go.Proofs.YtffnpfponnhddaaGreat
