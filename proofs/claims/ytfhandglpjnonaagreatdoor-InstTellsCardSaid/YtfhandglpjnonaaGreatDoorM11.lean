/- Plain words on maps of puts: what is wrong with one, its bytes, what a reader gives. Puts: what is wrong with a stamp, whether a put has a field and a stamp with a time; names of puts. -/
import Derived.Test.YtfhandglpjnonaaGreatDoorOsD
import Derived.Test.YtfhandglpjnonaaGreatDoorN14
import Derived.Test.YtfhandglpjnonaaGreatDoorTl
namespace Go.Proofs.YtfhandglpjnonaaGreatDoor
open Go.RowKit

/-- A stamp: a time, whose. -/
abbrev Sm := Int × Int
def Sm.wf (s : Sm) : Prop := 0 ≤ s.1 ∧ s.1 < 4294967296
def chkS (s : Sm) : Bool := decide (s.1 ≤ 1048576 ∧ 0 ≤ s.2 ∧ s.2 ≤ 7)
def cmpS (a b : Sm) : Int := if ordI a.1 b.1 ≠ 0 then ordI a.1 b.1 else ordI a.2 b.2
/-- A put: a tag, a field, a value, a stamp. -/
abbrev Pm := Tm × (List UInt8 × (Int × Sm))
def Pm.enc (p : Pm) : List Value := [.int .i64 p.1.1.1, .int .u32 p.1.1.2, .int .i64 p.1.2, .string (bs p.2.1), .int .i64 p.2.2.1, .int .u32 p.2.2.2.1, .int .i64 p.2.2.2.2]
def Pm.wf (p : Pm) : Prop := p.1.wf ∧ Sm.wf p.2.2.2 ∧ -9223372036854775808 ≤ p.2.2.1 ∧ p.2.2.1 ≤ 9223372036854775807
theorem Pm.len {xs : List Pm} : ∀ x ∈ xs.map Pm.enc, x.length = 7 := by
  intro x hx; obtain ⟨t, _, rfl⟩ := List.mem_map.1 hx; rfl
theorem Pm.one {xs : List Pm} : ∀ x ∈ xs.map Pm.enc, ∀ u ∈ x, u.oneCell' = true := by
  intro x hx u hu; obtain ⟨t, _, rfl⟩ := List.mem_map.1 hx
  simp only [Pm.enc, List.mem_cons, List.not_mem_nil, or_false] at hu
  rcases hu with rfl | rfl | rfl | rfl | rfl | rfl | rfl <;> rfl
def RdP (w : World) (B : Nat) (A : Option Addr) (n : Nat) (xs : List Pm) : Prop := Rd w B 7 A n (xs.map Pm.enc)
theorem RdP.below {w w' : World} {B n : Nat} {A : Option Addr} {xs : List Pm} (h : RdP w B A n xs) (hb : Below B w w') : RdP w' B A n xs := Rd.below h hb
theorem RdP.more {w : World} {B B' n : Nat} {A : Option Addr} {xs : List Pm} (h : RdP w B A n xs) (hb : B ≤ B') : RdP w B' A n xs := Rd.more h hb
theorem RdP.len {w : World} {B n : Nat} {A : Option Addr} {xs : List Pm} (h : RdP w B A n xs) : xs.length = n := by simpa using h.1
def fitsP (p : Pm) : Bool := elemB p.2.1 && (chkS p.2.2.2 && decide (0 < p.2.2.2.1))
def badP (xs : List Pm) (gone : List Tm) : Bool := xs.any fun p => !fitsP p || gone.contains p.1
def mErr (xs : List Pm) (gone : List Tm) : Int := sErr (xs.map Prod.fst) (badP xs gone) gone
def writeS (s : Sm) : List UInt8 := if chkS s then numB s.1.toNat ++ numB s.2.toNat else []
/-- A number with a sign, as one without. -/
def zig (v : Int) : Nat := if 0 ≤ v then 2 * v.toNat else 2 * (-(v + 1)).toNat + 1
def writeZ (v : Int) : List UInt8 := numB (zig v)
def writeP (p : Pm) : List UInt8 := writeT p.1 ++ textB p.2.1 ++ writeZ p.2.2.1 ++ writeS p.2.2.2
theorem writeS_len (s : Sm) (_h : s.wf) : (writeS s).length ≤ 18 := by
  unfold writeS
  split
  · rename_i hc
    simp [chkS] at hc
    have h1 := numB_len s.1.toNat (by omega)
    have h2 := numB_len s.2.toNat (by omega)
    rw [List.length_append]; omega
  · simp
theorem zig_lt {v : Int} (h1 : -9223372036854775808 ≤ v) (h2 : v ≤ 9223372036854775807) : zig v < 18446744073709551616 := by unfold zig; split <;> omega
theorem writeP_len {p : Pm} (h : p.2.1.length ≤ 12) (hw : p.wf) : (writeP p).length ≤ 75 := by
  have h1 := writeT_len p.1
  have h2 := textB_len (e := p.2.1) (by omega)
  have h3 := numB_len (zig p.2.2.1) (zig_lt hw.2.2.1 hw.2.2.2)
  have h4 := writeS_len p.2.2.2 hw.2.1
  unfold writeP writeZ; simp only [List.length_append]; omega
/-- A map's bytes. -/
def writeM (xs : List Pm) (gone : List Tm) : List UInt8 := if mErr xs gone ≠ 0 then [] else partS writeP xs gone xs.length gone.length gone.length
theorem badP_elem {xs : List Pm} {gone : List Tm} (h : badP xs gone = false) : ∀ a ∈ xs, 1 ≤ a.2.1.length ∧ a.2.1.length ≤ 12 := by
  intro a ha
  unfold badP at h
  rw [List.any_eq_false] at h
  have h2 := h a ha
  simp only [Bool.not_eq_true, Bool.or_eq_false_iff, Bool.not_eq_false', fitsP, Bool.and_eq_true, elemB, decide_eq_true_eq] at h2
  exact h2.1.1
/-- The next number with a sign, the next stamp, the next put of a reader. -/
def readZ (S : Rs) : Int × Rs := (if (numS S).1 % 2 = 1 then -((numS S).1 / 2 : Nat) - 1 else (((numS S).1 / 2 : Nat) : Int), (numS S).2)
def readSt' (S : Rs) : Sm × Rs :=
  let p := intS 1048576 S
  let q := intS 7 p.2
  if q.2.fe ≠ 0 then ((0, 0), q.2) else (((p.1 : Int), (q.1 : Int)), q.2)
def readP (S : Rs) : Pm × Rs :=
  let t := readT S
  let f := textS 12 t.2
  let v := readZ f.2
  let s := readSt' v.2
  ((t.1, (f.1, (v.1, s.1))), s.2)
theorem readSt'_wf {S : Rs} (h : S.wf) : (readSt' S).2.wf ∧ (readSt' S).1.wf := by
  have h1 := Rs.wf_next h (fun v => if 1048576 < v then 2 else 0)
  have h2 := Rs.wf_next h1 (fun v => if 7 < v then 2 else 0)
  have h3 := intS_le 1048576 S
  unfold readSt'
  dsimp only
  split
  · exact ⟨h2, show (0 : Int) ≤ 0 by decide, show (0 : Int) < 4294967296 by decide⟩
  · exact ⟨h2, show (0 : Int) ≤ (((intS 1048576 S).1 : Nat) : Int) by omega, show (((intS 1048576 S).1 : Nat) : Int) < 4294967296 by omega⟩
end Go.Proofs.YtfhandglpjnonaaGreatDoor
namespace Go.Proofs.YtfhandglpjnonaaGreatDoor
open Go.RowKit

set_option maxRecDepth 100000 in
theorem plchk_any (s : Sm) (hs : s.wf) (w : World) :
    Calls Tryz.prog 153 #[.agg #[.int .u32 s.1, .int .i64 s.2]] w fun e w' => e = .returned (.int .i64 (errI (chkS s))) ∧ Below w.heap.size w w' := by
  obtain ⟨t, o⟩ := s
  obtain ⟨h0, h1⟩ := hs
  dsimp only at h0 h1 ⊢
  have hB : Below w.heap.size w (w.alloc (.cells #[.int .u32 t, .int .i64 o] 133)) := (Below.refl _ w).alloc (Nat.le_refl _) _
  by_cases h2 : 1048576 < t
  · have hr : chkS (t, o) = false := by simp [chkS]; omega
    rw [hr]
    clear hr
    go_enter Tryz.func153, Tryz.ntmps153
    go_wp2
    go_ret
    exact ⟨rfl, hB⟩
  have hd2 : decide (1048576 < t) = false := decide_eq_false h2
  by_cases h3 : o < 0
  · have hr : chkS (t, o) = false := by simp [chkS]; omega
    rw [hr]
    have h3' : ¬ 0 ≤ o := by omega
    clear hr
    go_enter Tryz.func153, Tryz.ntmps153
    go_wp2
    go_ret
    exact ⟨rfl, hB⟩
  have hd3 : decide (o < 0) = false := decide_eq_false h3
  have hd3' : (0 : Int) ≤ o := by omega
  by_cases h4 : 7 < o
  · have hr : chkS (t, o) = false := by simp [chkS]; omega
    rw [hr]
    have h4' : ¬ o < 8 := by omega
    clear hr
    go_enter Tryz.func153, Tryz.ntmps153
    go_wp2
    go_ret
    exact ⟨rfl, hB⟩
  have hd4 : decide (7 < o) = false := decide_eq_false h4
  have h4' : o < 8 := by omega
  have hr : chkS (t, o) = true := by simp [chkS]; omega
  rw [hr]
  clear hr
  go_enter Tryz.func153, Tryz.ntmps153
  go_wp2
  go_ret
  exact ⟨rfl, hB⟩
set_option maxRecDepth 100000 in
theorem rlchk_any (s : Sm) (hs : s.wf) (w : World) :
    Calls Tryz.prog 120 #[.agg #[.int .u32 s.1, .int .i64 s.2]] w fun e w' => e = .returned (.int .i64 (errI (chkS s))) ∧ Below w.heap.size w w' := by
  obtain ⟨t, o⟩ := s
  obtain ⟨h0, h1⟩ := hs
  dsimp only at h0 h1 ⊢
  have hB : Below w.heap.size w (w.alloc (.cells #[.int .u32 t, .int .i64 o] 133)) := (Below.refl _ w).alloc (Nat.le_refl _) _
  by_cases h2 : 1048576 < t
  · have hr : chkS (t, o) = false := by simp [chkS]; omega
    rw [hr]
    clear hr
    go_enter Tryz.func120, Tryz.ntmps120
    go_wp2
    go_ret
    exact ⟨rfl, hB⟩
  have hd2 : decide (1048576 < t) = false := decide_eq_false h2
  by_cases h3 : o < 0
  · have hr : chkS (t, o) = false := by simp [chkS]; omega
    rw [hr]
    have h3' : ¬ 0 ≤ o := by omega
    clear hr
    go_enter Tryz.func120, Tryz.ntmps120
    go_wp2
    go_ret
    exact ⟨rfl, hB⟩
  have hd3 : decide (o < 0) = false := decide_eq_false h3
  have hd3' : (0 : Int) ≤ o := by omega
  by_cases h4 : 7 < o
  · have hr : chkS (t, o) = false := by simp [chkS]; omega
    rw [hr]
    have h4' : ¬ o < 8 := by omega
    clear hr
    go_enter Tryz.func120, Tryz.ntmps120
    go_wp2
    go_ret
    exact ⟨rfl, hB⟩
  have hd4 : decide (7 < o) = false := decide_eq_false h4
  have h4' : o < 8 := by omega
  have hr : chkS (t, o) = true := by simp [chkS]; omega
  rw [hr]
  clear hr
  go_enter Tryz.func120, Tryz.ntmps120
  go_wp2
  go_ret
  exact ⟨rfl, hB⟩
end Go.Proofs.YtfhandglpjnonaaGreatDoor
