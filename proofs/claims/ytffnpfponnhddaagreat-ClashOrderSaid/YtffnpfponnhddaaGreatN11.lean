/- Plain words on maps of puts: what is wrong with one, its bytes, what a reader gives. Puts: what is wrong with a stamp, whether a put has a field and a stamp with a time; names of puts. Objects as plain data; a counter behind a change. Effects, parts, transactions: plain words, and how their cells lie in memory. -/
import Derived.Test.YtffnpfponnhddaaGreatN08
import Derived.Test.YtffnpfponnhddaaGreatOsC
import Derived.Test.YtffnpfponnhddaaGreatN09
namespace Go.Proofs.YtffnpfponnhddaaGreat
open Go.RowKit

/-- A stamp: a time, whose. -/
abbrev Sm := Int × Int
def Sm.wf (s : Sm) : Prop := 0 ≤ s.1 ∧ s.1 < 4294967296
def chkS (s : Sm) : Bool := decide (s.1 ≤ 1048576 ∧ 0 ≤ s.2 ∧ s.2 ≤ 7)
def cmpS (a b : Sm) : Int := if ordI a.1 b.1 ≠ 0 then ordI a.1 b.1 else ordI a.2 b.2
/-- A put: a tag, a field, a value, a stamp. -/
abbrev Pm := Tm × (List UInt8 × (Int × Sm))
def Pm.enc (p : Pm) : List Value := [.int .i64 p.1.1.1, .int .u32 p.1.1.2, .int .i64 p.1.2, .string (bs p.2.1), .int .i64 p.2.2.1, .int .u32 p.2.2.2.1, .int .i64 p.2.2.2.2]
def Pm.wf (p : Pm) : Prop := p.1.wf ∧ Sm.wf p.2.2.2 ∧ -9223372036854775808 ≤ p.2.2.1 ∧ p.2.2.1 ≤ 9223372036854775807
theorem Pm.len {xs : List Pm} : ∀ x ∈ xs.map Pm.enc, x.length = 7 := by
  intro x hx; obtain ⟨t, _, rfl⟩ := List.mem_map.1 hx; rfl
theorem Pm.one {xs : List Pm} : ∀ x ∈ xs.map Pm.enc, ∀ u ∈ x, u.oneCell' = true := by
  intro x hx u hu; obtain ⟨t, _, rfl⟩ := List.mem_map.1 hx
  simp only [Pm.enc, List.mem_cons, List.not_mem_nil, or_false] at hu
  rcases hu with rfl | rfl | rfl | rfl | rfl | rfl | rfl <;> rfl
def RdP (w : World) (B : Nat) (A : Option Addr) (n : Nat) (xs : List Pm) : Prop := Rd w B 7 A n (xs.map Pm.enc)
theorem RdP.below {w w' : World} {B n : Nat} {A : Option Addr} {xs : List Pm} (h : RdP w B A n xs) (hb : Below B w w') : RdP w' B A n xs := Rd.below h hb
theorem RdP.more {w : World} {B B' n : Nat} {A : Option Addr} {xs : List Pm} (h : RdP w B A n xs) (hb : B ≤ B') : RdP w B' A n xs := Rd.more h hb
theorem RdP.len {w : World} {B n : Nat} {A : Option Addr} {xs : List Pm} (h : RdP w B A n xs) : xs.length = n := by simpa using h.1
def fitsP (p : Pm) : Bool := elemB p.2.1 && (chkS p.2.2.2 && decide (0 < p.2.2.2.1))
def badP (xs : List Pm) (gone : List Tm) : Bool := xs.any fun p => !fitsP p || gone.contains p.1
def mErr (xs : List Pm) (gone : List Tm) : Int := sErr (xs.map Prod.fst) (badP xs gone) gone
def writeS (s : Sm) : List UInt8 := if chkS s then numB s.1.toNat ++ numB s.2.toNat else []
/-- A number with a sign, as one without. -/
def zig (v : Int) : Nat := if 0 ≤ v then 2 * v.toNat else 2 * (-(v + 1)).toNat + 1
def writeZ (v : Int) : List UInt8 := numB (zig v)
def writeP (p : Pm) : List UInt8 := writeT p.1 ++ textB p.2.1 ++ writeZ p.2.2.1 ++ writeS p.2.2.2
theorem writeS_len (s : Sm) (_h : s.wf) : (writeS s).length ≤ 18 := by
  unfold writeS
  split
  · rename_i hc
    simp [chkS] at hc
    have h1 := numB_len s.1.toNat (by omega)
    have h2 := numB_len s.2.toNat (by omega)
    rw [List.length_append]; omega
  · simp
theorem zig_lt {v : Int} (h1 : -9223372036854775808 ≤ v) (h2 : v ≤ 9223372036854775807) : zig v < 18446744073709551616 := by unfold zig; split <;> omega
theorem writeP_len {p : Pm} (h : p.2.1.length ≤ 12) (hw : p.wf) : (writeP p).length ≤ 75 := by
  have h1 := writeT_len p.1
  have h2 := textB_len (e := p.2.1) (by omega)
  have h3 := numB_len (zig p.2.2.1) (zig_lt hw.2.2.1 hw.2.2.2)
  have h4 := writeS_len p.2.2.2 hw.2.1
  unfold writeP writeZ; simp only [List.length_append]; omega
/-- A map's bytes. -/
def writeM (xs : List Pm) (gone : List Tm) : List UInt8 := if mErr xs gone ≠ 0 then [] else partS writeP xs gone xs.length gone.length gone.length
theorem badP_elem {xs : List Pm} {gone : List Tm} (h : badP xs gone = false) : ∀ a ∈ xs, 1 ≤ a.2.1.length ∧ a.2.1.length ≤ 12 := by
  intro a ha
  unfold badP at h
  rw [List.any_eq_false] at h
  have h2 := h a ha
  simp only [Bool.not_eq_true, Bool.or_eq_false_iff, Bool.not_eq_false', fitsP, Bool.and_eq_true, elemB, decide_eq_true_eq] at h2
  exact h2.1.1
/-- The next number with a sign, the next stamp, the next put of a reader. -/
def readZ (S : Rs) : Int × Rs := (if (numS S).1 % 2 = 1 then -((numS S).1 / 2 : Nat) - 1 else (((numS S).1 / 2 : Nat) : Int), (numS S).2)
def readSt' (S : Rs) : Sm × Rs :=
  let p := intS 1048576 S
  let q := intS 7 p.2
  if q.2.fe ≠ 0 then ((0, 0), q.2) else (((p.1 : Int), (q.1 : Int)), q.2)
def readP (S : Rs) : Pm × Rs :=
  let t := readT S
  let f := textS 12 t.2
  let v := readZ f.2
  let s := readSt' v.2
  ((t.1, (f.1, (v.1, s.1))), s.2)
theorem readSt'_wf {S : Rs} (h : S.wf) : (readSt' S).2.wf ∧ (readSt' S).1.wf := by
  have h1 := Rs.wf_next h (fun v => if 1048576 < v then 2 else 0)
  have h2 := Rs.wf_next h1 (fun v => if 7 < v then 2 else 0)
  have h3 := intS_le 1048576 S
  unfold readSt'
  dsimp only
  split
  · exact ⟨h2, show (0 : Int) ≤ 0 by decide, show (0 : Int) < 4294967296 by decide⟩
  · exact ⟨h2, show (0 : Int) ≤ (((intS 1048576 S).1 : Nat) : Int) by omega, show (((intS 1048576 S).1 : Nat) : Int) < 4294967296 by omega⟩
end Go.Proofs.YtffnpfponnhddaaGreat
namespace Go.Proofs.YtffnpfponnhddaaGreat
open Go.RowKit

set_option maxRecDepth 100000 in
theorem plchk_any (s : Sm) (hs : s.wf) (w : World) :
    Calls Tryz.prog 57 #[.agg #[.int .u32 s.1, .int .i64 s.2]] w fun e w' => e = .returned (.int .i64 (errI (chkS s))) ∧ Below w.heap.size w w' := by
  obtain ⟨t, o⟩ := s
  obtain ⟨h0, h1⟩ := hs
  dsimp only at h0 h1 ⊢
  have hB : Below w.heap.size w (w.alloc (.cells #[.int .u32 t, .int .i64 o] 24)) := (Below.refl _ w).alloc (Nat.le_refl _) _
  by_cases h2 : 1048576 < t
  · have hr : chkS (t, o) = false := by simp [chkS]; omega
    rw [hr]
    clear hr
    go_enter Tryz.func57, Tryz.ntmps57
    go_wp2
    go_ret
    exact ⟨rfl, hB⟩
  have hd2 : decide (1048576 < t) = false := decide_eq_false h2
  by_cases h3 : o < 0
  · have hr : chkS (t, o) = false := by simp [chkS]; omega
    rw [hr]
    have h3' : ¬ 0 ≤ o := by omega
    clear hr
    go_enter Tryz.func57, Tryz.ntmps57
    go_wp2
    go_ret
    exact ⟨rfl, hB⟩
  have hd3 : decide (o < 0) = false := decide_eq_false h3
  have hd3' : (0 : Int) ≤ o := by omega
  by_cases h4 : 7 < o
  · have hr : chkS (t, o) = false := by simp [chkS]; omega
    rw [hr]
    have h4' : ¬ o < 8 := by omega
    clear hr
    go_enter Tryz.func57, Tryz.ntmps57
    go_wp2
    go_ret
    exact ⟨rfl, hB⟩
  have hd4 : decide (7 < o) = false := decide_eq_false h4
  have h4' : o < 8 := by omega
  have hr : chkS (t, o) = true := by simp [chkS]; omega
  rw [hr]
  clear hr
  go_enter Tryz.func57, Tryz.ntmps57
  go_wp2
  go_ret
  exact ⟨rfl, hB⟩
set_option maxRecDepth 100000 in
set_option maxHeartbeats 1000000 in
theorem pright_any (p : Pm) (hp : p.wf) (hl : p.2.1.length ≤ maxLen) (w : World) :
    Calls Tryz.prog 79 #[.agg #[.int .i64 p.1.1.1, .int .u32 p.1.1.2, .int .i64 p.1.2, .string (bs p.2.1), .int .i64 p.2.2.1, .int .u32 p.2.2.2.1, .int .i64 p.2.2.2.2]] w fun e w' => e = .returned (.bool (fitsP p)) ∧ Below w.heap.size w w' := by
  have hB0 : Below w.heap.size w (w.alloc (.cells #[.int .i64 p.1.1.1, .int .u32 p.1.1.2, .int .i64 p.1.2, .string (bs p.2.1), .int .i64 p.2.2.1, .int .u32 p.2.2.2.1, .int .i64 p.2.2.2.2] 127)) := (Below.refl _ w).alloc (Nat.le_refl _) _
  have hbx : (w.alloc (.cells #[.int .i64 p.1.1.1, .int .u32 p.1.1.2, .int .i64 p.1.2, .string (bs p.2.1), .int .i64 p.2.2.1, .int .u32 p.2.2.2.1, .int .i64 p.2.2.2.2] 127)).heap[w.heap.size]? = some (.cells #[.int .i64 p.1.1.1, .int .u32 p.1.1.2, .int .i64 p.1.2, .string (bs p.2.1), .int .i64 p.2.2.1, .int .u32 p.2.2.2.1, .int .i64 p.2.2.2.2] 127 (0, 0)) := heap_at _ _ rfl
  generalize hW : w.alloc (.cells #[.int .i64 p.1.1.1, .int .u32 p.1.1.2, .int .i64 p.1.2, .string (bs p.2.1), .int .i64 p.2.2.1, .int .u32 p.2.2.2.1, .int .i64 p.2.2.2.2] 127) = W at hB0 hbx
  have hltx := blk_lt hbx
  have hbxH := Lib.hid hbx
  have b0 := blk_cell hbx 0
  have b1 := blk_cell hbx 1
  have b2 := blk_cell hbx 2
  have b3 := blk_cell hbx 3
  have b4 := blk_cell hbx 4
  have b5 := blk_cell hbx 5
  have b6 := blk_cell hbx 6
  simp at b0 b1 b2 b3 b4 b5 b6
  clear hbx
  have hch := plchk_any p.2.2.2 hp.2.1
  have h0 := hp.2.1.1
  generalize hr : fitsP p = r
  unfold fitsP elemB at hr
  have hrH := Lib.hid hr
  have hz := bs_size p.2.1
  have he := bs_empty p.2.1
  unfold maxLen at hl
  clear hr hp
  by_cases hf : p.2.1 = []
  · have hT : Hid (false = r) := Lib.hid (by rw [← hrH.out, hf]; rfl)
    have hem : (bs p.2.1).toList = [] := by rw [he]; exact hf
    clear hz he hf hch
    go_enter Tryz.func79, Tryz.ntmps79
    go_wp2
    go_ret
    exact ⟨ret_bool hT.out, hB0⟩
  have hpos : 1 ≤ p.2.1.length := by
    cases hq : p.2.1 with
    | nil => exact absurd hq hf
    | cons => simp
  have hne : (bs p.2.1).toList.isEmpty = false := by rw [he, List.isEmpty_eq_false_iff]; exact hf
  by_cases h12 : 12 < p.2.1.length
  · have hT : Hid (false = r) := Lib.hid (by rw [← hrH.out, decide_eq_false (by omega)]; rfl)
    have hd : decide ((((bs p.2.1).size : Nat) : Int) ≤ 12) = false := decide_eq_false (by omega)
    clear hz he hf hch hpos
    go_enter Tryz.func79, Tryz.ntmps79
    go_wp2
    go_ret
    exact ⟨ret_bool hT.out, hB0⟩
  have hd : decide ((((bs p.2.1).size : Nat) : Int) ≤ 12) = true := decide_eq_true (by omega)
  have hrX : Hid ((chkS p.2.2.2 && decide (0 < p.2.2.2.1)) = r) := Lib.hid (by rw [← hrH.out, decide_eq_true (by omega : 1 ≤ p.2.1.length ∧ p.2.1.length ≤ 12)]; simp)
  clear hz he hf hpos hrH h12
  generalize chkS p.2.2.2 = q at hch hrX
  cases q
  · have hT : Hid (false = r) := Lib.hid (by rw [← hrX.out]; rfl)
    rw [show errI false = 2 from rfl] at hch
    have hch := Lib.hid hch
    go_enter Tryz.func79, Tryz.ntmps79
    go_wp2_with fail
    refine (hch.out _).mono ?_
    rintro e w1 ⟨rfl, hv1⟩
    have hG := hB0.trans (hv1.mono hB0.size)
    go_wp2
    go_ret
    exact ⟨ret_bool hT.out, hG⟩
  rw [show errI true = 0 from rfl] at hch
  have hch := Lib.hid hch
  by_cases hz0 : 0 < p.2.2.2.1
  · have hT : Hid (true = r) := Lib.hid (by rw [← hrX.out, decide_eq_true hz0]; rfl)
    go_enter Tryz.func79, Tryz.ntmps79
    go_wp2_with fail
    refine (hch.out _).mono ?_
    rintro e w1 ⟨rfl, hv1⟩
    have hG := hB0.trans (hv1.mono hB0.size)
    have hbx1 := blk_below hbxH.out hv1
    clear b0 b1 b2 b3 b4 b5 b6 hltx
    have hltx := blk_lt hbx1
    have b0 := blk_cell hbx1 0
    have b1 := blk_cell hbx1 1
    have b2 := blk_cell hbx1 2
    have b3 := blk_cell hbx1 3
    have b4 := blk_cell hbx1 4
    have b5 := blk_cell hbx1 5
    have b6 := blk_cell hbx1 6
    simp at b0 b1 b2 b3 b4 b5 b6
    clear hbx1
    go_wp2
    go_ret
    exact ⟨ret_bool hT.out, hG⟩
  · have hT : Hid (false = r) := Lib.hid (by rw [← hrX.out, decide_eq_false hz0]; rfl)
    have hd0 : decide (0 < p.2.2.2.1) = false := decide_eq_false hz0
    go_enter Tryz.func79, Tryz.ntmps79
    go_wp2_with fail
    refine (hch.out _).mono ?_
    rintro e w1 ⟨rfl, hv1⟩
    have hG := hB0.trans (hv1.mono hB0.size)
    have hbx1 := blk_below hbxH.out hv1
    clear b0 b1 b2 b3 b4 b5 b6 hltx
    have hltx := blk_lt hbx1
    have b0 := blk_cell hbx1 0
    have b1 := blk_cell hbx1 1
    have b2 := blk_cell hbx1 2
    have b3 := blk_cell hbx1 3
    have b4 := blk_cell hbx1 4
    have b5 := blk_cell hbx1 5
    have b6 := blk_cell hbx1 6
    simp at b0 b1 b2 b3 b4 b5 b6
    clear hbx1
    go_wp2
    go_ret
    exact ⟨ret_bool hT.out, hG⟩
set_option maxRecDepth 100000 in
theorem mnotag_any (t : Tm) (ht : t.wf) (w : World) :
    Calls Tryz.prog 78 #[.agg #[.int .i64 t.1.1, .int .u32 t.1.2, .int .i64 t.2]] w fun e w' => e = .returned (.bool (!chkT t)) ∧ Below w.heap.size w w' := by
  have hch := pchkt_any t ht
  generalize chkT t = r at hch ⊢
  cases r
  · rw [show errI false = 2 from rfl] at hch
    have hch := Lib.hid hch
    go_enter Tryz.func78, Tryz.ntmps78
    go_wp2_with fail
    refine (hch.out _).mono ?_
    rintro e w1 ⟨rfl, hb1⟩
    have hb2 : Below w.heap.size w w1 := ((Below.refl _ w).alloc (Nat.le_refl _) _).trans (hb1.mono (by simp))
    go_wp2
    go_ret
    exact ⟨rfl, hb2⟩
  · rw [show errI true = 0 from rfl] at hch
    have hch := Lib.hid hch
    go_enter Tryz.func78, Tryz.ntmps78
    go_wp2_with fail
    refine (hch.out _).mono ?_
    rintro e w1 ⟨rfl, hb1⟩
    have hb2 : Below w.heap.size w w1 := ((Below.refl _ w).alloc (Nat.le_refl _) _).trans (hb1.mono (by simp))
    go_wp2
    go_ret
    exact ⟨rfl, hb2⟩
set_option maxRecDepth 100000 in
theorem mrise_any  (A : Option Addr) (n c : Nat) (xs : List Tm) (w : World) (hA : RdT w w.heap.size A n xs) (hn : n ≤ maxLen) (hp : ∀ x ∈ xs, x.wf) :
    Calls Tryz.prog 94 #[.slice A n c] w fun e w' => e = .returned (.bool (ascT xs)) ∧ Below w.heap.size w w' := by
  have hl := hA.len
  unfold maxLen at hn
  generalize hr : ascT xs = r
  have hrH := Lib.hid hr
  have hpH := Lib.hid hp
  clear hr hp
  go_enter Tryz.func94, Tryz.ntmps94
  go_wp2_with fail
  go_loopg [3] (n + 1) (fun g i wr => ∃ m k : Nat, k = m + 1 ∧ m ≤ n ∧ g = n + 1 - m ∧ i = .int .i64 (k : Int) ∧ (∀ j x y, j < m → xs[j]? = some x → xs[j + 1]? = some y → cmpT x y < 0) ∧ Below w.heap.size w wr)
  case atStart => exact ⟨0, 1, rfl, Nat.zero_le _, rfl, rfl, by simp, Below.refl _ _⟩
  case round =>
    obtain ⟨m, k, hkm, hm, rfl, rfl, hno, hbr⟩ := hrel
    have hz := hbr.size
    by_cases hlt : k < n
    · have hw : IntKind.i64.wrap ((k : Int) - 1) = (m : Int) := by rw [IntWalk.i64_in _ (by omega)]; omega
      have hmn : m < n := by omega
      obtain ⟨bA, oA, x, rfl, hbA, hp, hcp⟩ := (hA.below hbr).at_ hmn
      obtain ⟨bB, oB, y, he, _, hq, hcq⟩ := (hA.below hbr).at_ hlt
      obtain ⟨rfl, rfl⟩ : bA = bB ∧ oA = oB := by simpa using he
      clear he
      have p0 := hcp 0 _ rfl
      have p1 := hcp 1 _ rfl
      have p2 := hcp 2 _ rfl
      have q0 := hcq 0 _ rfl
      have q1 := hcq 1 _ rfl
      have q2 := hcq 2 _ rfl
      rw [Nat.add_zero] at p0 q0
      clear hcp hcq
      have hbA2 : bA < wr.heap.size := by omega
      have hcm := fun w' hb' => (fun h1 h2 w' (_ : Below w.heap.size w w') => pcmpt_any x y w') (List.mem_of_getElem? hp) (List.mem_of_getElem? hq) w' hb'
      have hqs : xs[m + 1]? = some y := by rw [← hkm]; exact hq
      clear hq
      have hq := hqs
      clear hqs
      have hkH := Lib.hid hkm
      clear hkm
      have hnoH := Lib.hid hno
      have hpxH := Lib.hid hp
      have hqyH := Lib.hid hq
      clear hno hp hq
      have hq0 : KQ wr.heap.size wr wr := kq (Below.refl _ _)
      by_cases hge : 0 ≤ cmpT x y
      · have hT : Hid (false = r) := Lib.hid (by
          rw [← hrH.out]; symm; rw [Bool.eq_false_iff]
          intro ha
          have := (ascT_iff _).1 ha m x y (by first | exact hpxH.out | (rw [List.getElem?_map, hpxH.out]; rfl)) (by first | exact hqyH.out | (rw [List.getElem?_map, hqyH.out]; rfl))
          omega)
        generalize cmpT x y = z at hcm hge
        have hcm := Lib.hid hcm
        go_wp2
        go_region_held3 (fun w' => KQ wr.heap.size wr w') (first
      | with_reducible exact kq_call (by assumption) (by simp) (by assumption)
      | with_reducible exact kq_grown (by assumption) (by simp) (by assumption) (by simp [Value.ownBlock])
      | ((with_reducible refine kq ?_); (repeat (first | (with_reducible exact Below.refl _ _) | (with_reducible refine Below.drew ?_) | (with_reducible refine Below.alloc ?_ (by simp) _) | (with_reducible refine Below.setCell ?_ (by simp) _) | (with_reducible exact (by assumption : KQ _ _ _).1))); done))
          (first | (go_at_call 61; refine (hcm.out _ (by first | exact hbr.trans ((by with_reducible assumption : KQ wr.heap.size wr _).1.mono hz) | exact hbr.drew | exact hbr)).mono ?_; rintro e w2 ⟨rfl, hb2⟩))
        have hF : KQ wr.heap.size wr w2 := by with_reducible assumption
        have hG : Below w.heap.size w w2 := hbr.trans (hF.1.mono hz)
        clear hF
        go_wp2
        go_ret
        exact ⟨ret_bool hT.out, hG⟩
      · have hT : Hid (∀ j x y, j < m + 1 → xs[j]? = some x → xs[j + 1]? = some y → cmpT x y < 0) := Lib.hid (by
          intro j x' y' hj h1 h2
          rcases Nat.lt_succ_iff_lt_or_eq.1 hj with h | rfl
          · exact hnoH.out j x' y' h h1 h2
          · rw [hpxH.out] at h1
            rw [hqyH.out] at h2
            cases h1
            cases h2
            omega)
        generalize cmpT x y = z at hcm hge
        have hcm := Lib.hid hcm
        have hdz : decide (0 ≤ z) = false := by simpa using hge
        go_wp2
        go_region_held3 (fun w' => KQ wr.heap.size wr w') (first
      | with_reducible exact kq_call (by assumption) (by simp) (by assumption)
      | with_reducible exact kq_grown (by assumption) (by simp) (by assumption) (by simp [Value.ownBlock])
      | ((with_reducible refine kq ?_); (repeat (first | (with_reducible exact Below.refl _ _) | (with_reducible refine Below.drew ?_) | (with_reducible refine Below.alloc ?_ (by simp) _) | (with_reducible refine Below.setCell ?_ (by simp) _) | (with_reducible exact (by assumption : KQ _ _ _).1))); done))
          (first | (go_at_call 61; refine (hcm.out _ (by first | exact hbr.trans ((by with_reducible assumption : KQ wr.heap.size wr _).1.mono hz) | exact hbr.drew | exact hbr)).mono ?_; rintro e w2 ⟨rfl, hb2⟩))
        have hF : KQ wr.heap.size wr w2 := by with_reducible assumption
        have hG : Below w.heap.size w w2 := hbr.trans (hF.1.mono hz)
        clear hF
        go_wp2
        go_roundg (n + 1 - (m + 1))
        case measure => omega
        case rel => exact ⟨m + 1, k + 1, by rw [← hkH.out], by omega, rfl, by go_num, hT.out, hG⟩
    · have hT : Hid (true = r) := Lib.hid (by
        rw [← hrH.out]; symm
        rw [ascT_iff]
        intro j x y h1 h2
        first
          | exact hno j x y (by have := (List.getElem?_eq_some_iff.1 h2).1; omega) h1 h2
          | (rw [List.getElem?_map] at h1 h2
             obtain ⟨x', hx', rfl⟩ := Option.map_eq_some_iff.1 h1
             obtain ⟨y', hy', rfl⟩ := Option.map_eq_some_iff.1 h2
             have := (List.getElem?_eq_some_iff.1 hy').1
             exact hno j x' y' (by omega) hx' hy'))
      go_wp2
      go_ret
      exact ⟨ret_bool hT.out, hbr⟩
set_option maxRecDepth 100000 in
theorem mhas_any (B : Option Addr) (m d : Nat) (gs : List Tm) (t : Tm) (w : World) (hB : RdT w w.heap.size B m gs) (hm : m ≤ 1099511627776) (hasc : ascTP gs) :
    Calls Tryz.prog 82 #[.slice B m d, .agg #[.int .i64 t.1.1, .int .u32 t.1.2, .int .i64 t.2]] w fun e w' => e = .returned (.bool (gs.contains t)) ∧ Below w.heap.size w w' := by
  have hb0 : Below w.heap.size w (w.alloc (.cells #[.int .i64 t.1.1, .int .u32 t.1.2, .int .i64 t.2] 45)) := (Below.refl _ w).alloc (Nat.le_refl _) _
  have hc := Lib.hid (fun w' (h : Below w.heap.size w w') => bsT_gen 61 #[] (fun _ _ => by kernel_rfl) w'.heap.size B m d gs t w' ((hB.below h).more h.size) hm hasc (fun x _ w'' _ => pcmpt_any x t w'') (Nat.le_refl _))
  generalize (posT gs t : Int) = p at hc
  generalize gs.contains t = r at hc
  clear hasc
  go_enter Tryz.func82, Tryz.ntmps82
  go_wp2_with fail
  refine (hc.out _ hb0).mono ?_
  rintro e w1 ⟨rfl, hb⟩
  have hG := hb0.trans (hb.mono hb0.size)
  go_wp2
  go_ret
  exact ⟨rfl, hG⟩
set_option maxRecDepth 100000 in
theorem mtags_any (A : Option Addr) (n c : Nat) (xs : List Pm) (w : World) (hA : RdP w w.heap.size A n xs) (hn : n ≤ 100000) :
    Calls Tryz.prog 58 #[.slice A n c] w fun e w' => ∃ T c', e = .returned (.slice T n c') ∧ Ow w' w.heap.size 45 3 (.slice T n c') ((xs.map Prod.fst).map Tm.enc) ∧ Below w.heap.size w w' := by
  have hnl := hA.len
  have hlH := Lib.hid hnl
  clear hnl
  go_enter Tryz.func58, Tryz.ntmps58
  go_wp2_with fail
  go_loopg [3, 8] (n + 1) (fun g o i wr => ∃ (k : Nat) (T : Option Addr) (c' : Nat), k ≤ n ∧ g = n + 1 - k ∧ i = .int .i64 (k : Int) ∧ o = .slice T k c' ∧ Ow wr w.heap.size 45 3 (.slice T k c') (((xs.take k).map Prod.fst).map Tm.enc) ∧ Below w.heap.size w wr)
  case atStart => exact ⟨0, none, 0, Nat.zero_le _, rfl, rfl, rfl, Ow.nil_ _ _ _ _, Below.refl _ _⟩
  case round =>
    obtain ⟨k, T, c', hk, rfl, rfl, rfl, hown, hbr⟩ := hrel
    have hz := hbr.size
    by_cases hlt : k < n
    · obtain ⟨bA, oA, u, rfl, hbA, hq, hcp⟩ := (hA.below hbr).at_ hlt
      have p0 := hcp 0 _ rfl
      have p1 := hcp 1 _ rfl
      have p2 := hcp 2 _ rfl
      have p3 := hcp 3 _ rfl
      have p4 := hcp 4 _ rfl
      have p5 := hcp 5 _ rfl
      have p6 := hcp 6 _ rfl
      rw [Nat.add_zero] at p0
      clear hcp
      have hst : Hid (((xs.take (k + 1)).map Prod.fst).map Tm.enc = ((xs.take k).map Prod.fst).map Tm.enc ++ [[.int .i64 u.1.1.1, .int .u32 u.1.1.2, .int .i64 u.1.2]]) := Lib.hid (by rw [List.take_add_one, hq]; simp [Tm.enc])
      have hlk : Hid ((((xs.take k).map Prod.fst).map Tm.enc).length = k) := Lib.hid (by simp; have := hlH.out; omega)
      clear hq
      have hbO : Below wr.heap.size wr ((wr.alloc (.cells #[.int .i64 u.1.1.1, .int .u32 u.1.1.2, .int .i64 u.1.2, .string (bs u.2.1), .int .i64 u.2.2.1, .int .u32 u.2.2.2.1, .int .i64 u.2.2.2.2] 127)).alloc (.cells #[.int .i64 u.1.1.1, .int .u32 u.1.1.2, .int .i64 u.1.2] 45)) := ((Below.refl _ wr).alloc (Nat.le_refl _) _).alloc (by simp) _
      have hlen1 : ∀ y ∈ ([[.int .i64 u.1.1.1, .int .u32 u.1.1.2, .int .i64 u.1.2]] : List (List Value)), y.length = 3 := by simp
      have hone1 : ∀ y ∈ ([[.int .i64 u.1.1.1, .int .u32 u.1.1.2, .int .i64 u.1.2]] : List (List Value)), ∀ v ∈ y, v.oneCell' = true := by simp [Value.oneCell']
      go_wp2_with (at_builtin; refine wpList_append_rd _ rfl _ _ _ rfl eTag (base := w.heap.size) (v := .slice T k c') (xs := ((xs.take k).map Prod.fst).map Tm.enc) rfl (hown.below hbO) rfl (Rd.one' [.int .i64 u.1.1.1, .int .u32 u.1.1.2, .int .i64 u.1.2] (by simp)) hlen1 hone1 (by rw [hlk.out]; unfold maxLen; omega) (by rw [hlk.out]; omega) (by simp; omega) ?_; intro A2 n2 c2 w4 hn2 hown4 hg4 hat4; (obtain rfl : n2 = k + 1 := (by rw [hn2, hlk.out])); clear hn2)
      have hG : Below w.heap.size w w4 := ((hbr.alloc hz _).alloc (by simp; omega) _).grown hg4 (by simp; omega) (fun g e => (hown.block g e).1)
      go_roundg (n + 1 - (k + 1))
      case measure => omega
      case rel => exact ⟨k + 1, A2, c2, by omega, rfl, by go_num, rfl, by rw [hst.out]; exact hown4, hG⟩
    · obtain rfl : k = n := by omega
      have hfin : Hid ((xs.take k).map Prod.fst = xs.map Prod.fst) := Lib.hid (by rw [List.take_of_length_le (by have := hlH.out; omega)])
      go_wp2
      go_ret
      exact ⟨T, c', rfl, by rw [← hfin.out]; exact hown, hbr⟩
end Go.Proofs.YtffnpfponnhddaaGreat
namespace Go.Proofs.YtffnpfponnhddaaGreat

/-- An object: its kind, the register, the counter, the set, the map. -/
structure Ob where
  kd : Int
  rv : Int
  rt : Int
  ro : Int
  pl : Int
  mi : Int
  S : List Am × List Tm
  M : List Pm × List Tm
def tagC (n : Int) : Tm := ((7, 1048576), n)
def stampC (n : Int) : Int × Int := (1048574 + n, 7)
/-- A counter behind a change. -/
def cntC (p m v : Int) : Option (Int × Int) :=
  if p < 0 ∨ 1125899906842624 < p ∨ m < 0 ∨ 1125899906842624 < m then none
  else if v < 0 then (if m - v ≤ 1125899906842624 then some (p, m - v) else none) else (if p + v ≤ 1125899906842624 then some (p + v, m) else none)
def Ob.setN (s : Ob) (q : Int × Int) : Ob := ⟨s.kd, s.rv, s.rt, s.ro, q.1, q.2, s.S, s.M⟩
def Ob.setS (s : Ob) (q : List Am × List Tm) : Ob := ⟨s.kd, s.rv, s.rt, s.ro, s.pl, s.mi, q, s.M⟩
def Ob.setM (s : Ob) (q : List Pm × List Tm) : Ob := ⟨s.kd, s.rv, s.rt, s.ro, s.pl, s.mi, s.S, q⟩
end Go.Proofs.YtffnpfponnhddaaGreat
namespace Go.Proofs.YtffnpfponnhddaaGreat
open Go.RowKit

theorem bs_toL (e : List UInt8) : (bs e).toList = e := by rw [ByteArray.toList_eq]; rfl
/-- An effect: an act, a name, a value, a tag, a stamp, other tags. -/
structure Ef where
  act : Int
  name : List UInt8
  val : Int
  tag : Tm
  st : Sm
  tags : List Tm
instance : Inhabited Ef := ⟨⟨0, [], 0, ((0, 0), 0), (0, 0), []⟩⟩
def Ef.wf (e : Ef) : Prop := e.tag.wf ∧ e.st.wf ∧ (-9223372036854775808 ≤ e.val ∧ e.val ≤ 9223372036854775807) ∧ (∀ t ∈ e.tags, t.wf) ∧ -9223372036854775808 ≤ e.act ∧ e.act ≤ 9223372036854775807
def sameE (a b : Ef) : Bool := decide (a.act = b.act) && decide (a.name = b.name) && decide (a.val = b.val) && decide (a.tag = b.tag) && decide (a.st = b.st) && decide (a.tags = b.tags)
theorem sameE_iff {a b : Ef} : sameE a b = true ↔ a = b := by
  cases a; cases b
  simp [sameE, and_assoc]
/-- A part: a key, an effect. -/
abbrev Pv := List UInt8 × Ef
def samePv (a b : Pv) : Bool := decide (a.1 = b.1) && sameE a.2 b.2
theorem samePv_iff {a b : Pv} : samePv a b = true ↔ a = b := by
  cases a; cases b
  simp [samePv, sameE_iff]
def samePs : List Pv → List Pv → Bool
  | [], [] => true
  | a :: l, b :: m => samePv a b && samePs l m
  | _, _ => false
theorem samePs_iff : ∀ {l m : List Pv}, samePs l m = true ↔ l = m
  | [], [] => by simp [samePs]
  | [], _ :: _ => by simp [samePs]
  | _ :: _, [] => by simp [samePs]
  | a :: l, b :: m => by simp [samePs, samePv_iff, samePs_iff (l := l) (m := m)]
/-- A part as its cells say: the effect's tags lie where a slice says. -/
structure Pe where
  key : List UInt8
  e : Ef
  A : Option Addr
  l : Nat
  c : Nat
instance : Inhabited Pe := ⟨⟨[], default, none, 0, 0⟩⟩
def Pe.enc (p : Pe) : List Value := [.string (bs p.key), .int .i64 p.e.act, .string (bs p.e.name), .int .i64 p.e.val, .int .i64 p.e.tag.1.1, .int .u32 p.e.tag.1.2, .int .i64 p.e.tag.2, .int .u32 p.e.st.1, .int .i64 p.e.st.2, .slice p.A p.l p.c]
theorem Pe.len {ps : List Pe} : ∀ x ∈ ps.map Pe.enc, x.length = 10 := by
  intro x hx; obtain ⟨t, _, rfl⟩ := List.mem_map.1 hx; rfl
theorem Pe.one {ps : List Pe} : ∀ x ∈ ps.map Pe.enc, ∀ u ∈ x, u.oneCell' = true := by
  intro x hx u hu; obtain ⟨t, _, rfl⟩ := List.mem_map.1 hx
  simp only [Pe.enc, List.mem_cons, List.not_mem_nil, or_false] at hu
  rcases hu with rfl | rfl | rfl | rfl | rfl | rfl | rfl | rfl | rfl | rfl <;> rfl
def Pe.Ok (w : World) (B : Nat) (p : Pe) : Prop := RdT w B p.A p.l p.e.tags
/-- What a part says, wherever its tags lie. -/
def Pe.core (p : Pe) : Pv := (p.key, p.e)
theorem Pe.Ok.below {w w' : World} {B : Nat} {p : Pe} (h : p.Ok w B) (hb : Below B w w') : p.Ok w' B := RdT.below h hb
theorem Pe.Ok.more {w : World} {B B' : Nat} {p : Pe} (h : p.Ok w B) (hb : B ≤ B') : p.Ok w B' := RdT.more h hb
/-- Parts read whole. -/
def RdE (w : World) (B : Nat) (A : Option Addr) (n : Nat) (ps : List Pe) : Prop := Rd w B 10 A n (ps.map Pe.enc) ∧ ∀ p ∈ ps, p.Ok w B
theorem RdE.below {w w' : World} {B n : Nat} {A : Option Addr} {ps : List Pe} (h : RdE w B A n ps) (hb : Below B w w') : RdE w' B A n ps := ⟨Rd.below h.1 hb, fun p hp => (h.2 p hp).below hb⟩
theorem RdE.more {w : World} {B B' n : Nat} {A : Option Addr} {ps : List Pe} (h : RdE w B A n ps) (hb : B ≤ B') : RdE w B' A n ps := ⟨Rd.more h.1 hb, fun p hp => (h.2 p hp).more hb⟩
theorem RdE.len {w : World} {B n : Nat} {A : Option Addr} {ps : List Pe} (h : RdE w B A n ps) : ps.length = n := by simpa using h.1.1
theorem RdE.nil_ {w : World} {B : Nat} : RdE w B none 0 [] := ⟨Rd.nil_, by simp⟩
/-- Parts that the call itself made: the row, and each part's row of tags. -/
def OwE (t : TypeId) (w : World) (base : Nat) (A : Option Addr) (n c : Nat) (ps : List Pe) : Prop :=
  Ow w base t 10 (.slice A n c) (ps.map Pe.enc) ∧ ∀ p ∈ ps, Ow w base 45 3 (.slice p.A p.l p.c) (p.e.tags.map Tm.enc)
section
variable {t : TypeId} {w w' : World} {bt bt' n c : Nat} {A : Option Addr} {ps : List Pe}
theorem OwE.rd (h : OwE t w bt A n c ps) : RdE w w.heap.size A n ps := ⟨h.1.rd.1, fun p hp => (h.2 p hp).rd.1⟩
theorem OwE.len (h : OwE t w bt A n c ps) : ps.length = n := by simpa using h.1.rd.2.1
theorem OwE.max (h : OwE t w bt A n c ps) : n ≤ maxLen := Nat.le_trans h.1.rd.2.2.1 h.1.rd.2.2.2
theorem OwE.below (h : OwE t w bt A n c ps) (hb : Below w.heap.size w w') : OwE t w' bt A n c ps := ⟨h.1.below hb, fun p hp => (h.2 p hp).below hb⟩
theorem OwE.base (h : OwE t w bt A n c ps) (hb : bt' ≤ bt) : OwE t w bt' A n c ps := ⟨h.1.base hb, fun p hp => (h.2 p hp).base hb⟩
theorem OwE.nil_ : OwE t w bt none 0 0 [] := ⟨Ow.nil_ _ _ _ _, by simp⟩
end
/-- A transaction's plain words. -/
structure Tv where
  id : Im
  deps : Vm
  thin : Bool
  parts : List Pv
end Go.Proofs.YtffnpfponnhddaaGreat
