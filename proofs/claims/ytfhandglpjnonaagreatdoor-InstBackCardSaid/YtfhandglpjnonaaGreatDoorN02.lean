/- Writing an element of a row of one's own: elements of two cells. clear(s[i:]) of a row of one's own. Plain words on numbers in bytes and on readers (no program in sight). octet.Num, the document's Num: a number's bytes. The document's Num. Plain words on names, lists of names, vectors: what the program and the document say of them (no program in sight). Names of transactions: what ident and the document's chapter 5 say of one, of two, of a list. Lists of names: too great to be asked, the same, made of names alone, in order. Sets of names: what is wrong with one (both checks), whether two lists are the same, a list of one's own. Sets of names: the document's check; whether two lists are the same; a list of one's own. Are two lists of names the same? Is a name in one? -/
import Derived.Test.YtfhandglpjnonaaGreatDoorGa
import Derived.Laws.IdiomCopy
import Derived.WalkKit
import Derived.Lib.Hide
import Derived.Test.YtfhandglpjnonaaGreatDoorRows
import Derived.Deep.DeepCutAuto
import Derived.Deep.RegionHeld3
import Derived.Test.YtfhandglpjnonaaGreatDoorGb
import Derived.Laws.IdiomStrings
import Derived.Deep.LoopGhost
import Derived.IntWalk
import Derived.RegionTactic
set_option maxRecDepth 100000
set_option maxHeartbeats 16000000
namespace Go.Proofs.YtfhandglpjnonaaGreatDoor
open Go.RowKit
theorem yD {w w' : World} (h : Below w.heap.size w w') (row : Option Nat) : w.grownBy w' row := ⟨h.os, h.tape, h.output, h.size, fun k hk _ => h.block k hk⟩
theorem gr_set {a w : World} {g : Nat} (h : a.grownBy w (some g)) (i : Nat) (u : Value) : a.grownBy (w.setCell ⟨g, i, none⟩ u) (some g) :=
 ⟨h.os, h.tape, h.output, by simpa [World.setCell] using h.size, fun k hk hne => (Below.heap_setCell w _ u k (fun e => hne (by simp only at e; rw [e]))).trans (h.block k hk hne)⟩
def bs (l : List UInt8) : ByteArray := ⟨l.toArray⟩
theorem bs_list (l : List UInt8) : (bs l).data.toList = l := rfl
theorem jG (l : List UInt8) : (bs l).size = l.length := by simp [bs, ByteArray.size]
theorem jM (l m : List UInt8) : bs l ++ bs m = bs (l ++ m) := by
 apply ByteArray.ext
 simp [bs, ByteArray.data_append]
theorem bs_of (s : ByteArray) : bs s.data.toList = s := by
 apply ByteArray.ext
 simp [bs]
theorem bs_nil : bs [] = ⟨#[]⟩ := rfl
def beD (v : Nat) : List UInt8 := if v = 0 then [] else beD (v / 256) ++ [UInt8.ofNat (v % 256)]
termination_by v
decreasing_by omega
theorem beD_zero : beD 0 = [] := by rw [beD]; rfl
theorem beD_pos {v : Nat} (h : v ≠ 0) : beD v = beD (v / 256) ++ [UInt8.ofNat (v % 256)] := by rw [beD, if_neg h]
def numB (v : Nat) : List UInt8 := UInt8.ofNat (beD v).length :: beD v
theorem beD_len : ∀ (k v : Nat), v < 256 ^ k → (beD v).length ≤ k
 | 0, v, h => by
  have : v = 0 := by simpa using h
  subst this; rw [beD_zero]; exact Nat.le_refl _
 | k + 1, v, h => by
  by_cases h0 : v = 0
  ·
   subst h0; rw [beD_zero]; exact Nat.zero_le _
  ·
   rw [beD_pos h0, List.length_append]
   have := beD_len k (v / 256) (by rw [Nat.pow_succ] at h; omega)
   simpa using this
theorem jN (v : Nat) (h : v < 18446744073709551616) : (numB v).length ≤ 9 := by
 have := beD_len 8 v (by simpa using h)
 simp [numB]; omega
def beV (l : List UInt8) : Nat := l.foldl (fun v c => v * 256 + c.toNat) 0
theorem beV_snoc (l : List UInt8) (c : UInt8) : beV (l ++ [c]) = beV l * 256 + c.toNat := by simp [beV]
theorem beV_beD (v : Nat) : beV (beD v) = v := by
 induction v using Nat.strongRecOn with
 | _ v ih =>
  by_cases h : v = 0
  ·
   subst h; rw [beD_zero]; rfl
  ·
   rw [beD_pos h, beV_snoc, ih _ (by omega)]
   simp
   omega
theorem beV_lt : ∀ (l : List UInt8), beV l < 256 ^ l.length := by
 intro l
 rw [← List.reverse_reverse l]
 induction l.reverse with
 | nil => simp [beV]
 | cons c r ih =>
  rw [List.reverse_cons, beV_snoc, List.length_append, List.length_singleton, Nat.pow_succ]
  have := c.toNat_lt
  omega
def numR : List UInt8 → Nat × Nat × Int
 | [] => (0, 0, 1)
 | c :: r => if 8 < c.toNat then (0, 0, 3) else if r.length < c.toNat then (0, 0, 1) else if 0 < c.toNat ∧ r.head? = some 0 then (0, 0, 3) else (beV (r.take c.toNat), 1 + c.toNat, 0)
structure Rs where
 l : List UInt8
 a : Nat
 fa : Int
 fe : Int
def Rs.wf (S : Rs) : Prop := S.a ≤ S.l.length ∧ S.l.length ≤ 1099511627776 ∧ 0 ≤ S.fa ∧ S.fa ≤ 1099511627776 ∧ (S.fe = 0 → S.fa = 0)
def failS (S : Rs) (e : Int) : Rs := if S.fe = 0 ∧ e ≠ 0 then { S with fa := S.a, fe := e } else S
def nextS (right : Nat → Int) (S : Rs) : Nat × Rs :=
 if S.fe ≠ 0 then (0, S) else
  let r := numR (S.l.drop S.a)
  let e := if r.2.2 = 0 then right r.1 else r.2.2
  if e ≠ 0 then (0, failS S e) else (r.1, { S with a := S.a + r.2.1 })
def numS (S : Rs) : Nat × Rs := nextS (fun _ => 0) S
def intS (m : Nat) (S : Rs) : Nat × Rs := nextS (fun v => if m < v then 2 else 0) S
def textS (m : Nat) (S : Rs) : List UInt8 × Rs :=
 let r := intS m S
 if r.2.fe ≠ 0 then ([], r.2) else if r.2.l.length - r.2.a < r.1 then ([], failS { r.2 with a := S.a } 1) else ((r.2.l.drop r.2.a).take r.1, { r.2 with a := r.2.a + r.1 })
theorem numR_some {l : List UInt8} {v n : Nat} {e : Int} (h : numR l = (v, n, e)) : (e ≠ 0 → v = 0 ∧ n = 0 ∧ (e = 1 ∨ e = 3)) ∧ (e = 0 → n ≤ l.length ∧ 1 ≤ n ∧ n ≤ 9 ∧ v < 18446744073709551616) := by
 unfold numR at h
 cases l with
 | nil => simp at h; obtain ⟨rfl, rfl, rfl⟩ := h; simp
 | cons c r =>
  simp only at h
  split at h
  ·
   simp at h; obtain ⟨rfl, rfl, rfl⟩ := h; simp
  ·
   split at h
   ·
    simp at h; obtain ⟨rfl, rfl, rfl⟩ := h; simp
   ·
    split at h
    ·
     simp at h; obtain ⟨rfl, rfl, rfl⟩ := h; simp
    ·
     simp at h; obtain ⟨rfl, rfl, rfl⟩ := h
     refine ⟨by simp, fun _ => ⟨by simp; omega, by omega, by omega, ?_⟩⟩
     have h1 := beV_lt (r.take c.toNat)
     have h2 : 256 ^ (r.take c.toNat).length ≤ 256 ^ 8 := Nat.pow_le_pow_right (by decide) (by rw [List.length_take]; omega)
     omega
theorem ret_str {a b : ByteArray} (h : a = b) : Ending.returned (.string a) = .returned (.string b) := by rw [h]
abbrev byC (l : List UInt8) : List Value := l.map fun c => Value.int .u8 (c.toNat : Int)
def numC (m : Nat) (t : List UInt8) : Array Value := (List.replicate (m + 1) (Value.int .u8 0) ++ byC t).toArray
theorem numC_set {m : Nat} {t : List UInt8} (c : UInt8) : (numC (m + 1) t).setIfInBounds (m + 1) (.int .u8 (c.toNat : Int)) = numC m (c :: t) := by
 unfold numC
 rw [List.replicate_succ']
 simp
theorem numC_last {m : Nat} {t : List UInt8} (c : UInt8) : (numC m t).setIfInBounds m (.int .u8 (c.toNat : Int)) = (List.replicate m (Value.int .u8 0) ++ byC (c :: t)).toArray := by
 unfold numC
 rw [List.replicate_succ']
 simp
theorem numC_at {m : Nat} {t : List UInt8} : (numC m t)[m]? = some (.int .u8 0) := by
 unfold numC
 simp only [List.getElem?_toArray]
 rw [List.getElem?_append_left (by simp)]
 simp
theorem slice9 (W : World) (g m : Nat) (hm : m < 9) :
 (Instr.sliceAt 209 (.pointer (some ⟨g, 0, none⟩)) (some (.int .i64 (m : Int))) none none).run Tryz.prog W = .ok (.slice (some ⟨g, m, none⟩) (9 - m) (9 - m)) W := by
 have h1 : Tryz.prog.arrayLen 209 = 9 := by kernel_rfl
 have h2 : Tryz.prog.elem 209 = 5 := by kernel_rfl
 have h3 : (sizeOf 5).run Tryz.prog W = .ok 1 W := by kernel_rfl
 rw [run_sliceAt_array_l W _ _ (by kernel_rfl) .i64 m (by omega) (by rw [h1]; omega), h1, h2, h3]
 simp [Result.andThen, slicedAt]
 rw [if_neg (by omega)]
 simp [Addr.add]
 intro h; exact h.symm
theorem conv_num {W : World} {g m : Nat} {t : List UInt8} (ht : t.length + m = 8) (cap : Nat) (h : W.heap[g]? = some (.cells (numC m t) 209 (0, 0))) :
 (convert 211 9 (.slice (some ⟨g, m, none⟩) (9 - m) cap)).run Tryz.prog (W.setCell ⟨g, m, none⟩ (.int .u8 (9 - (m + 1 : Int)))) = .ok (.string (bs (UInt8.ofNat t.length :: t))) (W.setCell ⟨g, m, none⟩ (.int .u8 (9 - (m + 1 : Int)))) := by
 have e0 : (9 - (m + 1 : Int)) = ((UInt8.ofNat t.length).toNat : Int) := by simp; omega
 rw [e0]
 have hb := jO h m (.int .u8 ((UInt8.ofNat t.length).toNat : Int))
 rw [numC_last] at hb
 have h9 : 9 - m = (UInt8.ofNat t.length :: t).length := by simp; omega
 rw [h9]
 refine run_convert_bytes_back _ _ _ 5 ⟨g, m, none⟩ cap _ Tryz.underlying211 Tryz.underlying5 Tryz.underlying9 ?_
 intro j hj
 rw [show (⟨g, m, none⟩ : Addr).add j = ⟨g, m + j, none⟩ from by simp [Addr.add], jA hb]
 simp only [List.getElem?_toArray]
 rw [List.getElem?_append_right (by simp)]
 simp only [List.length_replicate, Nat.add_sub_cancel_left, List.getElem?_map, List.getElem?_eq_getElem hj, Option.map_some]
theorem num_any (v : Nat) (hv : v < 18446744073709551616) (w : World) :
 Calls Tryz.prog 93 #[.int .u64 (v : Int)] w fun e w' => e = .returned (.string (bs (numB v))) ∧ Below w.heap.size w w' := by
 have hlen : (beD v).length ≤ 8 := beD_len 8 v (by simpa using hv)
 have hvH := jH hv
 clear hv
 go_enter Tryz.func93, Tryz.ntmps93
 go_wp2_with fail
 go_loopg [0, 4] 9 (fun g x i wr => ∃ (m y : Nat) (t : List UInt8), g = m + 1 ∧ t.length + m = 8 ∧ x = .int .u64 (y : Int) ∧ i = .int .i64 (m + 1 : Int) ∧ beD v = beD y ++ t ∧ wr.heap[w.heap.size]? = some (.cells (numC m t) 209 (0, 0)) ∧ Below w.heap.size w wr)
 case atStart => exact ⟨8, v, [], rfl, rfl, rfl, rfl, by simp, jT _ _ rfl, (Below.refl _ _).alloc (Nat.le_refl _) _⟩
 case round =>
  obtain ⟨m, y, t, rfl, ht, rfl, rfl, hbe, hbl, hb⟩ := hrel
  have hlt := jB hbl
  have hfr := jE hbl
  by_cases hy : y = 0
  ·
   subst hy
   rw [beD_zero, List.nil_append] at hbe
   have hcm : wr.cell? ⟨w.heap.size, m, none⟩ = some (.int .u8 0) := by rw [jA hbl]; exact numC_at
   have hm8 : m ≤ 8 := by omega
   have hbeH := jH hbe
   have htH := jH ht
   clear hbe ht
   have hsl := fun W => slice9 W w.heap.size m (by omega)
   have hcv := conv_num (cap := 9 - m) htH.out hbl
   have hT : Hid (bs (UInt8.ofNat t.length :: t) = bs (numB v)) := jH (by unfold numB; rw [hbeH.out])
   have hB : Below w.heap.size w (wr.setCell ⟨w.heap.size, m, none⟩ (.int .u8 (9 - (m + 1 : Int)))) := hb.setCell (Nat.le_refl _) _
   go_wp2
   go_ret
   exact ⟨ret_str hT.out, hB⟩
  ·
   have hpos : (0 : Int) < (y : Int) := by omega
   have hbp := beD_pos hy
   have hm : ∃ m', m = m' + 1 := by
    rw [hbe, List.length_append, hbp, List.length_append] at hlen
    simp at hlen
    exact ⟨m - 1, by omega⟩
   obtain ⟨m', rfl⟩ := hm
   have hcm : wr.cell? ⟨w.heap.size, m' + 1, none⟩ = some (.int .u8 0) := by rw [jA hbl]; exact numC_at
   have hm8 : m' ≤ 7 := by omega
   rw [hbp, List.append_assoc, List.singleton_append] at hbe
   have hbeH := jH hbe
   have htH := jH ht
   have hlenH := jH hlen
   have e1 : Hid ((y : Int) % 256 = ((UInt8.ofNat (y % 256)).toNat : Int)) := jH (by simp)
   have e2 : Hid ((y : Int) / 256 = ((y / 256 : Nat) : Int)) := jH (by omega)
   clear hbe ht hbp hlen hy
   go_wp2
   go_roundg (m' + 1)
   case measure => omega
   case rel =>
    refine ⟨m', y / 256, UInt8.ofNat (y % 256) :: t, rfl, by have := htH.out; simp; omega, by rw [e2.out], by go_num, hbeH.out, ?_, ?_⟩
    ·
     rw [e1.out, jO hbl, numC_set]
    ·
     exact hb.setCell (Nat.le_refl _) _
abbrev Im := Int × Int
def Im.wf (x : Im) : Prop := 0 ≤ x.2 ∧ x.2 < 4294967296
def chk (x : Im) : Bool := decide (0 ≤ x.1 ∧ x.1 < 8 ∧ 1 ≤ x.2 ∧ x.2 ≤ 1048576)
def cmpI (x y : Im) : Int := if x.1 < y.1 then -1 else if y.1 < x.1 then 1 else if x.2 < y.2 then -1 else if y.2 < x.2 then 1 else 0
def errI (b : Bool) : Int := if b then 0 else 2
theorem jJ {k : IntKind} {a b : Int} (h : a = b) : Ending.returned (.int k a) = .returned (.int k b) := by rw [h]
theorem jY {a b : Bool} (h : a = b) : Ending.returned (.bool a) = .returned (.bool b) := by rw [h]
def ordI (a b : Int) : Int := if a < b then -1 else if b < a then 1 else 0
theorem cmpI_ord (x y : Im) : cmpI x y = if ordI x.1 y.1 ≠ 0 then ordI x.1 y.1 else ordI x.2 y.2 := by
 unfold cmpI ordI; (repeat' split) <;> omega
structure Vm where
 d0 : Int
 d1 : Int
 d2 : Int
 d3 : Int
 d4 : Int
 d5 : Int
 d6 : Int
 d7 : Int
instance : Coe Vm (Array Value) := ⟨fun v => #[.int .u32 v.d0, .int .u32 v.d1, .int .u32 v.d2, .int .u32 v.d3, .int .u32 v.d4, .int .u32 v.d5, .int .u32 v.d6, .int .u32 v.d7]⟩
def Vm.get (v : Vm) (o : Int) : Int := if o = 0 then v.d0 else if o = 1 then v.d1 else if o = 2 then v.d2 else if o = 3 then v.d3 else if o = 4 then v.d4 else if o = 5 then v.d5 else if o = 6 then v.d6 else v.d7
def hasV (v : Vm) (x : Im) : Bool := chk x && decide (x.2 ≤ v.get x.1)
def vchk (v : Vm) : Bool := decide (v.d0 ≤ 1048576 ∧ v.d1 ≤ 1048576 ∧ v.d2 ≤ 1048576 ∧ v.d3 ≤ 1048576 ∧ v.d4 ≤ 1048576 ∧ v.d5 ≤ 1048576 ∧ v.d6 ≤ 1048576 ∧ v.d7 ≤ 1048576)
def Vm.set (v : Vm) (o s : Int) : Vm := ⟨if o = 0 then s else v.d0, if o = 1 then s else v.d1, if o = 2 then s else v.d2, if o = 3 then s else v.d3, if o = 4 then s else v.d4, if o = 5 then s else v.d5, if o = 6 then s else v.d6, if o = 7 then s else v.d7⟩
def zV : Vm := ⟨0, 0, 0, 0, 0, 0, 0, 0⟩
def Im.enc (x : Im) : List Value := [.int .i64 x.1, .int .u32 x.2]
theorem chk_any (x : Im) (hx : x.wf) (w : World) :
 Calls Tryz.prog 80 #[.agg #[.int .i64 x.1, .int .u32 x.2]] w fun e w' => e = .returned (.int .i64 (errI (chk x))) ∧ Below w.heap.size w w' := by
 obtain ⟨o, s⟩ := x
 obtain ⟨h0, hm⟩ := hx
 dsimp only at h0 hm ⊢
 by_cases h1 : o < 0
 ·
  have hr : chk (o, s) = false := by simp [chk]; omega
  rw [hr]
  go_enter Tryz.func80, Tryz.ntmps80
  go_wp2
  go_ret
  exact ⟨rfl, (Below.refl _ _).alloc (Nat.le_refl _) _⟩
 by_cases h2 : 8 ≤ o
 ·
  have hr : chk (o, s) = false := by simp [chk]; omega
  rw [hr]
  go_enter Tryz.func80, Tryz.ntmps80
  go_wp2
  go_ret
  exact ⟨rfl, (Below.refl _ _).alloc (Nat.le_refl _) _⟩
 by_cases h3 : s = 0
 ·
  have hr : chk (o, s) = false := by simp [chk]; omega
  rw [hr]
  go_enter Tryz.func80, Tryz.ntmps80
  go_wp2
  go_ret
  exact ⟨rfl, (Below.refl _ _).alloc (Nat.le_refl _) _⟩
 by_cases h4 : 1048576 < s
 ·
  have hr : chk (o, s) = false := by simp [chk]; omega
  rw [hr]
  go_enter Tryz.func80, Tryz.ntmps80
  go_wp2
  go_ret
  exact ⟨rfl, (Below.refl _ _).alloc (Nat.le_refl _) _⟩
 ·
  have hr : chk (o, s) = true := by simp [chk]; omega
  rw [hr]
  go_enter Tryz.func80, Tryz.ntmps80
  go_wp2
  go_ret
  exact ⟨rfl, (Below.refl _ _).alloc (Nat.le_refl _) _⟩
theorem order_any (a b : Int) (w : World) :
 Calls Tryz.prog 145 #[.int .i64 a, .int .i64 b] w fun e w' => e = .returned (.int .i64 (ordI a b)) ∧ w' = w := by
 by_cases h1 : a < b
 ·
  go_enter Tryz.func145, Tryz.ntmps145
  go_wp2
  go_ret
  exact ⟨jJ (by unfold ordI; (repeat' split) <;> omega), rfl⟩
 by_cases h2 : b < a
 ·
  go_enter Tryz.func145, Tryz.ntmps145
  go_wp2
  go_ret
  exact ⟨jJ (by unfold ordI; (repeat' split) <;> omega), rfl⟩
 ·
  go_enter Tryz.func145, Tryz.ntmps145
  go_wp2
  go_ret
  exact ⟨jJ (by unfold ordI; (repeat' split) <;> omega), rfl⟩
theorem nan_any (a : Int) (w : World) : Calls Tryz.prog 174 #[.int .i64 a] w fun e w' => e = .returned (.bool false) ∧ w' = w := by
 go_enter Tryz.func174, Tryz.ntmps174
 go_wp2
 go_ret
 exact ⟨rfl, rfl⟩
theorem nanu_any (a : Int) (w : World) : Calls Tryz.prog 179 #[.int .u32 a] w fun e w' => e = .returned (.bool false) ∧ w' = w := by
 go_enter Tryz.func179, Tryz.ntmps179
 go_wp2
 go_ret
 exact ⟨rfl, rfl⟩
theorem ccmp_any (a b : Int) (w : World) :
 Calls Tryz.prog 168 #[.int .i64 a, .int .i64 b] w fun e w' => e = .returned (.int .i64 (ordI a b)) ∧ w' = w := by
 by_cases h1 : a < b
 ·
  go_enter Tryz.func168, Tryz.ntmps168
  go_wp2_with (go_at_call 174; refine (nan_any _ _).mono ?_; rintro e w' ⟨rfl, rfl⟩)
  go_ret
  exact ⟨jJ (by unfold ordI; (repeat' split) <;> omega), rfl⟩
 by_cases h2 : b < a
 ·
  go_enter Tryz.func168, Tryz.ntmps168
  go_wp2_with (go_at_call 174; refine (nan_any _ _).mono ?_; rintro e w' ⟨rfl, rfl⟩)
  go_ret
  exact ⟨jJ (by unfold ordI; (repeat' split) <;> omega), rfl⟩
 ·
  go_enter Tryz.func168, Tryz.ntmps168
  go_wp2_with (go_at_call 174; refine (nan_any _ _).mono ?_; rintro e w' ⟨rfl, rfl⟩)
  go_ret
  exact ⟨jJ (by unfold ordI; (repeat' split) <;> omega), rfl⟩
theorem ccmpu_any (a b : Int) (w : World) :
 Calls Tryz.prog 173 #[.int .u32 a, .int .u32 b] w fun e w' => e = .returned (.int .i64 (ordI a b)) ∧ w' = w := by
 by_cases h1 : a < b
 ·
  go_enter Tryz.func173, Tryz.ntmps173
  go_wp2_with (go_at_call 179; refine (nanu_any _ _).mono ?_; rintro e w' ⟨rfl, rfl⟩)
  go_ret
  exact ⟨jJ (by unfold ordI; (repeat' split) <;> omega), rfl⟩
 by_cases h2 : b < a
 ·
  go_enter Tryz.func173, Tryz.ntmps173
  go_wp2_with (go_at_call 179; refine (nanu_any _ _).mono ?_; rintro e w' ⟨rfl, rfl⟩)
  go_ret
  exact ⟨jJ (by unfold ordI; (repeat' split) <;> omega), rfl⟩
 ·
  go_enter Tryz.func173, Tryz.ntmps173
  go_wp2_with (go_at_call 179; refine (nanu_any _ _).mono ?_; rintro e w' ⟨rfl, rfl⟩)
  go_ret
  exact ⟨jJ (by unfold ordI; (repeat' split) <;> omega), rfl⟩
theorem or_any (g : Nat) (p q : Int) (w : World) (hg : g < w.heap.size) (h0 : w.cell? ⟨g, 0, none⟩ = some (.int .i64 p)) (h1 : w.cell? ⟨g, 1, none⟩ = some (.int .i64 q)) :
 Calls Tryz.prog 166 #[.slice (some ⟨g, 0, none⟩) 2 2] w fun e w' => e = .returned (.int .i64 (if p ≠ 0 then p else q)) ∧ w' = w := by
 generalize hr : (if p ≠ 0 then p else q) = r
 have hrH := jH hr
 clear hr
 go_enter Tryz.func166, Tryz.ntmps166
 go_wp2
 go_loopg [8] 3 (fun g' i wr => ∃ k : Nat, k ≤ 2 ∧ g' = 3 - k ∧ i = .int .i64 k ∧ wr = w ∧ (1 ≤ k → p = 0) ∧ (2 ≤ k → q = 0))
 case atStart => exact ⟨0, by omega, rfl, rfl, rfl, by omega, by omega⟩
 case round =>
  obtain ⟨k, hk, rfl, rfl, rfl, hp, hq⟩ := hrel
  obtain rfl | rfl | rfl : k = 0 ∨ k = 1 ∨ k = 2 := by omega
  ·
   by_cases h : p = 0
   ·
    subst h
    go_wp2
    go_roundg 2
    case measure => omega
    case rel => exact ⟨1, by omega, rfl, by go_num, rfl, fun _ => (by first | trivial | rfl), by omega⟩
   ·
    have hT := jH h
    have hd : (p == 0) = false := by simpa using h
    go_wp2
    go_ret
    exact ⟨jJ (by rw [← hrH.out, if_pos hT.out]), rfl⟩
  ·
   have hp' := jH (hp (by omega))
   clear hp
   by_cases h : q = 0
   ·
    subst h
    go_wp2
    go_roundg 1
    case measure => omega
    case rel => exact ⟨2, by omega, rfl, by go_num, rfl, fun _ => hp'.out, fun _ => (by first | trivial | rfl)⟩
   ·
    have hd : (q == 0) = false := by simpa using h
    go_wp2
    go_ret
    exact ⟨jJ (by rw [← hrH.out, if_neg (by simp [hp'.out])]), rfl⟩
  ·
   have hp' := jH (hp (by omega))
   have hq' := jH (hq (by omega))
   clear hp hq
   go_wp2
   go_ret
   exact ⟨jJ (by rw [← hrH.out, if_neg (by simp [hp'.out])]; exact hq'.out.symm), rfl⟩
theorem cmp_any (x y : Im) (w : World) :
 Calls Tryz.prog 167 #[.agg #[.int .i64 x.1, .int .u32 x.2], .agg #[.int .i64 y.1, .int .u32 y.2]] w fun e w' => e = .returned (.int .i64 (cmpI x y)) ∧ Below w.heap.size w w' := by
 generalize hr : cmpI x y = r
 rw [cmpI_ord] at hr
 have hc1 := ccmp_any x.1 y.1
 have hc2 := ccmpu_any x.2 y.2
 have ho := or_any
 generalize ordI x.1 y.1 = p at *
 generalize ordI x.2 y.2 = q at *
 have hc1 := jH hc1
 have hc2 := jH hc2
 have ho := jH (fun g w h0 h1 h2 => hr ▸ ho g p q w h0 h1 h2)
 clear hr
 go_enter Tryz.func167, Tryz.ntmps167
 go_wp2
 go_region_held3 (fun w' => KQ (w.heap.size + 2) ((w.alloc (.cells #[.int .i64 x.1, .int .u32 x.2] 24)).alloc (.cells #[.int .i64 y.1, .int .u32 y.2] 24)) w') (first
  | with_reducible exact jP (by assumption) (by simp) (by assumption)
  | with_reducible exact yB (by assumption) (by simp) (by assumption) (by simp [Value.ownBlock])
  | ((with_reducible refine kq ?_); (repeat (first | (with_reducible exact Below.refl _ _) | (with_reducible refine Below.drew ?_) | (with_reducible refine Below.alloc ?_ (by simp) _) | (with_reducible refine Below.setCell ?_ (by simp) _) | (with_reducible exact (by assumption : KQ _ _ _).1))); done))
  (first
   | (go_at_call 168; refine (hc1.out _).mono ?_; rintro e w1 ⟨rfl, rfl⟩)
   | (go_at_call 173; refine (hc2.out _).mono ?_; rintro e w1 ⟨rfl, rfl⟩)
   | (go_at_call 166; refine (ho.out _ _ (by simp) (jA (heap_drew (jT _ _ (by simp))) 0) (jA (heap_drew (jT _ _ (by simp))) 1)).mono ?_; rintro e w1 ⟨rfl, rfl⟩))
 go_wp2
 go_ret
 exact ⟨rfl, ((((Below.refl _ w).alloc (Nat.le_refl _) _).alloc (by simp) _).alloc (by simp; omega) _).drew⟩
end Go.Proofs.YtfhandglpjnonaaGreatDoor
