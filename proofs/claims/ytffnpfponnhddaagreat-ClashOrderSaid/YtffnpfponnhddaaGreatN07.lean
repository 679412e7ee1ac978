/- Operations' names (tags): what ident and the document's chapter 5 say of one, of two; reading lists of them. octet.number: the number at the front of bytes. The program's reader: what it holds, Fail. The program's reader: next, Num, Int. The document's own: is a name in a list; what is wrong with two sets. The document's Minus: what of one set is not in another. ident.Read: the next name that a reader has. dots.Read: the next set that a reader has. -/
import Derived.Test.YtffnpfponnhddaaGreatN05
import Derived.Test.YtffnpfponnhddaaGreatM1
import Derived.Laws.BitsAllLaws
import Derived.Deep.QuietTactic
import Derived.Shelf.Abstract
namespace Go.Proofs.YtffnpfponnhddaaGreat
open Go.RowKit

def Tm.enc (t : Tm) : List Value := [.int .i64 t.1.1, .int .u32 t.1.2, .int .i64 t.2]
theorem Tm.len {xs : List Tm} : ∀ x ∈ xs.map Tm.enc, x.length = 3 := by
  intro x hx; obtain ⟨t, _, rfl⟩ := List.mem_map.1 hx; rfl
theorem Tm.one {xs : List Tm} : ∀ x ∈ xs.map Tm.enc, ∀ u ∈ x, u.oneCell' = true := by
  intro x hx u hu; obtain ⟨t, _, rfl⟩ := List.mem_map.1 hx
  simp only [Tm.enc, List.mem_cons, List.not_mem_nil, or_false] at hu
  rcases hu with rfl | rfl | rfl <;> rfl
/-- A list of tags, read whole. -/
def RdT (w : World) (B : Nat) (A : Option Addr) (n : Nat) (xs : List Tm) : Prop := Rd w B 3 A n (xs.map Tm.enc)
theorem RdT.below {w w' : World} {B n : Nat} {A : Option Addr} {xs : List Tm} (h : RdT w B A n xs) (hb : Below B w w') : RdT w' B A n xs := Rd.below h hb
theorem RdT.more {w : World} {B B' n : Nat} {A : Option Addr} {xs : List Tm} (h : RdT w B A n xs) (hb : B ≤ B') : RdT w B' A n xs := Rd.more h hb
theorem RdT.len {w : World} {B n : Nat} {A : Option Addr} {xs : List Tm} (h : RdT w B A n xs) : xs.length = n := by simpa using h.1
theorem infoTag : (Tryz.prog.info? 45).map (fun i => (i.zero, i.size, i.bytes)) = some (some (.agg #[.int .i64 0, .int .u32 0, .int .i64 0]), 3, 24) := by kernel_rfl
theorem eTag : ElemInfo Tryz.prog 30 45 3 24 := by
  obtain ⟨i, hi, h0, h1, h2⟩ := info_parts infoTag
  exact ⟨Tryz.underlying30, ⟨i, _, hi, h0, h1, h2, rfl⟩, by decide⟩

/-- The box of a tag that came by value. -/
theorem tbox (t : Tm) (w : World) : (w.alloc (.cells #[.int .i64 t.1.1, .int .u32 t.1.2, .int .i64 t.2] 45)).heap[w.heap.size]? = some (.cells #[.int .i64 t.1.1, .int .u32 t.1.2, .int .i64 t.2] 45 (0, 0)) := heap_at _ _ rfl

set_option maxRecDepth 100000 in
theorem pchkt_any (t : Tm) (ht : t.wf) (w : World) :
    Calls Tryz.prog 56 #[.agg #[.int .i64 t.1.1, .int .u32 t.1.2, .int .i64 t.2]] w fun e w' => e = .returned (.int .i64 (errI (chkT t))) ∧ Below w.heap.size w w' := by
  obtain ⟨⟨o, s⟩, n⟩ := t
  have hch := chk_any (o, s) ht
  dsimp only
  by_cases h1 : n < 0
  · have hr : chkT ((o, s), n) = false := by simp [chkT]; omega
    rw [hr]
    go_enter Tryz.func56, Tryz.ntmps56
    go_wp2
    go_ret
    exact ⟨rfl, (Below.refl _ _).alloc (Nat.le_refl _) _⟩
  by_cases h2 : 16 ≤ n
  · have hr : chkT ((o, s), n) = false := by simp [chkT]; omega
    rw [hr]
    go_enter Tryz.func56, Tryz.ntmps56
    go_wp2
    go_ret
    exact ⟨rfl, (Below.refl _ _).alloc (Nat.le_refl _) _⟩
  · have hr : chkT ((o, s), n) = chk (o, s) := by simp [chkT]; omega
    rw [hr]
    generalize chk (o, s) = r at hch ⊢
    dsimp only at hch
    have hch := Lib.hid hch
    go_enter Tryz.func56, Tryz.ntmps56
    go_wp2_with fail
    refine (hch.out _).mono ?_
    rintro e w1 ⟨rfl, hb⟩
    have hB : Below w.heap.size w w1 := ((Below.refl _ w).alloc (Nat.le_refl _) _).trans (hb.mono (by simp))
    go_wp2
    go_ret
    exact ⟨rfl, hB⟩
set_option maxRecDepth 100000 in
theorem pcmpt_any (x y : Tm) (w : World) :
    Calls Tryz.prog 61 #[.agg #[.int .i64 x.1.1, .int .u32 x.1.2, .int .i64 x.2], .agg #[.int .i64 y.1.1, .int .u32 y.1.2, .int .i64 y.2]] w fun e w' => e = .returned (.int .i64 (cmpT x y)) ∧ Below w.heap.size w w' := by
  generalize hr : cmpT x y = r
  unfold cmpT at hr
  have hc1 := cmp_any x.1 y.1
  have hc2 := ccmp_any x.2 y.2
  have ho := or_any
  generalize cmpI x.1 y.1 = p at *
  generalize ordI x.2 y.2 = q at *
  have hc1 := Lib.hid hc1
  have hc2 := Lib.hid hc2
  have ho := Lib.hid (fun g w h0 h1 h2 => hr ▸ ho g p q w h0 h1 h2)
  clear hr
  have hB0 : Below w.heap.size w ((w.alloc (.cells #[.int .i64 x.1.1, .int .u32 x.1.2, .int .i64 x.2] 45)).alloc (.cells #[.int .i64 y.1.1, .int .u32 y.1.2, .int .i64 y.2] 45)) := ((Below.refl _ w).alloc (Nat.le_refl _) _).alloc (by simp) _
  have hbx : ((w.alloc (.cells #[.int .i64 x.1.1, .int .u32 x.1.2, .int .i64 x.2] 45)).alloc (.cells #[.int .i64 y.1.1, .int .u32 y.1.2, .int .i64 y.2] 45)).heap[w.heap.size]? = some (.cells #[.int .i64 x.1.1, .int .u32 x.1.2, .int .i64 x.2] 45 (0, 0)) := heap_old _ (by simp) (heap_at _ _ rfl)
  have hby : ((w.alloc (.cells #[.int .i64 x.1.1, .int .u32 x.1.2, .int .i64 x.2] 45)).alloc (.cells #[.int .i64 y.1.1, .int .u32 y.1.2, .int .i64 y.2] 45)).heap[w.heap.size + 1]? = some (.cells #[.int .i64 y.1.1, .int .u32 y.1.2, .int .i64 y.2] 45 (0, 0)) := heap_at _ _ (by simp)
  generalize hW : ((w.alloc (.cells #[.int .i64 x.1.1, .int .u32 x.1.2, .int .i64 x.2] 45)).alloc (.cells #[.int .i64 y.1.1, .int .u32 y.1.2, .int .i64 y.2] 45)) = W at hB0 hbx hby
  have hltx := blk_lt hbx
  have hlty := blk_lt hby
  have p0 := blk_cell hbx 0
  have p1 := blk_cell hbx 1
  have p2 := blk_cell hbx 2
  have q0 := blk_cell hby 0
  have q1 := blk_cell hby 1
  have q2 := blk_cell hby 2
  simp at p0 p1 p2 q0 q1 q2
  clear hbx hby
  go_enter Tryz.func61, Tryz.ntmps61
  go_wp2
  have hq0 : KQ W.heap.size W W := kq (Below.refl _ _)
  go_region_held3 (fun w' => KQ W.heap.size W w') (first
      | with_reducible exact kq_call (by assumption) (by simp) (by assumption)
      | with_reducible exact kq_alloc (by with_reducible assumption) (Nat.le_refl _) _
      | with_reducible exact kq_alloc (kq_drew (by assumption)) (Nat.le_refl _) _
      | ((with_reducible refine kq ?_); (repeat (first | (with_reducible exact Below.refl _ _) | (with_reducible refine Below.drew ?_) | (with_reducible refine Below.alloc ?_ (by simp) _) | (with_reducible refine Below.setCell ?_ (by simp) _) | (with_reducible exact (by assumption : KQ _ _ _).1))); done))
    (first
      | (go_at_call 103; refine (hc1.out _).mono ?_; rintro e w1 ⟨rfl, hb1⟩)
      | (go_at_call 104; refine (hc2.out _).mono ?_; rintro e w2 ⟨rfl, rfl⟩)
      | (go_at_call 95; refine (ho.out _ _ (by simp) (blk_cell (heap_at _ _ (by simp)) 0) (blk_cell (heap_at _ _ (by simp)) 1)).mono ?_; rintro e w3 ⟨rfl, rfl⟩))
  go_wp2
  go_ret
  exact ⟨rfl, hB0.trans ((by with_reducible assumption : KQ W.heap.size W _).1.mono hB0.size)⟩
end Go.Proofs.YtffnpfponnhddaaGreat
namespace Go.Proofs.YtffnpfponnhddaaGreat
open Go.RowKit

theorem ba_len (s : ByteArray) : s.data.toList.length = s.size := by rw [Array.length_toList]; rfl
theorem ba_get (s : ByteArray) {i : Nat} (h : i < s.size) : s.data.toList[i]? = some s[i] := by
  rw [List.getElem?_eq_getElem (by rw [ba_len]; exact h)]
  rfl
theorem ba_ne {s : ByteArray} (h : 0 < s.size) : s.toList.isEmpty = false := by
  rw [ByteArray.toList_eq, List.isEmpty_eq_false_iff]
  intro h0
  have := ba_len s
  rw [h0] at this
  simp at this; omega
theorem or256 (v c : Nat) (hv : v < 72057594037927936) (hc : c < 256) : bits .or .u64 ((v : Int) * 256) (c : Int) = ((v * 256 + c : Nat) : Int) := by
  have h := u64_or_nat (v * 256) c (by omega) (by omega)
  rw [show ((v * 256 : Nat) : Int) = (v : Int) * 256 from by omega] at h
  rw [h]
  congr 1
  rw [show v * 256 = v <<< 8 from by rw [Nat.shiftLeft_eq], Nat.shiftLeft_add_eq_or_of_lt (by simpa using hc)]

end Go.Proofs.YtffnpfponnhddaaGreat
namespace Go.Proofs.YtffnpfponnhddaaGreat
open Go.RowKit

end Go.Proofs.YtffnpfponnhddaaGreat
namespace Go.Proofs.YtffnpfponnhddaaGreat
open Go.RowKit

/-- A function value that tells of numbers whether they are right. -/
def RightF (g : Nat) (pre : Array Value) (right : Nat → Int) : Prop :=
  ∀ v : Nat, v < 18446744073709551616 → ∀ w, Calls Tryz.prog g (pre ++ #[.int .u64 (v : Int)]) w fun e w' => e = .returned (.int .i64 (right v)) ∧ w = w'
theorem bs_drop (l : List UInt8) {a : Nat} : (bs l).extract a (bs l).size = bs (l.drop a) := by
  apply ByteArray.ext
  rw [ByteArray.data_extract, bs_size]
  simp [bs]
  rw [List.take_of_length_le (by simp)]
theorem Rs.wf_fail {S : Rs} (h : S.wf) (e : Int) : (failS S e).wf := by
  unfold failS
  obtain ⟨h1, h2, h3, h4, h5⟩ := h
  split
  · rename_i hh
    exact ⟨h1, h2, by simp, by simp; omega, fun h => absurd h hh.2⟩
  · exact ⟨h1, h2, h3, h4, h5⟩
theorem nextS_eq {S : Rs} {right : Nat → Int} {v n : Nat} {e : Int} (h0 : S.fe = 0) (hr : numR (S.l.drop S.a) = (v, n, e)) :
    nextS right S = if (if e = 0 then right v else e) ≠ 0 then (0, failS S (if e = 0 then right v else e)) else (v, { S with a := S.a + n }) := by
  unfold nextS
  rw [if_neg (by simp [h0])]
  simp only [hr]
theorem nextS_bad {S : Rs} {right : Nat → Int} (h0 : S.fe ≠ 0) : nextS right S = (0, S) := by
  unfold nextS
  rw [if_pos h0]
theorem Rs.wf_next {S : Rs} (h : S.wf) (right : Nat → Int) : (nextS right S).2.wf := by
  by_cases h0 : S.fe = 0
  · obtain ⟨v, n, e, hr⟩ : ∃ v n e, numR (S.l.drop S.a) = (v, n, e) := ⟨_, _, _, rfl⟩
    have h2 := numR_some hr
    rw [nextS_eq h0 hr]
    by_cases he : e = 0
    · subst he
      by_cases hz : right v = 0
      · rw [if_neg (by simp [hz])]
        have h4 := (h2.2 rfl).1
        rw [List.length_drop] at h4
        obtain ⟨g1, g2, g3, g4, g5⟩ := h
        exact ⟨by simp; omega, g2, g3, g4, g5⟩
      · rw [if_pos (by simpa using hz)]
        exact Rs.wf_fail h _
    · rw [if_pos (by simp [he])]
      exact Rs.wf_fail h _
  · rw [nextS_bad h0]; exact h

theorem intS_le (m : Nat) (S : Rs) : (intS m S).1 ≤ m := by
  unfold intS
  by_cases h0 : S.fe = 0
  · obtain ⟨v, n, e, hr⟩ : ∃ v n e, numR (S.l.drop S.a) = (v, n, e) := ⟨_, _, _, rfl⟩
    rw [nextS_eq h0 hr]
    by_cases he : e = 0
    · subst he
      by_cases hz : m < v
      · rw [if_pos (by simp [hz])]; exact Nat.zero_le _
      · rw [if_neg (by simp [hz])]; omega
    · rw [if_pos (by simp [he])]; exact Nat.zero_le _
  · rw [nextS_bad h0]; exact Nat.zero_le _
end Go.Proofs.YtffnpfponnhddaaGreat
namespace Go.Proofs.YtffnpfponnhddaaGreat
open Go.RowKit

end Go.Proofs.YtffnpfponnhddaaGreat
namespace Go.Proofs.YtffnpfponnhddaaGreat
open Go.RowKit

/-- A list as a call leaves it. -/
def GotI (w : World) (A : Option Addr) (n : Nat) (xs : List Im) : Prop := RdI w w.heap.size A n xs ∧ n ≤ maxLen
theorem GotI.below {w w' : World} {A : Option Addr} {n : Nat} {xs : List Im} (h : GotI w A n xs) (hb : Below w.heap.size w w') : GotI w' A n xs := ⟨(h.1.below hb).more hb.size, h.2⟩
theorem gotI_nil (w : World) : GotI w none 0 [] := ⟨Rd.nil_, Nat.zero_le _⟩
theorem gotI_own {w : World} {base : Nat} {A : Option Addr} {n c : Nat} {xs : List Im} (h : Ow w base 43 2 (.slice A n c) (xs.map Im.enc)) : GotI w A n xs := ⟨h.rd.1, Nat.le_trans h.rd.2.2.1 h.rd.2.2.2⟩

end Go.Proofs.YtffnpfponnhddaaGreat
namespace Go.Proofs.YtffnpfponnhddaaGreat
open Go.RowKit

theorem failS_fe {S : Rs} {e : Int} (he : e ≠ 0) : (failS S e).fe ≠ 0 := by
  unfold failS
  split
  · exact he
  · rename_i h
    exact fun h0 => h ⟨h0, he⟩
theorem intS_err {S : Rs} {m : Nat} (h : (intS m S).1 ≠ 0) : (intS m S).2.fe = 0 := by
  unfold intS at *
  by_cases h0 : S.fe = 0
  · obtain ⟨v, n, e, hr⟩ : ∃ v n e, numR (S.l.drop S.a) = (v, n, e) := ⟨_, _, _, rfl⟩
    rw [nextS_eq h0 hr] at h ⊢
    by_cases he : e = 0
    · subst he
      by_cases hz : m < v
      · simp [hz] at h
      · simp [hz, h0]
    · simp [he] at h
  · rw [nextS_bad h0] at h
    exact absurd rfl h
/-- The next name of a reader. -/
def readI (S : Rs) : Im × Rs :=
  let p := intS 7 S
  let q := intS 1048576 p.2
  if q.1 = 0 then ((0, 0), failS q.2 2) else (((p.1 : Int), (q.1 : Int)), q.2)
theorem readI_wf {S : Rs} (h : S.wf) : (readI S).2.wf ∧ (readI S).1.wf := by
  have h1 := Rs.wf_next (Rs.wf_next h (fun v => if 7 < v then 2 else 0)) (fun v => if 1048576 < v then 2 else 0)
  have h2 := intS_le 1048576 (intS 7 S).2
  unfold readI
  dsimp only
  split
  · exact ⟨Rs.wf_fail h1 2, ⟨show (0 : Int) ≤ 0 by decide, show (0 : Int) < 4294967296 by decide⟩⟩
  · exact ⟨h1, ⟨by dsimp only; omega, by dsimp only; omega⟩⟩

end Go.Proofs.YtffnpfponnhddaaGreat
namespace Go.Proofs.YtffnpfponnhddaaGreat
open Go.RowKit

/-- A row stays where a block below it turns. -/
theorem Ow.keptB {w w' : World} {base b : Nat} {e : TypeId} {sz : Nat} {v : Value} {xs : List (List Value)} (h : Ow w base e sz v xs) (hg : w.grownBy w' (some b)) (hb : b < base) : Ow w' base e sz v xs := by
  refine ⟨h.1, h.2.kept hg ?_⟩
  rcases h.2.2 with ⟨rfl, _⟩ | ⟨g, cap, cur, rfl, hbg, _⟩
  · exact .inl rfl
  · refine .inr ?_
    simp only [Value.ownBlock, ne_eq, Option.some.injEq]
    omega
/-- What comes of a world that has grown, and then turns what is newer alone. -/
theorem gr_then {a w w' : World} {row row2 : Option Nat} (h : a.grownBy w row) (h2 : w.grownBy w' row2) (hr : ∀ g, row2 = some g → a.heap.size ≤ g) : a.grownBy w' row :=
  ⟨h2.os.trans h.os, h2.tape.trans h.tape, h2.output.trans h.output, Nat.le_trans h.size h2.size, fun k hk hne => (h2.block k (Nat.lt_of_lt_of_le hk h.size) (fun e => by have := hr k e.symm; omega)).trans (h.block k hk hne)⟩
/-- So many names of a reader. -/
def readIs : Nat → Rs → List Im × Rs
  | 0, S => ([], S)
  | n + 1, S => ((readIs n S).1 ++ [(readI (readIs n S).2).1], (readI (readIs n S).2).2)
/-- The next set of a reader. -/
def readD (S : Rs) : List Im × Rs :=
  let p := intS 64 S
  let q := readIs p.1 p.2
  let T := failS q.2 (lerr q.1)
  if T.fe ≠ 0 then ([], T) else (q.1, T)
theorem readIs_len (S : Rs) : ∀ n, (readIs n S).1.length = n
  | 0 => rfl
  | n + 1 => by simp [readIs, readIs_len S n]
theorem readIs_wf {S : Rs} (h : S.wf) : ∀ n, (readIs n S).2.wf ∧ ∀ x ∈ (readIs n S).1, x.wf
  | 0 => ⟨h, by simp [readIs]⟩
  | n + 1 => by
    obtain ⟨h1, h2⟩ := readIs_wf h n
    obtain ⟨h3, h4⟩ := readI_wf h1
    refine ⟨h3, fun x hx => ?_⟩
    rcases List.mem_append.1 hx with hx | hx
    · exact h2 x hx
    · rw [List.mem_singleton.1 hx]; exact h4
theorem readD_wf {S : Rs} (h : S.wf) : (readD S).2.wf := by
  have h1 := (readIs_wf (Rs.wf_next h (fun v => if 64 < v then 2 else 0)) (intS 64 S).1).1
  unfold readD
  dsimp only
  split
  · exact Rs.wf_fail h1 _
  · exact Rs.wf_fail h1 _

end Go.Proofs.YtffnpfponnhddaaGreat
