/- Plain words on tags' and texts' bytes, on sets of additions: what is wrong with one, its bytes, what a reader gives. Lists of tags and of additions: the document's right, rises, HasTag, SameTags; slices.IndexFunc, ContainsFunc, BinarySearchFunc; strictly. Binary search for a tag; strictly; sets of additions: what is wrong with one, both checks. Sets of additions: what is wrong with one, by the program and by the document. The document's sets of additions: the names of additions, what is wrong with a set. Regions that draw their order: an operation for which number m waits by way of another one. Writing an element of a row of one's own: elements of any number of cells. The statements' own To, From and Great of sets; the document's Same. slices.Clone, DeleteFunc, Grow and Concat at tags; Clone and DeleteFunc at additions. Plain words on maps of puts: what is wrong with one, its bytes, what a reader gives. Puts: what is wrong with a stamp, whether a put has a field and a stamp with a time; names of puts. -/
import Derived.Test.YtfhandglpjnonaaGreatDoorN03
import Derived.Test.YtfhandglpjnonaaGreatDoorM17
import Derived.Deep.DeepCutAuto
import Derived.Deep.RegionHeld3
import Derived.Deep.LoopGhost
import Derived.Test.YtfhandglpjnonaaGreatDoorGb
import Derived.Test.YtfhandglpjnonaaGreatDoorN02
import Derived.Lib.SliceRun
import Derived.Lib.AppendZeros
import Derived.Shelf.Abstract
set_option maxRecDepth 100000
set_option maxHeartbeats 16000000
namespace Go.Proofs.YtfhandglpjnonaaGreatDoor
open Go.RowKit
def writeT (t : Tm) : List UInt8 := if chkT t then writeI t.1 ++ numB t.2.toNat else []
def textB (e : List UInt8) : List UInt8 := numB e.length ++ e
theorem writeT_len (t : Tm) : (writeT t).length ≤ 27 := by
 unfold writeT
 split
 ·
  rename_i h
  simp [chkT] at h
  have h1 := writeI_len t.1
  have h2 := jN t.2.toNat (by omega)
  rw [List.length_append]; omega
 ·
  simp
theorem flatT_len : ∀ (xs : List Tm), ((xs.map writeT).flatten).length ≤ 27 * xs.length
 | [] => by simp
 | x :: xs => by
  have h1 := flatT_len xs
  have h2 := writeT_len x
  simp only [List.map_cons, List.flatten_cons, List.length_append, List.length_cons]
  omega
theorem textB_len {e : List UInt8} (h : e.length < 18446744073709551616) : (textB e).length ≤ 9 + e.length := by
 unfold textB
 have := jN e.length h
 rw [List.length_append]; omega
def readT (S : Rs) : Tm × Rs :=
 let p := readI S
 let q := intS 15 p.2
 if q.2.fe ≠ 0 then (((0, 0), 0), q.2) else ((p.1, (q.1 : Int)), q.2)
theorem readT_wf {S : Rs} (h : S.wf) : (readT S).2.wf ∧ (readT S).1.wf := by
 have h0 := readI_wf h
 have h1 := Rs.wf_next h0.1 (fun v => if 15 < v then 2 else 0)
 unfold readT
 dsimp only
 split
 ·
  exact ⟨h1, ⟨show (0 : Int) ≤ 0 by decide, show (0 : Int) < 4294967296 by decide⟩⟩
 ·
  exact ⟨h1, h0.2⟩
def readN {α : Type} (f : Rs → α × Rs) : Nat → Rs → List α × Rs
 | 0, S => ([], S)
 | n + 1, S => if S.fe ≠ 0 then ([], S) else ((f S).1 :: (readN f n (f S).2).1, (readN f n (f S).2).2)
theorem readN_bad {α : Type} {f : Rs → α × Rs} {S : Rs} (h : S.fe ≠ 0) : ∀ n, readN f n S = ([], S)
 | 0 => rfl
 | n + 1 => by rw [readN, if_pos h]
theorem readN_more {α : Type} {f : Rs → α × Rs} {S S2 : Rs} {a : α} (h : S.fe = 0) (hf : f S = (a, S2)) (n : Nat) : readN f (n + 1) S = (a :: (readN f n S2).1, (readN f n S2).2) := by
 rw [readN, if_neg (by simp [h]), hf]
theorem readN_wf {α : Type} {f : Rs → α × Rs} {P : α → Prop} (hf : ∀ S : Rs, S.wf → (f S).2.wf ∧ P (f S).1) : ∀ (n : Nat) {S : Rs}, S.wf → (readN f n S).2.wf ∧ (readN f n S).1.length ≤ n ∧ ∀ x ∈ (readN f n S).1, P x
 | 0, S, h => ⟨h, by simp [readN], by simp [readN]⟩
 | n + 1, S, h => by
  rw [readN]
  split
  ·
   exact ⟨h, by simp, by simp⟩
  ·
   have h1 := hf S h
   obtain ⟨h2, h3, h4⟩ := readN_wf hf n h1.1
   refine ⟨h2, by simp; omega, fun x hx => ?_⟩
   rcases List.mem_cons.1 hx with rfl | hx
   ·
    exact h1.2
   ·
    exact h4 x hx
theorem failS_l (S : Rs) (e : Int) : (failS S e).l = S.l := by unfold failS; split <;> rfl
theorem nextS_l (right : Nat → Int) (S : Rs) : (nextS right S).2.l = S.l := by
 unfold nextS
 by_cases h : S.fe ≠ 0
 ·
  rw [if_pos h]
 ·
  rw [if_neg h]
  dsimp only
  obtain ⟨e, he⟩ : ∃ e, (if (numR (S.l.drop S.a)).2.2 = 0 then right (numR (S.l.drop S.a)).1 else (numR (S.l.drop S.a)).2.2) = e := ⟨_, rfl⟩
  rw [he]
  by_cases h2 : e ≠ 0
  ·
   rw [if_pos h2]; exact failS_l S e
  ·
   rw [if_neg h2]
theorem textS_wf {S : Rs} (m : Nat) (h : S.wf) : (textS m S).2.wf := by
 have h1 := Rs.wf_next h (fun v => if m < v then 2 else 0)
 have hl : (intS m S).2.l = S.l := nextS_l _ S
 have hz : ¬ (intS m S).2.fe ≠ 0 → (intS m S).2.fe = 0 := fun h => Classical.not_not.1 h
 unfold textS
 dsimp only
 split
 ·
  exact h1
 ·
  rename_i hf
  split
  ·
   refine Rs.wf_fail ?_ 1
   refine ⟨?_, h1.2.1, h1.2.2⟩
   show S.a ≤ (intS m S).2.l.length
   rw [hl]; exact h.1
  ·
   rename_i hlt
   have h2 := h1.1
   unfold intS at hlt h2 ⊢
   exact ⟨by dsimp only; omega, h1.2.1, h1.2.2⟩
theorem textS_len (m : Nat) (S : Rs) : (textS m S).1.length ≤ m := by
 have h := yA m S
 unfold textS
 dsimp only
 split
 ·
  simp
 ·
  split
  ·
   simp
  ·
   rw [List.length_take]; omega
def elemB (e : List UInt8) : Bool := decide (1 ≤ e.length ∧ e.length ≤ 12)
theorem flatB_len {α : Type} {f : α → List UInt8} {b : Nat} : ∀ (xs : List α), (∀ a ∈ xs, (f a).length ≤ b) → ((xs.map f).flatten).length ≤ b * xs.length
 | [], _ => by simp
 | x :: xs, h => by
  have h1 := flatB_len xs (fun a ha => h a (by simp [ha]))
  have h2 := h x (by simp)
  simp only [List.map_cons, List.flatten_cons, List.length_append, List.length_cons, Nat.mul_succ]
  omega
theorem sametags_any (A B : Option Addr) (n m c d : Nat) (xs ys : List Tm) (w : World) (hA : RdT w w.heap.size A n xs) (hB : RdT w w.heap.size B m ys) (hn : n ≤ maxLen) (hm : m ≤ maxLen) :
 Calls Tryz.prog 146 #[.slice A n c, .slice B m d] w fun e w' => e = .returned (.bool (decide (xs = ys))) ∧ Below w.heap.size w w' := by
 have hl := hA.len
 have hl2 := hB.len
 unfold maxLen at hn hm
 generalize hr : decide (xs = ys) = r
 have hrH := jH hr
 clear hr
 by_cases hnm : (n : Int) = (m : Int)
 ·
  obtain rfl : n = m := by omega
  clear hnm
  go_enter Tryz.func146, Tryz.ntmps146
  go_wp2
  go_loopg [5] (n + 1) (fun g i wr => ∃ k : Nat, k ≤ n ∧ g = n + 1 - k ∧ i = .int .i64 (k : Int) ∧ xs.take k = ys.take k ∧ Below w.heap.size w wr)
  case atStart => exact ⟨0, Nat.zero_le _, rfl, rfl, rfl, Below.refl _ _⟩
  case round =>
   obtain ⟨k, hk, rfl, rfl, htk, hbr⟩ := hrel
   have hz := hbr.size
   by_cases hlt : k < n
   ·
    obtain ⟨bA, oA, x, rfl, hbA, hp, hcp⟩ := (hA.below hbr).at_ hlt
    obtain ⟨bB, oB, y, rfl, hbB, hq, hcq⟩ := (hB.below hbr).at_ hlt
    have p0 := hcp 0 _ rfl
    have p1 := hcp 1 _ rfl
    have p2 := hcp 2 _ rfl
    have q0 := hcq 0 _ rfl
    have q1 := hcq 1 _ rfl
    have q2 := hcq 2 _ rfl
    rw [Nat.add_zero] at p0 q0
    clear hcp hcq
    have hbA2 : bA < wr.heap.size := by omega
    have hbB2 : bB < wr.heap.size := by omega
    have htkH := jH htk
    have hpH := jH hp
    have hqH := jH hq
    clear htk hp hq
    have hq0 : KQ wr.heap.size wr wr := kq (Below.refl _ _)
    obtain ⟨⟨x1, x2⟩, x3⟩ := x
    obtain ⟨⟨y1, y2⟩, y3⟩ := y
    dsimp only at p0 p1 p2 q0 q1 q2
    by_cases he : x1 = y1 ∧ x2 = y2 ∧ x3 = y3
    ·
     obtain ⟨rfl, rfl, rfl⟩ := he
     have hT : Hid (xs.take (k + 1) = ys.take (k + 1)) := jH (by rw [List.take_add_one, List.take_add_one, htkH.out, hpH.out, hqH.out])
     go_wp2
     go_region_held3 (fun w' => KQ wr.heap.size wr w') (first
      | with_reducible exact jP (by assumption) (by simp) (by assumption)
      | with_reducible exact yB (by assumption) (by simp) (by assumption) (by simp [Value.ownBlock])
      | ((
     with_reducible refine kq ?_); (repeat (first | (with_reducible exact Below.refl _ _) | (with_reducible refine Below.drew ?_) | (with_reducible refine Below.alloc ?_ (by simp) _) | (with_reducible refine Below.setCell ?_ (by simp) _) | (with_reducible exact (by assumption : KQ _ _ _).1))); done)) (first | (go_at_call 0; skip))
     have hG : Below w.heap.size w wr.drew := hbr.drew
     go_wp2
     go_roundg (n + 1 - (k + 1))
     case measure => omega
     case rel => exact ⟨k + 1, by omega, rfl, by go_num, hT.out, hG⟩
    ·
     have hT : Hid (false = r) := jH (by
      rw [← hrH.out]; symm; apply decide_eq_false; intro e; subst e
      have := hpH.out.symm.trans hqH.out
      simp at this; exact he ⟨this.1.1, this.1.2, this.2⟩)
     have hG : Below w.heap.size w wr.drew := hbr.drew
     by_cases h1 : x1 = y1
     ·
      subst h1
      by_cases h2 : x2 = y2
      ·
       subst h2
       have h3 : ¬ x3 = y3 := fun e => he ⟨rfl, rfl, e⟩
       clear he
       go_wp2
       go_region_held3 (fun w' => KQ wr.heap.size wr w') (first
        | with_reducible exact jP (by assumption) (by simp) (by assumption)
        | with_reducible exact yB (by assumption) (by simp) (by assumption) (by simp [Value.ownBlock])
        | ((with_reducible refine kq ?_); (repeat (first | (with_reducible exact Below.refl _ _) | (with_reducible refine Below.drew ?_) | (with_reducible refine Below.alloc ?_ (by simp) _) | (with_reducible refine Below.setCell ?_ (by simp) _) | (with_reducible exact (by assumption : KQ _ _ _).1))); done)) (first | (go_at_call 0; skip))
       go_wp2
       go_ret
       exact ⟨jY hT.out, hG⟩
      ·
       clear he
       go_wp2
       go_region_held3 (fun w' => KQ wr.heap.size wr w') (first
        | with_reducible exact jP (by assumption) (by simp) (by assumption)
        | with_reducible exact yB (by assumption) (by simp) (by assumption) (by simp [Value.ownBlock])
        | ((with_reducible refine kq ?_); (repeat (first | (with_reducible exact Below.refl _ _) | (with_reducible refine Below.drew ?_) | (with_reducible refine Below.alloc ?_ (by simp) _) | (with_reducible refine Below.setCell ?_ (by simp) _) | (with_reducible exact (by assumption : KQ _ _ _).1))); done)) (first | (go_at_call 0; skip))
       go_wp2
       go_ret
       exact ⟨jY hT.out, hG⟩
     ·
      clear he
      go_wp2
      go_region_held3 (fun w' => KQ wr.heap.size wr w') (first
       | with_reducible exact jP (by assumption) (by simp) (by assumption)
       | with_reducible exact yB (by assumption) (by simp) (by assumption) (by simp [Value.ownBlock])
       | ((with_reducible refine kq ?_); (repeat (first | (with_reducible exact Below.refl _ _) | (with_reducible refine Below.drew ?_) | (with_reducible refine Below.alloc ?_ (by simp) _) | (with_reducible refine Below.setCell ?_ (by simp) _) | (with_reducible exact (by assumption : KQ _ _ _).1))); done)) (first | (go_at_call 0; skip))
      go_wp2
      go_ret
      exact ⟨jY hT.out, hG⟩
   ·
    have hT : Hid (true = r) := jH (by
     rw [← hrH.out]; symm; apply decide_eq_true
     rw [List.take_of_length_le (by omega), List.take_of_length_le (by omega)] at htk
     exact htk)
    clear htk
    go_wp2
    go_ret
    exact ⟨jY hT.out, hbr⟩
 ·
  have hT : Hid (false = r) := jH (by
   rw [← hrH.out]; symm; apply decide_eq_false; rintro rfl; omega)
  have hd : ((n : Int) == (m : Int)) = false := by simpa using hnm
  go_enter Tryz.func146, Tryz.ntmps146
  go_wp2
  go_ret
  exact ⟨jY hT.out, Below.refl _ _⟩
def PredT (g : Nat) (lb : Array Value) (p : Tm → Bool) (B : Nat) (w : World) (xs : List Tm) : Prop :=
 ∀ x ∈ xs, ∀ w', Below B w w' → Calls Tryz.prog g (#[.agg #[.int .i64 x.1.1, .int .u32 x.1.2, .int .i64 x.2]] ++ lb) w' fun e w'' => e = .returned (.bool (p x)) ∧ Below w'.heap.size w' w''
theorem ixfT_gen (g : Nat) (lb : Array Value) (p : Tm → Bool) (eg : ∀ args w, (callFunc g args).run Tryz.prog w = .ok (.enter g args) w) (B : Nat) (A : Option Addr) (n c : Nat) (xs : List Tm) (w : World) (hA : RdT w w.heap.size A n xs) (hn : n ≤ maxLen) (hp : PredT g lb p B w xs) (hB : B ≤ w.heap.size) :
 Calls Tryz.prog 165 #[.slice A n c, .func (.func g) #[] lb] w
  fun e w' => e = .returned (.int .i64 (firstG p xs)) ∧ Below w.heap.size w w' := by
 unfold maxLen at hn
 have hp := jH hp
 go_enter Tryz.func165, Tryz.ntmps165
 go_wp2
 go_loopg [8] (n + 1) (fun g i wr => ∃ k : Nat, k ≤ n ∧ g = n + 1 - k ∧ i = .int .i64 k ∧ (∀ u ∈ xs.take k, p u = false) ∧ Below w.heap.size w wr)
 case atStart => exact ⟨0, Nat.zero_le _, rfl, rfl, by simp, Below.refl _ _⟩
 case round =>
  obtain ⟨k, hk, rfl, rfl, hno, hbr⟩ := hrel
  have hz := hbr.size
  by_cases hlt : k < n
  ·
   obtain ⟨bA, oA, u, rfl, hbA, hq, hcp⟩ := (hA.below hbr).at_ hlt
   have p0 := hcp 0 _ rfl
   have p1 := hcp 1 _ rfl
   have p2 := hcp 2 _ rfl
   rw [Nat.add_zero] at p0
   clear hcp
   have hnoH := jH hno
   have hqH := jH hq
   clear hno hq
   go_wp2_with fail
   refine (hp.out u (List.mem_of_getElem? hqH.out) wr (hbr.mono hB)).mono ?_
   rintro e w1 ⟨rfl, hb1⟩
   have hb2 := hbr.trans (hb1.mono hz)
   generalize hx' : p u = r
   cases r
   case true =>
    have hT := jH (firstG_at hnoH.out hqH.out hx')
    clear hx'
    go_wp2
    go_ret
    exact ⟨jJ hT.out.symm, hb2⟩
   case false =>
    have hT := jH hx'
    clear hx'
    go_wp2
    go_roundg (n + 1 - (k + 1))
    case measure => omega
    case rel => exact ⟨k + 1, by omega, rfl, by go_num, all_take_succ hnoH.out hqH.out hT.out, hb2⟩
  ·
   have hT := jH (firstG_none (p := p) (all_take_all (by rw [show k = n from by omega] at hno; exact hno) hA.len))
   clear hno
   go_wp2
   go_ret
   exact ⟨jJ hT.out.symm, hbr⟩
theorem cfT_gen (g : Nat) (lb : Array Value) (p : Tm → Bool) (eg : ∀ args w, (callFunc g args).run Tryz.prog w = .ok (.enter g args) w) (B : Nat) (A : Option Addr) (n c : Nat) (xs : List Tm) (w : World) (hA : RdT w w.heap.size A n xs) (hn : n ≤ maxLen) (hp : PredT g lb p B w xs) (hB : B ≤ w.heap.size) :
 Calls Tryz.prog 149 #[.slice A n c, .func (.func g) #[] lb] w
  fun e w' => e = .returned (.bool (xs.any p)) ∧ Below w.heap.size w w' := by
 have h := ixfT_gen g lb p eg B A n c xs w hA hn hp hB
 have hrH := jH (firstG_any p xs)
 clear eg hp
 generalize firstG p xs = z at h hrH
 go_enter Tryz.func149, Tryz.ntmps149
 go_wp2_with fail
 refine h.mono ?_
 rintro e w1 ⟨rfl, hb1⟩
 go_wp2
 go_ret
 exact ⟨jY hrH.out, hb1⟩
theorem bs_empty (e : List UInt8) : (bs e).toList = e := by rw [ByteArray.toList_eq]; rfl
theorem oelem_any (s : List UInt8) (hs : s.length ≤ maxLen) (w : World) :
 Calls Tryz.prog 164 #[.string (bs s)] w fun e w' => e = .returned (.bool (elemB s)) ∧ w = w' := by
 have hz := jG s
 have hl := bs_empty s
 generalize hr : elemB s = r
 unfold elemB at hr
 have hrH := jH hr
 clear hr
 unfold maxLen at hs
 by_cases h0 : s = []
 ·
  subst h0
  have hT : Hid (false = r) := jH (by rw [← hrH.out]; simp)
  have hz0 : ((bs []).size) = 0 := rfl
  clear hz
  go_enter Tryz.func164, Tryz.ntmps164
  go_wp2
  go_ret
  exact ⟨jY hT.out, rfl⟩
 ·
  have hne : (bs s).toList.isEmpty = false := by rw [hl, List.isEmpty_eq_false_iff]; exact h0
  have hne2 : (bs s).toList.isEmpty = false := hne
  have hpos : 1 ≤ s.length := by cases s with | nil => exact absurd rfl h0 | cons => simp
  by_cases h12 : s.length ≤ 12
  ·
   have hT : Hid (true = r) := jH (by rw [← hrH.out]; symm; exact decide_eq_true ⟨hpos, h12⟩)
   have hd1 : decide ((1 : Int) ≤ (((bs s).size : Nat) : Int)) = true := decide_eq_true (by omega)
   have hd2 : decide ((((bs s).size : Nat) : Int) ≤ 12) = true := decide_eq_true (by omega)
   clear hl hz h0 hne2 hpos
   go_enter Tryz.func164, Tryz.ntmps164
   go_wp2
   go_ret
   exact ⟨jY hT.out, rfl⟩
  ·
   have hT : Hid (false = r) := jH (by rw [← hrH.out]; symm; exact decide_eq_false (by omega))
   have hd1 : decide ((1 : Int) ≤ (((bs s).size : Nat) : Int)) = true := decide_eq_true (by omega)
   have hd2 : decide ((((bs s).size : Nat) : Int) ≤ 12) = false := decide_eq_false (by omega)
   clear hl hz h0 hne2 hpos
   go_enter Tryz.func164, Tryz.ntmps164
   go_wp2
   go_ret
   exact ⟨jY hT.out, rfl⟩
section
variable {P : Program} {ops : Array Oper} {Q : Exit → Act → World → Prop} {md : Region.Mode} {C E : World → Prop} {m : Nat}
theorem closedL_on {L : Array Bool} (hcl : ClosedL md ops L) {j i : Nat} {oj : Oper} (hj : ops[j]? = some oj) (hw : (oj.after.any fun e => Region.binds md e && e.on == i) = true) (hl : L.getD j false = true) : L.getD i false = true := by
 obtain ⟨e, he, hb⟩ := Array.any_eq_true'.1 hw
 simp only [Bool.and_eq_true, beq_iff_eq] at hb
 have := hcl j oj hj hl e he hb.1
 rwa [hb.2] at this
theorem wpM_take0c {i j : Nat} {oi oj om : Oper} {v : Value} {f : Nat} {L : Array Bool} {a : Act} {w : World} (hi : ops[i]? = some oi) (hj : ops[j]? = some oj) (hm : ops[m]? = some om)
 (hw : (om.after.any fun e => Region.binds md e && e.on == j) = true) (hw2 : (oj.after.any fun e => Region.binds md e && e.on == i) = true)
 (hs : Region.noSelect ops = true) (hf : Region.free md ops L i = true) (hr : (Region.ready md ops L).contains i = true) (him : i ≠ m)
 (hQ : ∀ c a w, Q (.panic c) (a.put oi.dst v) w → Q (.panic c) a w) (hcl : ClosedL md ops L) (hC : C w) (hE : L.getD m false = false → E w) (hy : YieldsIf P ops (fun w => C w ∧ E w) oi v a)
 (h : ClosedL md ops (L.setIfInBounds i true) → wpAnyM P md ops Q C E m f (L.setIfInBounds i true) (a.put oi.dst v) w) : wpAnyM P md ops Q C E m (f + 1) L a w := by
 refine wpAnyM_first (S := fun w => C w ∧ E w) hi (Region.noSelect_spec hs) hQ him (fun L w hcl hun hc he => ⟨hc, he ?_⟩) f L a w hcl (Region.free_spec hi hf) (by simpa using hr) hy hC hE (h (hcl.set (by simpa using hr)))
 rw [← Bool.not_eq_true]
 intro hlm
 have h2 := closedL_on hcl hj hw2 (closedL_on hcl hm hw hlm)
 rcases Nat.lt_or_ge i L.size with h' | h'
 ·
  simp [h'] at hun h2; rw [hun] at h2; cases h2
 ·
  simp [Array.getElem?_eq_none h'] at h2
end
abbrev Sm := Int × Int
def Sm.wf (s : Sm) : Prop := 0 ≤ s.1 ∧ s.1 < 4294967296
def chkS (s : Sm) : Bool := decide (s.1 ≤ 1048576 ∧ 0 ≤ s.2 ∧ s.2 ≤ 7)
def writeS (s : Sm) : List UInt8 := if chkS s then numB s.1.toNat ++ numB s.2.toNat else []
def zig (v : Int) : Nat := if 0 ≤ v then 2 * v.toNat else 2 * (-(v + 1)).toNat + 1
def writeZ (v : Int) : List UInt8 := numB (zig v)
theorem writeS_len (s : Sm) (_h : s.wf) : (writeS s).length ≤ 18 := by
 unfold writeS
 split
 ·
  rename_i hc
  simp [chkS] at hc
  have h1 := jN s.1.toNat (by omega)
  have h2 := jN s.2.toNat (by omega)
  rw [List.length_append]; omega
 ·
  simp
theorem zig_lt {v : Int} (h1 : -9223372036854775808 ≤ v) (h2 : v ≤ 9223372036854775807) : zig v < 18446744073709551616 := by unfold zig; split <;> omega
def readZ (S : Rs) : Int × Rs := (if (numS S).1 % 2 = 1 then -((numS S).1 / 2 : Nat) - 1 else (((numS S).1 / 2 : Nat) : Int), (numS S).2)
def readSt' (S : Rs) : Sm × Rs :=
 let p := intS 1048576 S
 let q := intS 7 p.2
 if q.2.fe ≠ 0 then ((0, 0), q.2) else (((p.1 : Int), (q.1 : Int)), q.2)
theorem readSt'_wf {S : Rs} (h : S.wf) : (readSt' S).2.wf ∧ (readSt' S).1.wf := by
 have h1 := Rs.wf_next h (fun v => if 1048576 < v then 2 else 0)
 have h2 := Rs.wf_next h1 (fun v => if 7 < v then 2 else 0)
 have h3 := yA 1048576 S
 unfold readSt'
 dsimp only
 split
 ·
  exact ⟨h2, show (0 : Int) ≤ 0 by decide, show (0 : Int) < 4294967296 by decide⟩
 ·
  exact ⟨h2, show (0 : Int) ≤ (((intS 1048576 S).1 : Nat) : Int) by omega, show (((intS 1048576 S).1 : Nat) : Int) < 4294967296 by omega⟩
theorem plchk_any (s : Sm) (hs : s.wf) (w : World) :
 Calls Tryz.prog 153 #[.agg #[.int .u32 s.1, .int .i64 s.2]] w fun e w' => e = .returned (.int .i64 (errI (chkS s))) ∧ Below w.heap.size w w' := by
 obtain ⟨t, o⟩ := s
 obtain ⟨h0, h1⟩ := hs
 dsimp only at h0 h1 ⊢
 have hB : Below w.heap.size w (w.alloc (.cells #[.int .u32 t, .int .i64 o] 133)) := (Below.refl _ w).alloc (Nat.le_refl _) _
 by_cases h2 : 1048576 < t
 ·
  have hr : chkS (t, o) = false := by simp [chkS]; omega
  rw [hr]
  clear hr
  go_enter Tryz.func153, Tryz.ntmps153
  go_wp2
  go_ret
  exact ⟨rfl, hB⟩
 have hd2 : decide (1048576 < t) = false := decide_eq_false h2
 by_cases h3 : o < 0
 ·
  have hr : chkS (t, o) = false := by simp [chkS]; omega
  rw [hr]
  have h3' : ¬ 0 ≤ o := by omega
  clear hr
  go_enter Tryz.func153, Tryz.ntmps153
  go_wp2
  go_ret
  exact ⟨rfl, hB⟩
 have hd3 : decide (o < 0) = false := decide_eq_false h3
 have hd3' : (0 : Int) ≤ o := by omega
 by_cases h4 : 7 < o
 ·
  have hr : chkS (t, o) = false := by simp [chkS]; omega
  rw [hr]
  have h4' : ¬ o < 8 := by omega
  clear hr
  go_enter Tryz.func153, Tryz.ntmps153
  go_wp2
  go_ret
  exact ⟨rfl, hB⟩
 have hd4 : decide (7 < o) = false := decide_eq_false h4
 have h4' : o < 8 := by omega
 have hr : chkS (t, o) = true := by simp [chkS]; omega
 rw [hr]
 clear hr
 go_enter Tryz.func153, Tryz.ntmps153
 go_wp2
 go_ret
 exact ⟨rfl, hB⟩
end Go.Proofs.YtfhandglpjnonaaGreatDoor
