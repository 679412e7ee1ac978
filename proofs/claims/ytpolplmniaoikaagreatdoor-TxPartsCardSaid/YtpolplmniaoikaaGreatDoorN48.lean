/- Regions of which two operations may come up at once; a box of twelve cells written whole. Regions of which three operations may come up at once; boxes written whole beside rows of one's own. Helpers of the statements on transactions: parts left by keys, parts of the same values. Interests: SameTexts, and 'works' of the statements. -/
import Derived.Test.YtpolplmniaoikaaGreatDoorMp
import Derived.Test.YtpolplmniaoikaaGreatDoorM40
import Derived.Test.YtpolplmniaoikaaGreatDoorM46
import Derived.Test.YtpolplmniaoikaaGreatDoorFu
import Derived.Test.YtpolplmniaoikaaGreatDoorN38
namespace Go.Proofs.YtpolplmniaoikaaGreatDoor
open Go.RowKit

section
variable {P : Program} {ops : Array Oper} {Q : Exit → Act → World → Prop} {md : Region.Mode} {C E : World → Prop} {m : Nat}
/-- Two operations may come up, ahead of number m: a goal for each. -/
theorem wpM_two {i j : Nat} {o o' : Oper} {f : Nat} {L : Array Bool} {a : Act} {w : World} (ho : ops[i]? = some o) (ho' : ops[j]? = some o') (hr : Region.ready md ops L = [i, j]) (hcl : ClosedL md ops L)
    (h : ∀ K : Act → World → Prop, Shut (∀ a w, C w → E w → (ClosedL md ops (L.setIfInBounds i true) → wpAnyM P md ops Q C E m f (L.setIfInBounds i true) a w) → K a w) →
      if Region.wanted o (yielded ops a.tmps) = true then Oper.wp P o a w K Q else K (a.put o.dst undef) w)
    (h' : ∀ K : Act → World → Prop, Shut (∀ a w, C w → E w → (ClosedL md ops (L.setIfInBounds j true) → wpAnyM P md ops Q C E m f (L.setIfInBounds j true) a w) → K a w) →
      if Region.wanted o' (yielded ops a.tmps) = true then Oper.wp P o' a w K Q else K (a.put o'.dst undef) w) : wpAnyM P md ops Q C E m (f + 1) L a w := by
  refine ⟨fun h0 => (by rw [hr] at h0; cases h0), fun k hk => ?_⟩
  have hcl' := hcl.set hk
  rw [hr] at hk
  rcases List.mem_cons.1 hk with rfl | hk
  · exact wpOp_step ho (fun K hK => h K fun a w hc he hh => hK a w ⟨hc, fun _ => he, hh hcl'⟩)
  · obtain rfl : k = j := by simpa using hk
    exact wpOp_step ho' (fun K hK => h' K fun a w hc he hh => hK a w ⟨hc, fun _ => he, hh hcl'⟩)
end
theorem heap12 {w : World} {g : Nat} {t : TypeId} {a0 a1 a2 a3 a4 a5 a6 a7 a8 a9 a10 a11 : Value} (h : w.heap[g]? = some (.cells #[a0, a1, a2, a3, a4, a5, a6, a7, a8, a9, a10, a11] t (0, 0))) (x0 x1 x2 x3 x4 x5 x6 x7 x8 x9 x10 x11 : Value) :
    ((((((((((((w.setCell ⟨g, 0, none⟩ x0).setCell ⟨g, 1, none⟩ x1).setCell ⟨g, 2, none⟩ x2).setCell ⟨g, 3, none⟩ x3).setCell ⟨g, 4, none⟩ x4).setCell ⟨g, 5, none⟩ x5).setCell ⟨g, 6, none⟩ x6).setCell ⟨g, 7, none⟩ x7).setCell ⟨g, 8, none⟩ x8).setCell ⟨g, 9, none⟩ x9).setCell ⟨g, 10, none⟩ x10).setCell ⟨g, 11, none⟩ x11).heap[g]? = some (.cells #[x0, x1, x2, x3, x4, x5, x6, x7, x8, x9, x10, x11] t (0, 0)) := by
  rw [blk_set (blk_set (blk_set (blk_set (blk_set (blk_set (blk_set (blk_set (blk_set (blk_set (blk_set (blk_set h 0 x0) 1 x1) 2 x2) 3 x3) 4 x4) 5 x5) 6 x6) 7 x7) 8 x8) 9 x9) 10 x10) 11 x11]
  simp
theorem set12_keep {n g : Nat} {u w : World} (h : Below n u w) (hg : n ≤ g) (x0 x1 x2 x3 x4 x5 x6 x7 x8 x9 x10 x11 : Value) : Below n u ((((((((((((w.setCell ⟨g, 0, none⟩ x0).setCell ⟨g, 1, none⟩ x1).setCell ⟨g, 2, none⟩ x2).setCell ⟨g, 3, none⟩ x3).setCell ⟨g, 4, none⟩ x4).setCell ⟨g, 5, none⟩ x5).setCell ⟨g, 6, none⟩ x6).setCell ⟨g, 7, none⟩ x7).setCell ⟨g, 8, none⟩ x8).setCell ⟨g, 9, none⟩ x9).setCell ⟨g, 10, none⟩ x10).setCell ⟨g, 11, none⟩ x11) := by
  repeat (with_reducible refine Below.setCell ?_ hg _)
  exact h
theorem OwE.setCell {t : TypeId} {w : World} {base n c : Nat} {A : Option Addr} {ps : List Pe} (h : OwE t w base A n c ps) {a : Addr} (ha : a.block < base) (u : Value) : OwE t (w.setCell a u) base A n c ps :=
  ⟨h.1.setCell ha u, fun p hp => (h.2 p hp).setCell ha u⟩
theorem set12_own {t : TypeId} {base l c g : Nat} {A : Option Addr} {ps : List Pe} {w : World} (h : OwE t w base A l c ps) (hg : g < base) (x0 x1 x2 x3 x4 x5 x6 x7 x8 x9 x10 x11 : Value) : OwE t ((((((((((((w.setCell ⟨g, 0, none⟩ x0).setCell ⟨g, 1, none⟩ x1).setCell ⟨g, 2, none⟩ x2).setCell ⟨g, 3, none⟩ x3).setCell ⟨g, 4, none⟩ x4).setCell ⟨g, 5, none⟩ x5).setCell ⟨g, 6, none⟩ x6).setCell ⟨g, 7, none⟩ x7).setCell ⟨g, 8, none⟩ x8).setCell ⟨g, 9, none⟩ x9).setCell ⟨g, 10, none⟩ x10).setCell ⟨g, 11, none⟩ x11) base A l c ps := by
  repeat (with_reducible refine OwE.setCell ?_ hg _)
  exact h
end Go.Proofs.YtpolplmniaoikaaGreatDoor
namespace Go.Proofs.YtpolplmniaoikaaGreatDoor
open Go.RowKit

section
variable {P : Program} {ops : Array Oper} {Q : Exit → Act → World → Prop} {md : Region.Mode} {C E : World → Prop} {m : Nat}
/-- Three operations may come up, ahead of number m: a goal for each. -/
theorem wpM_three {i j k : Nat} {o o' o'' : Oper} {f : Nat} {L : Array Bool} {a : Act} {w : World} (ho : ops[i]? = some o) (ho' : ops[j]? = some o') (ho'' : ops[k]? = some o'') (hr : Region.ready md ops L = [i, j, k]) (hcl : ClosedL md ops L)
    (h : ∀ K : Act → World → Prop, Shut (∀ a w, C w → E w → (ClosedL md ops (L.setIfInBounds i true) → wpAnyM P md ops Q C E m f (L.setIfInBounds i true) a w) → K a w) →
      if Region.wanted o (yielded ops a.tmps) = true then Oper.wp P o a w K Q else K (a.put o.dst undef) w)
    (h' : ∀ K : Act → World → Prop, Shut (∀ a w, C w → E w → (ClosedL md ops (L.setIfInBounds j true) → wpAnyM P md ops Q C E m f (L.setIfInBounds j true) a w) → K a w) →
      if Region.wanted o' (yielded ops a.tmps) = true then Oper.wp P o' a w K Q else K (a.put o'.dst undef) w)
    (h'' : ∀ K : Act → World → Prop, Shut (∀ a w, C w → E w → (ClosedL md ops (L.setIfInBounds k true) → wpAnyM P md ops Q C E m f (L.setIfInBounds k true) a w) → K a w) →
      if Region.wanted o'' (yielded ops a.tmps) = true then Oper.wp P o'' a w K Q else K (a.put o''.dst undef) w) : wpAnyM P md ops Q C E m (f + 1) L a w := by
  refine ⟨fun h0 => (by rw [hr] at h0; cases h0), fun l hl => ?_⟩
  have hcl' := hcl.set hl
  rw [hr] at hl
  rcases List.mem_cons.1 hl with rfl | hl
  · exact wpOp_step ho (fun K hK => h K fun a w hc he hh => hK a w ⟨hc, fun _ => he, hh hcl'⟩)
  rcases List.mem_cons.1 hl with rfl | hl
  · exact wpOp_step ho' (fun K hK => h' K fun a w hc he hh => hK a w ⟨hc, fun _ => he, hh hcl'⟩)
  · obtain rfl : l = k := by simpa using hl
    exact wpOp_step ho'' (fun K hK => h'' K fun a w hc he hh => hK a w ⟨hc, fun _ => he, hh hcl'⟩)
end
/-- A box of a transaction stands beside rows of parts: writing its cells leaves them. -/
theorem keepX {w : World} {base n c g : Nat} {A : Option Addr} {ps : List Pe} (h : OwE 101 w base A n c ps ∧ ∃ cs, w.heap[g]? = some (.cells cs 36 (0, 0))) (i : Nat) (u : Value) :
    OwE 101 (w.setCell ⟨g, i, none⟩ u) base A n c ps ∧ ∃ cs, (w.setCell ⟨g, i, none⟩ u).heap[g]? = some (.cells cs 36 (0, 0)) := by
  obtain ⟨h1, cs, h2⟩ := h
  exact ⟨⟨h1.1.set_blk h2 (by decide) i u, fun p hp => (h1.2 p hp).set_blk h2 (by decide) i u⟩, _, blk_set h2 i u⟩
theorem set12_keepX {w : World} {base n c g : Nat} {A : Option Addr} {ps : List Pe} {cs : Array Value} (h : OwE 101 w base A n c ps) (hg : w.heap[g]? = some (.cells cs 36 (0, 0))) (x0 x1 x2 x3 x4 x5 x6 x7 x8 x9 x10 x11 : Value) :
    OwE 101 ((((((((((((w.setCell ⟨g, 0, none⟩ x0).setCell ⟨g, 1, none⟩ x1).setCell ⟨g, 2, none⟩ x2).setCell ⟨g, 3, none⟩ x3).setCell ⟨g, 4, none⟩ x4).setCell ⟨g, 5, none⟩ x5).setCell ⟨g, 6, none⟩ x6).setCell ⟨g, 7, none⟩ x7).setCell ⟨g, 8, none⟩ x8).setCell ⟨g, 9, none⟩ x9).setCell ⟨g, 10, none⟩ x10).setCell ⟨g, 11, none⟩ x11) base A n c ps := (keepX (keepX (keepX (keepX (keepX (keepX (keepX (keepX (keepX (keepX (keepX (keepX ⟨h, _, hg⟩ 0 x0) 1 x1) 2 x2) 3 x3) 4 x4) 5 x5) 6 x6) 7 x7) 8 x8) 9 x9) 10 x10) 11 x11).1
theorem set12_other {w : World} {g k : Nat} {o : Obj} (hk : g ≠ k) (h : w.heap[k]? = some o) (x0 x1 x2 x3 x4 x5 x6 x7 x8 x9 x10 x11 : Value) : ((((((((((((w.setCell ⟨g, 0, none⟩ x0).setCell ⟨g, 1, none⟩ x1).setCell ⟨g, 2, none⟩ x2).setCell ⟨g, 3, none⟩ x3).setCell ⟨g, 4, none⟩ x4).setCell ⟨g, 5, none⟩ x5).setCell ⟨g, 6, none⟩ x6).setCell ⟨g, 7, none⟩ x7).setCell ⟨g, 8, none⟩ x8).setCell ⟨g, 9, none⟩ x9).setCell ⟨g, 10, none⟩ x10).setCell ⟨g, 11, none⟩ x11).heap[k]? = some o := by
  repeat (with_reducible refine heap_set_ne hk ?_)
  exact h
end Go.Proofs.YtpolplmniaoikaaGreatDoor
namespace Go.Proofs.YtpolplmniaoikaaGreatDoor
open Go.RowKit

theorem leavePs_map (ps : List Pe) (xs : List (List UInt8)) (q : Bool) : (ps.filter fun p => wantK xs p.key == q).map Pe.core = leavePs (ps.map Pe.core) xs q := by
  unfold leavePs
  rw [List.filter_map]
  rfl
theorem leavePs_sub (ps : List Pv) (xs : List (List UInt8)) (q : Bool) : ∀ p ∈ leavePs ps xs q, p ∈ ps := fun _ hp => (List.mem_filter.1 hp).1
theorem leavePs_len (ps : List Pv) (xs : List (List UInt8)) (q : Bool) : (leavePs ps xs q).length ≤ ps.length := List.length_filter_le _ _
theorem sameTv_self (a : Tv) : sameTv a a = true := sameTv_iff.2 rfl
/-- Parts of the same values fit as well. -/
theorem fit_of {w : World} {n : Nat} {A : Option Addr} {ps qs : List Pe} {a b : Nat} (hr : RdE w w.heap.size A n qs) (hc : qs.map Pe.core = ps.map Pe.core)
    (hp : ∀ p ∈ ps, p.e.wf ∧ p.key.length ≤ maxLen ∧ p.e.name.length ≤ maxLen ∧ p.l ≤ maxLen) (ho : okPs a b (ps.map Pe.core)) (hb : b ≤ 100000) : ∀ q ∈ qs, q.Fit w := fun q hq => by
  have hm : q.core ∈ ps.map Pe.core := by rw [← hc]; exact List.mem_map.2 ⟨q, hq, rfl⟩
  obtain ⟨p, hpm, he⟩ := List.mem_map.1 hm
  obtain ⟨h1, h2, h3, -⟩ := hp p hpm
  have e1 : q.key = p.key := (congrArg Prod.fst he).symm
  have e2 : q.e = p.e := (congrArg Prod.snd he).symm
  exact ⟨hr.2 q hq, e2 ▸ h1, e1 ▸ h2, e2 ▸ h3, Nat.le_trans (okPs.le (by rw [hc]; exact ho) hr q hq) hb⟩
end Go.Proofs.YtpolplmniaoikaaGreatDoor
namespace Go.Proofs.YtpolplmniaoikaaGreatDoor
open Go.RowKit

set_option maxRecDepth 100000 in
theorem sameW_any (A B : Option Addr) (n m c d : Nat) (xs ys : List (List UInt8)) (w : World) (hA : RdS w w.heap.size A n xs) (hB : RdS w w.heap.size B m ys) (hn : n ≤ maxLen) (hm : m ≤ maxLen) :
    Calls Tryz.prog 21 #[.slice A n c, .slice B m d] w fun e w' => e = .returned (.bool (decide (xs = ys))) ∧ Below w.heap.size w w' := by
  have hl := hA.len
  have hl2 := hB.len
  unfold maxLen at hn hm
  generalize hr : decide (xs = ys) = r
  have hrH := Lib.hid hr
  clear hr
  by_cases hnm : (n : Int) = (m : Int)
  · obtain rfl : n = m := by omega
    clear hnm
    go_enter Tryz.func21, Tryz.ntmps21
    go_wp2
    go_loopg [5] (n + 1) (fun g i wr => ∃ k : Nat, k ≤ n ∧ g = n + 1 - k ∧ i = .int .i64 (k : Int) ∧ xs.take k = ys.take k ∧ Below w.heap.size w wr)
    case atStart => exact ⟨0, Nat.zero_le _, rfl, rfl, rfl, Below.refl _ _⟩
    case round =>
      obtain ⟨k, hk, rfl, rfl, htk, hbr⟩ := hrel
      have hz := hbr.size
      by_cases hlt : k < n
      · obtain ⟨bA, oA, x, rfl, hbA, hp, hcp⟩ := (hA.below hbr).at_ hlt
        obtain ⟨bB, oB, y, rfl, hbB, hq, hcq⟩ := (hB.below hbr).at_ hlt
        have p0 := hcp 0 _ rfl
        have q0 := hcq 0 _ rfl
        rw [Nat.add_zero, Nat.mul_one] at p0 q0
        clear hcp hcq
        have hbA2 : bA < wr.heap.size := by omega
        have hbB2 : bB < wr.heap.size := by omega
        have htkH := Lib.hid htk
        have hpH := Lib.hid hp
        have hqH := Lib.hid hq
        clear htk hp hq
        have hq0 : KQ wr.heap.size wr wr := kq (Below.refl _ _)
        by_cases he : x = y
        · subst he
          have hT : Hid (xs.take (k + 1) = ys.take (k + 1)) := Lib.hid (by rw [List.take_add_one, List.take_add_one, htkH.out, hpH.out, hqH.out])
          go_wp2
          go_region_held3 (fun w' => KQ wr.heap.size wr w') (first
      | with_reducible exact kq_call (by assumption) (by simp) (by assumption)
      | with_reducible exact kq_grown (by assumption) (by simp) (by assumption) (by simp [Value.ownBlock])
      | ((with_reducible refine kq ?_); (repeat (first | (with_reducible exact Below.refl _ _) | (with_reducible refine Below.drew ?_) | (with_reducible refine Below.alloc ?_ (by simp) _) | (with_reducible refine Below.setCell ?_ (by simp) _) | (with_reducible exact (by assumption : KQ _ _ _).1))); done)) (first | (go_at_call 0; skip))
          have hG : Below w.heap.size w wr.drew := hbr.drew
          go_wp2
          go_roundg (n + 1 - (k + 1))
          case measure => omega
          case rel => exact ⟨k + 1, by omega, rfl, by go_num, hT.out, hG⟩
        · have hT : Hid (false = r) := Lib.hid (by
            rw [← hrH.out]; symm; apply decide_eq_false; intro e; subst e
            have := hpH.out.symm.trans hqH.out
            injection this with this; exact he this)
          have hG : Below w.heap.size w wr.drew := hbr.drew
          have hsn : ((bs x).toList == (bs y).toList) = false := by rw [bs_emptyH, bs_emptyH, beq_eq_false_iff_ne]; exact he
          clear he
          go_wp2
          go_region_held3 (fun w' => KQ wr.heap.size wr w') (first
      | with_reducible exact kq_call (by assumption) (by simp) (by assumption)
      | with_reducible exact kq_grown (by assumption) (by simp) (by assumption) (by simp [Value.ownBlock])
      | ((with_reducible refine kq ?_); (repeat (first | (with_reducible exact Below.refl _ _) | (with_reducible refine Below.drew ?_) | (with_reducible refine Below.alloc ?_ (by simp) _) | (with_reducible refine Below.setCell ?_ (by simp) _) | (with_reducible exact (by assumption : KQ _ _ _).1))); done)) (first | (go_at_call 0; skip))
          go_wp2
          go_ret
          exact ⟨ret_bool hT.out, hG⟩
      · have hT : Hid (true = r) := Lib.hid (by
          rw [← hrH.out]; symm; apply decide_eq_true
          rw [List.take_of_length_le (by omega), List.take_of_length_le (by omega)] at htk
          exact htk)
        clear htk
        go_wp2
        go_ret
        exact ⟨ret_bool hT.out, hbr⟩
  · have hT : Hid (false = r) := Lib.hid (by
      rw [← hrH.out]; symm; apply decide_eq_false; rintro rfl; omega)
    have hd : ((n : Int) == (m : Int)) = false := by simpa using hnm
    go_enter Tryz.func21, Tryz.ntmps21
    go_wp2
    go_ret
    exact ⟨ret_bool hT.out, Below.refl _ _⟩
theorem rdS_lit (w : World) (l : List (List UInt8)) (cs : Array Value) (h : cs = (l.map encS).flatten.toArray) : RdS (w.alloc (.cells cs 9)) (w.alloc (.cells cs 9)).heap.size (some ⟨w.heap.size, 0, none⟩) l.length l :=
  Rd.built (xs := l.map encS) encS_len h (by simp)
theorem wk_out1 : outW [[97, 47, 98], [97], [99], [97]] = [[97], [99]] := by rw [← makeR_out]; decide +kernel
theorem wk_out2 : outW [[97], [99]] = [[97], [99]] := by rw [← makeR_out]; decide +kernel
theorem wk_e1 : makeWE [[97, 47, 98], [97], [99], [97]] = 0 := by unfold makeWE; rw [wk_out1]; decide +kernel
theorem wk_m1 : makeW [[97, 47, 98], [97], [99], [97]] = [[97], [99]] := by unfold makeW; rw [wk_e1, wk_out1]; rfl
theorem wk_e2 : minusWE [[97], [99]] [97] = 0 := by unfold minusWE chkW; rw [wk_out2]; decide +kernel
theorem wk_m2 : minusW [[97], [99]] [97] = [[99]] := by unfold minusW; rw [wk_e2]; decide +kernel
theorem wk_e3 : makeWE [[97, 47]] = 3 := by
  unfold makeWE
  rw [if_pos (by decide +kernel)]
  decide +kernel
theorem wk_h1 : hasW [[97], [99]] [97, 47, 114] = true := by decide +kernel
theorem wk_h2 : hasW [[97], [99]] [97, 98, 47, 114] = false := by decide +kernel
theorem wk_h3 : hasW [[]] [120] = true := by decide +kernel
theorem wk_h4 : hasW [] [120] = false := by decide +kernel
theorem wk_v1 : coversW [[97], [99]] [[97, 47, 120]] = true := by decide +kernel
theorem wk_v2 : coversW [[97], [99]] [[]] = false := by decide +kernel
theorem short_lit {l : List (List UInt8)} (h : l.all (fun x => decide (x.length ≤ 1000)) = true) : shortS l := fun x hx => by simpa using List.all_eq_true.1 h x hx
end Go.Proofs.YtpolplmniaoikaaGreatDoor
