/- Keys of transactions, both: in order, each once. Time and Sees of transactions, both; the statements' own wanted and only. selkielaw15.works: the law's own example. Regions of which two operations may come up at once; a box of twelve cells written whole. Helpers of the statements on transactions: parts left by keys, parts of the same values. -/
import Derived.Test.YtpolplmniaoikaaDoorM39
import Derived.Test.YtpolplmniaoikaaDoorM29
import Derived.Deep.DeepCutAuto
import Derived.Deep.LoopGhost
import Derived.Test.YtpolplmniaoikaaDoorM41
import Derived.Test.YtpolplmniaoikaaDoorN33
import Derived.Test.YtpolplmniaoikaaDoorMn
import Derived.Test.YtpolplmniaoikaaDoorM40
import Derived.Test.YtpolplmniaoikaaDoorM46
namespace Go.Proofs.YtpolplmniaoikaaDoor
open Go.RowKit

/-- A transaction's keys. -/
def keysT (ps : List Pv) : List (List UInt8) := (ps.map Prod.fst).foldl insS []
theorem bytesLess_k (x y : List UInt8) : Op.bytesLess (bs x).toList (bs y).toList = decide (x < y) := by rw [bs_toL, bs_toL]; exact bytesLess_eq x y
theorem Rd.frontK {w : World} {B sz n q : Nat} {A : Option Addr} {xs : List (List Value)} (h : Rd w B sz A n xs) (hq : q ≤ n) : Rd w B sz A q (xs.take q) :=
  ⟨by rw [List.length_take, h.1]; omega, fun h0 => by
    obtain ⟨b, o, e, hb, hc⟩ := h.2 (by omega)
    refine ⟨b, o, e, hb, fun k x hx j u hu => hc k x ?_ j u hu⟩
    have hk := (List.getElem?_eq_some_iff.1 hx).1
    rw [List.length_take] at hk
    rwa [List.getElem?_take_of_lt (by omega)] at hx⟩
theorem Rd.backK {w : World} {B sz n q b o : Nat} {xs : List (List Value)} (h : Rd w B sz (some ⟨b, o, none⟩) n xs) (hq : q ≤ n) : Rd w B sz (some ⟨b, o + q * sz, none⟩) (n - q) (xs.drop q) :=
  ⟨by rw [List.length_drop, h.1], fun h0 => by
    obtain ⟨b', o', e, hb, hc⟩ := h.2 (by omega)
    injection e with e
    injection e with e1 e2
    subst e1; subst e2
    refine ⟨b, o + q * sz, rfl, hb, fun k x hx j u hu => ?_⟩
    rw [List.getElem?_drop] at hx
    have := hc (q + k) x hx j u hu
    rw [show o + q * sz + k * sz + j = o + (q + k) * sz + j by rw [Nat.add_mul]; omega]
    exact this⟩
end Go.Proofs.YtpolplmniaoikaaDoor
namespace Go.Proofs.YtpolplmniaoikaaDoor
open Go.RowKit

/-- The last time of parts' stamps. -/
def timeT (ps : List Pv) : Int := ps.foldl (fun m p => if m < p.2.st.1 then p.2.st.1 else m) 0
def seesT (x : Im) (v : Vm) (y : Im) : Bool := (decide (y.1 = x.1) && decide (y.2 = x.2)) || hasV v y
def wantK (ks : List (List UInt8)) (k : List UInt8) : Bool := ks.any fun x => decide (x = k)
/-- What is left of parts by keys; whether it is thin then. -/
def leavePs (ps : List Pv) (ks : List (List UInt8)) (b : Bool) : List Pv := ps.filter fun p => wantK ks p.1 == b
def leaveT (t : Bool) (ps : List Pv) (ks : List (List UInt8)) (b : Bool) : Bool := t || ps.any fun p => !(wantK ks p.1 == b)
theorem timeT_step (ps : List Pe) {k : Nat} {p : Pe} (h : ps[k]? = some p) : timeT ((ps.take (k + 1)).map Pe.core) = if timeT ((ps.take k).map Pe.core) < p.e.st.1 then p.e.st.1 else timeT ((ps.take k).map Pe.core) := by
  unfold timeT
  rw [List.take_add_one, h, List.map_append, List.foldl_append]
  rfl
end Go.Proofs.YtpolplmniaoikaaDoor
namespace Go.Proofs.YtpolplmniaoikaaDoor
open Go.RowKit

theorem Ow.set1 {w : World} {base g c sz : Nat} {e : TypeId} {x : List Value} (h : Ow w base e sz (.slice (some ⟨g, 0, none⟩) 1 c) [x]) {j : Nat} (_hj : j < sz) (u : Value) :
    Ow (w.setCell ⟨g, j, none⟩ u) base e sz (.slice (some ⟨g, 0, none⟩) 1 c) [x.set j u] := by
  have hx := h.1 x (by simp)
  have h2 := ownsRow_setCells [u] j h.2
  refine ⟨fun y hy => ?_, ?_⟩
  · rw [List.mem_singleton.1 hy, List.length_set]; exact hx
  · simpa [Go.Proofs.YtpolplmniaoikaaDoor.setL, World.setCells] using h2
abbrev wkV : Vm := ⟨0, 2, 0, 0, 0, 0, 0, 0⟩
abbrev wkU : Vm := ⟨0, 1, 0, 0, 0, 0, 0, 0⟩
def wkP : Pe := ⟨[97, 47, 99], ⟨2, [], 0, ((1, 3), 0), (0, 0), []⟩, none, 0, 0⟩
theorem wk_a : txErr (1, 3) wkV [] = 0 := by decide +kernel
theorem wk_b : txErr (1, 3) wkU [] = 17 := by decide +kernel
theorem wk_c : txErr (1, 3) wkV [wkP.core] = 0 := by decide +kernel
theorem wk_keys : (keysT [wkP.core]).length = 1 := by decide +kernel
theorem wk_s1 : seesT (1, 3) wkV (1, 2) = true := by decide +kernel
theorem wk_s2 : seesT (1, 3) wkV (1, 4) = false := by decide +kernel
theorem wk_m : mergeT ⟨(1, 3), wkV, false, [wkP.core]⟩ ⟨(1, 3), wkV, true, []⟩ = (⟨(1, 3), wkV, false, [wkP.core]⟩, 0) := by
  unfold mergeT
  dsimp only
  rw [wk_a, wk_c, mrgD_none, if_neg (by decide), if_neg (by decide), if_neg (by decide)]
  rfl
theorem wkV_wf : wkV.wf := by unfold Vm.wf wkV; decide
theorem wkU_wf : wkU.wf := by unfold Vm.wf wkU; decide
theorem wkI_wf : Im.wf (1, 3) := by unfold Im.wf; decide
end Go.Proofs.YtpolplmniaoikaaDoor
namespace Go.Proofs.YtpolplmniaoikaaDoor
open Go.RowKit

section
variable {P : Program} {ops : Array Oper} {Q : Exit → Act → World → Prop} {md : Region.Mode} {C E : World → Prop} {m : Nat}
/-- Two operations may come up, ahead of number m: a goal for each. -/
theorem wpM_two {i j : Nat} {o o' : Oper} {f : Nat} {L : Array Bool} {a : Act} {w : World} (ho : ops[i]? = some o) (ho' : ops[j]? = some o') (hr : Region.ready md ops L = [i, j]) (hcl : ClosedL md ops L)
    (h : ∀ K : Act → World → Prop, Shut (∀ a w, C w → E w → (ClosedL md ops (L.setIfInBounds i true) → wpAnyM P md ops Q C E m f (L.setIfInBounds i true) a w) → K a w) →
      if Region.wanted o (yielded ops a.tmps) = true then Oper.wp P o a w K Q else K (a.put o.dst undef) w)
    (h' : ∀ K : Act → World → Prop, Shut (∀ a w, C w → E w → (ClosedL md ops (L.setIfInBounds j true) → wpAnyM P md ops Q C E m f (L.setIfInBounds j true) a w) → K a w) →
      if Region.wanted o' (yielded ops a.tmps) = true then Oper.wp P o' a w K Q else K (a.put o'.dst undef) w) : wpAnyM P md ops Q C E m (f + 1) L a w := by
  refine ⟨fun h0 => (by rw [hr] at h0; cases h0), fun k hk => ?_⟩
  have hcl' := hcl.set hk
  rw [hr] at hk
  rcases List.mem_cons.1 hk with rfl | hk
  · exact wpOp_step ho (fun K hK => h K fun a w hc he hh => hK a w ⟨hc, fun _ => he, hh hcl'⟩)
  · obtain rfl : k = j := by simpa using hk
    exact wpOp_step ho' (fun K hK => h' K fun a w hc he hh => hK a w ⟨hc, fun _ => he, hh hcl'⟩)
end
theorem heap12 {w : World} {g : Nat} {t : TypeId} {a0 a1 a2 a3 a4 a5 a6 a7 a8 a9 a10 a11 : Value} (h : w.heap[g]? = some (.cells #[a0, a1, a2, a3, a4, a5, a6, a7, a8, a9, a10, a11] t (0, 0))) (x0 x1 x2 x3 x4 x5 x6 x7 x8 x9 x10 x11 : Value) :
    ((((((((((((w.setCell ⟨g, 0, none⟩ x0).setCell ⟨g, 1, none⟩ x1).setCell ⟨g, 2, none⟩ x2).setCell ⟨g, 3, none⟩ x3).setCell ⟨g, 4, none⟩ x4).setCell ⟨g, 5, none⟩ x5).setCell ⟨g, 6, none⟩ x6).setCell ⟨g, 7, none⟩ x7).setCell ⟨g, 8, none⟩ x8).setCell ⟨g, 9, none⟩ x9).setCell ⟨g, 10, none⟩ x10).setCell ⟨g, 11, none⟩ x11).heap[g]? = some (.cells #[x0, x1, x2, x3, x4, x5, x6, x7, x8, x9, x10, x11] t (0, 0)) := by
  rw [blk_set (blk_set (blk_set (blk_set (blk_set (blk_set (blk_set (blk_set (blk_set (blk_set (blk_set (blk_set h 0 x0) 1 x1) 2 x2) 3 x3) 4 x4) 5 x5) 6 x6) 7 x7) 8 x8) 9 x9) 10 x10) 11 x11]
  simp
theorem set12_keep {n g : Nat} {u w : World} (h : Below n u w) (hg : n ≤ g) (x0 x1 x2 x3 x4 x5 x6 x7 x8 x9 x10 x11 : Value) : Below n u ((((((((((((w.setCell ⟨g, 0, none⟩ x0).setCell ⟨g, 1, none⟩ x1).setCell ⟨g, 2, none⟩ x2).setCell ⟨g, 3, none⟩ x3).setCell ⟨g, 4, none⟩ x4).setCell ⟨g, 5, none⟩ x5).setCell ⟨g, 6, none⟩ x6).setCell ⟨g, 7, none⟩ x7).setCell ⟨g, 8, none⟩ x8).setCell ⟨g, 9, none⟩ x9).setCell ⟨g, 10, none⟩ x10).setCell ⟨g, 11, none⟩ x11) := by
  repeat (with_reducible refine Below.setCell ?_ hg _)
  exact h
theorem OwE.setCell {t : TypeId} {w : World} {base n c : Nat} {A : Option Addr} {ps : List Pe} (h : OwE t w base A n c ps) {a : Addr} (ha : a.block < base) (u : Value) : OwE t (w.setCell a u) base A n c ps :=
  ⟨h.1.setCell ha u, fun p hp => (h.2 p hp).setCell ha u⟩
theorem set12_own {t : TypeId} {base l c g : Nat} {A : Option Addr} {ps : List Pe} {w : World} (h : OwE t w base A l c ps) (hg : g < base) (x0 x1 x2 x3 x4 x5 x6 x7 x8 x9 x10 x11 : Value) : OwE t ((((((((((((w.setCell ⟨g, 0, none⟩ x0).setCell ⟨g, 1, none⟩ x1).setCell ⟨g, 2, none⟩ x2).setCell ⟨g, 3, none⟩ x3).setCell ⟨g, 4, none⟩ x4).setCell ⟨g, 5, none⟩ x5).setCell ⟨g, 6, none⟩ x6).setCell ⟨g, 7, none⟩ x7).setCell ⟨g, 8, none⟩ x8).setCell ⟨g, 9, none⟩ x9).setCell ⟨g, 10, none⟩ x10).setCell ⟨g, 11, none⟩ x11) base A l c ps := by
  repeat (with_reducible refine OwE.setCell ?_ hg _)
  exact h
end Go.Proofs.YtpolplmniaoikaaDoor
namespace Go.Proofs.YtpolplmniaoikaaDoor
open Go.RowKit

theorem leavePs_map (ps : List Pe) (xs : List (List UInt8)) (q : Bool) : (ps.filter fun p => wantK xs p.key == q).map Pe.core = leavePs (ps.map Pe.core) xs q := by
  unfold leavePs
  rw [List.filter_map]
  rfl
theorem leavePs_sub (ps : List Pv) (xs : List (List UInt8)) (q : Bool) : ∀ p ∈ leavePs ps xs q, p ∈ ps := fun _ hp => (List.mem_filter.1 hp).1
theorem leavePs_len (ps : List Pv) (xs : List (List UInt8)) (q : Bool) : (leavePs ps xs q).length ≤ ps.length := List.length_filter_le _ _
theorem sameTv_self (a : Tv) : sameTv a a = true := sameTv_iff.2 rfl
/-- Parts of the same values fit as well. -/
theorem fit_of {w : World} {n : Nat} {A : Option Addr} {ps qs : List Pe} {a b : Nat} (hr : RdE w w.heap.size A n qs) (hc : qs.map Pe.core = ps.map Pe.core)
    (hp : ∀ p ∈ ps, p.e.wf ∧ p.key.length ≤ maxLen ∧ p.e.name.length ≤ maxLen ∧ p.l ≤ maxLen) (ho : okPs a b (ps.map Pe.core)) (hb : b ≤ 100000) : ∀ q ∈ qs, q.Fit w := fun q hq => by
  have hm : q.core ∈ ps.map Pe.core := by rw [← hc]; exact List.mem_map.2 ⟨q, hq, rfl⟩
  obtain ⟨p, hpm, he⟩ := List.mem_map.1 hm
  obtain ⟨h1, h2, h3, -⟩ := hp p hpm
  have e1 : q.key = p.key := (congrArg Prod.fst he).symm
  have e2 : q.e = p.e := (congrArg Prod.snd he).symm
  exact ⟨hr.2 q hq, e2 ▸ h1, e1 ▸ h2, e2 ▸ h3, Nat.le_trans (okPs.le (by rw [hc]; exact ho) hr q hq) hb⟩
end Go.Proofs.YtpolplmniaoikaaDoor
