/- Items: plain words, the order of texts, the library's sort at items. -/
import Derived.Test.YtadldndmmobpdaaSrI
import Derived.Test.YtadldndmmobpdaaSrB
import Derived.Test.YtadldndmmobpdaaOtF
import Derived.Test.YtadldndmmobpdaaOnE
namespace Go.Proofs.Ytadldndmmobpdaa
open Go.RowKit

abbrev Itm := List UInt8 × Int
def Itm.enc (i : Itm) : List Value := [.string (bs i.1), .int .i64 i.2]
theorem Itm.len {xs : List Itm} : ∀ x ∈ xs.map Itm.enc, x.length = 2 := by
  intro x hx; obtain ⟨t, _, rfl⟩ := List.mem_map.1 hx; rfl
theorem Itm.one {xs : List Itm} : ∀ x ∈ xs.map Itm.enc, ∀ u ∈ x, u.oneCell' = true := by
  intro x hx u hu; obtain ⟨t, _, rfl⟩ := List.mem_map.1 hx
  simp only [Itm.enc, List.mem_cons, List.not_mem_nil, or_false] at hu
  rcases hu with rfl | rfl <;> rfl
def RdIt (w : World) (B : Nat) (A : Option Addr) (n : Nat) (xs : List Itm) : Prop := Rd w B 2 A n (xs.map Itm.enc)
theorem RdIt.below {w w' : World} {B n : Nat} {A : Option Addr} {xs : List Itm} (h : RdIt w B A n xs) (hb : Below B w w') : RdIt w' B A n xs := Rd.below h hb
theorem RdIt.more {w : World} {B B' n : Nat} {A : Option Addr} {xs : List Itm} (h : RdIt w B A n xs) (hb : B ≤ B') : RdIt w B' A n xs := Rd.more h hb
theorem RdIt.len {w : World} {B n : Nat} {A : Option Addr} {xs : List Itm} (h : RdIt w B A n xs) : xs.length = n := by simpa using h.1
/-- All fields, in order. -/
def fieldsM (xs : List Pm) (k : Nat) : List (List UInt8) := ((xs.take k).map fun p => p.2.1).foldl insS []
def itemOf (xs : List Pm) (gs : List Tm) (f : List UInt8) : Itm := (f, (getM xs gs f).1)
def itemsM (xs : List Pm) (gs : List Tm) : List Itm := if mErr xs gs ≠ 0 then [] else (fieldsM xs xs.length).map (itemOf xs gs)
theorem fieldsM_asc (xs : List Pm) (k : Nat) : ascS (fieldsM xs k) := (insAll_spec _ (g := []) List.Pairwise.nil).1
theorem fieldsM_mem (xs : List Pm) (k : Nat) (f : List UInt8) : f ∈ fieldsM xs k ↔ ∃ u ∈ xs.take k, u.2.1 = f := by
  unfold fieldsM
  rw [(insAll_spec _ (g := []) List.Pairwise.nil).2, List.mem_map]
  simp only [List.not_mem_nil, or_false]
theorem items_sorted {ys l0 : List Itm} {F : List (List UInt8)} {g : List UInt8 → Itm} (hp : ys.Perm l0) (hs : ys.Pairwise fun x y => ¬ y.1 < x.1) (hnd : (l0.map Prod.fst).Nodup) (hm : ∀ f, f ∈ l0.map Prod.fst ↔ f ∈ F) (hF : ascS F) (hg : ∀ i ∈ l0, i = g i.1) : ys = F.map g := by
  have h1 : (ys.map Prod.fst).Perm (l0.map Prod.fst) := hp.map _
  have h2 : (ys.map Prod.fst).Nodup := h1.nodup_iff.2 hnd
  have h3 : (ys.map Prod.fst).Pairwise fun x y => ¬ y < x := List.pairwise_map.2 hs
  have h4 : ascS (ys.map Prod.fst) := (List.pairwise_and_iff.2 ⟨h3, h2⟩).imp fun {x y} h => by
    by_cases hxy : x < y
    · exact hxy
    · exact absurd (ltS_total h.2 hxy) h.1
  have h5 : ys.map Prod.fst = F := ascS_ext h4 hF fun f => by rw [h1.mem_iff]; exact hm f
  rw [← h5, List.map_map]
  refine (List.map_id ys).symm.trans (List.map_congr_left fun i hi => ?_)
  exact hg i (hp.mem_iff.1 hi)
/-- The order of texts, as a number. -/
def ordS (a b : List UInt8) : Int := if a < b then -1 else if b < a then 1 else 0
theorem nanS_any (a : List UInt8) (w : World) : Calls Try.prog 120 #[.string (bs a)] w fun e w' => e = .returned (.bool false) ∧ w' = w := by
  have hqb : ((bs a).toList == (bs a).toList) = true := by simp
  go_enter Try.func120, Try.ntmps120
  go_wp2
  go_ret
  exact ⟨rfl, rfl⟩
theorem ccmpS_any (a b : List UInt8) (w : World) :
    Calls Try.prog 74 #[.string (bs a), .string (bs b)] w fun e w' => e = .returned (.int .i64 (ordS a b)) ∧ w' = w := by
  have na := Lib.hid (nanS_any a)
  have nb := Lib.hid (nanS_any b)
  by_cases h1 : a < b
  · have hc : Op.bytesLess (bs a).toList (bs b).toList = true := by rw [bytesLess_dec]; exact decide_eq_true h1
    have hT : Hid (-1 = ordS a b) := Lib.hid (by unfold ordS; rw [if_pos h1])
    clear h1
    go_enter Try.func74, Try.ntmps74
    go_wp2_with fail
    refine (na.out _).mono ?_
    rintro e w1 ⟨rfl, rfl⟩
    go_wp2_with fail
    refine (nb.out _).mono ?_
    rintro e w2 ⟨rfl, rfl⟩
    go_wp2
    go_ret
    exact ⟨ret_int hT.out, rfl⟩
  have hc : Op.bytesLess (bs a).toList (bs b).toList = false := by rw [bytesLess_dec]; exact decide_eq_false h1
  by_cases h2 : b < a
  · have hc2 : Op.bytesLess (bs b).toList (bs a).toList = true := by rw [bytesLess_dec]; exact decide_eq_true h2
    have hqb : ((bs a).toList == (bs b).toList) = false := by rw [bs_empty, bs_empty, beq_eq_false_iff_ne]; exact fun e => ltS_irrefl _ (e ▸ h2)
    have hT : Hid (1 = ordS a b) := Lib.hid (by unfold ordS; rw [if_neg h1, if_pos h2])
    clear h1 h2
    go_enter Try.func74, Try.ntmps74
    go_wp2_with fail
    refine (na.out _).mono ?_
    rintro e w1 ⟨rfl, rfl⟩
    go_wp2_with fail
    refine (nb.out _).mono ?_
    rintro e w2 ⟨rfl, rfl⟩
    go_wp2
    go_ret
    exact ⟨ret_int hT.out, rfl⟩
  · have hc2 : Op.bytesLess (bs b).toList (bs a).toList = false := by rw [bytesLess_dec]; exact decide_eq_false h2
    have hqb : ((bs a).toList == (bs b).toList) = true := by rw [bs_empty, bs_empty, beq_iff_eq]; exact Classical.byContradiction fun hne => h2 (ltS_total hne h1)
    have hT : Hid (0 = ordS a b) := Lib.hid (by unfold ordS; rw [if_neg h1, if_neg h2])
    clear h1 h2
    go_enter Try.func74, Try.ntmps74
    go_wp2_with fail
    refine (na.out _).mono ?_
    rintro e w1 ⟨rfl, rfl⟩
    go_wp2_with fail
    refine (nb.out _).mono ?_
    rintro e w2 ⟨rfl, rfl⟩
    go_wp2
    go_ret
    exact ⟨ret_int hT.out, rfl⟩
def cmpIt (x y : Itm) : Int := ordS x.1 y.1
theorem cmpIt_lt (x y : Itm) : cmpIt x y < 0 ↔ x.1 < y.1 := by
  unfold cmpIt ordS
  by_cases h : x.1 < y.1
  · rw [if_pos h]; simp [h]
  · rw [if_neg h]
    constructor
    · intro h2; split at h2 <;> omega
    · intro h2; exact absurd h2 h
theorem ltOf_cmpIt (x y : Itm) : ltOf cmpIt x y = decide (cmpIt x y < 0) := rfl
theorem swo_cmpIt : Sort.SWO (ltOf cmpIt) where
  irrefl x := by rw [ltOf_cmpIt, decide_eq_false_iff_not, cmpIt_lt]; exact ltS_irrefl _
  trans x y z h1 h2 := by
    rw [ltOf_cmpIt, decide_eq_true_eq, cmpIt_lt] at *
    exact ltS_trans h1 h2
  ntrans x y z h1 h2 := by
    rw [ltOf_cmpIt, decide_eq_false_iff_not, cmpIt_lt] at *
    intro h
    rcases Classical.em (x.1 = y.1) with he | hne
    · rw [he] at h; exact h2 h
    · have h3 := ltS_total hne h1
      exact h2 (ltS_trans h3 h)
set_option maxRecDepth 100000 in
theorem cmp_laysIt (x y : Itm) (w : World) :
    Calls Try.prog 73 #[.agg #[.string (bs x.1), .int .i64 x.2], .agg #[.string (bs y.1), .int .i64 y.2]] w fun e w' => e = .returned (.int .i64 (cmpIt x y)) ∧ ∃ q os, w' = Sort.grow (w.drewN q) os := by
  have hc := Lib.hid (ccmpS_any x.1 y.1)
  unfold cmpIt
  generalize ordS x.1 y.1 = r at hc
  go_enter Try.func73, Try.ntmps73
  go_wp2_with fail
  refine (hc.out _).mono ?_
  rintro e w1 ⟨rfl, rfl⟩
  go_wp2
  go_ret
  refine ⟨rfl, 0, #[.cells #[.string (bs x.1), .int .i64 x.2] 136, .cells #[.string (bs y.1), .int .i64 y.2] 136], ?_⟩
  rw [Sort.alloc_eq_grow, Sort.alloc_eq_grow, Sort.grow_grow]
  rfl
theorem cmp_handsIt (g n : Nat) (w : World) : CmpLays Try.prog 73 #[] Itm.enc 2 cmpIt g 0 n w := by
  intro m os dk _ x y
  exact cmp_laysIt x y _
set_option maxRecDepth 100000 in
theorem sortIt_any (base : Nat) (A : Option Addr) (n c : Nat) (xs : List Itm) (w : World) (hown : Ow w base 136 2 (.slice A n c) (xs.map Itm.enc)) (hn : n ≤ 100000) :
    Calls Try.prog 72 #[.slice A n c, .func (.func 73) #[] #[]] w
      fun e w' => e = .returned (.tuple #[]) ∧ ∃ ys : List Itm, ys.Pairwise (fun x y => ¬ y.1 < x.1) ∧ ys.Perm xs ∧ Ow w' base 136 2 (.slice A n c) (ys.map Itm.enc) ∧ w.grownBy w' (Value.slice A n c).ownBlock := by
  have hl : xs.length = n := by simpa using hown.rd.2.1
  rcases Nat.eq_zero_or_pos n with h0 | hpos
  · subst h0
    obtain rfl := List.eq_nil_of_length_eq_zero hl
    have h := AnyF.slices_SortFunc_none sortIt A c (.func (.func 73) #[] #[]) w
    refine Calls.mono h ?_
    rintro e w' ⟨rfl, hw⟩
    subst hw
    exact ⟨rfl, [], .nil, List.Perm.refl _, hown, World.grownBy.refl _ _⟩
  · obtain ⟨g, rfl, hgb, hgl, _, _⟩ := hown.addr hpos
    have hsz : xs.toArray.size = n := by simpa using hl
    have h := AnyQ.slices_SortFunc sortIt 2 Try.isAgg136 Try.sizeOf136 Itm.enc (fun _ => rfl) (fun x v hv => by simp [Itm.enc] at hv; rcases hv with rfl | rfl <;> rfl) cmpIt swo_cmpIt 73 #[] g 0 c xs.toArray w
      (enters_of Try.func73 (by kernel_rfl) rfl) (cmp_handsIt g _ w) (holdsK_of (k := 2) (fun _ => rfl) (by decide) hown hpos) hgl (by omega)
    rw [hsz] at h
    refine Calls.mono h ?_
    rintro e w' ⟨rfl, d', m, os, hp, hs, rfl⟩
    obtain ⟨hp1, _, hp3⟩ := hp
    have hd : d'.size = n := hp1.trans hsz
    have hperm : d'.toList.Perm xs := by
      rw [← hd, Array.extract_size] at hp3
      have e2 : xs.toArray.extract 0 d'.size = xs.toArray := by rw [hd, ← hsz, Array.extract_size]
      rw [e2] at hp3
      simpa using hp3
    have hso := sorted_ow (m := m) (enc := Itm.enc) (ys := d'.toList) (fun _ => rfl) (by decide) hown hpos (by simpa using hd) os
    rw [Array.toArray_toList] at hso
    refine ⟨rfl, d'.toList, ?_, hperm, hso.1, hso.2⟩
    rw [List.pairwise_iff_getElem]
    intro i j hi hj hij
    have hi' : i < d'.size := by simpa using hi
    have hj' : j < d'.size := by simpa using hj
    have := hs i j (Nat.zero_le _) hij (by omega)
    rw [getElem!_pos d' i hi', getElem!_pos d' j hj', ltOf_cmpIt, decide_eq_false_iff_not] at this
    exact fun h => this ((cmpIt_lt _ _).2 h)

end Go.Proofs.Ytadldndmmobpdaa
