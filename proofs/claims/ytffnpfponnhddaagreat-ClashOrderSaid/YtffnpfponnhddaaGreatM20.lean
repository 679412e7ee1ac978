/- The library's sort of items: its text is the one that the kit has walked. Items: plain words, the order of texts, the library's sort at items. Items of maps (the program's): all fields with their values, in the fields' order. -/
import Derived.Test.YtffnpfponnhddaaGreatRows
import Derived.Shelf.SlLaysF0
import Derived.Shelf.SlGeneric
import Derived.Test.YtffnpfponnhddaaGreatN17
import Derived.Test.YtffnpfponnhddaaGreatN40
import Derived.Maps.RangeWalk
import Derived.Maps.OwnOps
namespace Go.Proofs.YtffnpfponnhddaaGreat
open Go.Shelf

def sortIt_ren : Go.Shelf.Ren := ⟨fun | 6 => 50 | 15 => 93 | 14 => 97 | 28 => 124 | 29 => 125 | 20 => 127 | 21 => 128 | 22 => 129 | 23 => 130 | 24 => 131 | 25 => 132 | 26 => 133 | 27 => 134 | 46 => 153 | 47 => 148 | 48 => 149 | 49 => 154 | 50 => 155 | 57 => 162 | n => n, fun | 22 => 73 | 24 => 99 | 25 => 140 | 3 => 3 | 39 => 183 | 0 => 0 | 53 => 22 | 55 => 215 | 4 => 4 | 46 => 207 | 45 => 206 | 50 => 162 | 5 => 5 | 9 => 9 | 66 => 230 | 70 => 234 | 76 => 243 | 77 => 244 | n => n, fun | n => n⟩
theorem sortIt : Go.Proofs.SlLaysF0.n6 Tryz.prog sortIt_ren := {
  mixed := by kernel_rfl
  f6 := ⟨Tryz.f50.name, by decide, Tryz.func50.trans (congrArg some (by kernel_rfl))⟩
  f14 := ⟨Tryz.f97.name, by decide, Tryz.func97.trans (congrArg some (by kernel_rfl))⟩
  f15 := Tryz.func93.trans (congrArg some (by kernel_rfl))
  f20 := ⟨Tryz.f127.name, by decide, Tryz.func127.trans (congrArg some (by kernel_rfl))⟩
  f21 := ⟨Tryz.f128.name, by decide, Tryz.func128.trans (congrArg some (by kernel_rfl))⟩
  f22 := ⟨Tryz.f129.name, by decide, Tryz.func129.trans (congrArg some (by kernel_rfl))⟩
  f23 := ⟨Tryz.f130.name, by decide, Tryz.func130.trans (congrArg some (by kernel_rfl))⟩
  f24 := ⟨Tryz.f131.name, by decide, Tryz.func131.trans (congrArg some (by kernel_rfl))⟩
  f25 := ⟨Tryz.f132.name, by decide, Tryz.func132.trans (congrArg some (by kernel_rfl))⟩
  f26 := ⟨Tryz.f133.name, by decide, Tryz.func133.trans (congrArg some (by kernel_rfl))⟩
  f27 := ⟨Tryz.f134.name, by decide, Tryz.func134.trans (congrArg some (by kernel_rfl))⟩
  f28 := Tryz.func124.trans (congrArg some (by kernel_rfl))
  f29 := Tryz.func125.trans (congrArg some (by kernel_rfl))
  f46 := ⟨Tryz.f153.name, by decide, Tryz.func153.trans (congrArg some (by kernel_rfl))⟩
  f47 := Tryz.func148.trans (congrArg some (by kernel_rfl))
  f48 := Tryz.func149.trans (congrArg some (by kernel_rfl))
  f49 := ⟨Tryz.f154.name, by decide, Tryz.func154.trans (congrArg some (by kernel_rfl))⟩
  f50 := ⟨Tryz.f155.name, by decide, Tryz.func155.trans (congrArg some (by kernel_rfl))⟩
  f57 := ⟨Tryz.f162.name, by decide, Tryz.func162.trans (congrArg some (by kernel_rfl))⟩
  t0 := Tryz.underlying0
  a0 := Tryz.isAgg0
  z0 := Tryz.sizeOf0
  v0 := Tryz.zeroValue0
  t3 := Tryz.underlying3
  a3 := Tryz.isAgg3
  z3 := Tryz.sizeOf3
  v3 := Tryz.zeroValue3
  t4 := Tryz.underlying4
  a4 := Tryz.isAgg4
  z4 := Tryz.sizeOf4
  v4 := Tryz.zeroValue4
  t5 := Tryz.underlying5
  a5 := Tryz.isAgg5
  z5 := Tryz.sizeOf5
  v5 := Tryz.zeroValue5
  t9 := Tryz.underlying9
  a9 := Tryz.isAgg9
  z9 := Tryz.sizeOf9
  v9 := Tryz.zeroValue9
  t22 := Tryz.underlying73
  a22 := Tryz.isAgg73
  z22 := Tryz.sizeOf73
  v22 := Tryz.zeroValue73
  t25 := Tryz.underlying140
  a25 := Tryz.isAgg140
  z25 := Tryz.sizeOf140
  v25 := Tryz.zeroValue140
  t39 := Tryz.underlying183
  a39 := Tryz.isAgg183
  z39 := Tryz.sizeOf183
  v39 := Tryz.zeroValue183
  t45 := Tryz.underlying206
  a45 := Tryz.isAgg206
  z45 := Tryz.sizeOf206
  v45 := Tryz.zeroValue206
  t46 := Tryz.underlying207
  a46 := Tryz.isAgg207
  z46 := Tryz.sizeOf207
  v46 := Tryz.zeroValue207
  t50 := Tryz.underlying162
  a50 := Tryz.isAgg162
  z50 := Tryz.sizeOf162
  v50 := Tryz.zeroValue162
  t53 := Tryz.underlying22
  a53 := Tryz.isAgg22
  z53 := Tryz.sizeOf22
  v53 := Tryz.zeroValue22
  t55 := Tryz.underlying215
  a55 := Tryz.isAgg215
  z55 := Tryz.sizeOf215
  v55 := Tryz.zeroValue215
  t66 := Tryz.underlying230
  a66 := Tryz.isAgg230
  z66 := Tryz.sizeOf230
  v66 := Tryz.zeroValue230
  t70 := Tryz.underlying234
  a70 := Tryz.isAgg234
  z70 := Tryz.sizeOf234
  v70 := Tryz.zeroValue234
  t76 := Tryz.underlying243
  a76 := Tryz.isAgg243
  z76 := Tryz.sizeOf243
  v76 := Tryz.zeroValue243
  t77 := Tryz.underlying244
  a77 := Tryz.isAgg244
  z77 := Tryz.sizeOf244
  v77 := Tryz.zeroValue244 }
end Go.Proofs.YtffnpfponnhddaaGreat
namespace Go.Proofs.YtffnpfponnhddaaGreat
open Go.RowKit

abbrev Itm := List UInt8 × Int
def Itm.enc (i : Itm) : List Value := [.string (bs i.1), .int .i64 i.2]
theorem Itm.len {xs : List Itm} : ∀ x ∈ xs.map Itm.enc, x.length = 2 := by
  intro x hx; obtain ⟨t, _, rfl⟩ := List.mem_map.1 hx; rfl
theorem Itm.one {xs : List Itm} : ∀ x ∈ xs.map Itm.enc, ∀ u ∈ x, u.oneCell' = true := by
  intro x hx u hu; obtain ⟨t, _, rfl⟩ := List.mem_map.1 hx
  simp only [Itm.enc, List.mem_cons, List.not_mem_nil, or_false] at hu
  rcases hu with rfl | rfl <;> rfl
def RdIt (w : World) (B : Nat) (A : Option Addr) (n : Nat) (xs : List Itm) : Prop := Rd w B 2 A n (xs.map Itm.enc)
theorem RdIt.below {w w' : World} {B n : Nat} {A : Option Addr} {xs : List Itm} (h : RdIt w B A n xs) (hb : Below B w w') : RdIt w' B A n xs := Rd.below h hb
theorem RdIt.more {w : World} {B B' n : Nat} {A : Option Addr} {xs : List Itm} (h : RdIt w B A n xs) (hb : B ≤ B') : RdIt w B' A n xs := Rd.more h hb
theorem RdIt.len {w : World} {B n : Nat} {A : Option Addr} {xs : List Itm} (h : RdIt w B A n xs) : xs.length = n := by simpa using h.1
/-- All fields, in order. -/
def fieldsM (xs : List Pm) (k : Nat) : List (List UInt8) := ((xs.take k).map fun p => p.2.1).foldl insS []
def itemOf (xs : List Pm) (gs : List Tm) (f : List UInt8) : Itm := (f, (getM xs gs f).1)
def itemsM (xs : List Pm) (gs : List Tm) : List Itm := if mErr xs gs ≠ 0 then [] else (fieldsM xs xs.length).map (itemOf xs gs)
theorem fieldsM_asc (xs : List Pm) (k : Nat) : ascS (fieldsM xs k) := (insAll_spec _ (g := []) List.Pairwise.nil).1
theorem fieldsM_mem (xs : List Pm) (k : Nat) (f : List UInt8) : f ∈ fieldsM xs k ↔ ∃ u ∈ xs.take k, u.2.1 = f := by
  unfold fieldsM
  rw [(insAll_spec _ (g := []) List.Pairwise.nil).2, List.mem_map]
  simp only [List.not_mem_nil, or_false]
theorem items_sorted {ys l0 : List Itm} {F : List (List UInt8)} {g : List UInt8 → Itm} (hp : ys.Perm l0) (hs : ys.Pairwise fun x y => ¬ y.1 < x.1) (hnd : (l0.map Prod.fst).Nodup) (hm : ∀ f, f ∈ l0.map Prod.fst ↔ f ∈ F) (hF : ascS F) (hg : ∀ i ∈ l0, i = g i.1) : ys = F.map g := by
  have h1 : (ys.map Prod.fst).Perm (l0.map Prod.fst) := hp.map _
  have h2 : (ys.map Prod.fst).Nodup := h1.nodup_iff.2 hnd
  have h3 : (ys.map Prod.fst).Pairwise fun x y => ¬ y < x := List.pairwise_map.2 hs
  have h4 : ascS (ys.map Prod.fst) := (List.pairwise_and_iff.2 ⟨h3, h2⟩).imp fun {x y} h => by
    by_cases hxy : x < y
    · exact hxy
    · exact absurd (ltS_total h.2 hxy) h.1
  have h5 : ys.map Prod.fst = F := ascS_ext h4 hF fun f => by rw [h1.mem_iff]; exact hm f
  rw [← h5, List.map_map]
  refine (List.map_id ys).symm.trans (List.map_congr_left fun i hi => ?_)
  exact hg i (hp.mem_iff.1 hi)
/-- The order of texts, as a number. -/
def ordS (a b : List UInt8) : Int := if a < b then -1 else if b < a then 1 else 0
theorem nanS_any (a : List UInt8) (w : World) : Calls Tryz.prog 98 #[.string (bs a)] w fun e w' => e = .returned (.bool false) ∧ w' = w := by
  have hqb : ((bs a).toList == (bs a).toList) = true := by simp
  go_enter Tryz.func98, Tryz.ntmps98
  go_wp2
  go_ret
  exact ⟨rfl, rfl⟩
theorem ccmpS_any (a b : List UInt8) (w : World) :
    Calls Tryz.prog 52 #[.string (bs a), .string (bs b)] w fun e w' => e = .returned (.int .i64 (ordS a b)) ∧ w' = w := by
  have na := Lib.hid (nanS_any a)
  have nb := Lib.hid (nanS_any b)
  by_cases h1 : a < b
  · have hc : Op.bytesLess (bs a).toList (bs b).toList = true := by rw [bytesLess_dec]; exact decide_eq_true h1
    have hT : Hid (-1 = ordS a b) := Lib.hid (by unfold ordS; rw [if_pos h1])
    clear h1
    go_enter Tryz.func52, Tryz.ntmps52
    go_wp2_with fail
    refine (na.out _).mono ?_
    rintro e w1 ⟨rfl, rfl⟩
    go_wp2_with fail
    refine (nb.out _).mono ?_
    rintro e w2 ⟨rfl, rfl⟩
    go_wp2
    go_ret
    exact ⟨ret_int hT.out, rfl⟩
  have hc : Op.bytesLess (bs a).toList (bs b).toList = false := by rw [bytesLess_dec]; exact decide_eq_false h1
  by_cases h2 : b < a
  · have hc2 : Op.bytesLess (bs b).toList (bs a).toList = true := by rw [bytesLess_dec]; exact decide_eq_true h2
    have hqb : ((bs a).toList == (bs b).toList) = false := by rw [bs_empty, bs_empty, beq_eq_false_iff_ne]; exact fun e => ltS_irrefl _ (e ▸ h2)
    have hT : Hid (1 = ordS a b) := Lib.hid (by unfold ordS; rw [if_neg h1, if_pos h2])
    clear h1 h2
    go_enter Tryz.func52, Tryz.ntmps52
    go_wp2_with fail
    refine (na.out _).mono ?_
    rintro e w1 ⟨rfl, rfl⟩
    go_wp2_with fail
    refine (nb.out _).mono ?_
    rintro e w2 ⟨rfl, rfl⟩
    go_wp2
    go_ret
    exact ⟨ret_int hT.out, rfl⟩
  · have hc2 : Op.bytesLess (bs b).toList (bs a).toList = false := by rw [bytesLess_dec]; exact decide_eq_false h2
    have hqb : ((bs a).toList == (bs b).toList) = true := by rw [bs_empty, bs_empty, beq_iff_eq]; exact Classical.byContradiction fun hne => h2 (ltS_total hne h1)
    have hT : Hid (0 = ordS a b) := Lib.hid (by unfold ordS; rw [if_neg h1, if_neg h2])
    clear h1 h2
    go_enter Tryz.func52, Tryz.ntmps52
    go_wp2_with fail
    refine (na.out _).mono ?_
    rintro e w1 ⟨rfl, rfl⟩
    go_wp2_with fail
    refine (nb.out _).mono ?_
    rintro e w2 ⟨rfl, rfl⟩
    go_wp2
    go_ret
    exact ⟨ret_int hT.out, rfl⟩
def cmpIt (x y : Itm) : Int := ordS x.1 y.1
theorem cmpIt_lt (x y : Itm) : cmpIt x y < 0 ↔ x.1 < y.1 := by
  unfold cmpIt ordS
  by_cases h : x.1 < y.1
  · rw [if_pos h]; simp [h]
  · rw [if_neg h]
    constructor
    · intro h2; split at h2 <;> omega
    · intro h2; exact absurd h2 h
theorem ltOf_cmpIt (x y : Itm) : ltOf cmpIt x y = decide (cmpIt x y < 0) := rfl
theorem swo_cmpIt : Sort.SWO (ltOf cmpIt) where
  irrefl x := by rw [ltOf_cmpIt, decide_eq_false_iff_not, cmpIt_lt]; exact ltS_irrefl _
  trans x y z h1 h2 := by
    rw [ltOf_cmpIt, decide_eq_true_eq, cmpIt_lt] at *
    exact ltS_trans h1 h2
  ntrans x y z h1 h2 := by
    rw [ltOf_cmpIt, decide_eq_false_iff_not, cmpIt_lt] at *
    intro h
    rcases Classical.em (x.1 = y.1) with he | hne
    · rw [he] at h; exact h2 h
    · have h3 := ltS_total hne h1
      exact h2 (ltS_trans h3 h)
set_option maxRecDepth 100000 in
theorem cmp_laysIt (x y : Itm) (w : World) :
    Calls Tryz.prog 51 #[.agg #[.string (bs x.1), .int .i64 x.2], .agg #[.string (bs y.1), .int .i64 y.2]] w fun e w' => e = .returned (.int .i64 (cmpIt x y)) ∧ ∃ q os, w' = Sort.grow (w.drewN q) os := by
  have hc := Lib.hid (ccmpS_any x.1 y.1)
  unfold cmpIt
  generalize ordS x.1 y.1 = r at hc
  go_enter Tryz.func51, Tryz.ntmps51
  go_wp2_with fail
  refine (hc.out _).mono ?_
  rintro e w1 ⟨rfl, rfl⟩
  go_wp2
  go_ret
  refine ⟨rfl, 0, #[.cells #[.string (bs x.1), .int .i64 x.2] 99, .cells #[.string (bs y.1), .int .i64 y.2] 99], ?_⟩
  rw [Sort.alloc_eq_grow, Sort.alloc_eq_grow, Sort.grow_grow]
  rfl
theorem cmp_handsIt (g n : Nat) (w : World) : CmpLays Tryz.prog 51 #[] Itm.enc 2 cmpIt g 0 n w := by
  intro m os dk _ x y
  exact cmp_laysIt x y _
set_option maxRecDepth 100000 in
theorem sortIt_any (base : Nat) (A : Option Addr) (n c : Nat) (xs : List Itm) (w : World) (hown : Ow w base 99 2 (.slice A n c) (xs.map Itm.enc)) (hn : n ≤ 100000) :
    Calls Tryz.prog 50 #[.slice A n c, .func (.func 51) #[] #[]] w
      fun e w' => e = .returned (.tuple #[]) ∧ ∃ ys : List Itm, ys.Pairwise (fun x y => ¬ y.1 < x.1) ∧ ys.Perm xs ∧ Ow w' base 99 2 (.slice A n c) (ys.map Itm.enc) ∧ w.grownBy w' (Value.slice A n c).ownBlock := by
  have hl : xs.length = n := by simpa using hown.rd.2.1
  rcases Nat.eq_zero_or_pos n with h0 | hpos
  · subst h0
    obtain rfl := List.eq_nil_of_length_eq_zero hl
    have h := AnyF.slices_SortFunc_none sortIt A c (.func (.func 51) #[] #[]) w
    refine Calls.mono h ?_
    rintro e w' ⟨rfl, hw⟩
    subst hw
    exact ⟨rfl, [], .nil, List.Perm.refl _, hown, World.grownBy.refl _ _⟩
  · obtain ⟨g, rfl, hgb, hgl, _, _⟩ := hown.addr hpos
    have hsz : xs.toArray.size = n := by simpa using hl
    have h := AnyQ.slices_SortFunc sortIt 2 Tryz.isAgg99 Tryz.sizeOf99 Itm.enc (fun _ => rfl) (fun x v hv => by simp [Itm.enc] at hv; rcases hv with rfl | rfl <;> rfl) cmpIt swo_cmpIt 51 #[] g 0 c xs.toArray w
      (enters_of Tryz.func51 (by kernel_rfl) rfl) (cmp_handsIt g _ w) (holdsK_of (k := 2) (fun _ => rfl) (by decide) hown hpos) hgl (by omega)
    rw [hsz] at h
    refine Calls.mono h ?_
    rintro e w' ⟨rfl, d', m, os, hp, hs, rfl⟩
    obtain ⟨hp1, _, hp3⟩ := hp
    have hd : d'.size = n := hp1.trans hsz
    have hperm : d'.toList.Perm xs := by
      rw [← hd, Array.extract_size] at hp3
      have e2 : xs.toArray.extract 0 d'.size = xs.toArray := by rw [hd, ← hsz, Array.extract_size]
      rw [e2] at hp3
      simpa using hp3
    have hso := sorted_ow (m := m) (enc := Itm.enc) (ys := d'.toList) (fun _ => rfl) (by decide) hown hpos (by simpa using hd) os
    rw [Array.toArray_toList] at hso
    refine ⟨rfl, d'.toList, ?_, hperm, hso.1, hso.2⟩
    rw [List.pairwise_iff_getElem]
    intro i j hi hj hij
    have hi' : i < d'.size := by simpa using hi
    have hj' : j < d'.size := by simpa using hj
    have := hs i j (Nat.zero_le _) hij (by omega)
    rw [getElem!_pos d' i hi', getElem!_pos d' j hj', ltOf_cmpIt, decide_eq_false_iff_not] at this
    exact fun h => this ((cmpIt_lt _ _).2 h)

end Go.Proofs.YtffnpfponnhddaaGreat
namespace Go.Proofs.YtffnpfponnhddaaGreat
open Go.RowKit Go.Maps

/-- A put, in a box of its own (the walk's simp does not part it). -/
structure PBox where
  p : Pm
/-- How a put reads, in a Go map. -/
def rdPut : Value → Option (DataW Pm × List MemPlace)
  | .agg cs => match cs.toList with
    | [.int .i64 a, .int .u32 b, .int .i64 c, .string s, .int .i64 d, .int .u32 e, .int .i64 f] => some (.held (((a, b), c), (s.data.toList, (d, (e, f)))), [])
    | _ => none
  | _ => none
theorem rdPut_mk (p : Pm) : rdPut (.agg #[.int .i64 p.1.1.1, .int .u32 p.1.1.2, .int .i64 p.1.2, .string (bs p.2.1), .int .i64 p.2.2.1, .int .u32 p.2.2.2.1, .int .i64 p.2.2.2.2]) = some (.held p, []) := rfl
theorem rdPut_inv {v : Value} {z : DataW Pm × List MemPlace} (h : rdPut v = some z) : ∃ p : Pm, v = .agg #[.int .i64 p.1.1.1, .int .u32 p.1.1.2, .int .i64 p.1.2, .string (bs p.2.1), .int .i64 p.2.2.1, .int .u32 p.2.2.2.1, .int .i64 p.2.2.2.2] ∧ z = (.held p, []) := by
  unfold rdPut at h
  split at h
  · rename_i cs
    split at h
    · rename_i a b c s d e f hcs
      injection h with h
      subst h
      refine ⟨(((a, b), c), (s.data.toList, (d, (e, f)))), ?_, rfl⟩
      have hc : cs = [.int .i64 a, .int .u32 b, .int .i64 c, .string s, .int .i64 d, .int .u32 e, .int .i64 f].toArray := by rw [← hcs]
      rw [hc]
      dsimp only
      rw [bs_of]
    · cases h
  · cases h
theorem strLaw : Keyed Tryz.prog 9 := string_keyed Tryz.underlying9
theorem zeroPut (w : World) : (zeroValue 127).run Tryz.prog w = .ok (.agg #[.int .i64 zeroP.1.1.1, .int .u32 zeroP.1.1.2, .int .i64 zeroP.1.2, .string (bs zeroP.2.1), .int .i64 zeroP.2.2.1, .int .u32 zeroP.2.2.2.1, .int .i64 zeroP.2.2.2.2]) w := by kernel_rfl
theorem strKey {f : List UInt8} (h : f.length ≤ maxLen) : keyOf Tryz.prog 9 (.string (bs f)) = some (.string f) := by
  have := WideMaps.keyOf_string_mk (P := Tryz.prog) Tryz.underlying9 (s := bs f) (by rw [bs_size]; exact h)
  exact this
theorem strKey_inv {key : Value} {kl : Lit} (h : keyOf Tryz.prog 9 key = some kl) : ∃ f : List UInt8, key = .string (bs f) ∧ kl = .string f := by
  cases key <;> simp [keyOf, Tryz.underlying9, mapKey] at h
  rename_i s
  exact ⟨s.data.toList, by rw [bs_of], h.2.symm⟩
section
variable {P : Program} (w : World) {ops : Array Oper} {rest : List Oper} {o : Oper} {a : Act} {Q : Exit → Act → World → Prop}
theorem wpList_look_put (hg : o.guard = none) (m x : Operand) (t : TypeId) (hop : o.op = Op.lookup t m x true)
    (k e : TypeId) (K : Keyed P k) (ht : P.underlying t = some (.map k e)) (hz : (zeroValue e).run P w = .ok (.agg #[.int .i64 zeroP.1.1.1, .int .u32 zeroP.1.1.2, .int .i64 zeroP.1.2, .string (bs zeroP.2.1), .int .i64 zeroP.2.2.1, .int .u32 zeroP.2.2.2.1, .int .i64 zeroP.2.2.2.2]) w) (b n : Nat) (D : DataW Pm)
    (hm : a.eval m = .map (some b)) (hown : w.ownsMap P k rdPut b n D) (key : Value) (kl : Lit) (hx : a.eval x = key) (hkey : keyOf P k key = some kl)
    (hK : ∀ q : Pm, D.atKey kl (.held zeroP) = .held q → wpList P ops Q rest (a.put o.dst (.tuple #[.agg #[.int .i64 q.1.1.1, .int .u32 q.1.1.2, .int .i64 q.1.2, .string (bs q.2.1), .int .i64 q.2.2.1, .int .u32 q.2.2.2.1, .int .i64 q.2.2.2.2], .bool (Maps.has D kl)])) w) :
    wpList P ops Q (o :: rest) a w :=
  wpList_lookup_own_ok w hg m x t hop k e K ht rdPut hz (.held zeroP) [] (rdPut_mk zeroP) b n D hm hown key kl hx hkey (fun v ps hv => by
    obtain ⟨q, rfl, hq⟩ := rdPut_inv hv
    exact hK q (congrArg Prod.fst hq))
end
/-- The last put of a field among the first k. -/
def accL (xs : List Pm) (f : List UInt8) (k : Nat) : Option Pm := maxL ((xs.take k).filter fun p => decide (p.2.1 = f))
theorem accL_in {xs : List Pm} {f : List UInt8} {k : Nat} {u : Pm} (hu : xs[k]? = some u) (hf : u.2.1 = f) : accL xs f (k + 1) = stepL (accL xs f k) u := by
  unfold accL maxL
  rw [filter_takeG hu, if_pos (by simpa using hf), List.foldl_append]; rfl
theorem accL_out {xs : List Pm} {f : List UInt8} {k : Nat} {u : Pm} (hu : xs[k]? = some u) (hf : ¬ u.2.1 = f) : accL xs f (k + 1) = accL xs f k := by
  unfold accL
  rw [filter_takeG hu, if_neg (by simpa using hf), List.append_nil]
theorem accL_some {xs : List Pm} {f : List UInt8} {k : Nat} : (accL xs f k).isSome = true ↔ ∃ u ∈ xs.take k, u.2.1 = f := by
  have h : ∀ l : List Pm, ∀ o : Option Pm, (l.foldl stepL o).isSome = (o.isSome || !l.isEmpty) := by
    intro l
    induction l with
    | nil => intro o; simp
    | cons x l ih =>
      intro o
      rw [List.foldl_cons, ih]
      cases o <;> simp [stepL]
  unfold accL maxL
  rw [h]
  simp only [Option.isSome_none, Bool.false_or, Bool.not_eq_true', List.isEmpty_eq_false_iff_exists_mem, List.mem_filter, decide_eq_true_eq]
/-- What the Go map holds behind k rounds. -/
def MapAt (xs : List Pm) (k : Nat) (D : DataW Pm) : Prop := ∀ f, Maps.has D (.string f) = (accL xs f k).isSome ∧ D.atKey (.string f) (.held zeroP) = .held ((accL xs f k).getD zeroP)
theorem mapAt_zero (xs : List Pm) : MapAt xs 0 (.map []) := fun f => ⟨by simp [Maps.has, accL, maxL], by simp [accL, maxL, DataW.atKey]⟩
theorem mapAt_put {xs : List Pm} {k : Nat} {u : Pm} {D : DataW Pm} (h : MapAt xs k D) (hD : IsMap D) (hu : xs[k]? = some u) (hs : accL xs u.2.1 (k + 1) = some u) : MapAt xs (k + 1) (D.put (.string u.2.1) (.held u)) := fun f => by
  by_cases hf : u.2.1 = f
  · subst hf
    rw [hs]
    exact ⟨has_put_same hD (show WideAt.IsKeyLit (.string u.2.1) from trivial) _, atKey_put_same hD (show WideAt.IsKeyLit (.string u.2.1) from trivial) _ _⟩
  · rw [accL_out hu hf]
    have hne : (Lit.string f) ≠ .string u.2.1 := fun e => hf (by injection e with e; exact e.symm)
    exact ⟨(has_put_other hne _).trans (h f).1, (atKey_put_other hne _ _).trans (h f).2⟩
theorem mapAt_stay {xs : List Pm} {k : Nat} {u : Pm} {D : DataW Pm} (h : MapAt xs k D) (hu : xs[k]? = some u) (hs : accL xs u.2.1 (k + 1) = accL xs u.2.1 k) : MapAt xs (k + 1) D := fun f => by
  by_cases hf : u.2.1 = f
  · subst hf
    rw [hs]; exact h _
  · rw [accL_out hu hf]; exact h f
theorem ordI_swap (a b : Int) : ordI b a = -ordI a b := by unfold ordI; (repeat' split) <;> omega
theorem cmpS_swap (x y : Sm) : cmpS y x = -cmpS x y := by
  unfold cmpS
  rw [ordI_swap x.1 y.1, ordI_swap x.2 y.2]
  (repeat' split) <;> omega
theorem cmpL_swap (x y : Pm) : cmpL y x = -cmpL x y := by
  unfold cmpL
  rw [cmpS_swap x.2.2.2 y.2.2.2, cmpT_swap x.1 y.1]
  (repeat' split) <;> omega
theorem Ow.kept_row {w w' : World} {base sz r : Nat} {e : TypeId} {v : Value} {xs : List (List Value)} (h : Ow w base e sz v xs) (hr : r < base) (hg : w.grownBy w' (some r)) : Ow w' base e sz v xs := by
  refine ⟨h.1, h.2.kept hg ?_⟩
  rcases h.2.2 with ⟨rfl, _⟩ | ⟨g, cap, cur, rfl, hb, hh, _⟩
  · exact .inl rfl
  · refine .inr ?_
    simp only [Value.ownBlock, ne_eq, Option.some.injEq]
    omega
theorem infoItm : (Tryz.prog.info? 99).map (fun i => (i.zero, i.size, i.bytes)) = some (some (.agg #[.string ⟨#[]⟩, .int .i64 0]), 2, 24) := by kernel_rfl
theorem eItm : ElemInfo Tryz.prog 73 99 2 24 := by
  obtain ⟨i, hi, h0, h1, h2⟩ := info_parts infoItm
  exact ⟨Tryz.underlying73, ⟨i, _, hi, h0, h1, h2, rfl⟩, by decide⟩
end Go.Proofs.YtffnpfponnhddaaGreat
