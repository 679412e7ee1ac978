/- strings.Split and strings.HasPrefix: their text is the one that the kit has walked. Writing an element of a row of one's own: elements of any number of cells. Regions that draw their order: an operation for which number m waits by way of another one. The first place at which something holds (plain). The library at lists of texts: IndexFunc, ContainsFunc, Clone, DeleteFunc, Grow, Concat, Equal. Prefixes, both: part, within, Prefix, Within, and the closures on one text. Interests, both: Great, own, Has, Covers, long, prefixes. slices.Values, AppendSeq, Collect, Sorted at texts. Interests of the program: check, outermost, Check, Make, Join, Minus. Interests of the program: Check, Make, Join, Minus. The document's Check of interests. The document's Make of interests. Interests of the program: Minus. Interests: SameTexts, and 'works' of the statements. -/
import Derived.Shelf.Strings.Prefix
import Derived.Shelf.Strings.Split
import Derived.Test.YtpolplmniaoikaaGreatDoorRows
import Derived.Test.YtpolplmniaoikaaGreatDoorGc
import Derived.Test.YtpolplmniaoikaaGreatDoorGb
import Derived.Lib.Hide
import Derived.Test.YtpolplmniaoikaaGreatDoorN07
import Derived.Lib.SliceRun
import Derived.Lib.AppendZeros
import Derived.Shelf.Abstract
import Derived.Deep.DeepCutAuto
import Derived.Deep.RegionHeld3
import Derived.Deep.LoopGhost
import Derived.Test.YtpolplmniaoikaaGreatDoorHa
import Derived.Test.YtpolplmniaoikaaGreatDoorN03
import Derived.TacticsInMore
import Derived.LoopNIn
import Derived.LoopIn
import Derived.Deep.QuietTactic
import Derived.BigQuiet
namespace Go.Proofs.YtpolplmniaoikaaGreatDoor
open Go.Shelf Go.RowKit Go.Lib

def sh_lays146_ren : Go.Shelf.Ren := ⟨fun | 146 => 137 | 221 => 163 | 268 => 173 | 138 => 174 | 143 => 175 | 195 => 179 | 197 => 180 | 218 => 181 | 219 => 182 | 260 => 183 | 217 => 184 | 225 => 185 | 224 => 186 | 267 => 187 | 266 => 188 | 314 => 189 | n => n, fun | 9 => 9 | 31 => 56 | 3 => 3 | 4 => 4 | 0 => 0 | 105 => 253 | 21 => 21 | 5 => 5 | 46 => 150 | 119 => 256 | 139 => 259 | 138 => 258 | 146 => 260 | 51 => 22 | n => n, fun | 1 => 1 | 3 => 2 | 4 => 3 | n => n⟩
theorem sh_lays146 : Go.Proofs.Lays.n146 Tryz.prog sh_lays146_ren := {
  mixed := by kernel_rfl
  f138 := Tryz.func174.trans (congrArg some (by kernel_rfl))
  f143 := Tryz.func175.trans (congrArg some (by kernel_rfl))
  f146 := Tryz.func137.trans (congrArg some (by kernel_rfl))
  f195 := Tryz.func179.trans (congrArg some (by kernel_rfl))
  f197 := Tryz.func180.trans (congrArg some (by kernel_rfl))
  f217 := Tryz.func184.trans (congrArg some (by kernel_rfl))
  f218 := Tryz.func181.trans (congrArg some (by kernel_rfl))
  f219 := Tryz.func182.trans (congrArg some (by kernel_rfl))
  f221 := Tryz.func163.trans (congrArg some (by kernel_rfl))
  f224 := Tryz.func186.trans (congrArg some (by kernel_rfl))
  f225 := Tryz.func185.trans (congrArg some (by kernel_rfl))
  f260 := Tryz.func183.trans (congrArg some (by kernel_rfl))
  f266 := Tryz.func188.trans (congrArg some (by kernel_rfl))
  f267 := Tryz.func187.trans (congrArg some (by kernel_rfl))
  f268 := Tryz.func173.trans (congrArg some (by kernel_rfl))
  f314 := Tryz.func189.trans (congrArg some (by kernel_rfl))
  t0 := Tryz.underlying0
  a0 := Tryz.isAgg0
  z0 := Tryz.sizeOf0
  v0 := Tryz.zeroValue0
  t3 := Tryz.underlying3
  a3 := Tryz.isAgg3
  z3 := Tryz.sizeOf3
  v3 := Tryz.zeroValue3
  t4 := Tryz.underlying4
  a4 := Tryz.isAgg4
  z4 := Tryz.sizeOf4
  v4 := Tryz.zeroValue4
  t5 := Tryz.underlying5
  a5 := Tryz.isAgg5
  z5 := Tryz.sizeOf5
  v5 := Tryz.zeroValue5
  t9 := Tryz.underlying9
  a9 := Tryz.isAgg9
  z9 := Tryz.sizeOf9
  v9 := Tryz.zeroValue9
  t21 := Tryz.underlying21
  a21 := Tryz.isAgg21
  z21 := Tryz.sizeOf21
  v21 := Tryz.zeroValue21
  t31 := Tryz.underlying56
  a31 := Tryz.isAgg56
  z31 := Tryz.sizeOf56
  v31 := Tryz.zeroValue56
  t46 := Tryz.underlying150
  a46 := Tryz.isAgg150
  z46 := Tryz.sizeOf150
  v46 := Tryz.zeroValue150
  t51 := Tryz.underlying22
  a51 := Tryz.isAgg22
  z51 := Tryz.sizeOf22
  v51 := Tryz.zeroValue22
  t105 := Tryz.underlying253
  a105 := Tryz.isAgg253
  z105 := Tryz.sizeOf253
  v105 := Tryz.zeroValue253
  t119 := Tryz.underlying256
  a119 := Tryz.isAgg256
  z119 := Tryz.sizeOf256
  t138 := Tryz.underlying258
  a138 := Tryz.isAgg258
  z138 := Tryz.sizeOf258
  v138 := Tryz.zeroValue258
  t139 := Tryz.underlying259
  a139 := Tryz.isAgg259
  z139 := Tryz.sizeOf259
  v139 := Tryz.zeroValue259
  t146 := Tryz.underlying260
  a146 := Tryz.isAgg260
  z146 := Tryz.sizeOf260
  v146 := Tryz.zeroValue260
  g1 := by kernel_rfl
  g3 := by kernel_rfl
  g4 := by kernel_rfl }
theorem shSplit (s sep : ByteArray) (m : Int) (w : World) (hs : s.size < 4294967281) (hm : w.cell? ⟨1, 0, none⟩ = some (.int .i64 m)) (h1 : 1 ≤ sep.size) :
    Calls Tryz.prog 137 #[.string s, .string sep] w fun e w' =>
      e = .returned (.slice (some ⟨w.heap.size, 0, none⟩) (Lib.countB s sep + 1) (Lib.countB s sep + 1)) ∧ w' = w.alloc (.cells ((Lib.splitB sep 0 (Lib.countB s sep) s).map Value.string).toArray 9) := Any.strings_Split sh_lays146 (by kernel_rfl) s sep m w hs hm h1
end Go.Proofs.YtpolplmniaoikaaGreatDoor
namespace Go.Proofs.YtpolplmniaoikaaGreatDoor
open Go.RowKit

theorem setL_mid {α : Type} : ∀ (vs : List α) (l : List α) (i : Nat), i + vs.length ≤ l.length → setL l i vs = l.take i ++ vs ++ l.drop (i + vs.length)
  | [], l, i, h => by simp [setL]
  | v :: r, l, i, h => by
    have hi : i < l.length := by simp at h; omega
    rw [setL, setL_mid r (l.set i v) (i + 1) (by simp at h ⊢; omega), List.take_add_one, List.getElem?_set_self hi]
    simp only [Option.toList_some, List.length_cons]
    rw [List.take_set_of_le (Nat.le_refl _), List.drop_set_of_lt (by omega), show i + 1 + r.length = i + (r.length + 1) by omega]
    simp
theorem Ow.setL {w : World} {base g n c sz : Nat} {e : TypeId} {xs : List (List Value)} (h : Ow w base e sz (.slice (some ⟨g, 0, none⟩) n c) xs) {k : Nat} (hk : k < n) {vs : List Value} (hv : vs.length = sz) :
    Ow (w.setCells g (k * sz) vs) base e sz (.slice (some ⟨g, 0, none⟩) n c) (xs.set k vs) := by
  have hl : xs.length = n := h.rd.2.1
  have hall := h.1
  have h2 := h.2
  rw [hl] at h2
  have hflat : ∀ m, m ≤ n → (xs.take m).flatten = xs.flatten.take (m * sz) ∧ (xs.drop m).flatten = xs.flatten.drop (m * sz) := by
    intro m hm
    have h1 : xs.flatten = (xs.take m).flatten ++ (xs.drop m).flatten := by rw [← List.flatten_append, List.take_append_drop]
    have h2 : (xs.take m).flatten.length = m * sz := by rw [flat_len (fun x hx => hall x (List.mem_of_mem_take hx)), List.length_take, Nat.min_eq_left (by omega)]
    rw [h1, ← h2]
    exact ⟨(List.take_left' rfl).symm, (List.drop_left' rfl).symm⟩
  have hfl : xs.flatten.length = n * sz := by rw [flat_len hall, hl]
  have hle : k * sz + sz ≤ n * sz := by rw [← Nat.succ_mul]; exact Nat.mul_le_mul_right _ hk
  refine ⟨fun x hx => ?_, ?_⟩
  · rcases List.mem_or_eq_of_mem_set hx with h' | rfl
    · exact hall x h'
    · exact hv
  · have h3 := ownsRow_setCells vs (k * sz) h2
    rw [setL_mid vs _ _ (by rw [hv, hfl]; exact hle), hv] at h3
    rw [List.length_set, hl, List.set_eq_take_append_cons_drop, if_pos (by omega), List.flatten_append, List.flatten_cons, (hflat k (by omega)).1, (hflat (k + 1) (by omega)).2, Nat.succ_mul, ← List.append_assoc]
    exact h3
theorem gr_setCells {g : Nat} (vs : List Value) {a w : World} (i : Nat) (h : a.grownBy w (some g)) : a.grownBy (w.setCells g i vs) (some g) := grown_setCells vs i h
end Go.Proofs.YtpolplmniaoikaaGreatDoor
namespace Go.Proofs.YtpolplmniaoikaaGreatDoor
open Go.RowKit

section
variable {P : Program} {ops : Array Oper} {Q : Exit → Act → World → Prop} {md : Region.Mode} {C E : World → Prop} {m : Nat}
theorem closedL_on {L : Array Bool} (hcl : ClosedL md ops L) {j i : Nat} {oj : Oper} (hj : ops[j]? = some oj) (hw : (oj.after.any fun e => Region.binds md e && e.on == i) = true) (hl : L.getD j false = true) : L.getD i false = true := by
  obtain ⟨e, he, hb⟩ := Array.any_eq_true'.1 hw
  simp only [Bool.and_eq_true, beq_iff_eq] at hb
  have := hcl j oj hj hl e he hb.1
  rwa [hb.2] at this
theorem wpM_take0c {i j : Nat} {oi oj om : Oper} {v : Value} {f : Nat} {L : Array Bool} {a : Act} {w : World} (hi : ops[i]? = some oi) (hj : ops[j]? = some oj) (hm : ops[m]? = some om)
    (hw : (om.after.any fun e => Region.binds md e && e.on == j) = true) (hw2 : (oj.after.any fun e => Region.binds md e && e.on == i) = true)
    (hs : Region.noSelect ops = true) (hf : Region.free md ops L i = true) (hr : (Region.ready md ops L).contains i = true) (him : i ≠ m)
    (hQ : ∀ c a w, Q (.panic c) (a.put oi.dst v) w → Q (.panic c) a w) (hcl : ClosedL md ops L) (hC : C w) (hE : L.getD m false = false → E w) (hy : YieldsIf P ops (fun w => C w ∧ E w) oi v a)
    (h : ClosedL md ops (L.setIfInBounds i true) → wpAnyM P md ops Q C E m f (L.setIfInBounds i true) (a.put oi.dst v) w) : wpAnyM P md ops Q C E m (f + 1) L a w := by
  refine wpAnyM_first (S := fun w => C w ∧ E w) hi (Region.noSelect_spec hs) hQ him (fun L w hcl hun hc he => ⟨hc, he ?_⟩) f L a w hcl (Region.free_spec hi hf) (by simpa using hr) hy hC hE (h (hcl.set (by simpa using hr)))
  rw [← Bool.not_eq_true]
  intro hlm
  have h2 := closedL_on hcl hj hw2 (closedL_on hcl hm hw hlm)
  rcases Nat.lt_or_ge i L.size with h' | h'
  · simp [h'] at hun h2; rw [hun] at h2; cases h2
  · simp [Array.getElem?_eq_none h'] at h2
end
end Go.Proofs.YtpolplmniaoikaaGreatDoor
namespace Go.Proofs.YtpolplmniaoikaaGreatDoor
def firstH {α : Type} (p : α → Bool) (xs : List α) : Int := match xs.findIdx? p with | some i => (i : Int) | none => -1
theorem firstH_at {α : Type} {p : α → Bool} {l : List α} {k : Nat} {x : α} (h : ∀ y ∈ l.take k, p y = false) (hx : l[k]? = some x) (hp : p x = true) : firstH p l = k := by
  have hk : k < l.length := (List.getElem?_eq_some_iff.1 hx).1
  have he : l[k] = x := (List.getElem?_eq_some_iff.1 hx).2
  have : l.findIdx? p = some k := by
    rw [List.findIdx?_eq_some_iff_getElem]
    refine ⟨hk, by rw [he]; exact hp, fun j hj => ?_⟩
    have := h l[j] (List.mem_iff_getElem?.2 ⟨j, by rw [List.getElem?_take_of_lt hj]; simp⟩)
    simp [this]
  simp [firstH, this]
theorem firstH_none {α : Type} {p : α → Bool} {l : List α} (h : ∀ y ∈ l, p y = false) : firstH p l = -1 := by
  have : l.findIdx? p = none := List.findIdx?_eq_none_iff.2 h
  simp [firstH, this]
theorem firstH_any {α : Type} (p : α → Bool) (l : List α) : decide (0 ≤ firstH p l) = l.any p := by
  unfold firstH
  cases h : l.findIdx? p with
  | none =>
    rw [List.findIdx?_eq_none_iff] at h
    have h2 : l.any p = false := by rw [List.any_eq_false]; intro x hx; simp [h x hx]
    rw [h2]; rfl
  | some i =>
    have h2 : l.any p = true := by
      obtain ⟨hi, hp, _⟩ := List.findIdx?_eq_some_iff_getElem.1 h
      exact List.any_eq_true.2 ⟨_, List.getElem_mem hi, hp⟩
    rw [h2]; simp
end Go.Proofs.YtpolplmniaoikaaGreatDoor
namespace Go.Proofs.YtpolplmniaoikaaGreatDoor
open Go.RowKit

theorem bs_emptyH (e : List UInt8) : (bs e).toList = e := by rw [ByteArray.toList_eq]; rfl
theorem filter_takeH {α : Type} {l : List α} {p : α → Bool} {k : Nat} {u : α} (h : l[k]? = some u) : (l.take (k + 1)).filter p = (l.take k).filter p ++ if p u then [u] else [] := by
  rw [List.take_add_one, h, List.filter_append]
  by_cases hp : p u = true
  · simp [hp]
  · simp [hp]
set_option maxRecDepth 100000
/-- A function value that answers p of such things, wherever what lay below block B stands. -/
def PredStr (g : Nat) (lb : Array Value) (p : List UInt8 → Bool) (B : Nat) (w : World) (xs : List (List UInt8)) : Prop :=
  ∀ x ∈ xs, ∀ w', Below B w w' → Calls Tryz.prog g (#[.string (bs x)] ++ lb) w' fun e w'' => e = .returned (.bool (p x)) ∧ Below w'.heap.size w' w''
end Go.Proofs.YtpolplmniaoikaaGreatDoor
namespace Go.Proofs.YtpolplmniaoikaaGreatDoor
open Go.RowKit

theorem baH_get (s : ByteArray) {i : Nat} (h : i < s.size) : s.data.toList[i]? = some s[i] := by
  rw [List.getElem?_eq_getElem (by rw [Array.length_toList]; exact h)]; rfl
theorem baH_len (s : ByteArray) : s.data.toList.length = s.size := by rw [Array.length_toList]; rfl
theorem baH_list (s : ByteArray) : s.toList = s.data.toList := ByteArray.toList_eq ..
theorem okC_iff (c : UInt8) : okC c = true ↔ (97 ≤ c.toNat ∧ c.toNat ≤ 122) ∨ (48 ≤ c.toNat ∧ c.toNat ≤ 57) := by unfold okC; exact decide_eq_true_iff
theorem okC_no (c : UInt8) : okC c = false ↔ ¬ ((97 ≤ c.toNat ∧ c.toNat ≤ 122) ∨ (48 ≤ c.toNat ∧ c.toNat ≤ 57)) := by unfold okC; exact decide_eq_false_iff_not
def prefErr (s : List UInt8) : Int := if 24 < s.length then 8 else if prefOk s = true then 0 else 3
theorem hasPrefix_eq (s p : List UInt8) : Lib.hasPrefix s p = p.isPrefixOf s := rfl
end Go.Proofs.YtpolplmniaoikaaGreatDoor
namespace Go.Proofs.YtpolplmniaoikaaGreatDoor
open Go.RowKit

/-- No text of a list is longer than any machine's walk here takes. -/
def shortS (xs : List (List UInt8)) : Prop := ∀ x ∈ xs, x.length ≤ 1000
def grW (xs : List (List UInt8)) : Bool := xs.any (fun u => decide (300 < u.length)) || decide (60 < xs.length ∧ xs.length ≠ 256 ∧ xs.length ≠ 257)
theorem grW_no {xs : List (List UInt8)} (h : grW xs = false) : shortS xs ∧ xs.length ≤ 257 := by
  unfold grW at h
  rw [Bool.or_eq_false_iff, List.any_eq_false, decide_eq_false_iff_not] at h
  refine ⟨fun x hx => ?_, by omega⟩
  have := h.1 x hx
  simp at this; omega
end Go.Proofs.YtpolplmniaoikaaGreatDoor
namespace Go.Proofs.YtpolplmniaoikaaGreatDoor
open Go.RowKit

attribute [local go_sem] Oper.semAt_some

end Go.Proofs.YtpolplmniaoikaaGreatDoor
namespace Go.Proofs.YtpolplmniaoikaaGreatDoor
open Go.RowKit

/-- The variable of the library's that strings.Split reads holds some number. -/
def VarM (w : World) : Prop := ∃ m, w.cell? ⟨1, 0, none⟩ = some (.int .i64 m)
theorem VarM.lt {w : World} (h : VarM w) : 1 < w.heap.size := by
  obtain ⟨m, hm⟩ := h
  apply Classical.byContradiction
  intro hn
  have : w.heap[1]? = none := Array.getElem?_eq_none (by omega)
  simp [World.cell?, this] at hm
theorem VarM.below {w w' : World} {n : Nat} (h : VarM w) (hb : Below n w w') (hn : 1 < n) : VarM w' := by
  obtain ⟨m, hm⟩ := h
  exact ⟨m, (hb.cell (p := ⟨1, 0, none⟩) hn).trans hm⟩
theorem splitK_le : ∀ (k : Nat) (s : List UInt8), ∀ x ∈ Lib.splitK [47] 0 k s, x.length ≤ s.length
  | 0, s, x, hx => by
    obtain rfl : x = s := by simpa [Lib.splitK] using hx
    exact Nat.le_refl _
  | k + 1, s, x, hx => by
    rw [Lib.splitK] at hx
    split at hx
    · obtain rfl : x = s := by simpa using hx
      exact Nat.le_refl _
    · rcases List.mem_cons.1 hx with rfl | hx
      · rw [List.length_take]; omega
      · have := splitK_le k _ x hx
        rw [List.length_drop] at this
        omega
theorem split_bs (p : List UInt8) : Lib.splitB (bs [47]) 0 (Lib.countB (bs p) (bs [47])) (bs p) = (Lib.split p [47]).map bs := by
  have h := Lib.splitB_data (bs [47]) 0 (Lib.countB (bs p) (bs [47])) (bs p)
  have h2 : Lib.split p [47] = Lib.splitK (bs [47]).data.toList 0 (Lib.countB (bs p) (bs [47])) (bs p).data.toList := rfl
  rw [h2, ← h, List.map_map]
  conv => lhs; rw [← List.map_id (Lib.splitB (bs [47]) 0 (Lib.countB (bs p) (bs [47])) (bs p))]
  apply List.map_congr_left
  intro x _
  exact (bs_of x).symm
theorem splitS_any (p : List UInt8) (hp : p.length ≤ 1000000) (w : World) (hv : VarM w) :
    Calls Tryz.prog 137 #[.string (bs p), .string ⟨#[47]⟩] w fun e w' => ∃ A n c, e = .returned (.slice A n c) ∧ RdS w' w'.heap.size A n (Lib.split p [47]) ∧ n ≤ maxLen ∧ Below w.heap.size w w' := by
  obtain ⟨m, hm⟩ := hv
  have hb := split_bs p
  have hlen := Lib.splitB_all (bs [47]) (by decide) 0 _ (bs p) rfl
  have hcl := Lib.countB_le (bs [47]) (by decide) (bs p).size (bs p) (Nat.le_refl _)
  rw [bs_size] at hcl
  refine (shSplit (bs p) (bs [47]) m w (by rw [bs_size]; omega) hm (by decide)).mono ?_
  rintro e w' ⟨rfl, rfl⟩
  rw [hb] at hlen ⊢
  refine ⟨_, _, _, rfl, Rd.built (xs := (Lib.split p [47]).map encS) encS_len ?_ (by simpa using hlen), by simp [maxLen]; omega, (Below.refl _ _).alloc (Nat.le_refl _) _⟩
  rw [List.map_map]
  congr 1
  generalize Lib.split p [47] = l
  induction l with
  | nil => rfl
  | cons x l ih => rw [List.map_cons, List.map_cons, List.flatten_cons, ih]; rfl
end Go.Proofs.YtpolplmniaoikaaGreatDoor
namespace Go.Proofs.YtpolplmniaoikaaGreatDoor
open Go.RowKit

theorem shortS.max {xs : List (List UInt8)} (h : shortS xs) : ∀ x ∈ xs, x.length ≤ maxLen := fun x hx => by have := h x hx; simp [maxLen]; omega
theorem shortS.mid {xs : List (List UInt8)} (h : shortS xs) : ∀ x ∈ xs, x.length ≤ 1099511627776 := fun x hx => by have := h x hx; omega
theorem orE_any (g : Nat) (p q : Int) (w : World) (hg : g < w.heap.size) (h0 : w.cell? ⟨g, 0, none⟩ = some (.int .i64 p)) (h1 : w.cell? ⟨g, 1, none⟩ = some (.int .i64 q)) :
    Calls Tryz.prog 60 #[.slice (some ⟨g, 0, none⟩) 2 2] w fun e w' => e = .returned (.int .i64 (if p ≠ 0 then p else q)) ∧ w' = w := by
  generalize hr : (if p ≠ 0 then p else q) = r
  have hrH := Lib.hid hr
  clear hr
  go_enter Tryz.func60, Tryz.ntmps60
  go_wp2
  go_loopg [8] 3 (fun g' i wr => ∃ k : Nat, k ≤ 2 ∧ g' = 3 - k ∧ i = .int .i64 k ∧ wr = w ∧ (1 ≤ k → p = 0) ∧ (2 ≤ k → q = 0))
  case atStart => exact ⟨0, by omega, rfl, rfl, rfl, by omega, by omega⟩
  case round =>
    obtain ⟨k, hk, rfl, rfl, rfl, hp, hq⟩ := hrel
    obtain rfl | rfl | rfl : k = 0 ∨ k = 1 ∨ k = 2 := by omega
    · by_cases h : p = 0
      · subst h
        go_wp2
        go_roundg 2
        case measure => omega
        case rel => exact ⟨1, by omega, rfl, by go_num, rfl, fun _ => (by first | trivial | rfl), by omega⟩
      · have hT := Lib.hid h
        have hd : (p == 0) = false := by simpa using h
        go_wp2
        go_ret
        exact ⟨ret_int (by rw [← hrH.out, if_pos hT.out]), rfl⟩
    · have hp' := Lib.hid (hp (by omega))
      clear hp
      by_cases h : q = 0
      · subst h
        go_wp2
        go_roundg 1
        case measure => omega
        case rel => exact ⟨2, by omega, rfl, by go_num, rfl, fun _ => hp'.out, fun _ => (by first | trivial | rfl)⟩
      · have hd : (q == 0) = false := by simpa using h
        go_wp2
        go_ret
        exact ⟨ret_int (by rw [← hrH.out, if_neg (by simp [hp'.out])]), rfl⟩
    · have hp' := Lib.hid (hp (by omega))
      have hq' := Lib.hid (hq (by omega))
      clear hp hq
      go_wp2
      go_ret
      exact ⟨ret_int (by rw [← hrH.out, if_neg (by simp [hp'.out])]; exact hq'.out.symm), rfl⟩
/-- A list of texts that a call gives. -/
def GotS (w : World) (A : Option Addr) (n : Nat) (xs : List (List UInt8)) : Prop := RdS w w.heap.size A n xs ∧ n ≤ 100000
end Go.Proofs.YtpolplmniaoikaaGreatDoor
namespace Go.Proofs.YtpolplmniaoikaaGreatDoor
open Go.RowKit

theorem bytesLessH (x y : List UInt8) : Op.bytesLess (bs x).toList (bs y).toList = decide (x < y) := by rw [bs_emptyH, bs_emptyH]; exact bytesLess_eq x y
theorem below_dr {w : World} {B : Nat} {v : World} (h : Below B v w) (n : Nat) : Below B v (w.drewN n) := h.trans ⟨rfl, rfl, rfl, Nat.le_refl _, fun _ _ => rfl⟩
theorem quietW {x p : List UInt8} {f : Nat} {w : World} {b : Bool} {n : Nat} (h : Calls Tryz.prog f #[.string (bs x), .string (bs p)] (w.drewN n) fun e w' => e = .returned (.bool b) ∧ w.drewN n = w') : Calls Tryz.prog f #[.string (bs x), .string (bs p)] (w.drewN n) fun e w' => e = .returned (.bool b) ∧ w' = w.drewN n := h.mono fun _ _ h => ⟨h.1, h.2.symm⟩
end Go.Proofs.YtpolplmniaoikaaGreatDoor
namespace Go.Proofs.YtpolplmniaoikaaGreatDoor
open Go.RowKit

def cndR (l : List (List UInt8)) (i k : Nat) : Bool := !((!decide (l.getD k [] = l.getD i []) && withinB (l.getD i []) (l.getD k [])) || (decide (l.getD k [] = l.getD i []) && decide (k < i)))
/-- What Make leaves. -/
def PostMk (w : World) (r : Int) (out : List (List UInt8)) (e : Ending) (w' : World) : Prop := ∃ A' n' c', e = .returned (.tuple #[.slice A' n' c', .int .i64 r]) ∧ GotS w' A' n' out ∧ Below w.heap.size w w'
theorem keepR_all (l : List (List UInt8)) (i : Nat) : keepR l i = (List.range l.length).all (cndR l i) := rfl
theorem all_range_succ (f : Nat → Bool) (q : Nat) : (List.range (q + 1)).all f = ((List.range q).all f && f q) := by rw [List.range_succ, List.all_append]; simp
theorem Ow.dr {w : World} {base : Nat} {e : TypeId} {sz : Nat} {v : Value} {xs : List (List Value)} (h : Ow w base e sz v xs) (n : Nat) : Ow (w.drewN n) base e sz v xs := h.below (below_dr (Below.refl _ _) n)
end Go.Proofs.YtpolplmniaoikaaGreatDoor
namespace Go.Proofs.YtpolplmniaoikaaGreatDoor
open Go.RowKit

theorem rdS_new (w : World) (p : List UInt8) : RdS (w.alloc (.cells #[.string (bs p)] 9)) (w.alloc (.cells #[.string (bs p)] 9)).heap.size (some ⟨w.heap.size, 0, none⟩) 1 [p] :=
  Rd.built (xs := [p].map encS) encS_len rfl rfl
end Go.Proofs.YtpolplmniaoikaaGreatDoor
namespace Go.Proofs.YtpolplmniaoikaaGreatDoor
open Go.RowKit

set_option maxRecDepth 100000 in
theorem sameW_any (A B : Option Addr) (n m c d : Nat) (xs ys : List (List UInt8)) (w : World) (hA : RdS w w.heap.size A n xs) (hB : RdS w w.heap.size B m ys) (hn : n ≤ maxLen) (hm : m ≤ maxLen) :
    Calls Tryz.prog 21 #[.slice A n c, .slice B m d] w fun e w' => e = .returned (.bool (decide (xs = ys))) ∧ Below w.heap.size w w' := by
  have hl := hA.len
  have hl2 := hB.len
  unfold maxLen at hn hm
  generalize hr : decide (xs = ys) = r
  have hrH := Lib.hid hr
  clear hr
  by_cases hnm : (n : Int) = (m : Int)
  · obtain rfl : n = m := by omega
    clear hnm
    go_enter Tryz.func21, Tryz.ntmps21
    go_wp2
    go_loopg [5] (n + 1) (fun g i wr => ∃ k : Nat, k ≤ n ∧ g = n + 1 - k ∧ i = .int .i64 (k : Int) ∧ xs.take k = ys.take k ∧ Below w.heap.size w wr)
    case atStart => exact ⟨0, Nat.zero_le _, rfl, rfl, rfl, Below.refl _ _⟩
    case round =>
      obtain ⟨k, hk, rfl, rfl, htk, hbr⟩ := hrel
      have hz := hbr.size
      by_cases hlt : k < n
      · obtain ⟨bA, oA, x, rfl, hbA, hp, hcp⟩ := (hA.below hbr).at_ hlt
        obtain ⟨bB, oB, y, rfl, hbB, hq, hcq⟩ := (hB.below hbr).at_ hlt
        have p0 := hcp 0 _ rfl
        have q0 := hcq 0 _ rfl
        rw [Nat.add_zero, Nat.mul_one] at p0 q0
        clear hcp hcq
        have hbA2 : bA < wr.heap.size := by omega
        have hbB2 : bB < wr.heap.size := by omega
        have htkH := Lib.hid htk
        have hpH := Lib.hid hp
        have hqH := Lib.hid hq
        clear htk hp hq
        have hq0 : KQ wr.heap.size wr wr := kq (Below.refl _ _)
        by_cases he : x = y
        · subst he
          have hT : Hid (xs.take (k + 1) = ys.take (k + 1)) := Lib.hid (by rw [List.take_add_one, List.take_add_one, htkH.out, hpH.out, hqH.out])
          go_wp2
          go_region_held3 (fun w' => KQ wr.heap.size wr w') (first
      | with_reducible exact kq_call (by assumption) (by simp) (by assumption)
      | with_reducible exact kq_grown (by assumption) (by simp) (by assumption) (by simp [Value.ownBlock])
      | ((with_reducible refine kq ?_); (repeat (first | (with_reducible exact Below.refl _ _) | (with_reducible refine Below.drew ?_) | (with_reducible refine Below.alloc ?_ (by simp) _) | (with_reducible refine Below.setCell ?_ (by simp) _) | (with_reducible exact (by assumption : KQ _ _ _).1))); done)) (first | (go_at_call 0; skip))
          have hG : Below w.heap.size w wr.drew := hbr.drew
          go_wp2
          go_roundg (n + 1 - (k + 1))
          case measure => omega
          case rel => exact ⟨k + 1, by omega, rfl, by go_num, hT.out, hG⟩
        · have hT : Hid (false = r) := Lib.hid (by
            rw [← hrH.out]; symm; apply decide_eq_false; intro e; subst e
            have := hpH.out.symm.trans hqH.out
            injection this with this; exact he this)
          have hG : Below w.heap.size w wr.drew := hbr.drew
          have hsn : ((bs x).toList == (bs y).toList) = false := by rw [bs_emptyH, bs_emptyH, beq_eq_false_iff_ne]; exact he
          clear he
          go_wp2
          go_region_held3 (fun w' => KQ wr.heap.size wr w') (first
      | with_reducible exact kq_call (by assumption) (by simp) (by assumption)
      | with_reducible exact kq_grown (by assumption) (by simp) (by assumption) (by simp [Value.ownBlock])
      | ((with_reducible refine kq ?_); (repeat (first | (with_reducible exact Below.refl _ _) | (with_reducible refine Below.drew ?_) | (with_reducible refine Below.alloc ?_ (by simp) _) | (with_reducible refine Below.setCell ?_ (by simp) _) | (with_reducible exact (by assumption : KQ _ _ _).1))); done)) (first | (go_at_call 0; skip))
          go_wp2
          go_ret
          exact ⟨ret_bool hT.out, hG⟩
      · have hT : Hid (true = r) := Lib.hid (by
          rw [← hrH.out]; symm; apply decide_eq_true
          rw [List.take_of_length_le (by omega), List.take_of_length_le (by omega)] at htk
          exact htk)
        clear htk
        go_wp2
        go_ret
        exact ⟨ret_bool hT.out, hbr⟩
  · have hT : Hid (false = r) := Lib.hid (by
      rw [← hrH.out]; symm; apply decide_eq_false; rintro rfl; omega)
    have hd : ((n : Int) == (m : Int)) = false := by simpa using hnm
    go_enter Tryz.func21, Tryz.ntmps21
    go_wp2
    go_ret
    exact ⟨ret_bool hT.out, Below.refl _ _⟩
theorem rdS_lit (w : World) (l : List (List UInt8)) (cs : Array Value) (h : cs = (l.map encS).flatten.toArray) : RdS (w.alloc (.cells cs 9)) (w.alloc (.cells cs 9)).heap.size (some ⟨w.heap.size, 0, none⟩) l.length l :=
  Rd.built (xs := l.map encS) encS_len h (by simp)
theorem wk_out1 : outW [[97, 47, 98], [97], [99], [97]] = [[97], [99]] := by rw [← makeR_out]; decide +kernel
theorem wk_out2 : outW [[97], [99]] = [[97], [99]] := by rw [← makeR_out]; decide +kernel
theorem wk_e1 : makeWE [[97, 47, 98], [97], [99], [97]] = 0 := by unfold makeWE; rw [wk_out1]; decide +kernel
theorem wk_m1 : makeW [[97, 47, 98], [97], [99], [97]] = [[97], [99]] := by unfold makeW; rw [wk_e1, wk_out1]; rfl
theorem wk_e2 : minusWE [[97], [99]] [97] = 0 := by unfold minusWE chkW; rw [wk_out2]; decide +kernel
theorem wk_m2 : minusW [[97], [99]] [97] = [[99]] := by unfold minusW; rw [wk_e2]; decide +kernel
theorem wk_e3 : makeWE [[97, 47]] = 3 := by
  unfold makeWE
  rw [if_pos (by decide +kernel)]
  decide +kernel
theorem wk_h1 : hasW [[97], [99]] [97, 47, 114] = true := by decide +kernel
theorem wk_h2 : hasW [[97], [99]] [97, 98, 47, 114] = false := by decide +kernel
theorem wk_h3 : hasW [[]] [120] = true := by decide +kernel
theorem wk_h4 : hasW [] [120] = false := by decide +kernel
theorem wk_v1 : coversW [[97], [99]] [[97, 47, 120]] = true := by decide +kernel
theorem wk_v2 : coversW [[97], [99]] [[]] = false := by decide +kernel
theorem short_lit {l : List (List UInt8)} (h : l.all (fun x => decide (x.length ≤ 1000)) = true) : shortS l := fun x hx => by simpa using List.all_eq_true.1 h x hx
end Go.Proofs.YtpolplmniaoikaaGreatDoor
