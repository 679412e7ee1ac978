/- Binary search for a tag; strictly; sets of additions: what is wrong with one, both checks. Sets of additions: what is wrong with one, by the program and by the document. The document's sets of additions: the names of additions, what is wrong with a set. Regions that draw their order: an operation for which number m waits by way of another one. Writing an element of a row of one's own: elements of any number of cells. The statements' own To, From and Great of sets; the document's Same. slices.Clone, DeleteFunc, Grow and Concat at tags; Clone and DeleteFunc at additions. -/
import Derived.Test.YtfhandglpjnonaaGreatDoorTl
import Derived.Test.YtfhandglpjnonaaGreatDoorGb
import Derived.Test.YtfhandglpjnonaaGreatDoorGc
import Derived.Lib.SliceRun
import Derived.Lib.AppendZeros
import Derived.Shelf.Abstract
namespace Go.Proofs.YtfhandglpjnonaaGreatDoor
open Go.RowKit

/-- A function value that compares additions by their tags. -/
def CmpA (g : Nat) (lb : Array Value) (B : Nat) (w : World) (xs : List Am) : Prop :=
  ∀ x ∈ xs, ∀ y ∈ xs, ∀ w', Below B w w' → Calls Tryz.prog g (#[.agg #[.int .i64 x.1.1.1, .int .u32 x.1.1.2, .int .i64 x.1.2, .string (bs x.2)], .agg #[.int .i64 y.1.1.1, .int .u32 y.1.1.2, .int .i64 y.1.2, .string (bs y.2)]] ++ lb) w' fun e w'' => e = .returned (.int .i64 (cmpT x.1 y.1)) ∧ Below w'.heap.size w' w''
def CmpT (g : Nat) (lb : Array Value) (B : Nat) (w : World) (xs : List Tm) : Prop :=
  ∀ x ∈ xs, ∀ y ∈ xs, ∀ w', Below B w w' → Calls Tryz.prog g (#[.agg #[.int .i64 x.1.1, .int .u32 x.1.2, .int .i64 x.2], .agg #[.int .i64 y.1.1, .int .u32 y.1.2, .int .i64 y.2]] ++ lb) w' fun e w'' => e = .returned (.int .i64 (cmpT x y)) ∧ Below w'.heap.size w' w''
theorem bs_empty (e : List UInt8) : (bs e).toList = e := by rw [ByteArray.toList_eq]; rfl
set_option maxRecDepth 100000 in
theorem oelem_any (s : List UInt8) (hs : s.length ≤ maxLen) (w : World) :
    Calls Tryz.prog 164 #[.string (bs s)] w fun e w' => e = .returned (.bool (elemB s)) ∧ w = w' := by
  have hz := bs_size s
  have hl := bs_empty s
  generalize hr : elemB s = r
  unfold elemB at hr
  have hrH := Lib.hid hr
  clear hr
  unfold maxLen at hs
  by_cases h0 : s = []
  · subst h0
    have hT : Hid (false = r) := Lib.hid (by rw [← hrH.out]; simp)
    have hz0 : ((bs []).size) = 0 := rfl
    clear hz
    go_enter Tryz.func164, Tryz.ntmps164
    go_wp2
    go_ret
    exact ⟨ret_bool hT.out, rfl⟩
  · have hne : (bs s).toList.isEmpty = false := by rw [hl, List.isEmpty_eq_false_iff]; exact h0
    have hne2 : (bs s).toList.isEmpty = false := hne
    have hpos : 1 ≤ s.length := by cases s with | nil => exact absurd rfl h0 | cons => simp
    by_cases h12 : s.length ≤ 12
    · have hT : Hid (true = r) := Lib.hid (by rw [← hrH.out]; symm; exact decide_eq_true ⟨hpos, h12⟩)
      have hd1 : decide ((1 : Int) ≤ (((bs s).size : Nat) : Int)) = true := decide_eq_true (by omega)
      have hd2 : decide ((((bs s).size : Nat) : Int) ≤ 12) = true := decide_eq_true (by omega)
      clear hl hz h0 hne2 hpos
      go_enter Tryz.func164, Tryz.ntmps164
      go_wp2
      go_ret
      exact ⟨ret_bool hT.out, rfl⟩
    · have hT : Hid (false = r) := Lib.hid (by rw [← hrH.out]; symm; exact decide_eq_false (by omega))
      have hd1 : decide ((1 : Int) ≤ (((bs s).size : Nat) : Int)) = true := decide_eq_true (by omega)
      have hd2 : decide ((((bs s).size : Nat) : Int) ≤ 12) = false := decide_eq_false (by omega)
      clear hl hz h0 hne2 hpos
      go_enter Tryz.func164, Tryz.ntmps164
      go_wp2
      go_ret
      exact ⟨ret_bool hT.out, rfl⟩
set_option maxRecDepth 100000 in
theorem relem_any (s : List UInt8) (hs : s.length ≤ maxLen) (w : World) :
    Calls Tryz.prog 143 #[.string (bs s)] w fun e w' => e = .returned (.bool (elemB s)) ∧ w = w' := by
  have hz := bs_size s
  have hl := bs_empty s
  generalize hr : elemB s = r
  unfold elemB at hr
  have hrH := Lib.hid hr
  clear hr
  unfold maxLen at hs
  by_cases h0 : s = []
  · subst h0
    have hT : Hid (false = r) := Lib.hid (by rw [← hrH.out]; simp)
    have hz0 : ((bs []).size) = 0 := rfl
    clear hz
    go_enter Tryz.func143, Tryz.ntmps143
    go_wp2
    go_ret
    exact ⟨ret_bool hT.out, rfl⟩
  · have hne : (bs s).toList.isEmpty = false := by rw [hl, List.isEmpty_eq_false_iff]; exact h0
    have hne2 : (bs s).toList.isEmpty = false := hne
    have hpos : 1 ≤ s.length := by cases s with | nil => exact absurd rfl h0 | cons => simp
    by_cases h12 : s.length ≤ 12
    · have hT : Hid (true = r) := Lib.hid (by rw [← hrH.out]; symm; exact decide_eq_true ⟨hpos, h12⟩)
      have hd1 : decide ((1 : Int) ≤ (((bs s).size : Nat) : Int)) = true := decide_eq_true (by omega)
      have hd2 : decide ((((bs s).size : Nat) : Int) ≤ 12) = true := decide_eq_true (by omega)
      clear hl hz h0 hne2 hpos
      go_enter Tryz.func143, Tryz.ntmps143
      go_wp2
      go_ret
      exact ⟨ret_bool hT.out, rfl⟩
    · have hT : Hid (false = r) := Lib.hid (by rw [← hrH.out]; symm; exact decide_eq_false (by omega))
      have hd1 : decide ((1 : Int) ≤ (((bs s).size : Nat) : Int)) = true := decide_eq_true (by omega)
      have hd2 : decide ((((bs s).size : Nat) : Int) ≤ 12) = false := decide_eq_false (by omega)
      clear hl hz h0 hne2 hpos
      go_enter Tryz.func143, Tryz.ntmps143
      go_wp2
      go_ret
      exact ⟨ret_bool hT.out, rfl⟩
end Go.Proofs.YtfhandglpjnonaaGreatDoor
namespace Go.Proofs.YtfhandglpjnonaaGreatDoor
open Go.RowKit

theorem all_chkA (xs : List Am) : (xs.map Prod.fst).all chkT = !xs.any (fun a => !chkT a.1) := by
  rw [List.all_map, List.all_eq_not_any_not]; rfl
theorem all_chkT (gs : List Tm) : gs.all chkT = !gs.any (fun t => !chkT t) := by rw [List.all_eq_not_any_not]
/-- What is wrong with a set, by what its parts are asked. -/
theorem oErr_parts {xs : List Am} {gs : List Tm} {n m : Nat} {b1 b2 b3 b4 b5 : Bool} (hn : xs.length = n) (hm : gs.length = m) (h1 : xs.any (fun a => !chkT a.1) = b1) (h2 : gs.any (fun t => !chkT t) = b2) (h3 : ascT (xs.map Prod.fst) = b3) (h4 : ascT gs = b4) (h5 : badA xs gs = b5) :
    oErr xs gs = if 4096 < n ∨ 4096 < m then 8 else if b1 || b2 then 2 else if b3 && b4 then (if b5 then 3 else 0) else 3 := by
  unfold oErr sErr
  rw [all_chkA, all_chkT, h1, h2, h3, h4, h5, List.length_map, hn, hm]
  cases b1 <;> cases b2 <;> cases b3 <;> cases b4 <;> cases b5 <;> rfl

end Go.Proofs.YtfhandglpjnonaaGreatDoor
namespace Go.Proofs.YtfhandglpjnonaaGreatDoor
open Go.RowKit

end Go.Proofs.YtfhandglpjnonaaGreatDoor
namespace Go.Proofs.YtfhandglpjnonaaGreatDoor
open Go.RowKit

section
variable {P : Program} {ops : Array Oper} {Q : Exit → Act → World → Prop} {md : Region.Mode} {C E : World → Prop} {m : Nat}
theorem closedL_on {L : Array Bool} (hcl : ClosedL md ops L) {j i : Nat} {oj : Oper} (hj : ops[j]? = some oj) (hw : (oj.after.any fun e => Region.binds md e && e.on == i) = true) (hl : L.getD j false = true) : L.getD i false = true := by
  obtain ⟨e, he, hb⟩ := Array.any_eq_true'.1 hw
  simp only [Bool.and_eq_true, beq_iff_eq] at hb
  have := hcl j oj hj hl e he hb.1
  rwa [hb.2] at this
theorem wpM_take0c {i j : Nat} {oi oj om : Oper} {v : Value} {f : Nat} {L : Array Bool} {a : Act} {w : World} (hi : ops[i]? = some oi) (hj : ops[j]? = some oj) (hm : ops[m]? = some om)
    (hw : (om.after.any fun e => Region.binds md e && e.on == j) = true) (hw2 : (oj.after.any fun e => Region.binds md e && e.on == i) = true)
    (hs : Region.noSelect ops = true) (hf : Region.free md ops L i = true) (hr : (Region.ready md ops L).contains i = true) (him : i ≠ m)
    (hQ : ∀ c a w, Q (.panic c) (a.put oi.dst v) w → Q (.panic c) a w) (hcl : ClosedL md ops L) (hC : C w) (hE : L.getD m false = false → E w) (hy : YieldsIf P ops (fun w => C w ∧ E w) oi v a)
    (h : ClosedL md ops (L.setIfInBounds i true) → wpAnyM P md ops Q C E m f (L.setIfInBounds i true) (a.put oi.dst v) w) : wpAnyM P md ops Q C E m (f + 1) L a w := by
  refine wpAnyM_first (S := fun w => C w ∧ E w) hi (Region.noSelect_spec hs) hQ him (fun L w hcl hun hc he => ⟨hc, he ?_⟩) f L a w hcl (Region.free_spec hi hf) (by simpa using hr) hy hC hE (h (hcl.set (by simpa using hr)))
  rw [← Bool.not_eq_true]
  intro hlm
  have h2 := closedL_on hcl hj hw2 (closedL_on hcl hm hw hlm)
  rcases Nat.lt_or_ge i L.size with h' | h'
  · simp [h'] at hun h2; rw [hun] at h2; cases h2
  · simp [Array.getElem?_eq_none h'] at h2
end
end Go.Proofs.YtfhandglpjnonaaGreatDoor
namespace Go.Proofs.YtfhandglpjnonaaGreatDoor
open Go.RowKit

theorem setL_mid {α : Type} : ∀ (vs : List α) (l : List α) (i : Nat), i + vs.length ≤ l.length → setL l i vs = l.take i ++ vs ++ l.drop (i + vs.length)
  | [], l, i, h => by simp [setL]
  | v :: r, l, i, h => by
    have hi : i < l.length := by simp at h; omega
    rw [setL, setL_mid r (l.set i v) (i + 1) (by simp at h ⊢; omega), List.take_add_one, List.getElem?_set_self hi]
    simp only [Option.toList_some, List.length_cons]
    rw [List.take_set_of_le (Nat.le_refl _), List.drop_set_of_lt (by omega), show i + 1 + r.length = i + (r.length + 1) by omega]
    simp
theorem Ow.setL {w : World} {base g n c sz : Nat} {e : TypeId} {xs : List (List Value)} (h : Ow w base e sz (.slice (some ⟨g, 0, none⟩) n c) xs) {k : Nat} (hk : k < n) {vs : List Value} (hv : vs.length = sz) :
    Ow (w.setCells g (k * sz) vs) base e sz (.slice (some ⟨g, 0, none⟩) n c) (xs.set k vs) := by
  have hl : xs.length = n := h.rd.2.1
  have hall := h.1
  have h2 := h.2
  rw [hl] at h2
  have hflat : ∀ m, m ≤ n → (xs.take m).flatten = xs.flatten.take (m * sz) ∧ (xs.drop m).flatten = xs.flatten.drop (m * sz) := by
    intro m hm
    have h1 : xs.flatten = (xs.take m).flatten ++ (xs.drop m).flatten := by rw [← List.flatten_append, List.take_append_drop]
    have h2 : (xs.take m).flatten.length = m * sz := by rw [flat_len (fun x hx => hall x (List.mem_of_mem_take hx)), List.length_take, Nat.min_eq_left (by omega)]
    rw [h1, ← h2]
    exact ⟨(List.take_left' rfl).symm, (List.drop_left' rfl).symm⟩
  have hfl : xs.flatten.length = n * sz := by rw [flat_len hall, hl]
  have hle : k * sz + sz ≤ n * sz := by rw [← Nat.succ_mul]; exact Nat.mul_le_mul_right _ hk
  refine ⟨fun x hx => ?_, ?_⟩
  · rcases List.mem_or_eq_of_mem_set hx with h' | rfl
    · exact hall x h'
    · exact hv
  · have h3 := ownsRow_setCells vs (k * sz) h2
    rw [setL_mid vs _ _ (by rw [hv, hfl]; exact hle), hv] at h3
    rw [List.length_set, hl, List.set_eq_take_append_cons_drop, if_pos (by omega), List.flatten_append, List.flatten_cons, (hflat k (by omega)).1, (hflat (k + 1) (by omega)).2, Nat.succ_mul, ← List.append_assoc]
    exact h3
theorem gr_setCells {g : Nat} (vs : List Value) {a w : World} (i : Nat) (h : a.grownBy w (some g)) : a.grownBy (w.setCells g i vs) (some g) := grown_setCells vs i h
end Go.Proofs.YtfhandglpjnonaaGreatDoor
namespace Go.Proofs.YtfhandglpjnonaaGreatDoor
open Go.RowKit

theorem infoAddR : (Tryz.prog.info? 289).map (fun i => (i.zero, i.size, i.bytes)) = some (some (.agg #[.int .i64 0, .int .u32 0, .int .i64 0, .string ⟨#[]⟩]), 4, 40) := by kernel_rfl
theorem eAddR : ElemInfo Tryz.prog 144 289 4 40 := by
  obtain ⟨i, hi, h0, h1, h2⟩ := info_parts infoAddR
  exact ⟨Tryz.underlying144, ⟨i, _, hi, h0, h1, h2, rfl⟩, by decide⟩
def grO (n m : Nat) : Bool := decide (200 < n ∨ 200 < m)
set_option maxRecDepth 100000 in
theorem ogreat_any (A : Option Addr) (n c : Nat) (B : Option Addr) (m d : Nat) (w : World) :
    Calls Tryz.prog 112 #[.agg #[.slice A n c, .slice B m d]] w fun e w' => e = .returned (.bool (grO n m)) ∧ Below w.heap.size w w' := by
  generalize hr : grO n m = r
  unfold grO at hr
  have hrH := Lib.hid hr
  clear hr
  have hB0 : Below w.heap.size w (w.alloc (.cells #[.slice A n c, .slice B m d] 146)) := (Below.refl _ w).alloc (Nat.le_refl _) _
  by_cases h1 : (200 : Int) < (n : Int)
  · have hT : Hid (true = r) := Lib.hid (by rw [← hrH.out]; symm; exact decide_eq_true (by omega))
    go_enter Tryz.func112, Tryz.ntmps112
    go_wp2
    go_ret
    exact ⟨ret_bool hT.out, hB0⟩
  · have hd1 : decide ((200 : Int) < (n : Int)) = false := decide_eq_false h1
    by_cases h2 : (200 : Int) < (m : Int)
    · have hT : Hid (true = r) := Lib.hid (by rw [← hrH.out]; symm; exact decide_eq_true (by omega))
      go_enter Tryz.func112, Tryz.ntmps112
      go_wp2
      go_ret
      exact ⟨ret_bool hT.out, hB0⟩
    · have hd2 : decide ((200 : Int) < (m : Int)) = false := decide_eq_false h2
      have hT : Hid (false = r) := Lib.hid (by rw [← hrH.out]; symm; exact decide_eq_false (by omega))
      go_enter Tryz.func112, Tryz.ntmps112
      go_wp2
      go_ret
      exact ⟨ret_bool hT.out, hB0⟩
end Go.Proofs.YtfhandglpjnonaaGreatDoor
namespace Go.Proofs.YtfhandglpjnonaaGreatDoor
open Go.RowKit

theorem filter_takeG {α : Type} {l : List α} {p : α → Bool} {k : Nat} {u : α} (h : l[k]? = some u) : (l.take (k + 1)).filter p = (l.take k).filter p ++ if p u then [u] else [] := by
  rw [List.take_add_one, h, List.filter_append]
  cases hp : p u <;> simp [hp]
end Go.Proofs.YtfhandglpjnonaaGreatDoor
