/- Plain words on names, lists of names, vectors: what the program and the document say of them (no program in sight). -/
import Derived.WalkKit
import Derived.Lib.Hide
namespace Go.Proofs.YtffnpfponnhddaaGreat
open Go.RowKit

/-- A name's cells: its origin, its number. -/
abbrev Im := Int × Int
/-- What a machine's number can be. -/
def Im.wf (x : Im) : Prop := 0 ≤ x.2 ∧ x.2 < 4294967296
def chk (x : Im) : Bool := decide (0 ≤ x.1 ∧ x.1 < 8 ∧ 1 ≤ x.2 ∧ x.2 ≤ 1048576)
def cmpI (x y : Im) : Int := if x.1 < y.1 then -1 else if y.1 < x.1 then 1 else if x.2 < y.2 then -1 else if y.2 < x.2 then 1 else 0
def errI (b : Bool) : Int := if b then 0 else 2
theorem ret_int {k : IntKind} {a b : Int} (h : a = b) : Ending.returned (.int k a) = .returned (.int k b) := by rw [h]
theorem ret_bool {a b : Bool} (h : a = b) : Ending.returned (.bool a) = .returned (.bool b) := by rw [h]
def ordI (a b : Int) : Int := if a < b then -1 else if b < a then 1 else 0
theorem cmpI_ord (x y : Im) : cmpI x y = if ordI x.1 y.1 ≠ 0 then ordI x.1 y.1 else ordI x.2 y.2 := by
  unfold cmpI ordI; (repeat' split) <;> omega
def grI (n : Nat) : Bool := decide (400 < n ∧ n ≠ 1024 ∧ n ≠ 1025)
def firstI (p : Im → Bool) (xs : List Im) : Int := match xs.findIdx? p with | some i => (i : Int) | none => -1
theorem firstI_at {p : Im → Bool} {l : List Im} {k : Nat} {x : Im} (h : ∀ y ∈ l.take k, p y = false) (hx : l[k]? = some x) (hp : p x = true) : firstI p l = k := by
  have hk : k < l.length := (List.getElem?_eq_some_iff.1 hx).1
  have he : l[k] = x := (List.getElem?_eq_some_iff.1 hx).2
  have : l.findIdx? p = some k := by
    rw [List.findIdx?_eq_some_iff_getElem]
    refine ⟨hk, by rw [he]; exact hp, fun j hj => ?_⟩
    have := h l[j] (List.mem_iff_getElem?.2 ⟨j, by rw [List.getElem?_take_of_lt hj]; simp⟩)
    simp [this]
  simp [firstI, this]
theorem firstI_none {p : Im → Bool} {l : List Im} (h : ∀ y ∈ l, p y = false) : firstI p l = -1 := by
  have : l.findIdx? p = none := List.findIdx?_eq_none_iff.2 h
  simp [firstI, this]
theorem firstI_any (p : Im → Bool) (l : List Im) : decide (0 ≤ firstI p l) = l.any p := by
  unfold firstI
  cases h : l.findIdx? p with
  | none =>
    rw [List.findIdx?_eq_none_iff] at h
    have h2 : l.any p = false := by rw [List.any_eq_false]; intro x hx; simp [h x hx]
    rw [h2]; rfl
  | some i =>
    have h2 : l.any p = true := by
      obtain ⟨hi, hp, _⟩ := List.findIdx?_eq_some_iff_getElem.1 h
      exact List.any_eq_true.2 ⟨_, List.getElem_mem hi, hp⟩
    rw [h2]; simp
def ascB : List Im → Bool
  | [] => true
  | x :: r => (match r with | [] => true | y :: _ => decide (cmpI x y < 0)) && ascB r
theorem ascB_iff : ∀ (xs : List Im), ascB xs = true ↔ ∀ j x y, xs[j]? = some x → xs[j + 1]? = some y → cmpI x y < 0
  | [] => by simp [ascB]
  | [x] => by simp [ascB]
  | x :: y :: r => by
    have ih := ascB_iff (y :: r)
    rw [ascB, Bool.and_eq_true, ih]
    constructor
    · rintro ⟨h1, h2⟩ j a b ha hb
      cases j with
      | zero => simp at ha hb; subst ha; subst hb; simpa using h1
      | succ j => exact h2 j a b (by simpa using ha) (by simpa using hb)
    · intro h
      exact ⟨by simpa using h 0 x y rfl rfl, fun j a b ha hb => h (j + 1) a b (by simpa using ha) (by simpa using hb)⟩
/-- What is wrong with a set. -/
def lerr (xs : List Im) : Int := if 64 < xs.length then 8 else if xs.all chk = false then 2 else if ascB xs then 0 else 3
structure Vm where
  d0 : Int
  d1 : Int
  d2 : Int
  d3 : Int
  d4 : Int
  d5 : Int
  d6 : Int
  d7 : Int
def Vm.get (v : Vm) (o : Int) : Int := if o = 0 then v.d0 else if o = 1 then v.d1 else if o = 2 then v.d2 else if o = 3 then v.d3 else if o = 4 then v.d4 else if o = 5 then v.d5 else if o = 6 then v.d6 else v.d7
def hasV (v : Vm) (x : Im) : Bool := chk x && decide (x.2 ≤ v.get x.1)
/-- What is wrong with two sets. -/
def lerr2 (xs ys : List Im) : Int := if lerr xs ≠ 0 then lerr xs else lerr ys
def minusI (xs ys : List Im) : List Im := if lerr2 xs ys ≠ 0 then [] else xs.filter fun x => !ys.contains x
theorem filter_take_succ {p : Im → Bool} {xs : List Im} {k : Nat} {x : Im} (hx : xs[k]? = some x) : (xs.take (k + 1)).filter p = (xs.take k).filter p ++ if p x then [x] else [] := by
  rw [List.take_add_one, List.filter_append, hx]
  cases h : p x <;> simp [h]
def beyondI (xs : List Im) (v : Vm) : List Im := if lerr xs ≠ 0 then [] else xs.filter fun x => !hasV v x
/-- The name at a place goes ahead as long as it is less than the one ahead of it. -/
def sinkI : Nat → List Im → List Im
  | 0, l => l
  | k + 1, l => if 0 < cmpI (l.getD k (0, 0)) (l.getD (k + 1) (0, 0)) then sinkI k ((l.set (k + 1) (l.getD k (0, 0))).set k (l.getD (k + 1) (0, 0))) else l
def putI (l : List Im) (x : Im) : List Im := if l.contains x then l else sinkI l.length (l ++ [x])
def makeI (xs : List Im) : List Im := xs.foldl putI []
def makeErr (xs : List Im) : Int := if 1024 < xs.length then 8 else if xs.all chk = false then 2 else if 64 < (makeI xs).length then 8 else 0
def makeOut (xs : List Im) : List Im := if makeErr xs ≠ 0 then [] else makeI xs
theorem sinkI_len : ∀ (k : Nat) (l : List Im), (sinkI k l).length = l.length
  | 0, l => rfl
  | k + 1, l => by
    rw [sinkI]
    split
    · rw [sinkI_len k]; simp
    · rfl
theorem putI_wf {l : List Im} {x : Im} (hl : ∀ y ∈ l, y.wf) (hx : x.wf) : ∀ y ∈ putI l x, y.wf := by
  have h : ∀ (k : Nat) (l : List Im), (∀ y ∈ l, y.wf) → ∀ y ∈ sinkI k l, y.wf := by
    intro k
    induction k with
    | zero => intro l hl; exact hl
    | succ k ih =>
      intro l hl
      have hz : ∀ i, (l.getD i (0, 0)).wf := by
        intro i
        rcases Nat.lt_or_ge i l.length with h | h
        · rw [List.getD, List.getElem?_eq_getElem h]; exact hl _ (List.getElem_mem h)
        · rw [List.getD, List.getElem?_eq_none h]; exact ⟨by decide, by decide⟩
      rw [sinkI]
      split
      · refine ih _ (fun y hy => ?_)
        rcases List.mem_or_eq_of_mem_set hy with h | rfl
        · rcases List.mem_or_eq_of_mem_set h with h | rfl
          · exact hl y h
          · exact hz _
        · exact hz _
      · exact hl
  unfold putI
  split
  · exact hl
  · refine h _ _ (fun y hy => ?_)
    rcases List.mem_append.1 hy with h | h
    · exact hl y h
    · obtain rfl := List.mem_singleton.1 h; exact hx
theorem take_succ_eq {xs ys : List Im} {k : Nat} {x y : Im} (h : xs.take k = ys.take k) (hx : xs[k]? = some x) (hy : ys[k]? = some y) : xs.take (k + 1) = ys.take (k + 1) ↔ x = y := by
  rw [List.take_add_one, List.take_add_one, h, hx, hy]
  simp
def unionErr (xs ys : List Im) : Int := if lerr2 xs ys ≠ 0 then lerr2 xs ys else makeErr (xs ++ ys)
def unionR (xs ys : List Im) : List Im := if lerr2 xs ys ≠ 0 then [] else makeOut (xs ++ ys)
/-- Are all members of a vector where they may be? -/
def vchk (v : Vm) : Bool := decide (v.d0 ≤ 1048576 ∧ v.d1 ≤ 1048576 ∧ v.d2 ≤ 1048576 ∧ v.d3 ≤ 1048576 ∧ v.d4 ≤ 1048576 ∧ v.d5 ≤ 1048576 ∧ v.d6 ≤ 1048576 ∧ v.d7 ≤ 1048576)
def Vm.set (v : Vm) (o s : Int) : Vm := ⟨if o = 0 then s else v.d0, if o = 1 then s else v.d1, if o = 2 then s else v.d2, if o = 3 then s else v.d3, if o = 4 then s else v.d4, if o = 5 then s else v.d5, if o = 6 then s else v.d6, if o = 7 then s else v.d7⟩
def zV : Vm := ⟨0, 0, 0, 0, 0, 0, 0, 0⟩
/-- A vector with one name more: the vector, what is wrong. -/
def takeErr (v : Vm) (x : Im) : Int := if vchk v = false then 2 else if chk x = false then 2 else if hasV v x then 11 else if v.get x.1 + 1 < x.2 then 17 else 0
def takeV (v : Vm) (x : Im) : Vm := if takeErr v x = 0 then v.set x.1 x.2 else zV
def foldV (v : Vm) (xs : List Im) : Vm := xs.foldl (fun v x => if takeErr v x = 0 then takeV v x else v) v
def foldErr (v : Vm) (xs : List Im) : Int := if vchk v = false then 2 else lerr xs
def foldOut (v : Vm) (xs : List Im) : Vm := if foldErr v xs ≠ 0 then zV else foldV v xs
def foldRest (v : Vm) (xs : List Im) : List Im := if foldErr v xs ≠ 0 then [] else beyondI xs (foldV v xs)
end Go.Proofs.YtffnpfponnhddaaGreat
