/- The first place at which something holds (plain). The library at lists of texts: IndexFunc, ContainsFunc, Clone, DeleteFunc, Grow, Concat, Equal. Prefixes, both: part, within, Prefix, Within, and the closures on one text. Interests, both: Great, own, Has, Covers, long, prefixes. slices.Values, AppendSeq, Collect, Sorted at texts. Interests of the program: check, outermost, Check, Make, Join, Minus. Interests of the program: Check, Make, Join, Minus. -/
import Derived.Lib.Hide
import Derived.Test.YtfhandglpjnonaaGreatDoorM29
import Derived.Test.YtfhandglpjnonaaGreatDoorGc
import Derived.Test.YtfhandglpjnonaaGreatDoorN14
import Derived.Lib.SliceRun
import Derived.Lib.AppendZeros
import Derived.Shelf.Abstract
import Derived.Deep.DeepCutAuto
import Derived.Deep.RegionHeld3
import Derived.Deep.LoopGhost
import Derived.Test.YtfhandglpjnonaaGreatDoorHa
import Derived.Test.YtfhandglpjnonaaGreatDoorShP
import Derived.Test.YtfhandglpjnonaaGreatDoorN25
import Derived.TacticsInMore
import Derived.LoopNIn
import Derived.LoopIn
namespace Go.Proofs.YtfhandglpjnonaaGreatDoor
def firstH {α : Type} (p : α → Bool) (xs : List α) : Int := match xs.findIdx? p with | some i => (i : Int) | none => -1
theorem firstH_at {α : Type} {p : α → Bool} {l : List α} {k : Nat} {x : α} (h : ∀ y ∈ l.take k, p y = false) (hx : l[k]? = some x) (hp : p x = true) : firstH p l = k := by
  have hk : k < l.length := (List.getElem?_eq_some_iff.1 hx).1
  have he : l[k] = x := (List.getElem?_eq_some_iff.1 hx).2
  have : l.findIdx? p = some k := by
    rw [List.findIdx?_eq_some_iff_getElem]
    refine ⟨hk, by rw [he]; exact hp, fun j hj => ?_⟩
    have := h l[j] (List.mem_iff_getElem?.2 ⟨j, by rw [List.getElem?_take_of_lt hj]; simp⟩)
    simp [this]
  simp [firstH, this]
theorem firstH_none {α : Type} {p : α → Bool} {l : List α} (h : ∀ y ∈ l, p y = false) : firstH p l = -1 := by
  have : l.findIdx? p = none := List.findIdx?_eq_none_iff.2 h
  simp [firstH, this]
theorem firstH_any {α : Type} (p : α → Bool) (l : List α) : decide (0 ≤ firstH p l) = l.any p := by
  unfold firstH
  cases h : l.findIdx? p with
  | none =>
    rw [List.findIdx?_eq_none_iff] at h
    have h2 : l.any p = false := by rw [List.any_eq_false]; intro x hx; simp [h x hx]
    rw [h2]; rfl
  | some i =>
    have h2 : l.any p = true := by
      obtain ⟨hi, hp, _⟩ := List.findIdx?_eq_some_iff_getElem.1 h
      exact List.any_eq_true.2 ⟨_, List.getElem_mem hi, hp⟩
    rw [h2]; simp
end Go.Proofs.YtfhandglpjnonaaGreatDoor
namespace Go.Proofs.YtfhandglpjnonaaGreatDoor
open Go.RowKit

theorem bs_emptyH (e : List UInt8) : (bs e).toList = e := by rw [ByteArray.toList_eq]; rfl
theorem filter_takeH {α : Type} {l : List α} {p : α → Bool} {k : Nat} {u : α} (h : l[k]? = some u) : (l.take (k + 1)).filter p = (l.take k).filter p ++ if p u then [u] else [] := by
  rw [List.take_add_one, h, List.filter_append]
  by_cases hp : p u = true
  · simp [hp]
  · simp [hp]
set_option maxRecDepth 100000
/-- A function value that answers p of such things, wherever what lay below block B stands. -/
def PredStr (g : Nat) (lb : Array Value) (p : List UInt8 → Bool) (B : Nat) (w : World) (xs : List (List UInt8)) : Prop :=
  ∀ x ∈ xs, ∀ w', Below B w w' → Calls Tryz.prog g (#[.string (bs x)] ++ lb) w' fun e w'' => e = .returned (.bool (p x)) ∧ Below w'.heap.size w' w''
end Go.Proofs.YtfhandglpjnonaaGreatDoor
namespace Go.Proofs.YtfhandglpjnonaaGreatDoor
open Go.RowKit

theorem baH_get (s : ByteArray) {i : Nat} (h : i < s.size) : s.data.toList[i]? = some s[i] := by
  rw [List.getElem?_eq_getElem (by rw [Array.length_toList]; exact h)]; rfl
theorem baH_len (s : ByteArray) : s.data.toList.length = s.size := by rw [Array.length_toList]; rfl
theorem baH_list (s : ByteArray) : s.toList = s.data.toList := ByteArray.toList_eq ..
theorem okC_iff (c : UInt8) : okC c = true ↔ (97 ≤ c.toNat ∧ c.toNat ≤ 122) ∨ (48 ≤ c.toNat ∧ c.toNat ≤ 57) := by unfold okC; exact decide_eq_true_iff
theorem okC_no (c : UInt8) : okC c = false ↔ ¬ ((97 ≤ c.toNat ∧ c.toNat ≤ 122) ∨ (48 ≤ c.toNat ∧ c.toNat ≤ 57)) := by unfold okC; exact decide_eq_false_iff_not
def prefErr (s : List UInt8) : Int := if 24 < s.length then 8 else if prefOk s = true then 0 else 3
theorem hasPrefix_eq (s p : List UInt8) : Lib.hasPrefix s p = p.isPrefixOf s := rfl
end Go.Proofs.YtfhandglpjnonaaGreatDoor
namespace Go.Proofs.YtfhandglpjnonaaGreatDoor
open Go.RowKit

/-- No text of a list is longer than any machine's walk here takes. -/
def shortS (xs : List (List UInt8)) : Prop := ∀ x ∈ xs, x.length ≤ 1000
def grW (xs : List (List UInt8)) : Bool := xs.any (fun u => decide (300 < u.length)) || decide (60 < xs.length ∧ xs.length ≠ 256 ∧ xs.length ≠ 257)
theorem grW_no {xs : List (List UInt8)} (h : grW xs = false) : shortS xs ∧ xs.length ≤ 257 := by
  unfold grW at h
  rw [Bool.or_eq_false_iff, List.any_eq_false, decide_eq_false_iff_not] at h
  refine ⟨fun x hx => ?_, by omega⟩
  have := h.1 x hx
  simp at this; omega
end Go.Proofs.YtfhandglpjnonaaGreatDoor
namespace Go.Proofs.YtfhandglpjnonaaGreatDoor
open Go.RowKit

attribute [local go_sem] Oper.semAt_some

end Go.Proofs.YtfhandglpjnonaaGreatDoor
namespace Go.Proofs.YtfhandglpjnonaaGreatDoor
open Go.RowKit

/-- The variable of the library's that strings.Split reads holds some number. -/
def VarM (w : World) : Prop := ∃ m, w.cell? ⟨1, 0, none⟩ = some (.int .i64 m)
theorem VarM.lt {w : World} (h : VarM w) : 1 < w.heap.size := by
  obtain ⟨m, hm⟩ := h
  apply Classical.byContradiction
  intro hn
  have : w.heap[1]? = none := Array.getElem?_eq_none (by omega)
  simp [World.cell?, this] at hm
theorem VarM.below {w w' : World} {n : Nat} (h : VarM w) (hb : Below n w w') (hn : 1 < n) : VarM w' := by
  obtain ⟨m, hm⟩ := h
  exact ⟨m, (hb.cell (p := ⟨1, 0, none⟩) hn).trans hm⟩
theorem splitK_le : ∀ (k : Nat) (s : List UInt8), ∀ x ∈ Lib.splitK [47] 0 k s, x.length ≤ s.length
  | 0, s, x, hx => by
    obtain rfl : x = s := by simpa [Lib.splitK] using hx
    exact Nat.le_refl _
  | k + 1, s, x, hx => by
    rw [Lib.splitK] at hx
    split at hx
    · obtain rfl : x = s := by simpa using hx
      exact Nat.le_refl _
    · rcases List.mem_cons.1 hx with rfl | hx
      · rw [List.length_take]; omega
      · have := splitK_le k _ x hx
        rw [List.length_drop] at this
        omega
theorem split_bs (p : List UInt8) : Lib.splitB (bs [47]) 0 (Lib.countB (bs p) (bs [47])) (bs p) = (Lib.split p [47]).map bs := by
  have h := Lib.splitB_data (bs [47]) 0 (Lib.countB (bs p) (bs [47])) (bs p)
  have h2 : Lib.split p [47] = Lib.splitK (bs [47]).data.toList 0 (Lib.countB (bs p) (bs [47])) (bs p).data.toList := rfl
  rw [h2, ← h, List.map_map]
  conv => lhs; rw [← List.map_id (Lib.splitB (bs [47]) 0 (Lib.countB (bs p) (bs [47])) (bs p))]
  apply List.map_congr_left
  intro x _
  exact (bs_of x).symm
theorem splitS_any (p : List UInt8) (hp : p.length ≤ 1000000) (w : World) (hv : VarM w) :
    Calls Tryz.prog 160 #[.string (bs p), .string ⟨#[47]⟩] w fun e w' => ∃ A n c, e = .returned (.slice A n c) ∧ RdS w' w'.heap.size A n (Lib.split p [47]) ∧ n ≤ maxLen ∧ Below w.heap.size w w' := by
  obtain ⟨m, hm⟩ := hv
  have hb := split_bs p
  have hlen := Lib.splitB_all (bs [47]) (by decide) 0 _ (bs p) rfl
  have hcl := Lib.countB_le (bs [47]) (by decide) (bs p).size (bs p) (Nat.le_refl _)
  rw [bs_size] at hcl
  refine (shSplit (bs p) (bs [47]) m w (by rw [bs_size]; omega) hm (by decide)).mono ?_
  rintro e w' ⟨rfl, rfl⟩
  rw [hb] at hlen ⊢
  refine ⟨_, _, _, rfl, Rd.built (xs := (Lib.split p [47]).map encS) encS_len ?_ (by simpa using hlen), by simp [maxLen]; omega, (Below.refl _ _).alloc (Nat.le_refl _) _⟩
  rw [List.map_map]
  congr 1
  generalize Lib.split p [47] = l
  induction l with
  | nil => rfl
  | cons x l ih => rw [List.map_cons, List.map_cons, List.flatten_cons, ih]; rfl
end Go.Proofs.YtfhandglpjnonaaGreatDoor
namespace Go.Proofs.YtfhandglpjnonaaGreatDoor
open Go.RowKit

theorem shortS.max {xs : List (List UInt8)} (h : shortS xs) : ∀ x ∈ xs, x.length ≤ maxLen := fun x hx => by have := h x hx; simp [maxLen]; omega
theorem shortS.mid {xs : List (List UInt8)} (h : shortS xs) : ∀ x ∈ xs, x.length ≤ 1099511627776 := fun x hx => by have := h x hx; omega
theorem orE_any (g : Nat) (p q : Int) (w : World) (hg : g < w.heap.size) (h0 : w.cell? ⟨g, 0, none⟩ = some (.int .i64 p)) (h1 : w.cell? ⟨g, 1, none⟩ = some (.int .i64 q)) :
    Calls Tryz.prog 115 #[.slice (some ⟨g, 0, none⟩) 2 2] w fun e w' => e = .returned (.int .i64 (if p ≠ 0 then p else q)) ∧ w' = w := by
  generalize hr : (if p ≠ 0 then p else q) = r
  have hrH := Lib.hid hr
  clear hr
  go_enter Tryz.func115, Tryz.ntmps115
  go_wp2
  go_loopg [8] 3 (fun g' i wr => ∃ k : Nat, k ≤ 2 ∧ g' = 3 - k ∧ i = .int .i64 k ∧ wr = w ∧ (1 ≤ k → p = 0) ∧ (2 ≤ k → q = 0))
  case atStart => exact ⟨0, by omega, rfl, rfl, rfl, by omega, by omega⟩
  case round =>
    obtain ⟨k, hk, rfl, rfl, rfl, hp, hq⟩ := hrel
    obtain rfl | rfl | rfl : k = 0 ∨ k = 1 ∨ k = 2 := by omega
    · by_cases h : p = 0
      · subst h
        go_wp2
        go_roundg 2
        case measure => omega
        case rel => exact ⟨1, by omega, rfl, by go_num, rfl, fun _ => (by first | trivial | rfl), by omega⟩
      · have hT := Lib.hid h
        have hd : (p == 0) = false := by simpa using h
        go_wp2
        go_ret
        exact ⟨ret_int (by rw [← hrH.out, if_pos hT.out]), rfl⟩
    · have hp' := Lib.hid (hp (by omega))
      clear hp
      by_cases h : q = 0
      · subst h
        go_wp2
        go_roundg 1
        case measure => omega
        case rel => exact ⟨2, by omega, rfl, by go_num, rfl, fun _ => hp'.out, fun _ => (by first | trivial | rfl)⟩
      · have hd : (q == 0) = false := by simpa using h
        go_wp2
        go_ret
        exact ⟨ret_int (by rw [← hrH.out, if_neg (by simp [hp'.out])]), rfl⟩
    · have hp' := Lib.hid (hp (by omega))
      have hq' := Lib.hid (hq (by omega))
      clear hp hq
      go_wp2
      go_ret
      exact ⟨ret_int (by rw [← hrH.out, if_neg (by simp [hp'.out])]; exact hq'.out.symm), rfl⟩
/-- A list of texts that a call gives. -/
def GotS (w : World) (A : Option Addr) (n : Nat) (xs : List (List UInt8)) : Prop := RdS w w.heap.size A n xs ∧ n ≤ 100000
end Go.Proofs.YtfhandglpjnonaaGreatDoor
