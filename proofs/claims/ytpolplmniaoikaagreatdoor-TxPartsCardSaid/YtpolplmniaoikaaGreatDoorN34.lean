/- A vector with one name more. The document's Take. The document's Beyond: what of a set is not within a vector. The document's Fold. The document's Make: the set of any names, one by one put in its place. slices.Clone at names. slices.IndexFunc and slices.DeleteFunc at names, whatever the function value. Package dots' Beyond. dots.Fold: a vector with all of a set that goes on from it, and the rest. cut.Check: what is wrong with a cut. The document's Make of cuts. The document's Same and Check of cuts. The document's Check of cuts. vec.Write and the document's: a vector's bytes. cut.Write and the document's. -/
import Derived.Test.YtpolplmniaoikaaGreatDoorVcA
import Derived.Test.YtpolplmniaoikaaGreatDoorDtF
import Derived.Test.YtpolplmniaoikaaGreatDoorM17
import Derived.Test.YtpolplmniaoikaaGreatDoorGb
import Derived.Test.YtpolplmniaoikaaGreatDoorGc
import Derived.Deep.QuietTactic
import Derived.Lib.SliceRun
import Derived.Test.YtpolplmniaoikaaGreatDoorN28
import Derived.Shelf.Abstract
import Derived.Test.YtpolplmniaoikaaGreatDoorEqV
import Derived.Test.YtpolplmniaoikaaGreatDoorPl
import Derived.Test.YtpolplmniaoikaaGreatDoorN05
import Derived.Test.YtpolplmniaoikaaGreatDoorOct
import Derived.Test.YtpolplmniaoikaaGreatDoorIw
namespace Go.Proofs.YtpolplmniaoikaaGreatDoor
open Go.RowKit

theorem set_cells (v : Vm) (k : Nat) (hk : k < 8) (s : Int) : (#[.int .u32 v.d0, .int .u32 v.d1, .int .u32 v.d2, .int .u32 v.d3, .int .u32 v.d4, .int .u32 v.d5, .int .u32 v.d6, .int .u32 v.d7] : Array Value).setIfInBounds k (.int .u32 s) = #[.int .u32 (v.set k s).d0, .int .u32 (v.set k s).d1, .int .u32 (v.set k s).d2, .int .u32 (v.set k s).d3, .int .u32 (v.set k s).d4, .int .u32 (v.set k s).d5, .int .u32 (v.set k s).d6, .int .u32 (v.set k s).d7] := by
  obtain rfl | rfl | rfl | rfl | rfl | rfl | rfl | rfl : k = 0 ∨ k = 1 ∨ k = 2 ∨ k = 3 ∨ k = 4 ∨ k = 5 ∨ k = 6 ∨ k = 7 := by omega
  all_goals simp [Vm.set]
theorem get_cells (v : Vm) (k : Nat) (hk : k < 8) : (#[.int .u32 v.d0, .int .u32 v.d1, .int .u32 v.d2, .int .u32 v.d3, .int .u32 v.d4, .int .u32 v.d5, .int .u32 v.d6, .int .u32 v.d7] : Array Value)[k]? = some (.int .u32 (v.get k)) := by
  obtain rfl | rfl | rfl | rfl | rfl | rfl | rfl | rfl : k = 0 ∨ k = 1 ∨ k = 2 ∨ k = 3 ∨ k = 4 ∨ k = 5 ∨ k = 6 ∨ k = 7 := by omega
  all_goals simp [Vm.get]
theorem vchk_get {v : Vm} (h : vchk v = true) (o : Int) : v.get o ≤ 1048576 := by
  unfold vchk at h
  rw [decide_eq_true_eq] at h
  unfold Vm.get
  (repeat' split) <;> omega

end Go.Proofs.YtpolplmniaoikaaGreatDoor
namespace Go.Proofs.YtpolplmniaoikaaGreatDoor
open Go.RowKit

end Go.Proofs.YtpolplmniaoikaaGreatDoor
namespace Go.Proofs.YtpolplmniaoikaaGreatDoor
open Go.RowKit


end Go.Proofs.YtpolplmniaoikaaGreatDoor
namespace Go.Proofs.YtpolplmniaoikaaGreatDoor
open Go.RowKit

end Go.Proofs.YtpolplmniaoikaaGreatDoor
namespace Go.Proofs.YtpolplmniaoikaaGreatDoor
open Go.RowKit

theorem Ow.keptI {w w' : World} {base : Nat} {e : TypeId} {sz b : Nat} {v : Value} {xs : List (List Value)} (h : Ow w base e sz v xs) (hg : w.grownBy w' (some b)) (hb : w.heap.size ≤ b ∨ v.ownBlock ≠ some b) : Ow w' base e sz v xs :=
  ⟨h.1, h.2.kept hg (.inr (fun e' => by
    rcases hb with h' | h'
    · have := h.block b e'; omega
    · exact h' e'))⟩

end Go.Proofs.YtpolplmniaoikaaGreatDoor
namespace Go.Proofs.YtpolplmniaoikaaGreatDoor
open Go.RowKit

theorem RdI.kp {N B n0 n : Nat} {w w' : World} {A : Option Addr} {xs : List Im} (h : RdI w n0 A n xs) (hk : KpB N B w w') (h1 : n0 ≤ N) (h2 : n0 ≤ B) : RdI w' n0 A n xs :=
  Rd.keep h fun b o hb => World.cell?_of_block (a := ⟨b, o, none⟩) (hk.block b (by omega) (by omega))
end Go.Proofs.YtpolplmniaoikaaGreatDoor
namespace Go.Proofs.YtpolplmniaoikaaGreatDoor
open Go.RowKit

/-- A function value that answers p of names, wherever what lay below block B stands. -/
def PredI (g : Nat) (lb : Array Value) (p : Im → Bool) (B : Nat) (w : World) (xs : List Im) : Prop :=
  ∀ x ∈ xs, ∀ w', Below B w w' → Calls Tryz.prog g (#[.agg #[.int .i64 x.1, .int .u32 x.2]] ++ lb) w' fun e w'' => e = .returned (.bool (p x)) ∧ Below w'.heap.size w' w''

end Go.Proofs.YtpolplmniaoikaaGreatDoor
namespace Go.Proofs.YtpolplmniaoikaaGreatDoor
open Go.RowKit

end Go.Proofs.YtpolplmniaoikaaGreatDoor
namespace Go.Proofs.YtpolplmniaoikaaGreatDoor
open Go.RowKit

end Go.Proofs.YtpolplmniaoikaaGreatDoor
namespace Go.Proofs.YtpolplmniaoikaaGreatDoor
open Go.RowKit

/-- What is wrong with a cut. -/
def cutErr (v : Vm) (xs : List Im) : Int := if foldErr v xs ≠ 0 then foldErr v xs else if eqV (foldV v xs) v && (foldRest v xs).length == xs.length then 0 else 3

end Go.Proofs.YtpolplmniaoikaaGreatDoor
namespace Go.Proofs.YtpolplmniaoikaaGreatDoor
open Go.RowKit

def rcErr (v : Vm) (xs : List Im) : Int := if vchk v = false then 2 else makeErr xs
def rcV (v : Vm) (xs : List Im) : Vm := if rcErr v xs ≠ 0 then zV else foldV v (makeI xs)
def rcD (v : Vm) (xs : List Im) : List Im := if rcErr v xs ≠ 0 then [] else foldRest v (makeI xs)

end Go.Proofs.YtpolplmniaoikaaGreatDoor
namespace Go.Proofs.YtpolplmniaoikaaGreatDoor
open Go.RowKit

end Go.Proofs.YtpolplmniaoikaaGreatDoor
namespace Go.Proofs.YtpolplmniaoikaaGreatDoor
open Go.RowKit

theorem cutErr_ok {v : Vm} {xs : List Im} (h : cutErr v xs = 0) : vchk v = true ∧ lerr xs = 0 := by
  unfold cutErr at h
  by_cases hf : foldErr v xs = 0
  · unfold foldErr at hf
    cases hv : vchk v with
    | false => rw [hv, if_pos rfl] at hf; omega
    | true => rw [hv, if_neg (by decide)] at hf; exact ⟨rfl, hf⟩
  · rw [if_pos hf] at h
    exact absurd h hf
theorem cutErr_ref (v : Vm) (xs : List Im) (hv : vchk v = true) (hl : lerr xs = 0) : cutErr v xs = if eqV (rcV v xs) v && decide (rcD v xs = xs) then 0 else 3 := by
  obtain ⟨h1, h2, h3⟩ := lerr_zero.1 hl
  have hm : makeI xs = xs := makeI_of h3 (fun _ => Iff.rfl)
  have he : makeErr xs = 0 := makeErr_zero.2 ⟨by omega, h2, by rw [hm]; exact h1⟩
  have hc : rcErr v xs = 0 := by unfold rcErr; rw [hv, if_neg (by decide), he]
  have hf : foldErr v xs = 0 := by unfold foldErr; rw [hv, if_neg (by decide), hl]
  have hV : rcV v xs = foldV v xs := by unfold rcV; rw [hc, if_neg (by decide), hm]
  have hD : rcD v xs = foldRest v xs := by unfold rcD; rw [hc, if_neg (by decide), hm]
  have hR : foldRest v xs = xs.filter fun x => !hasV (foldV v xs) x := by
    unfold foldRest
    rw [hf, if_neg (by decide)]
    unfold beyondI
    rw [hl, if_neg (by decide)]
  have hq : ((foldRest v xs).length == xs.length) = decide (foldRest v xs = xs) := by
    rw [hR, Bool.eq_iff_iff, beq_iff_eq, decide_eq_true_iff, List.length_filter_eq_length_iff, List.filter_eq_self]
  unfold cutErr
  rw [hf, if_neg (by decide), hV, hD, hq]

end Go.Proofs.YtpolplmniaoikaaGreatDoor
namespace Go.Proofs.YtpolplmniaoikaaGreatDoor
open Go.RowKit

/-- How many members are left without the noughts at the end. -/
def longV (v : Vm) : Nat := if v.d7 ≠ 0 then 8 else if v.d6 ≠ 0 then 7 else if v.d5 ≠ 0 then 6 else if v.d4 ≠ 0 then 5 else if v.d3 ≠ 0 then 4 else if v.d2 ≠ 0 then 3 else if v.d1 ≠ 0 then 2 else if v.d0 ≠ 0 then 1 else 0
theorem longV_le (v : Vm) : longV v ≤ 8 := by unfold longV; (repeat' split) <;> omega
theorem longV_of {v : Vm} {k : Nat} (hk : k ≤ 8) (h : ∀ i : Nat, k ≤ i → i < 8 → v.get i = 0) (h2 : k = 0 ∨ v.get ((k : Int) - 1) ≠ 0) : longV v = k := by
  have g : ∀ i : Nat, i < 8 → k ≤ i → v.get i = 0 := fun i h3 h4 => h i h4 h3
  have g0 := g 0 (by omega)
  have g1 := g 1 (by omega)
  have g2 := g 2 (by omega)
  have g3 := g 3 (by omega)
  have g4 := g 4 (by omega)
  have g5 := g 5 (by omega)
  have g6 := g 6 (by omega)
  have g7 := g 7 (by omega)
  clear g h
  obtain rfl | rfl | rfl | rfl | rfl | rfl | rfl | rfl | rfl : k = 0 ∨ k = 1 ∨ k = 2 ∨ k = 3 ∨ k = 4 ∨ k = 5 ∨ k = 6 ∨ k = 7 ∨ k = 8 := by omega
  all_goals
    simp [Vm.get] at g0 g1 g2 g3 g4 g5 g6 g7 h2
    simp [longV, *]
theorem get_u32 {v : Vm} (h : v.wf) (o : Int) : 0 ≤ v.get o ∧ v.get o < 4294967296 := by
  obtain ⟨a0, a1, a2, a3, a4, a5, a6, a7⟩ := h
  unfold Vm.get
  (repeat' split) <;> assumption
/-- The first k members' part of a vector's bytes. -/
def partV (v : Vm) (k : Nat) : List UInt8 := numB (longV v) ++ ((List.range k).map fun (i : Nat) => numB (v.get (i : Int)).toNat).flatten
/-- A vector's bytes. -/
def writeV (v : Vm) : List UInt8 := partV v (longV v)
theorem partV_succ (v : Vm) (k : Nat) : partV v k ++ numB (v.get (k : Int)).toNat = partV v (k + 1) := by
  unfold partV
  rw [List.range_succ]
  simp
theorem val_str' {a b : ByteArray} (h : a = b) : Value.string a = .string b := by rw [h]
theorem ret_slice {a b : Nat} {A : Option Addr} {c : Nat} (h : a = b) : Ending.returned (.slice A a c) = .returned (.slice A b c) := by rw [h]
theorem partV_len {v : Vm} (h : v.wf) : ∀ k, (partV v k).length ≤ 9 + 9 * k
  | 0 => by
    have := numB_len (longV v) (by have := longV_le v; omega)
    simp [partV]; omega
  | k + 1 => by
    rw [← partV_succ, List.length_append]
    have h1 := partV_len h k
    have h2 := numB_len (v.get (k : Int)).toNat (by have := get_u32 h (k : Int); omega)
    omega

set_option maxRecDepth 100000 in
set_option maxHeartbeats 1000000 in
theorem vlong_any (B : Nat) (v : Vm) (w : World) (hb : w.heap[B]? = some (.cells #[.int .u32 v.d0, .int .u32 v.d1, .int .u32 v.d2, .int .u32 v.d3, .int .u32 v.d4, .int .u32 v.d5, .int .u32 v.d6, .int .u32 v.d7] 26 (0, 0))) :
    Calls Tryz.prog 85 #[.pointer (some ⟨B, 0, none⟩)] w fun e w' => e = .returned (.slice (some ⟨B, 0, none⟩) (longV v) 8) ∧ w = w' := by
  have hlt := blk_lt hb
  go_enter Tryz.func85, Tryz.ntmps85
  go_wp2_with fail
  go_loopg [3] 9 (fun g l wr => ∃ k : Nat, k ≤ 8 ∧ g = k + 1 ∧ l = .slice (some ⟨B, 0, none⟩) k 8 ∧ (∀ i : Nat, k ≤ i → i < 8 → v.get i = 0) ∧ wr = w)
  case atStart => exact ⟨8, by omega, rfl, rfl, fun i h1 h2 => by omega, rfl⟩
  case round =>
    obtain ⟨k, hk, rfl, rfl, hz, rfl⟩ := hrel
    have hzH := Lib.hid hz
    clear hz
    cases k with
    | zero =>
      have hT : Hid (longV v = 0) := Lib.hid (longV_of hk hzH.out (.inl rfl))
      go_wp2
      go_ret
      exact ⟨ret_slice hT.out.symm, rfl⟩
    | succ j =>
      have hcv : wr.cell? ⟨B, j, none⟩ = some (.int .u32 (v.get j)) := by rw [blk_cell hb]; exact get_cells v j (by omega)
      have hj : j ≤ 7 := by omega
      by_cases h0 : v.get (j : Int) = 0
      · have hT : Hid (∀ i : Nat, j ≤ i → i < 8 → v.get i = 0) := Lib.hid (fun i h1 h2 => by
          rcases Nat.lt_or_eq_of_le h1 with h3 | h3
          · exact hzH.out i h3 h2
          · rw [← h3]; exact h0)
        rw [h0] at hcv
        clear h0
        go_wp2
        go_roundg (j + 1)
        case measure => omega
        case rel => exact ⟨j, by omega, rfl, rfl, hT.out, rfl⟩
      · have hT : Hid (longV v = j + 1) := Lib.hid (longV_of hk hzH.out (.inr (by rw [show ((j + 1 : Nat) : Int) - 1 = j from by omega]; exact h0)))
        have hne : (v.get (j : Int) == 0) = false := by simpa using h0
        clear h0
        go_wp2
        go_ret
        exact ⟨ret_slice hT.out.symm, rfl⟩

set_option maxRecDepth 100000 in
set_option maxHeartbeats 1000000 in
theorem rvlong_any (v : Vm) (w : World) :
    Calls Tryz.prog 91 #[.agg #[.int .u32 v.d0, .int .u32 v.d1, .int .u32 v.d2, .int .u32 v.d3, .int .u32 v.d4, .int .u32 v.d5, .int .u32 v.d6, .int .u32 v.d7]] w fun e w' => e = .returned (.int .i64 (longV v : Int)) ∧ Below w.heap.size w w' := by
  have hb : (w.alloc (.cells #[.int .u32 v.d0, .int .u32 v.d1, .int .u32 v.d2, .int .u32 v.d3, .int .u32 v.d4, .int .u32 v.d5, .int .u32 v.d6, .int .u32 v.d7] 26)).heap[w.heap.size]? = some (.cells #[.int .u32 v.d0, .int .u32 v.d1, .int .u32 v.d2, .int .u32 v.d3, .int .u32 v.d4, .int .u32 v.d5, .int .u32 v.d6, .int .u32 v.d7] 26 (0, 0)) := heap_at _ _ rfl
  have hbB : Below w.heap.size w (w.alloc (.cells #[.int .u32 v.d0, .int .u32 v.d1, .int .u32 v.d2, .int .u32 v.d3, .int .u32 v.d4, .int .u32 v.d5, .int .u32 v.d6, .int .u32 v.d7] 26)) := (Below.refl _ w).alloc (Nat.le_refl _) _
  generalize hW : (w.alloc (.cells #[.int .u32 v.d0, .int .u32 v.d1, .int .u32 v.d2, .int .u32 v.d3, .int .u32 v.d4, .int .u32 v.d5, .int .u32 v.d6, .int .u32 v.d7] 26)) = W at hb hbB
  have hlt := blk_lt hb
  go_enter Tryz.func91, Tryz.ntmps91
  go_wp2_with fail
  try rw [hW]
  clear hW
  go_loopg [3] 9 (fun g l wr => ∃ k : Nat, k ≤ 8 ∧ g = k + 1 ∧ l = .int .i64 (k : Int) ∧ (∀ i : Nat, k ≤ i → i < 8 → v.get i = 0) ∧ wr = W)
  case atStart => exact ⟨8, by omega, rfl, rfl, fun i h1 h2 => by omega, rfl⟩
  case round =>
    obtain ⟨k, hk, rfl, rfl, hz, rfl⟩ := hrel
    have hzH := Lib.hid hz
    clear hz
    cases k with
    | zero =>
      have hT : Hid (longV v = 0) := Lib.hid (longV_of hk hzH.out (.inl rfl))
      go_wp2
      go_ret
      exact ⟨ret_int (by rw [hT.out]), hbB⟩
    | succ j =>
      have hcv : wr.cell? ⟨w.heap.size, j, none⟩ = some (.int .u32 (v.get j)) := by rw [blk_cell hb]; exact get_cells v j (by omega)
      have hj : j ≤ 7 := by omega
      by_cases h0 : v.get (j : Int) = 0
      · have hT : Hid (∀ i : Nat, j ≤ i → i < 8 → v.get i = 0) := Lib.hid (fun i h1 h2 => by
          rcases Nat.lt_or_eq_of_le h1 with h3 | h3
          · exact hzH.out i h3 h2
          · rw [← h3]; exact h0)
        rw [h0] at hcv
        clear h0
        go_wp2
        go_roundg (j + 1)
        case measure => omega
        case rel => exact ⟨j, by omega, rfl, by go_num, hT.out, rfl⟩
      · have hT : Hid (longV v = j + 1) := Lib.hid (longV_of hk hzH.out (.inr (by rw [show ((j + 1 : Nat) : Int) - 1 = j from by omega]; exact h0)))
        have hne : (v.get (j : Int) == 0) = false := by simpa using h0
        clear h0
        go_wp2
        go_ret
        exact ⟨ret_int (by rw [hT.out]), hbB⟩

set_option maxRecDepth 100000 in
set_option maxHeartbeats 1000000 in
theorem vwrite_any (v : Vm) (hv : v.wf) (w : World) :
    Calls Tryz.prog 35 #[.agg #[.int .u32 v.d0, .int .u32 v.d1, .int .u32 v.d2, .int .u32 v.d3, .int .u32 v.d4, .int .u32 v.d5, .int .u32 v.d6, .int .u32 v.d7]] w fun e w' => e = .returned (.string (bs (writeV v))) ∧ Below w.heap.size w w' := by
  have hb : (w.alloc (.cells #[.int .u32 v.d0, .int .u32 v.d1, .int .u32 v.d2, .int .u32 v.d3, .int .u32 v.d4, .int .u32 v.d5, .int .u32 v.d6, .int .u32 v.d7] 26)).heap[w.heap.size]? = some (.cells #[.int .u32 v.d0, .int .u32 v.d1, .int .u32 v.d2, .int .u32 v.d3, .int .u32 v.d4, .int .u32 v.d5, .int .u32 v.d6, .int .u32 v.d7] 26 (0, 0)) := heap_at _ _ rfl
  have hbB : Below w.heap.size w (w.alloc (.cells #[.int .u32 v.d0, .int .u32 v.d1, .int .u32 v.d2, .int .u32 v.d3, .int .u32 v.d4, .int .u32 v.d5, .int .u32 v.d6, .int .u32 v.d7] 26)) := (Below.refl _ w).alloc (Nat.le_refl _) _
  have hl8 := longV_le v
  have cN := Lib.hid (fun w => num_any (longV v) (by omega) w)
  generalize hW : (w.alloc (.cells #[.int .u32 v.d0, .int .u32 v.d1, .int .u32 v.d2, .int .u32 v.d3, .int .u32 v.d4, .int .u32 v.d5, .int .u32 v.d6, .int .u32 v.d7] 26)) = W at hb hbB
  have hlt := blk_lt hb
  have hn0 : (0 : Int) ≤ (longV v : Int) := by omega
  skip
  go_enter Tryz.func35, Tryz.ntmps35
  go_wp2_with fail
  try rw [hW]
  clear hW
  refine (vlong_any _ v _ hb).mono ?_
  rintro e w0 ⟨rfl, rfl⟩
  go_wp2_with fail
  refine (cN.out _).mono ?_
  rintro e w1 ⟨rfl, hb1⟩
  replace hb := blk_below hb hb1
  replace hbB := hbB.trans (hb1.mono hbB.size)
  go_wp2_with fail
  go_loopg [4, 14] 9 (fun g s i wr => ∃ k : Nat, k ≤ longV v ∧ g = 9 - k ∧ i = .int .i64 (k : Int) ∧ s = .string (bs (partV v k)) ∧ wr.heap[w.heap.size]? = some (.cells #[.int .u32 v.d0, .int .u32 v.d1, .int .u32 v.d2, .int .u32 v.d3, .int .u32 v.d4, .int .u32 v.d5, .int .u32 v.d6, .int .u32 v.d7] 26 (0, 0)) ∧ Below w.heap.size w wr)
  case atStart => exact ⟨0, Nat.zero_le _, rfl, rfl, by simp [partV], hb, hbB⟩
  case round =>
    clear hb hbB hlt
    obtain ⟨k, hk, rfl, rfl, rfl, hb, hbB⟩ := hrel
    have hlt := blk_lt hb
    by_cases hlk : k < longV v
    · obtain ⟨z, hz⟩ : ∃ z : Nat, v.get (k : Int) = (z : Int) := ⟨(v.get (k : Int)).toNat, by have := get_u32 hv (k : Int); omega⟩
      have hz32 : z < 4294967296 := by have := get_u32 hv (k : Int); omega
      have hcv : wr.cell? ⟨w.heap.size, k, none⟩ = some (.int .u32 (z : Int)) := by rw [blk_cell hb, get_cells v k (by omega), hz]
      have hk8 : k < 8 := by omega
      have hk8i : (k : Int) < 8 := by omega
      have hT : Hid (bs (partV v k) ++ bs (numB z) = bs (partV v (k + 1))) := Lib.hid (by rw [bs_append, ← partV_succ, hz]; rfl)
      have hsz : ¬ 9223372036854775807 < (bs (partV v k)).size + (bs (numB z)).size := by
        have h1 := partV_len hv k
        have h2 := numB_len z (by omega)
        rw [bs_size, bs_size]; omega
      have cZ := Lib.hid (fun w => num_any z (by omega) w)
      have hbH := Lib.hid hb
      have hz0 : (0 : Int) ≤ (z : Int) := by omega
      clear hz hb
      go_wp2_with fail
      refine (cZ.out _).mono ?_
      rintro e w2 ⟨rfl, hb2⟩
      have hb3 := blk_below hbH.out hb2
      have hbB3 := hbB.trans (hb2.mono hbB.size)
      go_wp2
      go_roundg (9 - (k + 1))
      case measure => omega
      case rel => exact ⟨k + 1, by omega, rfl, by go_num, val_str' hT.out, hb3, hbB3⟩
    · obtain rfl : k = longV v := by omega
      go_wp2
      go_ret
      exact ⟨rfl, hbB⟩
set_option maxRecDepth 100000 in
set_option maxHeartbeats 1000000 in
theorem rvwrite_any (v : Vm) (hv : v.wf) (w : World) :
    Calls Tryz.prog 41 #[.agg #[.int .u32 v.d0, .int .u32 v.d1, .int .u32 v.d2, .int .u32 v.d3, .int .u32 v.d4, .int .u32 v.d5, .int .u32 v.d6, .int .u32 v.d7]] w fun e w' => e = .returned (.string (bs (writeV v))) ∧ Below w.heap.size w w' := by
  have hb : (w.alloc (.cells #[.int .u32 v.d0, .int .u32 v.d1, .int .u32 v.d2, .int .u32 v.d3, .int .u32 v.d4, .int .u32 v.d5, .int .u32 v.d6, .int .u32 v.d7] 26)).heap[w.heap.size]? = some (.cells #[.int .u32 v.d0, .int .u32 v.d1, .int .u32 v.d2, .int .u32 v.d3, .int .u32 v.d4, .int .u32 v.d5, .int .u32 v.d6, .int .u32 v.d7] 26 (0, 0)) := heap_at _ _ rfl
  have hbB : Below w.heap.size w (w.alloc (.cells #[.int .u32 v.d0, .int .u32 v.d1, .int .u32 v.d2, .int .u32 v.d3, .int .u32 v.d4, .int .u32 v.d5, .int .u32 v.d6, .int .u32 v.d7] 26)) := (Below.refl _ w).alloc (Nat.le_refl _) _
  have hl8 := longV_le v
  have cN := Lib.hid (fun w => rnum_any (longV v) (by omega) w)
  generalize hW : (w.alloc (.cells #[.int .u32 v.d0, .int .u32 v.d1, .int .u32 v.d2, .int .u32 v.d3, .int .u32 v.d4, .int .u32 v.d5, .int .u32 v.d6, .int .u32 v.d7] 26)) = W at hb hbB
  have hlt := blk_lt hb
  have hn0 : (0 : Int) ≤ (longV v : Int) := by omega
  have q0 := blk_cell hb 0
  have q1 := blk_cell hb 1
  have q2 := blk_cell hb 2
  have q3 := blk_cell hb 3
  have q4 := blk_cell hb 4
  have q5 := blk_cell hb 5
  have q6 := blk_cell hb 6
  have q7 := blk_cell hb 7
  simp at q0 q1 q2 q3 q4 q5 q6 q7
  go_enter Tryz.func41, Tryz.ntmps41
  go_wp2_with fail
  try rw [hW]
  clear hW
  refine (rvlong_any v _).mono ?_
  rintro e w0 ⟨rfl, hb0⟩
  replace hb := blk_below hb hb0
  replace hbB := hbB.trans (hb0.mono hbB.size)
  clear q0 q1 q2 q3 q4 q5 q6 q7
  go_wp2_with fail
  refine (cN.out _).mono ?_
  rintro e w1 ⟨rfl, hb1⟩
  replace hb := blk_below hb hb1
  replace hbB := hbB.trans (hb1.mono hbB.size)
  go_wp2_with fail
  go_loopg [4, 5] 9 (fun g s i wr => ∃ k : Nat, k ≤ longV v ∧ g = 9 - k ∧ i = .int .i64 (k : Int) ∧ s = .string (bs (partV v k)) ∧ wr.heap[w.heap.size]? = some (.cells #[.int .u32 v.d0, .int .u32 v.d1, .int .u32 v.d2, .int .u32 v.d3, .int .u32 v.d4, .int .u32 v.d5, .int .u32 v.d6, .int .u32 v.d7] 26 (0, 0)) ∧ Below w.heap.size w wr)
  case atStart => exact ⟨0, Nat.zero_le _, rfl, rfl, by simp [partV], hb, hbB⟩
  case round =>
    clear hb hbB hlt
    obtain ⟨k, hk, rfl, rfl, rfl, hb, hbB⟩ := hrel
    have hlt := blk_lt hb
    by_cases hlk : k < longV v
    · obtain ⟨z, hz⟩ : ∃ z : Nat, v.get (k : Int) = (z : Int) := ⟨(v.get (k : Int)).toNat, by have := get_u32 hv (k : Int); omega⟩
      have hz32 : z < 4294967296 := by have := get_u32 hv (k : Int); omega
      have hcv : wr.cell? ⟨w.heap.size, k, none⟩ = some (.int .u32 (z : Int)) := by rw [blk_cell hb, get_cells v k (by omega), hz]
      have hk8 : k < 8 := by omega
      have hk8i : (k : Int) < 8 := by omega
      have hT : Hid (bs (partV v k) ++ bs (numB z) = bs (partV v (k + 1))) := Lib.hid (by rw [bs_append, ← partV_succ, hz]; rfl)
      have hsz : ¬ 9223372036854775807 < (bs (partV v k)).size + (bs (numB z)).size := by
        have h1 := partV_len hv k
        have h2 := numB_len z (by omega)
        rw [bs_size, bs_size]; omega
      have cZ := Lib.hid (fun w => rnum_any z (by omega) w)
      have hbH := Lib.hid hb
      have hz0 : (0 : Int) ≤ (z : Int) := by omega
      clear hz hb
      go_wp2_with fail
      refine (cZ.out _).mono ?_
      rintro e w2 ⟨rfl, hb2⟩
      have hb3 := blk_below hbH.out hb2
      have hbB3 := hbB.trans (hb2.mono hbB.size)
      go_wp2
      go_roundg (9 - (k + 1))
      case measure => omega
      case rel => exact ⟨k + 1, by omega, rfl, by go_num, val_str' hT.out, hb3, hbB3⟩
    · obtain rfl : k = longV v := by omega
      go_wp2
      go_ret
      exact ⟨rfl, hbB⟩
end Go.Proofs.YtpolplmniaoikaaGreatDoor
namespace Go.Proofs.YtpolplmniaoikaaGreatDoor
open Go.RowKit

/-- A cut's bytes: none, where something is wrong with it. -/
def writeC (v : Vm) (xs : List Im) : List UInt8 := if cutErr v xs ≠ 0 then [] else writeV v ++ writeD xs
theorem writeD_len (xs : List Im) : (writeD xs).length ≤ 9 + 18 * 64 := by
  unfold writeD
  by_cases h : lerr xs = 0
  · rw [if_neg (by simpa using h)]
    have h1 := lerr_len h
    have h2 := flatW_len xs
    have h3 := numB_len xs.length (by omega)
    rw [List.length_append]
    omega
  · rw [if_pos h]; simp

end Go.Proofs.YtpolplmniaoikaaGreatDoor
