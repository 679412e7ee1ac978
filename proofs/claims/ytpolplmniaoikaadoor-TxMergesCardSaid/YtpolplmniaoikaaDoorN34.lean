/- slices.IndexFunc and slices.DeleteFunc at names, whatever the function value. Package dots' Beyond. dots.Fold: a vector with all of a set that goes on from it, and the rest. cut.Check: what is wrong with a cut. The document's Make of cuts. The document's Same and Check of cuts. The document's Check of cuts. vec.Write and the document's: a vector's bytes. cut.Write and the document's. vec.Read: the next vector that a reader has. A cut as a reader has it (plain words; the walks of cut.Read follow in CtG). cut.Read. The document's reader: Fail, Num, Int. The document's reader: Int. -/
import Derived.Test.YtpolplmniaoikaaDoorN33
import Derived.Test.YtpolplmniaoikaaDoorGc
import Derived.Shelf.Abstract
import Derived.Test.YtpolplmniaoikaaDoorGb
import Derived.Test.YtpolplmniaoikaaDoorEqV
import Derived.Test.YtpolplmniaoikaaDoorPl
import Derived.Test.YtpolplmniaoikaaDoorN05
import Derived.Test.YtpolplmniaoikaaDoorN04
import Derived.Test.YtpolplmniaoikaaDoorN09
import Derived.BigRegion
namespace Go.Proofs.YtpolplmniaoikaaDoor
open Go.RowKit

/-- A function value that answers p of names, wherever what lay below block B stands. -/
def PredI (g : Nat) (lb : Array Value) (p : Im → Bool) (B : Nat) (w : World) (xs : List Im) : Prop :=
  ∀ x ∈ xs, ∀ w', Below B w w' → Calls Tryd.prog g (#[.agg #[.int .i64 x.1, .int .u32 x.2]] ++ lb) w' fun e w'' => e = .returned (.bool (p x)) ∧ Below w'.heap.size w' w''

end Go.Proofs.YtpolplmniaoikaaDoor
namespace Go.Proofs.YtpolplmniaoikaaDoor
open Go.RowKit

end Go.Proofs.YtpolplmniaoikaaDoor
namespace Go.Proofs.YtpolplmniaoikaaDoor
open Go.RowKit

end Go.Proofs.YtpolplmniaoikaaDoor
namespace Go.Proofs.YtpolplmniaoikaaDoor
open Go.RowKit

/-- What is wrong with a cut. -/
def cutErr (v : Vm) (xs : List Im) : Int := if foldErr v xs ≠ 0 then foldErr v xs else if eqV (foldV v xs) v && (foldRest v xs).length == xs.length then 0 else 3

end Go.Proofs.YtpolplmniaoikaaDoor
namespace Go.Proofs.YtpolplmniaoikaaDoor
open Go.RowKit

def rcErr (v : Vm) (xs : List Im) : Int := if vchk v = false then 2 else makeErr xs
def rcV (v : Vm) (xs : List Im) : Vm := if rcErr v xs ≠ 0 then zV else foldV v (makeI xs)
def rcD (v : Vm) (xs : List Im) : List Im := if rcErr v xs ≠ 0 then [] else foldRest v (makeI xs)

end Go.Proofs.YtpolplmniaoikaaDoor
namespace Go.Proofs.YtpolplmniaoikaaDoor
open Go.RowKit

end Go.Proofs.YtpolplmniaoikaaDoor
namespace Go.Proofs.YtpolplmniaoikaaDoor
open Go.RowKit

theorem cutErr_ok {v : Vm} {xs : List Im} (h : cutErr v xs = 0) : vchk v = true ∧ lerr xs = 0 := by
  unfold cutErr at h
  by_cases hf : foldErr v xs = 0
  · unfold foldErr at hf
    cases hv : vchk v with
    | false => rw [hv, if_pos rfl] at hf; omega
    | true => rw [hv, if_neg (by decide)] at hf; exact ⟨rfl, hf⟩
  · rw [if_pos hf] at h
    exact absurd h hf
theorem cutErr_ref (v : Vm) (xs : List Im) (hv : vchk v = true) (hl : lerr xs = 0) : cutErr v xs = if eqV (rcV v xs) v && decide (rcD v xs = xs) then 0 else 3 := by
  obtain ⟨h1, h2, h3⟩ := lerr_zero.1 hl
  have hm : makeI xs = xs := makeI_of h3 (fun _ => Iff.rfl)
  have he : makeErr xs = 0 := makeErr_zero.2 ⟨by omega, h2, by rw [hm]; exact h1⟩
  have hc : rcErr v xs = 0 := by unfold rcErr; rw [hv, if_neg (by decide), he]
  have hf : foldErr v xs = 0 := by unfold foldErr; rw [hv, if_neg (by decide), hl]
  have hV : rcV v xs = foldV v xs := by unfold rcV; rw [hc, if_neg (by decide), hm]
  have hD : rcD v xs = foldRest v xs := by unfold rcD; rw [hc, if_neg (by decide), hm]
  have hR : foldRest v xs = xs.filter fun x => !hasV (foldV v xs) x := by
    unfold foldRest
    rw [hf, if_neg (by decide)]
    unfold beyondI
    rw [hl, if_neg (by decide)]
  have hq : ((foldRest v xs).length == xs.length) = decide (foldRest v xs = xs) := by
    rw [hR, Bool.eq_iff_iff, beq_iff_eq, decide_eq_true_iff, List.length_filter_eq_length_iff, List.filter_eq_self]
  unfold cutErr
  rw [hf, if_neg (by decide), hV, hD, hq]

end Go.Proofs.YtpolplmniaoikaaDoor
namespace Go.Proofs.YtpolplmniaoikaaDoor
open Go.RowKit

/-- How many members are left without the noughts at the end. -/
def longV (v : Vm) : Nat := if v.d7 ≠ 0 then 8 else if v.d6 ≠ 0 then 7 else if v.d5 ≠ 0 then 6 else if v.d4 ≠ 0 then 5 else if v.d3 ≠ 0 then 4 else if v.d2 ≠ 0 then 3 else if v.d1 ≠ 0 then 2 else if v.d0 ≠ 0 then 1 else 0
theorem longV_le (v : Vm) : longV v ≤ 8 := by unfold longV; (repeat' split) <;> omega
theorem longV_of {v : Vm} {k : Nat} (hk : k ≤ 8) (h : ∀ i : Nat, k ≤ i → i < 8 → v.get i = 0) (h2 : k = 0 ∨ v.get ((k : Int) - 1) ≠ 0) : longV v = k := by
  have g : ∀ i : Nat, i < 8 → k ≤ i → v.get i = 0 := fun i h3 h4 => h i h4 h3
  have g0 := g 0 (by omega)
  have g1 := g 1 (by omega)
  have g2 := g 2 (by omega)
  have g3 := g 3 (by omega)
  have g4 := g 4 (by omega)
  have g5 := g 5 (by omega)
  have g6 := g 6 (by omega)
  have g7 := g 7 (by omega)
  clear g h
  obtain rfl | rfl | rfl | rfl | rfl | rfl | rfl | rfl | rfl : k = 0 ∨ k = 1 ∨ k = 2 ∨ k = 3 ∨ k = 4 ∨ k = 5 ∨ k = 6 ∨ k = 7 ∨ k = 8 := by omega
  all_goals
    simp [Vm.get] at g0 g1 g2 g3 g4 g5 g6 g7 h2
    simp [longV, *]
theorem get_u32 {v : Vm} (h : v.wf) (o : Int) : 0 ≤ v.get o ∧ v.get o < 4294967296 := by
  obtain ⟨a0, a1, a2, a3, a4, a5, a6, a7⟩ := h
  unfold Vm.get
  (repeat' split) <;> assumption
/-- The first k members' part of a vector's bytes. -/
def partV (v : Vm) (k : Nat) : List UInt8 := numB (longV v) ++ ((List.range k).map fun (i : Nat) => numB (v.get (i : Int)).toNat).flatten
/-- A vector's bytes. -/
def writeV (v : Vm) : List UInt8 := partV v (longV v)
theorem partV_succ (v : Vm) (k : Nat) : partV v k ++ numB (v.get (k : Int)).toNat = partV v (k + 1) := by
  unfold partV
  rw [List.range_succ]
  simp
theorem val_str' {a b : ByteArray} (h : a = b) : Value.string a = .string b := by rw [h]
theorem ret_slice {a b : Nat} {A : Option Addr} {c : Nat} (h : a = b) : Ending.returned (.slice A a c) = .returned (.slice A b c) := by rw [h]
theorem partV_len {v : Vm} (h : v.wf) : ∀ k, (partV v k).length ≤ 9 + 9 * k
  | 0 => by
    have := numB_len (longV v) (by have := longV_le v; omega)
    simp [partV]; omega
  | k + 1 => by
    rw [← partV_succ, List.length_append]
    have h1 := partV_len h k
    have h2 := numB_len (v.get (k : Int)).toNat (by have := get_u32 h (k : Int); omega)
    omega

end Go.Proofs.YtpolplmniaoikaaDoor
namespace Go.Proofs.YtpolplmniaoikaaDoor
open Go.RowKit

/-- A cut's bytes: none, where something is wrong with it. -/
def writeC (v : Vm) (xs : List Im) : List UInt8 := if cutErr v xs ≠ 0 then [] else writeV v ++ writeD xs
theorem writeD_len (xs : List Im) : (writeD xs).length ≤ 9 + 18 * 64 := by
  unfold writeD
  by_cases h : lerr xs = 0
  · rw [if_neg (by simpa using h)]
    have h1 := lerr_len h
    have h2 := flatW_len xs
    have h3 := numB_len xs.length (by omega)
    rw [List.length_append]
    omega
  · rw [if_pos h]; simp

end Go.Proofs.YtpolplmniaoikaaDoor
namespace Go.Proofs.YtpolplmniaoikaaDoor
open Go.RowKit

/-- So many members of a reader. -/
def readVs : Nat → Rs → Vm × Rs
  | 0, S => (zV, S)
  | n + 1, S => ((readVs n S).1.set (n : Int) ((intS 1048576 (readVs n S).2).1 : Int), (intS 1048576 (readVs n S).2).2)
/-- The next vector of a reader. -/
def readV (S : Rs) : Vm × Rs :=
  let p := intS 8 S
  let r := readVs p.1 p.2
  let T := if 0 < p.1 ∧ r.1.get ((p.1 : Int) - 1) = 0 then failS r.2 3 else r.2
  if T.fe ≠ 0 then (zV, T) else (r.1, T)
theorem readVs_wf {S : Rs} (h : S.wf) : ∀ n, (readVs n S).2.wf ∧ (readVs n S).1.wf
  | 0 => ⟨h, zV_wf⟩
  | n + 1 => by
    obtain ⟨h1, h2⟩ := readVs_wf h n
    have h3 := intS_le 1048576 (readVs n S).2
    exact ⟨Rs.wf_next h1 _, Vm.set_wf h2 _ _ (by omega) (by omega)⟩
theorem readV_wf {S : Rs} (h : S.wf) : (readV S).2.wf ∧ (readV S).1.wf := by
  have h1 : (intS 8 S).2.wf := Rs.wf_next h _
  obtain ⟨h2, h3⟩ := readVs_wf h1 (intS 8 S).1
  unfold readV
  dsimp only
  have hT : (if 0 < (intS 8 S).1 ∧ (readVs (intS 8 S).1 (intS 8 S).2).1.get (((intS 8 S).1 : Int) - 1) = 0 then failS (readVs (intS 8 S).1 (intS 8 S).2).2 3 else (readVs (intS 8 S).1 (intS 8 S).2).2).wf := by
    split
    · exact Rs.wf_fail h2 3
    · exact h2
  generalize (if 0 < (intS 8 S).1 ∧ (readVs (intS 8 S).1 (intS 8 S).2).1.get (((intS 8 S).1 : Int) - 1) = 0 then failS (readVs (intS 8 S).1 (intS 8 S).2).2 3 else (readVs (intS 8 S).1 (intS 8 S).2).2) = T at hT ⊢
  split
  · exact ⟨hT, zV_wf⟩
  · exact ⟨hT, h3⟩
theorem get_set_self {v : Vm} {k : Nat} (hk : k < 8) (s : Int) : (v.set (k : Int) s).get (k : Int) = s := by
  obtain rfl | rfl | rfl | rfl | rfl | rfl | rfl | rfl : k = 0 ∨ k = 1 ∨ k = 2 ∨ k = 3 ∨ k = 4 ∨ k = 5 ∨ k = 6 ∨ k = 7 := by omega
  all_goals simp [Vm.set, Vm.get]

end Go.Proofs.YtpolplmniaoikaaDoor
namespace Go.Proofs.YtpolplmniaoikaaDoor
open Go.RowKit

/-- The next cut of a reader. -/
def readC (S : Rs) : Vm × List Im × Rs :=
  let p := readV S
  let q := readD p.2
  let T := failS q.2 (cutErr p.1 q.1)
  if T.fe ≠ 0 then (zV, [], T) else (p.1, q.1, T)
theorem readD_ids {S : Rs} (h : S.wf) : ∀ x ∈ (readD S).1, x.wf := by
  have h1 := (readIs_wf (Rs.wf_next h (fun v => if 64 < v then 2 else 0)) (intS 64 S).1).2
  unfold readD
  dsimp only
  split
  · simp
  · exact h1
theorem readD_len (S : Rs) : (readD S).1.length ≤ 64 := by
  have h1 := readIs_len (intS 64 S).2 (intS 64 S).1
  have h2 := intS_le 64 S
  unfold readD
  dsimp only
  split
  · simp
  · dsimp only; omega
theorem readC_wf {S : Rs} (h : S.wf) : (readC S).2.2.wf ∧ (readC S).1.wf ∧ (∀ x ∈ (readC S).2.1, x.wf) ∧ (readC S).2.1.length ≤ 64 := by
  have h1 := readV_wf h
  have h2 := readD_wf h1.1
  have h3 := readD_ids h1.1
  have h4 := readD_len (readV S).2
  unfold readC
  dsimp only
  split
  · exact ⟨Rs.wf_fail h2 _, zV_wf, by simp, by simp⟩
  · exact ⟨Rs.wf_fail h2 _, h1.2, h3, h4⟩
end Go.Proofs.YtpolplmniaoikaaDoor
namespace Go.Proofs.YtpolplmniaoikaaDoor
open Go.RowKit
theorem sets9 {w : World} {g : Nat} {t : TypeId} {a0 a1 a2 a3 a4 a5 a6 a7 a8 : Value} (h : w.heap[g]? = some (.cells #[a0, a1, a2, a3, a4, a5, a6, a7, a8] t (0, 0))) (x0 x1 x2 x3 x4 x5 x6 x7 x8 : Value) :
    (((((((((w.setCell ⟨g, 0, none⟩ x0).setCell ⟨g, 1, none⟩ x1).setCell ⟨g, 2, none⟩ x2).setCell ⟨g, 3, none⟩ x3).setCell ⟨g, 4, none⟩ x4).setCell ⟨g, 5, none⟩ x5).setCell ⟨g, 6, none⟩ x6).setCell ⟨g, 7, none⟩ x7).setCell ⟨g, 8, none⟩ x8).heap[g]? = some (.cells #[x0, x1, x2, x3, x4, x5, x6, x7, x8] t (0, 0)) ∧
    w.grownBy (((((((((w.setCell ⟨g, 0, none⟩ x0).setCell ⟨g, 1, none⟩ x1).setCell ⟨g, 2, none⟩ x2).setCell ⟨g, 3, none⟩ x3).setCell ⟨g, 4, none⟩ x4).setCell ⟨g, 5, none⟩ x5).setCell ⟨g, 6, none⟩ x6).setCell ⟨g, 7, none⟩ x7).setCell ⟨g, 8, none⟩ x8) (some g) := by
  refine ⟨?_, gr_set (gr_set (gr_set (gr_set (gr_set (gr_set (gr_set (gr_set (gr_set (World.grownBy.refl w (some g)) 0 x0) 1 x1) 2 x2) 3 x3) 4 x4) 5 x5) 6 x6) 7 x7) 8 x8⟩
  rw [blk_set (blk_set (blk_set (blk_set (blk_set (blk_set (blk_set (blk_set (blk_set h 0 x0) 1 x1) 2 x2) 3 x3) 4 x4) 5 x5) 6 x6) 7 x7) 8 x8]
  simp
end Go.Proofs.YtpolplmniaoikaaDoor
namespace Go.Proofs.YtpolplmniaoikaaDoor
open Go.RowKit

theorem numS_eq {S : Rs} {v n : Nat} {e : Int} (h0 : S.fe = 0) (hr : numR (S.l.drop S.a) = (v, n, e)) :
    numS S = if e ≠ 0 then (0, failS S e) else (v, { S with a := S.a + n }) := by
  unfold numS
  rw [nextS_eq h0 hr]
  by_cases he : e = 0
  · simp [he]
  · simp [he]
end Go.Proofs.YtpolplmniaoikaaDoor
namespace Go.Proofs.YtpolplmniaoikaaDoor
open Go.RowKit

theorem intS_num {S : Rs} (m : Nat) : intS m S = if (numS S).2.fe ≠ 0 then (0, (numS S).2) else if m < (numS S).1 then (0, failS S 2) else numS S := by
  unfold intS
  by_cases h0 : S.fe = 0
  · obtain ⟨v, n, e, hr⟩ : ∃ v n e, numR (S.l.drop S.a) = (v, n, e) := ⟨_, _, _, rfl⟩
    rw [nextS_eq h0 hr, numS_eq h0 hr]
    by_cases he : e = 0
    · subst he
      by_cases hz : m < v
      · simp [hz, h0]
      · simp [hz, h0]
    · simp [he, failS, h0]
  · unfold numS
    rw [nextS_bad h0, nextS_bad h0]
    simp [h0]
theorem numS_fe {S : Rs} (h : (numS S).2.fe = 0) : S.fe = 0 ∧ (numS S).2 = { S with a := (numS S).2.a } := by
  by_cases h0 : S.fe = 0
  · obtain ⟨v, n, e, hr⟩ : ∃ v n e, numR (S.l.drop S.a) = (v, n, e) := ⟨_, _, _, rfl⟩
    rw [numS_eq h0 hr] at h ⊢
    by_cases he : e = 0
    · subst he; exact ⟨h0, by simp⟩
    · simp [he, failS, h0] at h
  · unfold numS at h
    rw [nextS_bad h0] at h
    exact absurd h h0
theorem numS_lt (S : Rs) : (numS S).1 < 18446744073709551616 := by
  by_cases h0 : S.fe = 0
  · obtain ⟨v, n, e, hr⟩ : ∃ v n e, numR (S.l.drop S.a) = (v, n, e) := ⟨_, _, _, rfl⟩
    have := numR_some hr
    rw [numS_eq h0 hr]
    by_cases he : e = 0
    · subst he; simpa using (this.2 rfl).2.2.2
    · simp [he]
  · unfold numS
    rw [nextS_bad h0]; show 0 < 18446744073709551616; decide
end Go.Proofs.YtpolplmniaoikaaDoor
