/- The first place at which something holds (plain). The library at lists of texts: IndexFunc, ContainsFunc, Clone, DeleteFunc, Grow, Concat, Equal. Prefixes, both: part, within, Prefix, Within, and the closures on one text. Interests, both: Great, own, Has, Covers, long, prefixes. slices.Values, AppendSeq, Collect, Sorted at texts. Interests of the program: check, outermost, Check, Make, Join, Minus. Interests of the program: Check, Make, Join, Minus. The document's Check of interests. The document's Make of interests. -/
import Derived.Lib.Hide
import Derived.Test.YtfhandglpjnonaaGreatDoorN14
import Derived.Test.YtfhandglpjnonaaGreatDoorN02
import Derived.Test.YtfhandglpjnonaaGreatDoorN06
import Derived.Lib.SliceRun
import Derived.Lib.AppendZeros
import Derived.Shelf.Abstract
import Derived.Deep.DeepCutAuto
import Derived.Deep.RegionHeld3
import Derived.Deep.LoopGhost
import Derived.TacticsInMore
import Derived.LoopNIn
import Derived.LoopIn
import Derived.Deep.QuietTactic
import Derived.BigQuiet
namespace Go.Proofs.YtfhandglpjnonaaGreatDoor
end Go.Proofs.YtfhandglpjnonaaGreatDoor
namespace Go.Proofs.YtfhandglpjnonaaGreatDoor
open Go.RowKit
theorem bs_emptyH (e : List UInt8) : (bs e).toList = e := by rw [ByteArray.toList_eq]; rfl
set_option maxRecDepth 100000
theorem baH_len (s : ByteArray) : s.data.toList.length = s.size := by rw [Array.length_toList]; rfl
theorem okC_iff (c : UInt8) : okC c = true ↔ (97 ≤ c.toNat ∧ c.toNat ≤ 122) ∨ (48 ≤ c.toNat ∧ c.toNat ≤ 57) := by unfold okC; exact decide_eq_true_iff
theorem okC_no (c : UInt8) : okC c = false ↔ ¬ ((97 ≤ c.toNat ∧ c.toNat ≤ 122) ∨ (48 ≤ c.toNat ∧ c.toNat ≤ 57)) := by unfold okC; exact decide_eq_false_iff_not
attribute [local go_sem] Oper.semAt_some
def VarM (w : World) : Prop := ∃ m, w.cell? ⟨1, 0, none⟩ = some (.int .i64 m)
theorem VarM.lt {w : World} (h : VarM w) : 1 < w.heap.size := by
 obtain ⟨m, hm⟩ := h
 apply Classical.byContradiction
 intro hn
 have : w.heap[1]? = none := Array.getElem?_eq_none (by omega)
 simp [World.cell?, this] at hm
theorem VarM.below {w w' : World} {n : Nat} (h : VarM w) (hb : Below n w w') (hn : 1 < n) : VarM w' := by
 obtain ⟨m, hm⟩ := h
 exact ⟨m, (hb.cell (p := ⟨1, 0, none⟩) hn).trans hm⟩
theorem splitK_le : ∀ (k : Nat) (s : List UInt8), ∀ x ∈ Lib.splitK [47] 0 k s, x.length ≤ s.length
 | 0, s, x, hx => by
  obtain rfl : x = s := by simpa [Lib.splitK] using hx
  exact Nat.le_refl _
 | k + 1, s, x, hx => by
  rw [Lib.splitK] at hx
  split at hx
  ·
   obtain rfl : x = s := by simpa using hx
   exact Nat.le_refl _
  ·
   rcases List.mem_cons.1 hx with rfl | hx
   ·
    rw [List.length_take]; omega
   ·
    have := splitK_le k _ x hx
    rw [List.length_drop] at this
    omega
theorem split_bs (p : List UInt8) : Lib.splitB (bs [47]) 0 (Lib.countB (bs p) (bs [47])) (bs p) = (Lib.split p [47]).map bs := by
 have h := Lib.splitB_data (bs [47]) 0 (Lib.countB (bs p) (bs [47])) (bs p)
 have h2 : Lib.split p [47] = Lib.splitK (bs [47]).data.toList 0 (Lib.countB (bs p) (bs [47])) (bs p).data.toList := rfl
 rw [h2, ← h, List.map_map]
 conv => lhs; rw [← List.map_id (Lib.splitB (bs [47]) 0 (Lib.countB (bs p) (bs [47])) (bs p))]
 apply List.map_congr_left
 intro x _
 exact (bs_of x).symm
theorem splitS_any (p : List UInt8) (hp : p.length ≤ 1000000) (w : World) (hv : VarM w) :
 Calls Tryz.prog 160 #[.string (bs p), .string ⟨#[47]⟩] w fun e w' => ∃ A n c, e = .returned (.slice A n c) ∧ RdS w' w'.heap.size A n (Lib.split p [47]) ∧ n ≤ maxLen ∧ Below w.heap.size w w' := by
 obtain ⟨m, hm⟩ := hv
 have hb := split_bs p
 have hlen := Lib.splitB_all (bs [47]) (by decide) 0 _ (bs p) rfl
 have hcl := Lib.countB_le (bs [47]) (by decide) (bs p).size (bs p) (Nat.le_refl _)
 rw [jG] at hcl
 refine (shSplit (bs p) (bs [47]) m w (by rw [jG]; omega) hm (by decide)).mono ?_
 rintro e w' ⟨rfl, rfl⟩
 rw [hb] at hlen ⊢
 refine ⟨_, _, _, rfl, Rd.built (xs := (Lib.split p [47]).map encS) encS_len ?_ (by simpa using hlen), by simp [maxLen]; omega, (Below.refl _ _).alloc (Nat.le_refl _) _⟩
 rw [List.map_map]
 congr 1
 generalize Lib.split p [47] = l
 induction l with
 | nil => rfl
 | cons x l ih => rw [List.map_cons, List.map_cons, List.flatten_cons, ih]; rfl
theorem orE_any (g : Nat) (p q : Int) (w : World) (hg : g < w.heap.size) (h0 : w.cell? ⟨g, 0, none⟩ = some (.int .i64 p)) (h1 : w.cell? ⟨g, 1, none⟩ = some (.int .i64 q)) :
 Calls Tryz.prog 115 #[.slice (some ⟨g, 0, none⟩) 2 2] w fun e w' => e = .returned (.int .i64 (if p ≠ 0 then p else q)) ∧ w' = w := by
 generalize hr : (if p ≠ 0 then p else q) = r
 have hrH := jH hr
 clear hr
 go_enter Tryz.func115, Tryz.ntmps115
 go_wp2
 go_loopg [8] 3 (fun g' i wr => ∃ k : Nat, k ≤ 2 ∧ g' = 3 - k ∧ i = .int .i64 k ∧ wr = w ∧ (1 ≤ k → p = 0) ∧ (2 ≤ k → q = 0))
 case atStart => exact ⟨0, by omega, rfl, rfl, rfl, by omega, by omega⟩
 case round =>
  obtain ⟨k, hk, rfl, rfl, rfl, hp, hq⟩ := hrel
  obtain rfl | rfl | rfl : k = 0 ∨ k = 1 ∨ k = 2 := by omega
  ·
   by_cases h : p = 0
   ·
    subst h
    go_wp2
    go_roundg 2
    case measure => omega
    case rel => exact ⟨1, by omega, rfl, by go_num, rfl, fun _ => (by first | trivial | rfl), by omega⟩
   ·
    have hT := jH h
    have hd : (p == 0) = false := by simpa using h
    go_wp2
    go_ret
    exact ⟨jJ (by rw [← hrH.out, if_pos hT.out]), rfl⟩
  ·
   have hp' := jH (hp (by omega))
   clear hp
   by_cases h : q = 0
   ·
    subst h
    go_wp2
    go_roundg 1
    case measure => omega
    case rel => exact ⟨2, by omega, rfl, by go_num, rfl, fun _ => hp'.out, fun _ => (by first | trivial | rfl)⟩
   ·
    have hd : (q == 0) = false := by simpa using h
    go_wp2
    go_ret
    exact ⟨jJ (by rw [← hrH.out, if_neg (by simp [hp'.out])]), rfl⟩
  ·
   have hp' := jH (hp (by omega))
   have hq' := jH (hq (by omega))
   clear hp hq
   go_wp2
   go_ret
   exact ⟨jJ (by rw [← hrH.out, if_neg (by simp [hp'.out])]; exact hq'.out.symm), rfl⟩
end Go.Proofs.YtfhandglpjnonaaGreatDoor
