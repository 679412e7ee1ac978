/- ident.Write and the document's: a name's bytes. dots.Write and the document's: a set's bytes. -/
import Derived.Test.YtfhandglpjnonaaGreatDoorOct
import Derived.Test.YtfhandglpjnonaaGreatDoorM25
namespace Go.Proofs.YtfhandglpjnonaaGreatDoor
open Go.RowKit

/-- A name's bytes. -/
def writeI (x : Im) : List UInt8 := if chk x then numB x.1.toNat ++ numB x.2.toNat else []
set_option maxRecDepth 100000 in
set_option maxHeartbeats 1000000 in
theorem idw_any (x : Im) (hx : x.wf) (w : World) :
    Calls Tryz.prog 50 #[.agg #[.int .i64 x.1, .int .u32 x.2]] w fun e w' => e = .returned (.string (bs (writeI x))) ∧ Below w.heap.size w w' := by
  have hch := chk_any x hx
  generalize hr : writeI x = out
  unfold writeI at hr
  cases hc : chk x
  · rw [hc] at hr hch
    rw [show errI false = 2 from rfl] at hch
    rw [if_neg (by simp)] at hr
    subst hr
    have hch := Lib.hid hch
    clear hc
    obtain ⟨o, s⟩ := x
    go_enter Tryz.func50, Tryz.ntmps50
    go_wp2_with fail
    refine (hch.out _).mono ?_
    rintro e w1 ⟨rfl, hb⟩
    have hB : Below w.heap.size w w1 := ((Below.refl _ w).alloc (Nat.le_refl _) _).trans (hb.mono (by simp))
    go_wp2
    go_ret
    exact ⟨rfl, hB⟩
  · rw [hc] at hr hch
    rw [show errI true = 0 from rfl] at hch
    rw [if_pos rfl] at hr
    have hch := Lib.hid hch
    obtain ⟨o, s⟩ := x
    simp only [chk, decide_eq_true_eq] at hc
    obtain ⟨h1, h2, h3, h4⟩ := hc
    obtain ⟨k, rfl⟩ : ∃ k : Nat, o = (k : Int) := ⟨o.toNat, by omega⟩
    obtain ⟨m, rfl⟩ : ∃ m : Nat, s = (m : Int) := ⟨s.toNat, by omega⟩
    have hk0 : (0 : Int) ≤ (k : Int) := by omega
    have hk8 : (k : Int) < 8 := by omega
    have hm0 : (0 : Int) ≤ (m : Int) := by omega
    have hm1 : (m : Int) ≤ 1048576 := by omega
    simp only [Int.toNat_natCast] at hr
    have hT : Hid (bs (numB k) ++ bs (numB m) = bs out) := Lib.hid (by rw [bs_append, hr])
    have hsz : ¬ 9223372036854775807 < (bs (numB k)).size + (bs (numB m)).size := by
      have h5 := numB_len k (by omega)
      have h6 := numB_len m (by omega)
      rw [bs_size, bs_size]; omega
    have ck := Lib.hid (fun w => num_any k (by omega) w)
    have wk : IntKind.u64.wrap (k : Int) = k := IntWalk.u64_in _ (by omega)
    have wm : IntKind.u64.wrap (m : Int) = m := IntWalk.u64_in _ (by omega)
    have cm := Lib.hid (fun w => num_any m (by omega) w)
    clear hr hx h1 h2 h3 h4
    go_enter Tryz.func50, Tryz.ntmps50
    go_wp2_with fail
    refine (hch.out _).mono ?_
    rintro e w1 ⟨rfl, hb⟩
    have hz := hb.size
    simp only [World.size_alloc] at hz
    have hbI : w1.heap[w.heap.size]? = some (.cells #[.int .i64 (k : Int), .int .u32 (m : Int)] 24 (0, 0)) := (hb.block _ (by simp)).trans (heap_at _ _ rfl)
    have i0 := blk_cell hbI 0
    have i1 := blk_cell hbI 1
    simp at i0 i1
    have hB : Below w.heap.size w w1 := ((Below.refl _ w).alloc (Nat.le_refl _) _).trans (hb.mono (by simp))
    have hlt : w.heap.size < w1.heap.size := by omega
    have hq0 : KQ w1.heap.size w1 w1 := kq (Below.refl _ _)
    clear hbI hb hz
    go_wp2_with fail
    go_region_held3 (fun w' => KQ w1.heap.size w1 w') (first
      | with_reducible exact kq_call (by assumption) (by simp) (by assumption)
      | with_reducible exact kq_grown (by assumption) (by simp) (by assumption) (by simp [Value.ownBlock])
      | ((with_reducible refine kq ?_); (repeat (first | (with_reducible exact Below.refl _ _) | (with_reducible refine Below.drew ?_) | (with_reducible refine Below.alloc ?_ (by simp) _) | (with_reducible refine Below.setCell ?_ (by simp) _) | (with_reducible exact (by assumption : KQ _ _ _).1))); done))
      (first | (go_at_call 93; (first | ((with_reducible refine (ck.out _).mono ?_); rintro e w2 ⟨rfl, hb2⟩) | ((with_reducible refine (cm.out _).mono ?_); rintro e w3 ⟨rfl, hb3⟩))))
    all_goals
      go_wp2
      go_ret
      exact ⟨ret_str hT.out, hB.trans ((by with_reducible assumption : KQ w1.heap.size w1 _).1.mono (by omega))⟩
set_option maxRecDepth 100000 in
set_option maxHeartbeats 1000000 in
theorem ridw_any (x : Im) (hx : x.wf) (w : World) :
    Calls Tryz.prog 54 #[.agg #[.int .i64 x.1, .int .u32 x.2]] w fun e w' => e = .returned (.string (bs (writeI x))) ∧ Below w.heap.size w w' := by
  have hch := rchk_any x hx
  generalize hr : writeI x = out
  unfold writeI at hr
  cases hc : chk x
  · rw [hc] at hr hch
    rw [show errI false = 2 from rfl] at hch
    rw [if_neg (by simp)] at hr
    subst hr
    have hch := Lib.hid hch
    clear hc
    obtain ⟨o, s⟩ := x
    go_enter Tryz.func54, Tryz.ntmps54
    go_wp2_with fail
    refine (hch.out _).mono ?_
    rintro e w1 ⟨rfl, hb⟩
    have hB : Below w.heap.size w w1 := ((Below.refl _ w).alloc (Nat.le_refl _) _).trans (hb.mono (by simp))
    go_wp2
    go_ret
    exact ⟨rfl, hB⟩
  · rw [hc] at hr hch
    rw [show errI true = 0 from rfl] at hch
    rw [if_pos rfl] at hr
    have hch := Lib.hid hch
    obtain ⟨o, s⟩ := x
    simp only [chk, decide_eq_true_eq] at hc
    obtain ⟨h1, h2, h3, h4⟩ := hc
    obtain ⟨k, rfl⟩ : ∃ k : Nat, o = (k : Int) := ⟨o.toNat, by omega⟩
    obtain ⟨m, rfl⟩ : ∃ m : Nat, s = (m : Int) := ⟨s.toNat, by omega⟩
    have hk0 : (0 : Int) ≤ (k : Int) := by omega
    have hk8 : (k : Int) < 8 := by omega
    have hm0 : (0 : Int) ≤ (m : Int) := by omega
    have hm1 : (m : Int) ≤ 1048576 := by omega
    simp only [Int.toNat_natCast] at hr
    have hT : Hid (bs (numB k) ++ bs (numB m) = bs out) := Lib.hid (by rw [bs_append, hr])
    have hsz : ¬ 9223372036854775807 < (bs (numB k)).size + (bs (numB m)).size := by
      have h5 := numB_len k (by omega)
      have h6 := numB_len m (by omega)
      rw [bs_size, bs_size]; omega
    have ck := Lib.hid (fun w => rnum_any k (by omega) w)
    have wk : IntKind.u64.wrap (k : Int) = k := IntWalk.u64_in _ (by omega)
    have wm : IntKind.u64.wrap (m : Int) = m := IntWalk.u64_in _ (by omega)
    have cm := Lib.hid (fun w => rnum_any m (by omega) w)
    clear hr hx h1 h2 h3 h4
    go_enter Tryz.func54, Tryz.ntmps54
    go_wp2_with fail
    refine (hch.out _).mono ?_
    rintro e w1 ⟨rfl, hb⟩
    have hz := hb.size
    simp only [World.size_alloc] at hz
    have hbI : w1.heap[w.heap.size]? = some (.cells #[.int .i64 (k : Int), .int .u32 (m : Int)] 24 (0, 0)) := (hb.block _ (by simp)).trans (heap_at _ _ rfl)
    have i0 := blk_cell hbI 0
    have i1 := blk_cell hbI 1
    simp at i0 i1
    have hB : Below w.heap.size w w1 := ((Below.refl _ w).alloc (Nat.le_refl _) _).trans (hb.mono (by simp))
    have hlt : w.heap.size < w1.heap.size := by omega
    have hq0 : KQ w1.heap.size w1 w1 := kq (Below.refl _ _)
    clear hbI hb hz
    go_wp2_with fail
    go_region_held3 (fun w' => KQ w1.heap.size w1 w') (first
      | with_reducible exact kq_call (by assumption) (by simp) (by assumption)
      | with_reducible exact kq_grown (by assumption) (by simp) (by assumption) (by simp [Value.ownBlock])
      | ((with_reducible refine kq ?_); (repeat (first | (with_reducible exact Below.refl _ _) | (with_reducible refine Below.drew ?_) | (with_reducible refine Below.alloc ?_ (by simp) _) | (with_reducible refine Below.setCell ?_ (by simp) _) | (with_reducible exact (by assumption : KQ _ _ _).1))); done))
      (first | (go_at_call 95; (first | ((with_reducible refine (ck.out _).mono ?_); rintro e w2 ⟨rfl, hb2⟩) | ((with_reducible refine (cm.out _).mono ?_); rintro e w3 ⟨rfl, hb3⟩))))
    all_goals
      go_wp2
      go_ret
      exact ⟨ret_str hT.out, hB.trans ((by with_reducible assumption : KQ w1.heap.size w1 _).1.mono (by omega))⟩
end Go.Proofs.YtfhandglpjnonaaGreatDoor
namespace Go.Proofs.YtfhandglpjnonaaGreatDoor
open Go.RowKit

theorem val_str {a b : ByteArray} (h : a = b) : Value.string a = .string b := by rw [h]
/-- A set's bytes. -/
def writeD (xs : List Im) : List UInt8 := if lerr xs ≠ 0 then [] else numB xs.length ++ (xs.map writeI).flatten
/-- The first k names' part of it. -/
def partD (xs : List Im) (n k : Nat) : List UInt8 := numB n ++ ((xs.take k).map writeI).flatten
theorem lerr_len {xs : List Im} (h : lerr xs = 0) : xs.length ≤ 64 := by
  unfold lerr at h
  split at h
  · exact absurd h (by decide)
  · omega
theorem writeI_len (x : Im) : (writeI x).length ≤ 18 := by
  unfold writeI
  split
  · rename_i h
    simp [chk] at h
    have h1 := numB_len x.1.toNat (by omega)
    have h2 := numB_len x.2.toNat (by omega)
    rw [List.length_append]; omega
  · simp
theorem flatW_len : ∀ (xs : List Im), ((xs.map writeI).flatten).length ≤ 18 * xs.length
  | [] => by simp
  | x :: xs => by
    have h1 := flatW_len xs
    have h2 := writeI_len x
    simp only [List.map_cons, List.flatten_cons, List.length_append, List.length_cons]
    omega
end Go.Proofs.YtfhandglpjnonaaGreatDoor
