/- Interests' bytes, both: Write. -/
import Derived.Test.YtelipindcacphaaGreatDoorOsW
import Derived.Test.YtelipindcacphaaGreatDoorHj
namespace Go.Proofs.YtelipindcacphaaGreatDoor
open Go.RowKit

/-- Interests' bytes; the first k texts' part of them. -/
def writeW (xs : List (List UInt8)) : List UInt8 := if chkW xs ≠ 0 then [] else numB xs.length ++ (xs.map textB).flatten
def partW (xs : List (List UInt8)) (n k : Nat) : List UInt8 := numB n ++ ((xs.take k).map textB).flatten
theorem chkW_len {xs : List (List UInt8)} (h : chkW xs = 0) : xs.length ≤ 16 ∧ ∀ x ∈ xs, x.length ≤ 24 := by
  have := chkN_zero.1 (chkW_zero.1 h).1
  exact ⟨this.1, this.2.1⟩
theorem flatX_len : ∀ (xs : List (List UInt8)), (∀ x ∈ xs, x.length ≤ 24) → ((xs.map textB).flatten).length ≤ 33 * xs.length
  | [], _ => by simp
  | x :: xs, h => by
    have h1 := flatX_len xs (fun y hy => h y (by simp [hy]))
    have h3 := h x (by simp)
    have h2 := textB_len (e := x) (by omega)
    simp only [List.map_cons, List.flatten_cons, List.length_append, List.length_cons]
    omega
theorem writeW_len (xs : List (List UInt8)) : (writeW xs).length ≤ 1000 := by
  unfold writeW
  split
  · simp
  · rename_i h
    obtain ⟨h1, h2⟩ := chkW_len (Classical.not_not.1 h)
    have h3 := flatX_len xs h2
    have h4 := numB_len xs.length (by omega)
    rw [List.length_append]; omega
set_option maxRecDepth 100000 in
set_option maxHeartbeats 1000000 in
theorem twrite_any (A : Option Addr) (n c : Nat) (xs : List (List UInt8)) (w : World) (hA : RdS w w.heap.size A n xs) (hn : n ≤ 1100) (hx : shortS xs) (hv : VarM w) :
    Calls Tryz.prog 5 #[.slice A n c] w fun e w' => e = .returned (.tuple #[.string (bs (writeW xs)), .int .i64 (chkW xs)]) ∧ Below w.heap.size w w' := by
  have h1 := (fun A n c xs w hA hn hx hv => tCheck_any A n c xs w hA hn hx hv) A n c xs w hA (by omega) hx hv
  have hl := hA.len
  clear hv
  generalize hr : writeW xs = out
  unfold writeW at hr
  generalize hp' : chkW xs = p at h1 hr ⊢
  by_cases hp : p = 0
  · subst hp
    rw [if_neg (by simp)] at hr
    have hn64 : n ≤ 16 := by rw [← hl]; exact (chkW_len hp').1
    have hx24 := (chkW_len hp').2
    have hrH := Lib.hid hr
    have hn0 : (0 : Int) ≤ (n : Int) := by omega
    have cN := Lib.hid (fun w => num_any n (by omega) w)
    have hlH := Lib.hid hl
    clear hr hp' hl
    go_enter Tryz.func5, Tryz.ntmps5
    go_wp2_with fail
    refine h1.mono ?_
    rintro e w1 ⟨rfl, hb1⟩
    go_wp2_with fail
    refine (cN.out _).mono ?_
    rintro e w2 ⟨rfl, hb2⟩
    have hB := hb1.trans (hb2.mono hb1.size)
    clear h1
    go_wp2_with fail
    go_loopg [5, 19] (n + 1) (fun g s i wr => ∃ (k : Nat), k ≤ n ∧ g = n + 1 - k ∧ i = .int .i64 (k : Int) ∧ s = .string (bs (partW xs n k)) ∧ Below w.heap.size w wr)
    case atStart => exact ⟨0, Nat.zero_le _, rfl, rfl, by simp [partW], hB⟩
    case round =>
      obtain ⟨k, hk, rfl, rfl, rfl, hbr⟩ := hrel
      have hz := hbr.size
      by_cases hlt : k < n
      · obtain ⟨bA, oA, u, rfl, hbA, hp, hcp⟩ := (hA.below hbr).at_ hlt
        have p0 := hcp 0 _ rfl
        rw [Nat.add_zero, Nat.mul_one] at p0
        clear hcp
        have hbA2 : bA < wr.heap.size := by omega
        have hT : Hid (bs (partW xs n k) ++ bs (textB u) = bs (partW xs n (k + 1))) := Lib.hid (by
          rw [bs_append]; unfold partW; rw [List.take_add_one, hp]
          simp)
        have hu24 := hx24 u (List.mem_of_getElem? hp)
        have hsz : ¬ 9223372036854775807 < (bs (partW xs n k)).size + (bs (textB u)).size := by
          have h5 := numB_len n (by omega)
          have h6 := textB_len (e := u) (by omega)
          have h7 := flatX_len (xs.take k) (fun x hx => hx24 x (List.mem_of_mem_take hx))
          have h8 : (xs.take k).length ≤ k := List.length_take_le _ _
          unfold partW; rw [bs_size, bs_size, List.length_append]; omega
        have cw := Lib.hid (fun w' => pwtext_any u (by omega) w')
        clear hp hA hu24
        go_wp2_with fail
        refine (cw.out _).mono ?_
        rintro e w3 ⟨rfl, hb3⟩
        have hG : Below w.heap.size w w3 := by first | exact hbr.trans (hb3.mono hz) | exact (hbr.alloc hz _).trans (hb3.mono (by simp; omega))
        go_wp2
        go_roundg (n + 1 - (k + 1))
        case measure => omega
        case rel => exact ⟨k + 1, by omega, rfl, by go_num, val_str hT.out, hG⟩
      · have hT : Hid (bs (partW xs n k) = bs out) := Lib.hid (by
          have := hlH.out
          unfold partW
          rw [List.take_of_length_le (by omega), ← hrH.out, this])
        go_wp2
        refine bodyPost_ret (v := .tuple #[.string (bs out), .int .i64 0]) (by simp [results, Tryz.results5, go_sem, hT.out]) rfl ⟨rfl, hbr⟩
  · rw [if_pos hp] at hr
    subst hr
    clear hp'
    have hpn : (p != 0) = true := by simpa using hp
    go_enter Tryz.func5, Tryz.ntmps5
    go_wp2_with fail
    refine h1.mono ?_
    rintro e w1 ⟨rfl, hb1⟩
    go_wp2
    refine bodyPost_ret (v := .tuple #[.string (bs []), .int .i64 p]) (by simp [results, Tryz.results5, go_sem, bs_nil]) rfl ⟨rfl, hb1⟩
set_option maxRecDepth 100000 in
set_option maxHeartbeats 1000000 in
theorem rtwrite_any (A : Option Addr) (n c : Nat) (xs : List (List UInt8)) (w : World) (hA : RdS w w.heap.size A n xs) (hn : n ≤ 1100) (hx : shortS xs) (hv : VarM w) :
    Calls Tryz.prog 7 #[.slice A n c] w fun e w' => e = .returned (.tuple #[.string (bs (writeW xs)), .int .i64 (chkW xs)]) ∧ Below w.heap.size w w' := by
  have h1 := (fun A n c xs w hA hn hx _ => rCheckW_any A n c xs w hA hn hx) A n c xs w hA (by omega) hx hv
  have hl := hA.len
  clear hv
  generalize hr : writeW xs = out
  unfold writeW at hr
  generalize hp' : chkW xs = p at h1 hr ⊢
  by_cases hp : p = 0
  · subst hp
    rw [if_neg (by simp)] at hr
    have hn64 : n ≤ 16 := by rw [← hl]; exact (chkW_len hp').1
    have hx24 := (chkW_len hp').2
    have hrH := Lib.hid hr
    have hn0 : (0 : Int) ≤ (n : Int) := by omega
    have cN := Lib.hid (fun w => rnum_any n (by omega) w)
    have hlH := Lib.hid hl
    clear hr hp' hl
    go_enter Tryz.func7, Tryz.ntmps7
    go_wp2_with fail
    refine h1.mono ?_
    rintro e w1 ⟨rfl, hb1⟩
    go_wp2_with fail
    refine (cN.out _).mono ?_
    rintro e w2 ⟨rfl, hb2⟩
    have hB := hb1.trans (hb2.mono hb1.size)
    clear h1
    go_wp2_with fail
    go_loopg [5, 6] (n + 1) (fun g s i wr => ∃ (k : Nat), k ≤ n ∧ g = n + 1 - k ∧ i = .int .i64 (k : Int) ∧ s = .string (bs (partW xs n k)) ∧ Below w.heap.size w wr)
    case atStart => exact ⟨0, Nat.zero_le _, rfl, rfl, by simp [partW], hB⟩
    case round =>
      obtain ⟨k, hk, rfl, rfl, rfl, hbr⟩ := hrel
      have hz := hbr.size
      by_cases hlt : k < n
      · obtain ⟨bA, oA, u, rfl, hbA, hp, hcp⟩ := (hA.below hbr).at_ hlt
        have p0 := hcp 0 _ rfl
        rw [Nat.add_zero, Nat.mul_one] at p0
        clear hcp
        have hbA2 : bA < wr.heap.size := by omega
        have hT : Hid (bs (partW xs n k) ++ bs (textB u) = bs (partW xs n (k + 1))) := Lib.hid (by
          rw [bs_append]; unfold partW; rw [List.take_add_one, hp]
          simp)
        have hu24 := hx24 u (List.mem_of_getElem? hp)
        have hsz : ¬ 9223372036854775807 < (bs (partW xs n k)).size + (bs (textB u)).size := by
          have h5 := numB_len n (by omega)
          have h6 := textB_len (e := u) (by omega)
          have h7 := flatX_len (xs.take k) (fun x hx => hx24 x (List.mem_of_mem_take hx))
          have h8 : (xs.take k).length ≤ k := List.length_take_le _ _
          unfold partW; rw [bs_size, bs_size, List.length_append]; omega
        have cw := Lib.hid (fun w' => rwtext_any u (by omega) w')
        clear hp hA hu24
        go_wp2_with fail
        refine (cw.out _).mono ?_
        rintro e w3 ⟨rfl, hb3⟩
        have hG : Below w.heap.size w w3 := by first | exact hbr.trans (hb3.mono hz) | exact (hbr.alloc hz _).trans (hb3.mono (by simp; omega))
        go_wp2
        go_roundg (n + 1 - (k + 1))
        case measure => omega
        case rel => exact ⟨k + 1, by omega, rfl, by go_num, val_str hT.out, hG⟩
      · have hT : Hid (bs (partW xs n k) = bs out) := Lib.hid (by
          have := hlH.out
          unfold partW
          rw [List.take_of_length_le (by omega), ← hrH.out, this])
        go_wp2
        refine bodyPost_ret (v := .tuple #[.string (bs out), .int .i64 0]) (by simp [results, Tryz.results7, go_sem, hT.out]) rfl ⟨rfl, hbr⟩
  · rw [if_pos hp] at hr
    subst hr
    clear hp'
    have hpn : (p != 0) = true := by simpa using hp
    go_enter Tryz.func7, Tryz.ntmps7
    go_wp2_with fail
    refine h1.mono ?_
    rintro e w1 ⟨rfl, hb1⟩
    go_wp2
    refine bodyPost_ret (v := .tuple #[.string (bs []), .int .i64 p]) (by simp [results, Tryz.results7, go_sem, bs_nil]) rfl ⟨rfl, hb1⟩
end Go.Proofs.YtelipindcacphaaGreatDoor
