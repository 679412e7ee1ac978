/- Interests, both: Great, own, Has, Covers, long, prefixes. -/
import Derived.Test.YtelipindcacphaaDoorHd
namespace Go.Proofs.YtelipindcacphaaDoor
open Go.RowKit

/-- No text of a list is longer than any machine's walk here takes. -/
def shortS (xs : List (List UInt8)) : Prop := ∀ x ∈ xs, x.length ≤ 1000
def grW (xs : List (List UInt8)) : Bool := xs.any (fun u => decide (300 < u.length)) || decide (60 < xs.length ∧ xs.length ≠ 256 ∧ xs.length ≠ 257)
theorem grW_no {xs : List (List UInt8)} (h : grW xs = false) : shortS xs ∧ xs.length ≤ 257 := by
  unfold grW at h
  rw [Bool.or_eq_false_iff, List.any_eq_false, decide_eq_false_iff_not] at h
  refine ⟨fun x hx => ?_, by omega⟩
  have := h.1 x hx
  simp at this; omega
set_option maxRecDepth 100000 in
theorem greatW_any (A : Option Addr) (n c : Nat) (xs : List (List UInt8)) (w : World) (hA : RdS w w.heap.size A n xs) (hn : n ≤ maxLen) (hx : ∀ x ∈ xs, x.length ≤ maxLen) :
    Calls Tryd.prog 4 #[.slice A n c] w fun e w' => e = .returned (.bool (grW xs)) ∧ Below w.heap.size w w' := by
  unfold maxLen at hn
  generalize hr : grW xs = r
  unfold grW at hr
  rw [hA.len] at hr
  have hrH := Lib.hid hr
  clear hr
  have hl := hA.len
  go_enter Tryd.func4, Tryd.ntmps4
  go_wp2
  go_loopg [3] (n + 1) (fun g i wr => ∃ k : Nat, k ≤ n ∧ g = n + 1 - k ∧ i = .int .i64 (k : Int) ∧ (∀ u ∈ xs.take k, (fun u : List UInt8 => decide (300 < u.length)) u = false) ∧ Below w.heap.size w wr)
  case atStart => exact ⟨0, Nat.zero_le _, rfl, rfl, by simp, Below.refl _ _⟩
  case round =>
    obtain ⟨k, hk, rfl, rfl, hno, hbr⟩ := hrel
    have hz := hbr.size
    by_cases hlt : k < n
    · obtain ⟨bA, oA, u, rfl, hbA, hp, hcp⟩ := (hA.below hbr).at_ hlt
      have p0 := hcp 0 _ rfl
      rw [Nat.add_zero, Nat.mul_one] at p0
      clear hcp
      have hum := List.mem_of_getElem? hp
      have hnoH := Lib.hid hno
      have hpH := Lib.hid hp
      have hlti : (k : Int) < (n : Int) := by omega
      clear hno hp
      have hul := hx u hum
      unfold maxLen at hul
      have zu := bs_size u
      by_cases hc : 300 < u.length
      · have hT : Hid (true = r) := Lib.hid (by
          rw [← hrH.out, List.any_eq_true.2 ⟨u, hum, decide_eq_true hc⟩]; rfl)
        have hd : decide ((300 : Int) < (((bs u).size : Nat) : Int)) = true := decide_eq_true (by omega)
        clear zu hc
        go_wp2
        go_ret
        exact ⟨ret_bool hT.out, hbr⟩
      · have hT : Hid ((fun u : List UInt8 => decide (300 < u.length)) u = false) := Lib.hid (decide_eq_false hc)
        have hd : decide ((300 : Int) < (((bs u).size : Nat) : Int)) = false := decide_eq_false (by omega)
        have hG := hbr
        clear zu hc
        go_wp2
        go_roundg (n + 1 - (k + 1))
        case measure => omega
        case rel => exact ⟨k + 1, by omega, rfl, by go_num, all_take_succ hnoH.out hpH.out hT.out, hG⟩
    · skip
      obtain rfl : k = n := by omega
      have hnli : ¬ (k : Int) < (k : Int) := by omega
      have hall := all_take_all hno hl
      have hany : xs.any (fun u => decide (300 < u.length)) = false := by rw [List.any_eq_false]; intro x hx; simp [hall x hx]
      have hrr : Hid (decide (60 < k ∧ k ≠ 256 ∧ k ≠ 257) = r) := Lib.hid (by rw [← hrH.out, hany]; rfl)
      clear hall hno hany
      by_cases h1 : 60 < k
      · have d1 : decide ((60 : Int) < (k : Int)) = true := decide_eq_true (by omega)
        by_cases h2 : k = 256
        · have hT : Hid (false = r) := Lib.hid (by rw [← hrr.out]; symm; apply decide_eq_false; omega)
          have d2 : ((k : Int) != 256) = false := by simp; omega
          clear h1 h2
          go_wp2
          go_ret
          exact ⟨ret_bool hT.out, hbr⟩
        · have d2 : ((k : Int) != 256) = true := by simp; omega
          by_cases h3 : k = 257
          · have hT : Hid (false = r) := Lib.hid (by rw [← hrr.out]; symm; apply decide_eq_false; omega)
            have d3 : ((k : Int) != 257) = false := by simp; omega
            clear h1 h2 h3
            go_wp2
            go_ret
            exact ⟨ret_bool hT.out, hbr⟩
          · have hT : Hid (true = r) := Lib.hid (by rw [← hrr.out]; symm; apply decide_eq_true; omega)
            have d3 : ((k : Int) != 257) = true := by simp; omega
            clear h1 h2 h3
            go_wp2
            go_ret
            exact ⟨ret_bool hT.out, hbr⟩
      · have d1 : decide ((60 : Int) < (k : Int)) = false := decide_eq_false (by omega)
        have hT : Hid (false = r) := Lib.hid (by rw [← hrr.out]; symm; apply decide_eq_false; omega)
        clear h1
        go_wp2
        go_ret
        exact ⟨ret_bool hT.out, hbr⟩
set_option maxRecDepth 100000 in
theorem ownW_any (A : Option Addr) (n c : Nat) (xs : List (List UInt8)) (w : World) (hA : RdS w w.heap.size A n xs) (hn : n ≤ 100000) :
    Calls Tryd.prog 7 #[.slice A n c] w fun e w' => ∃ A' c', e = .returned (.slice A' n c') ∧ Ow w' w.heap.size 9 1 (.slice A' n c') (xs.map encS) ∧ Below w.heap.size w w' := by
  have hl := hA.len
  go_enter Tryd.func7, Tryd.ntmps7
  go_wp2_with (at_builtin; refine wpList_append_rd _ rfl _ _ _ rfl eStr (base := w.heap.size) (v := .slice (some ⟨w.heap.size, 0, none⟩) 0 0) (xs := []) rfl (Ow.made0 _ _ _ (Nat.le_refl _)) rfl (Rd.below hA ((Below.refl _ w).alloc (Nat.le_refl _) _)) encS_len encS_one (by simp [maxLen]; omega) (by simp; omega) (by simp) ?_; intro A2 n2 c2 w4 hn2 hown2 hg4 hat2; (obtain rfl : n2 = n := (by rw [hn2]; simp)); clear hn2)
  go_ret
  exact ⟨A2, c2, rfl, by simpa using hown2, ((Below.refl _ w).alloc (Nat.le_refl _) _).grown hg4 (by simp) (fun g e => by simp [Value.ownBlock] at e; omega)⟩
theorem thas1_any (b : Nat) (key p : List UInt8) (hk : key.length ≤ maxLen) (hp : p.length ≤ 1099511627776) (w : World) (hb : w.heap[b]? = some (.cells #[.string (bs key)] 9 (0, 0))) :
    Calls Tryd.prog 54 #[.string (bs p), .pointer (some ⟨b, 0, none⟩)] w fun e w' => e = .returned (.bool (withinB key p)) ∧ Below w.heap.size w w' := by
  have c0 := blk_cell hb 0
  simp at c0
  have h := twithin_any key p hk hp w
  generalize withinB key p = r at h
  clear hb
  go_enter Tryd.func54, Tryd.ntmps54
  go_wp2_with fail
  refine h.mono ?_
  rintro e w' ⟨rfl, rfl⟩
  go_wp2
  go_ret
  exact ⟨rfl, Below.refl _ _⟩
set_option maxRecDepth 100000 in
theorem thas_any (A : Option Addr) (n c : Nat) (xs : List (List UInt8)) (key : List UInt8) (w : World) (hA : RdS w w.heap.size A n xs) (hn : n ≤ maxLen) (hx : ∀ x ∈ xs, x.length ≤ 1099511627776) (hk : key.length ≤ maxLen) :
    Calls Tryd.prog 35 #[.slice A n c, .string (bs key)] w fun e w' => e = .returned (.bool (hasW xs key)) ∧ Below w.heap.size w w' := by
  have hb1 : Below w.heap.size w (w.alloc (.cells #[.string (bs key)] 9)) := (Below.refl _ w).alloc (Nat.le_refl _) _
  have h := cfS_gen 54 #[.pointer (some ⟨w.heap.size, 0, none⟩)] (fun p => withinB key p) (enters_of Tryd.func54 (by kernel_rfl) rfl) (w.heap.size + 1) A n c xs (w.alloc (.cells #[.string (bs key)] 9)) ((hA.below hb1).more hb1.size) hn (fun p hp w' hb => thas1_any w.heap.size key p hk (hx p hp) w' ((hb.block _ (by omega)).trans (heap_at _ _ rfl))) (by simp)
  have hT : Hid (xs.any (fun p => withinB key p) = hasW xs key) := Lib.hid rfl
  generalize hasW xs key = r at hT
  rw [hT.out] at h
  go_enter Tryd.func35, Tryd.ntmps35
  go_wp2_with fail
  refine h.mono ?_
  rintro e w1 ⟨rfl, hv⟩
  go_wp2
  go_ret
  exact ⟨rfl, hb1.trans (hv.mono (by simp))⟩
set_option maxRecDepth 100000 in
theorem rlong_any (most : Nat) (_hmost : most ≤ 1000) (A : Option Addr) (n c : Nat) (xs : List (List UInt8)) (w : World) (hA : RdS w w.heap.size A n xs) (hn : n ≤ maxLen) (hx : ∀ x ∈ xs, x.length ≤ maxLen) :
    Calls Tryd.prog 43 #[.slice A n c, .int .i64 (most : Int)] w fun e w' => e = .returned (.bool (decide (most < xs.length ∨ xs.any (fun p => decide (24 < p.length)) = true))) ∧ Below w.heap.size w w' := by
  unfold maxLen at hn
  generalize hr : decide (most < xs.length ∨ xs.any (fun p => decide (24 < p.length)) = true) = r
  rw [hA.len] at hr
  have hrH := Lib.hid hr
  clear hr
  have hl := hA.len
  go_enter Tryd.func43, Tryd.ntmps43
  go_wp2
  go_loopg [5] (n + 1) (fun g i wr => ∃ k : Nat, k ≤ n ∧ g = n + 1 - k ∧ i = .int .i64 (k : Int) ∧ (∀ u ∈ xs.take k, (fun u : List UInt8 => decide (24 < u.length)) u = false) ∧ Below w.heap.size w wr)
  case atStart => exact ⟨0, Nat.zero_le _, rfl, rfl, by simp, Below.refl _ _⟩
  case round =>
    obtain ⟨k, hk, rfl, rfl, hno, hbr⟩ := hrel
    have hz := hbr.size
    by_cases hlt : k < n
    · obtain ⟨bA, oA, u, rfl, hbA, hp, hcp⟩ := (hA.below hbr).at_ hlt
      have p0 := hcp 0 _ rfl
      rw [Nat.add_zero, Nat.mul_one] at p0
      clear hcp
      have hum := List.mem_of_getElem? hp
      have hnoH := Lib.hid hno
      have hpH := Lib.hid hp
      have hlti : (k : Int) < (n : Int) := by omega
      clear hno hp
      have hul := hx u hum
      unfold maxLen at hul
      have zu := bs_size u
      by_cases hc : 24 < u.length
      · have hT : Hid (true = r) := Lib.hid (by
          rw [← hrH.out]; symm; apply decide_eq_true; exact .inr (List.any_eq_true.2 ⟨u, hum, decide_eq_true hc⟩))
        have hd : decide ((24 : Int) < (((bs u).size : Nat) : Int)) = true := decide_eq_true (by omega)
        clear zu hc
        go_wp2
        go_ret
        exact ⟨ret_bool hT.out, hbr⟩
      · have hT : Hid ((fun u : List UInt8 => decide (24 < u.length)) u = false) := Lib.hid (decide_eq_false hc)
        have hd : decide ((24 : Int) < (((bs u).size : Nat) : Int)) = false := decide_eq_false (by omega)
        have hG := hbr
        clear zu hc
        go_wp2
        go_roundg (n + 1 - (k + 1))
        case measure => omega
        case rel => exact ⟨k + 1, by omega, rfl, by go_num, all_take_succ hnoH.out hpH.out hT.out, hG⟩
    · skip
      obtain rfl : k = n := by omega
      have hnli : ¬ (k : Int) < (k : Int) := by omega
      have hall := all_take_all hno hl
      have hany : xs.any (fun u => decide (24 < u.length)) = false := by rw [List.any_eq_false]; intro x hx; simp [hall x hx]
      have hT : Hid (decide (most < k) = r) := Lib.hid (by
        rw [← hrH.out, hany]; rw [decide_eq_decide]; simp)
      clear hall hno hany
      go_wp2
      go_ret
      exact ⟨ret_bool hT.out, hbr⟩
set_option maxRecDepth 100000 in
theorem rprefixes_any (A : Option Addr) (n c : Nat) (xs : List (List UInt8)) (w : World) (hA : RdS w w.heap.size A n xs) (hn : n ≤ maxLen) (hx : ∀ x ∈ xs, x.length ≤ 24) :
    Calls Tryd.prog 44 #[.slice A n c] w fun e w' => e = .returned (.bool (xs.all prefOk)) ∧ Below w.heap.size w w' := by
  unfold maxLen at hn
  generalize hr : xs.all prefOk = r
  have hrH := Lib.hid hr
  clear hr
  have hl := hA.len
  go_enter Tryd.func44, Tryd.ntmps44
  go_wp2
  go_loopg [3] (n + 1) (fun g i wr => ∃ k : Nat, k ≤ n ∧ g = n + 1 - k ∧ i = .int .i64 (k : Int) ∧ (∀ u ∈ xs.take k, (fun u : List UInt8 => !prefOk u) u = false) ∧ Below w.heap.size w wr)
  case atStart => exact ⟨0, Nat.zero_le _, rfl, rfl, by simp, Below.refl _ _⟩
  case round =>
    obtain ⟨k, hk, rfl, rfl, hno, hbr⟩ := hrel
    have hz := hbr.size
    by_cases hlt : k < n
    · obtain ⟨bA, oA, u, rfl, hbA, hp, hcp⟩ := (hA.below hbr).at_ hlt
      have p0 := hcp 0 _ rfl
      rw [Nat.add_zero, Nat.mul_one] at p0
      clear hcp
      have hum := List.mem_of_getElem? hp
      have hnoH := Lib.hid hno
      have hpH := Lib.hid hp
      have hlti : (k : Int) < (n : Int) := by omega
      clear hno hp
      have hul := hx u hum
      have hpe := rprefix_any (bs u) (by rw [bs_size]; simp [maxLen]; omega) wr
      rw [bs_list] at hpe
      have hpv : prefErr u = if prefOk u = true then 0 else 3 := by unfold prefErr; rw [if_neg (by omega)]
      rw [hpv] at hpe
      by_cases hc : prefOk u = true
      · rw [if_pos hc] at hpe
        have hT : Hid ((fun u : List UInt8 => !prefOk u) u = false) := Lib.hid (by simp [hc])
        have hG := hbr
        clear hpv hc
        go_wp2_with fail
        refine hpe.mono ?_
        rintro e w' ⟨rfl, rfl⟩
        go_wp2
        go_roundg (n + 1 - (k + 1))
        case measure => omega
        case rel => exact ⟨k + 1, by omega, rfl, by go_num, all_take_succ hnoH.out hpH.out hT.out, hG⟩
      · rw [if_neg hc] at hpe
        have hT : Hid (false = r) := Lib.hid (by rw [← hrH.out]; symm; rw [List.all_eq_false]; exact ⟨u, hum, hc⟩)
        clear hpv hc
        go_wp2_with fail
        refine hpe.mono ?_
        rintro e w' ⟨rfl, rfl⟩
        go_wp2
        go_ret
        exact ⟨ret_bool hT.out, hbr⟩
    · skip
      obtain rfl : k = n := by omega
      have hnli : ¬ (k : Int) < (k : Int) := by omega
      have hall := all_take_all hno hl
      have hT : Hid (true = r) := Lib.hid (by rw [← hrH.out]; symm; rw [List.all_eq_true]; intro x hx; have := hall x hx; simpa using this)
      clear hall hno
      go_wp2
      go_ret
      exact ⟨ret_bool hT.out, hbr⟩
set_option maxRecDepth 100000 in
theorem rhasW_any (A : Option Addr) (n c : Nat) (xs : List (List UInt8)) (key : List UInt8) (w : World) (hA : RdS w w.heap.size A n xs) (hn : n ≤ maxLen) (hx : ∀ x ∈ xs, x.length ≤ maxLen) (hkey : key.length ≤ maxLen) :
    Calls Tryd.prog 37 #[.slice A n c, .string (bs key)] w fun e w' => e = .returned (.bool (hasW xs key)) ∧ Below w.heap.size w w' := by
  unfold maxLen at hn
  generalize hr : hasW xs key = r
  have hrH := Lib.hid hr
  clear hr
  have hl := hA.len
  go_enter Tryd.func37, Tryd.ntmps37
  go_wp2
  go_loopg [5] (n + 1) (fun g i wr => ∃ k : Nat, k ≤ n ∧ g = n + 1 - k ∧ i = .int .i64 (k : Int) ∧ (∀ u ∈ xs.take k, (fun u : List UInt8 => withinB key u) u = false) ∧ Below w.heap.size w wr)
  case atStart => exact ⟨0, Nat.zero_le _, rfl, rfl, by simp, Below.refl _ _⟩
  case round =>
    obtain ⟨k, hk, rfl, rfl, hno, hbr⟩ := hrel
    have hz := hbr.size
    by_cases hlt : k < n
    · obtain ⟨bA, oA, u, rfl, hbA, hp, hcp⟩ := (hA.below hbr).at_ hlt
      have p0 := hcp 0 _ rfl
      rw [Nat.add_zero, Nat.mul_one] at p0
      clear hcp
      have hum := List.mem_of_getElem? hp
      have hnoH := Lib.hid hno
      have hpH := Lib.hid hp
      have hlti : (k : Int) < (n : Int) := by omega
      clear hno hp
      have hpe := rwithin_any key u hkey (hx u hum) wr
      cases hc : withinB key u with
      | false =>
        rw [hc] at hpe
        have hT : Hid ((fun u : List UInt8 => withinB key u) u = false) := Lib.hid hc
        have hG := hbr
        clear hc
        go_wp2_with fail
        refine hpe.mono ?_
        rintro e w' ⟨rfl, rfl⟩
        go_wp2
        go_roundg (n + 1 - (k + 1))
        case measure => omega
        case rel => exact ⟨k + 1, by omega, rfl, by go_num, all_take_succ hnoH.out hpH.out hT.out, hG⟩
      | true =>
        rw [hc] at hpe
        have hT : Hid (true = r) := Lib.hid (by rw [← hrH.out]; symm; exact hasW_iff.2 ⟨u, hum, hc⟩)
        clear hc
        go_wp2_with fail
        refine hpe.mono ?_
        rintro e w' ⟨rfl, rfl⟩
        go_wp2
        go_ret
        exact ⟨ret_bool hT.out, hbr⟩
    · skip
      obtain rfl : k = n := by omega
      have hnli : ¬ (k : Int) < (k : Int) := by omega
      have hall := all_take_all hno hl
      have hT : Hid (false = r) := Lib.hid (by rw [← hrH.out]; symm; exact hasW_false.2 hall)
      clear hall hno
      go_wp2
      go_ret
      exact ⟨ret_bool hT.out, hbr⟩
end Go.Proofs.YtelipindcacphaaDoor
