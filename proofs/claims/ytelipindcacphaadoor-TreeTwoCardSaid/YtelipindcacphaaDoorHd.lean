/- Prefixes, both: part, within, Prefix, Within, and the closures on one text. -/
import Derived.Test.YtelipindcacphaaDoorHb
import Derived.Test.YtelipindcacphaaDoorHa
import Derived.Test.YtelipindcacphaaDoorShP
namespace Go.Proofs.YtelipindcacphaaDoor
open Go.RowKit

theorem baH_get (s : ByteArray) {i : Nat} (h : i < s.size) : s.data.toList[i]? = some s[i] := by
  rw [List.getElem?_eq_getElem (by rw [Array.length_toList]; exact h)]; rfl
theorem baH_len (s : ByteArray) : s.data.toList.length = s.size := by rw [Array.length_toList]; rfl
theorem baH_list (s : ByteArray) : s.toList = s.data.toList := ByteArray.toList_eq ..
theorem okC_iff (c : UInt8) : okC c = true ↔ (97 ≤ c.toNat ∧ c.toNat ≤ 122) ∨ (48 ≤ c.toNat ∧ c.toNat ≤ 57) := by unfold okC; exact decide_eq_true_iff
theorem okC_no (c : UInt8) : okC c = false ↔ ¬ ((97 ≤ c.toNat ∧ c.toNat ≤ 122) ∨ (48 ≤ c.toNat ∧ c.toNat ≤ 57)) := by unfold okC; exact decide_eq_false_iff_not
set_option maxRecDepth 100000 in
set_option maxHeartbeats 1000000 in
theorem tpart_any (s : ByteArray) (hs : s.size ≤ maxLen) (w : World) :
    Calls Tryd.prog 49 #[.string s] w fun e w' => e = .returned (.bool (partB s.data.toList)) ∧ w = w' := by
  generalize hr : partB s.data.toList = r
  have hrH := Lib.hid hr
  have hlH := Lib.hid (baH_len s)
  clear hr
  unfold maxLen at hs
  go_enter Tryd.func49, Tryd.ntmps49
  go_wp2
  go_loopg [7] (s.size + 1) (fun g i wr => ∃ k : Nat, k ≤ s.size ∧ g = s.size + 1 - k ∧ i = .int .i64 (k : Int) ∧ (∀ u ∈ s.data.toList.take k, okC u = true) ∧ wr = w)
  case atStart => exact ⟨0, Nat.zero_le _, rfl, rfl, by simp, rfl⟩
  case round =>
    obtain ⟨k, hk, rfl, rfl, hall, rfl⟩ := hrel
    by_cases hlt : k < s.size
    · have hg := baH_get s hlt
      have hlti : (k : Int) < (s.size : Int) := by omega
      have hc1 : s[k].toNat < 256 := s[k].toNat_lt
      cases hok : okC s[k] with
      | true =>
        have hT : Hid (∀ u ∈ s.data.toList.take (k + 1), okC u = true) := Lib.hid (all_take_succ hall hg hok)
        have hcc := (okC_iff _).1 hok
        clear hall hg hok
        by_cases ha : 97 ≤ s[k].toNat
        · skip
          have d1 : decide ((s[k].toNat : Int) < 97) = false := by first | exact decide_eq_true (by omega) | exact decide_eq_false (by omega)
          have d2 : decide ((122 : Int) < (s[k].toNat : Int)) = false := by first | exact decide_eq_true (by omega) | exact decide_eq_false (by omega)
          have d3 : decide ((s[k].toNat : Int) < 48) = false := by first | exact decide_eq_true (by omega) | exact decide_eq_false (by omega)
          have d4 : decide ((57 : Int) < (s[k].toNat : Int)) = true := by first | exact decide_eq_true (by omega) | exact decide_eq_false (by omega)
          clear hcc
          go_wp2
          go_roundg (s.size + 1 - (k + 1))
          case measure => omega
          case rel => exact ⟨k + 1, by omega, rfl, by go_num, hT.out, rfl⟩
        · skip
          have d1 : decide ((s[k].toNat : Int) < 97) = true := by first | exact decide_eq_true (by omega) | exact decide_eq_false (by omega)
          have d2 : decide ((122 : Int) < (s[k].toNat : Int)) = false := by first | exact decide_eq_true (by omega) | exact decide_eq_false (by omega)
          have d3 : decide ((s[k].toNat : Int) < 48) = false := by first | exact decide_eq_true (by omega) | exact decide_eq_false (by omega)
          have d4 : decide ((57 : Int) < (s[k].toNat : Int)) = false := by first | exact decide_eq_true (by omega) | exact decide_eq_false (by omega)
          clear hcc
          go_wp2
          go_roundg (s.size + 1 - (k + 1))
          case measure => omega
          case rel => exact ⟨k + 1, by omega, rfl, by go_num, hT.out, rfl⟩
      | false =>
        have hT : Hid (false = r) := Lib.hid (by
          rw [← hrH.out]; unfold partB; rw [List.all_eq_false.2 ⟨s[k], List.mem_of_getElem? hg, by simp [hok]⟩, Bool.and_false])
        have hcc := (okC_no _).1 hok
        clear hall hg hok
        by_cases ha : 97 ≤ s[k].toNat
        · skip
          have d1 : decide ((s[k].toNat : Int) < 97) = false := by first | exact decide_eq_true (by omega) | exact decide_eq_false (by omega)
          have d2 : decide ((122 : Int) < (s[k].toNat : Int)) = true := by first | exact decide_eq_true (by omega) | exact decide_eq_false (by omega)
          have d3 : decide ((s[k].toNat : Int) < 48) = false := by first | exact decide_eq_true (by omega) | exact decide_eq_false (by omega)
          have d4 : decide ((57 : Int) < (s[k].toNat : Int)) = true := by first | exact decide_eq_true (by omega) | exact decide_eq_false (by omega)
          clear hcc
          go_wp2
          go_ret
          exact ⟨ret_bool hT.out, rfl⟩
        · by_cases hb : s[k].toNat < 48
          · skip
            have d1 : decide ((s[k].toNat : Int) < 97) = true := by first | exact decide_eq_true (by omega) | exact decide_eq_false (by omega)
            have d2 : decide ((122 : Int) < (s[k].toNat : Int)) = false := by first | exact decide_eq_true (by omega) | exact decide_eq_false (by omega)
            have d3 : decide ((s[k].toNat : Int) < 48) = true := by first | exact decide_eq_true (by omega) | exact decide_eq_false (by omega)
            have d4 : decide ((57 : Int) < (s[k].toNat : Int)) = false := by first | exact decide_eq_true (by omega) | exact decide_eq_false (by omega)
            clear hcc
            go_wp2
            go_ret
            exact ⟨ret_bool hT.out, rfl⟩
          · skip
            have d1 : decide ((s[k].toNat : Int) < 97) = true := by first | exact decide_eq_true (by omega) | exact decide_eq_false (by omega)
            have d2 : decide ((122 : Int) < (s[k].toNat : Int)) = false := by first | exact decide_eq_true (by omega) | exact decide_eq_false (by omega)
            have d3 : decide ((s[k].toNat : Int) < 48) = false := by first | exact decide_eq_true (by omega) | exact decide_eq_false (by omega)
            have d4 : decide ((57 : Int) < (s[k].toNat : Int)) = true := by first | exact decide_eq_true (by omega) | exact decide_eq_false (by omega)
            clear hcc
            go_wp2
            go_ret
            exact ⟨ret_bool hT.out, rfl⟩
    · obtain rfl : k = s.size := by omega
      have hnli : ¬ (s.size : Int) < (s.size : Int) := by omega
      have ha : s.data.toList.all okC = true := List.all_eq_true.2 (all_take_all hall hlH.out)
      by_cases h0 : s.data.toList = []
      · have hT : Hid (false = r) := Lib.hid (by rw [← hrH.out]; unfold partB; rw [h0]; rfl)
        have hq : s.toList.isEmpty = true := by rw [baH_list, h0]; rfl
        clear hall ha h0
        go_wp2
        go_ret
        exact ⟨ret_bool hT.out, rfl⟩
      · have hT : Hid (true = r) := Lib.hid (by rw [← hrH.out]; unfold partB; rw [ha, show s.data.toList.isEmpty = false from by rw [List.isEmpty_eq_false_iff]; exact h0]; rfl)
        have hq : s.toList.isEmpty = false := by rw [baH_list, List.isEmpty_eq_false_iff]; exact h0
        clear hall ha h0
        go_wp2
        go_ret
        exact ⟨ret_bool hT.out, rfl⟩
def prefErr (s : List UInt8) : Int := if 24 < s.length then 8 else if prefOk s = true then 0 else 3
set_option maxRecDepth 100000 in
set_option maxHeartbeats 1000000 in
theorem rprefix_any (s : ByteArray) (hs : s.size ≤ maxLen) (w : World) :
    Calls Tryd.prog 29 #[.string s] w fun e w' => e = .returned (.int .i64 (prefErr s.data.toList)) ∧ w = w' := by
  generalize hr : prefErr s.data.toList = r
  unfold prefErr at hr
  rw [baH_len] at hr
  unfold maxLen at hs
  by_cases h24 : 24 < s.size
  · rw [if_pos h24] at hr
    subst hr
    have hd : decide ((24 : Int) < (s.size : Int)) = true := decide_eq_true (by omega)
    go_enter Tryd.func29, Tryd.ntmps29
    go_wp2
    go_ret
    exact ⟨rfl, rfl⟩
  rw [if_neg h24] at hr
  have hd : decide ((24 : Int) < (s.size : Int)) = false := decide_eq_false (by omega)
  have hrH := Lib.hid hr
  have hlH := Lib.hid (baH_len s)
  clear hr
  go_enter Tryd.func29, Tryd.ntmps29
  go_wp2
  go_loopg [3, 4] (s.size + 1) (fun g q i wr => ∃ k m : Nat, k ≤ s.size ∧ m ≤ k ∧ g = s.size + 1 - k ∧ q = .int .i64 (m : Int) ∧ i = .int .i64 (k : Int) ∧ pre m (s.data.toList.drop k) = pre 0 s.data.toList ∧ wr = w)
  case atStart => exact ⟨0, 0, Nat.zero_le _, Nat.le_refl _, rfl, rfl, rfl, rfl, rfl⟩
  case round =>
    obtain ⟨k, m, hk, hmk, rfl, rfl, rfl, hpre, rfl⟩ := hrel
    by_cases hlt : k < s.size
    · have hg := baH_get s hlt
      have hlti : (k : Int) < (s.size : Int) := by omega
      have hc1 : s[k].toNat < 256 := s[k].toNat_lt
      have hdr : s.data.toList.drop k = s[k] :: s.data.toList.drop (k + 1) := by
        rw [List.drop_eq_getElem_cons (by rw [baH_len]; exact hlt)]; rfl
      rw [hdr, pre] at hpre
      have hne : prefOk s.data.toList = pre 0 s.data.toList := by
        unfold prefOk
        rw [show s.data.toList.isEmpty = false from by rw [List.isEmpty_eq_false_iff]; intro e; rw [e] at hg; simp at hg, Bool.false_or]
      rw [← hne] at hpre
      have hneH := Lib.hid hne
      clear hne
      cases hok : okC s[k] with
      | true =>
        rw [if_pos hok] at hpre
        have hT : Hid (pre (m + 1) (s.data.toList.drop (k + 1)) = pre 0 s.data.toList) := Lib.hid (by rw [← hneH.out]; exact hpre)
        have hcc := (okC_iff _).1 hok
        clear hpre hg hok hdr
        by_cases ha : 97 ≤ s[k].toNat
        · skip
          have d1 : decide ((97 : Int) ≤ (s[k].toNat : Int)) = true := by first | exact decide_eq_true (by omega) | exact decide_eq_false (by omega)
          have d2 : decide ((s[k].toNat : Int) ≤ 122) = true := by first | exact decide_eq_true (by omega) | exact decide_eq_false (by omega)
          have d3 : decide ((48 : Int) ≤ (s[k].toNat : Int)) = true := by first | exact decide_eq_true (by omega) | exact decide_eq_false (by omega)
          have d4 : decide ((s[k].toNat : Int) ≤ 57) = false := by first | exact decide_eq_true (by omega) | exact decide_eq_false (by omega)
          have d5 : ((s[k].toNat : Int) == 47) = false := by first | (rw [beq_eq_false_iff_ne]; omega) | (rw [beq_iff_eq]; omega)
          clear hcc
          go_wp2
          go_roundg (s.size + 1 - (k + 1))
          case measure => omega
          case rel => exact ⟨k + 1, m + 1, by omega, by omega, rfl, by go_num, by go_num, hT.out, rfl⟩
        · skip
          have d1 : decide ((97 : Int) ≤ (s[k].toNat : Int)) = false := by first | exact decide_eq_true (by omega) | exact decide_eq_false (by omega)
          have d2 : decide ((s[k].toNat : Int) ≤ 122) = true := by first | exact decide_eq_true (by omega) | exact decide_eq_false (by omega)
          have d3 : decide ((48 : Int) ≤ (s[k].toNat : Int)) = true := by first | exact decide_eq_true (by omega) | exact decide_eq_false (by omega)
          have d4 : decide ((s[k].toNat : Int) ≤ 57) = true := by first | exact decide_eq_true (by omega) | exact decide_eq_false (by omega)
          have d5 : ((s[k].toNat : Int) == 47) = false := by first | (rw [beq_eq_false_iff_ne]; omega) | (rw [beq_iff_eq]; omega)
          clear hcc
          go_wp2
          go_roundg (s.size + 1 - (k + 1))
          case measure => omega
          case rel => exact ⟨k + 1, m + 1, by omega, by omega, rfl, by go_num, by go_num, hT.out, rfl⟩
      | false =>
        rw [if_neg (by rw [hok]; simp)] at hpre
        have hcc := (okC_no _).1 hok
        by_cases h47 : s[k] = 47
        · have h47n : s[k].toNat = 47 := by rw [h47]; rfl
          by_cases hm : 0 < m
          · rw [if_pos ⟨h47, hm⟩] at hpre
            have hT : Hid (pre 0 (s.data.toList.drop (k + 1)) = pre 0 s.data.toList) := Lib.hid (by rw [← hneH.out]; exact hpre)
            clear hpre hg hok hdr h47
            have d1 : decide ((97 : Int) ≤ (s[k].toNat : Int)) = false := by first | exact decide_eq_true (by omega) | exact decide_eq_false (by omega)
            have d2 : decide ((s[k].toNat : Int) ≤ 122) = true := by first | exact decide_eq_true (by omega) | exact decide_eq_false (by omega)
            have d3 : decide ((48 : Int) ≤ (s[k].toNat : Int)) = false := by first | exact decide_eq_true (by omega) | exact decide_eq_false (by omega)
            have d4 : decide ((s[k].toNat : Int) ≤ 57) = true := by first | exact decide_eq_true (by omega) | exact decide_eq_false (by omega)
            have d5 : ((s[k].toNat : Int) == 47) = true := by first | (rw [beq_eq_false_iff_ne]; omega) | (rw [beq_iff_eq]; omega)
            clear hcc h47n
            go_wp2
            go_roundg (s.size + 1 - (k + 1))
            case measure => omega
            case rel => exact ⟨k + 1, 0, by omega, by omega, rfl, rfl, by go_num, hT.out, rfl⟩
          · rw [if_neg (fun e => hm e.2)] at hpre
            have hT : Hid (3 = r) := Lib.hid (by rw [← hrH.out, ← hpre]; rfl)
            obtain rfl : m = 0 := by omega
            clear hpre hg hok hdr h47
            have d1 : decide ((97 : Int) ≤ (s[k].toNat : Int)) = false := by first | exact decide_eq_true (by omega) | exact decide_eq_false (by omega)
            have d2 : decide ((s[k].toNat : Int) ≤ 122) = true := by first | exact decide_eq_true (by omega) | exact decide_eq_false (by omega)
            have d3 : decide ((48 : Int) ≤ (s[k].toNat : Int)) = false := by first | exact decide_eq_true (by omega) | exact decide_eq_false (by omega)
            have d4 : decide ((s[k].toNat : Int) ≤ 57) = true := by first | exact decide_eq_true (by omega) | exact decide_eq_false (by omega)
            have d5 : ((s[k].toNat : Int) == 47) = true := by first | (rw [beq_eq_false_iff_ne]; omega) | (rw [beq_iff_eq]; omega)
            clear hcc h47n
            go_wp2
            go_ret
            exact ⟨ret_int hT.out, rfl⟩
        · rw [if_neg (fun e => h47 e.1)] at hpre
          have h47n : s[k].toNat ≠ 47 := fun e => h47 (UInt8.toNat_inj.1 e)
          have hT : Hid (3 = r) := Lib.hid (by rw [← hrH.out, ← hpre]; rfl)
          clear hpre hg hok hdr h47
          by_cases ha : 97 ≤ s[k].toNat
          · skip
            have d1 : decide ((97 : Int) ≤ (s[k].toNat : Int)) = true := by first | exact decide_eq_true (by omega) | exact decide_eq_false (by omega)
            have d2 : decide ((s[k].toNat : Int) ≤ 122) = false := by first | exact decide_eq_true (by omega) | exact decide_eq_false (by omega)
            have d3 : decide ((48 : Int) ≤ (s[k].toNat : Int)) = true := by first | exact decide_eq_true (by omega) | exact decide_eq_false (by omega)
            have d4 : decide ((s[k].toNat : Int) ≤ 57) = false := by first | exact decide_eq_true (by omega) | exact decide_eq_false (by omega)
            have d5 : ((s[k].toNat : Int) == 47) = false := by first | (rw [beq_eq_false_iff_ne]; omega) | (rw [beq_iff_eq]; omega)
            clear hcc
            go_wp2
            go_ret
            exact ⟨ret_int hT.out, rfl⟩
          · by_cases hb : s[k].toNat < 48
            · skip
              have d1 : decide ((97 : Int) ≤ (s[k].toNat : Int)) = false := by first | exact decide_eq_true (by omega) | exact decide_eq_false (by omega)
              have d2 : decide ((s[k].toNat : Int) ≤ 122) = true := by first | exact decide_eq_true (by omega) | exact decide_eq_false (by omega)
              have d3 : decide ((48 : Int) ≤ (s[k].toNat : Int)) = false := by first | exact decide_eq_true (by omega) | exact decide_eq_false (by omega)
              have d4 : decide ((s[k].toNat : Int) ≤ 57) = true := by first | exact decide_eq_true (by omega) | exact decide_eq_false (by omega)
              have d5 : ((s[k].toNat : Int) == 47) = false := by first | (rw [beq_eq_false_iff_ne]; omega) | (rw [beq_iff_eq]; omega)
              clear hcc
              go_wp2
              go_ret
              exact ⟨ret_int hT.out, rfl⟩
            · skip
              have d1 : decide ((97 : Int) ≤ (s[k].toNat : Int)) = false := by first | exact decide_eq_true (by omega) | exact decide_eq_false (by omega)
              have d2 : decide ((s[k].toNat : Int) ≤ 122) = true := by first | exact decide_eq_true (by omega) | exact decide_eq_false (by omega)
              have d3 : decide ((48 : Int) ≤ (s[k].toNat : Int)) = true := by first | exact decide_eq_true (by omega) | exact decide_eq_false (by omega)
              have d4 : decide ((s[k].toNat : Int) ≤ 57) = false := by first | exact decide_eq_true (by omega) | exact decide_eq_false (by omega)
              have d5 : ((s[k].toNat : Int) == 47) = false := by first | (rw [beq_eq_false_iff_ne]; omega) | (rw [beq_iff_eq]; omega)
              clear hcc
              go_wp2
              go_ret
              exact ⟨ret_int hT.out, rfl⟩
    · obtain rfl : k = s.size := by omega
      have hnli : ¬ (s.size : Int) < (s.size : Int) := by omega
      rw [List.drop_eq_nil_of_le (by rw [baH_len]; exact Nat.le_refl _), pre] at hpre
      by_cases h0 : s.size = 0
      · have hT : Hid (0 = r) := Lib.hid (by
          have : s.data.toList = [] := List.eq_nil_of_length_eq_zero (by rw [baH_len]; exact h0)
          rw [← hrH.out, this]; rfl)
        have hd0 : decide ((0 : Int) < (s.size : Int)) = false := decide_eq_false (by omega)
        have hd1 : decide (0 < s.size) = false := decide_eq_false (by omega)
        clear hpre h0
        go_wp2
        go_ret
        exact ⟨ret_int hT.out, rfl⟩
      · have hne : prefOk s.data.toList = pre 0 s.data.toList := by
          unfold prefOk
          rw [show s.data.toList.isEmpty = false from by rw [List.isEmpty_eq_false_iff]; intro e; apply h0; rw [← baH_len, e]; rfl, Bool.false_or]
        have hd0 : decide ((0 : Int) < (s.size : Int)) = true := decide_eq_true (by omega)
        have hd1 : decide (0 < s.size) = true := decide_eq_true (by omega)
        by_cases hm : 0 < m
        · have hT : Hid (0 = r) := Lib.hid (by rw [← hrH.out, hne, ← hpre, decide_eq_true hm]; rfl)
          have hm0 : ((m : Int) == 0) = false := by rw [beq_eq_false_iff_ne]; omega
          clear hpre h0 hne
          go_wp2
          go_ret
          exact ⟨ret_int hT.out, rfl⟩
        · have hT : Hid (3 = r) := Lib.hid (by rw [← hrH.out, hne, ← hpre, decide_eq_false hm]; rfl)
          obtain rfl : m = 0 := by omega
          clear hpre h0 hne
          go_wp2
          go_ret
          exact ⟨ret_int hT.out, rfl⟩
theorem hasPrefix_eq (s p : List UInt8) : Lib.hasPrefix s p = p.isPrefixOf s := rfl
set_option maxRecDepth 100000 in
theorem twithin_any (s p : List UInt8) (_hs : s.length ≤ maxLen) (hp : p.length ≤ 1099511627776) (w : World) :
    Calls Tryd.prog 28 #[.string (bs s), .string (bs p)] w fun e w' => e = .returned (.bool (withinB s p)) ∧ w = w' := by
  generalize hr : withinB s p = r
  have hrH := Lib.hid hr
  clear hr
  by_cases h0 : p = []
  · have hq : (bs p).toList.isEmpty = true := by rw [bs_emptyH, h0]; rfl
    have hT : Hid (true = r) := Lib.hid (by rw [← hrH.out]; unfold withinB; rw [h0]; rfl)
    clear h0
    go_enter Tryd.func28, Tryd.ntmps28
    go_wp2
    go_ret
    exact ⟨ret_bool hT.out, rfl⟩
  have hq : (bs p).toList.isEmpty = false := by rw [bs_emptyH, List.isEmpty_eq_false_iff]; exact h0
  by_cases h1 : s = p
  · have hqb : ((bs s).toList == (bs p).toList) = true := by rw [bs_emptyH, bs_emptyH, h1]; simp
    have hT : Hid (true = r) := Lib.hid (by rw [← hrH.out]; unfold withinB; rw [decide_eq_true h1, Bool.or_true]; rfl)
    clear h0 h1
    go_enter Tryd.func28, Tryd.ntmps28
    go_wp2
    go_ret
    exact ⟨ret_bool hT.out, rfl⟩
  have hqb : ((bs s).toList == (bs p).toList) = false := by rw [bs_emptyH, bs_emptyH, beq_eq_false_iff_ne]; exact h1
  have hT : Hid (Lib.hasPrefix (bs s).data.toList (bs p ++ ⟨#[47]⟩).data.toList = r) := Lib.hid (by
    rw [← hrH.out, show (⟨#[47]⟩ : ByteArray) = bs [47] from rfl, bs_append, bs_list, bs_list, hasPrefix_eq]
    unfold withinB
    rw [decide_eq_false h1, show p.isEmpty = false from by rw [List.isEmpty_eq_false_iff]; exact h0]
    rfl)
  have hsz : ¬ 9223372036854775807 < (bs p).size + ByteArray.size ⟨#[47]⟩ := by rw [bs_size, show ByteArray.size ⟨#[47]⟩ = 1 from rfl]; omega
  clear h0 h1 hrH
  go_enter Tryd.func28, Tryd.ntmps28
  go_wp2_with fail
  refine (shHasPrefix _ _ _).mono ?_
  rintro e w' ⟨rfl, rfl⟩
  go_wp2
  go_ret
  exact ⟨ret_bool hT.out, rfl⟩
set_option maxRecDepth 100000 in
theorem rwithin_any (s p : List UInt8) (hs : s.length ≤ maxLen) (_hp : p.length ≤ maxLen) (w : World) :
    Calls Tryd.prog 30 #[.string (bs s), .string (bs p)] w fun e w' => e = .returned (.bool (withinB s p)) ∧ w = w' := by
  generalize hr : withinB s p = r
  rw [within_doc] at hr
  have hrH := Lib.hid hr
  clear hr
  unfold maxLen at hs _hp
  have zs := bs_size s
  have zp := bs_size p
  by_cases h0 : p = []
  · have hq : (bs p).toList.isEmpty = true := by rw [bs_emptyH, h0]; rfl
    have hT : Hid (true = r) := Lib.hid (by rw [← hrH.out, h0]; rfl)
    clear h0 zs zp
    go_enter Tryd.func30, Tryd.ntmps30
    go_wp2
    go_ret
    exact ⟨ret_bool hT.out, rfl⟩
  have hq : (bs p).toList.isEmpty = false := by rw [bs_emptyH, List.isEmpty_eq_false_iff]; exact h0
  by_cases h1 : s = p
  · have hqb : ((bs s).toList == (bs p).toList) = true := by rw [bs_emptyH, bs_emptyH, h1]; simp
    have hT : Hid (true = r) := Lib.hid (by rw [← hrH.out, decide_eq_true h1, Bool.or_true]; rfl)
    clear h0 h1 zs zp
    go_enter Tryd.func30, Tryd.ntmps30
    go_wp2
    go_ret
    exact ⟨ret_bool hT.out, rfl⟩
  have hqb : ((bs s).toList == (bs p).toList) = false := by rw [bs_emptyH, bs_emptyH, beq_eq_false_iff_ne]; exact h1
  have hr2 : (decide (p.length < s.length) && decide (s.take p.length = p) && decide (s[p.length]? = some 47)) = r := by
    rw [← hrH.out, decide_eq_false h1, show p.isEmpty = false from by rw [List.isEmpty_eq_false_iff]; exact h0]; rfl
  have hr2H := Lib.hid hr2
  clear h0 h1 hr2 hrH
  by_cases h2 : p.length < s.length
  case neg =>
    have hd : decide (((bs p).size : Int) < ((bs s).size : Int)) = false := decide_eq_false (by omega)
    have hd2 : decide ((bs p).size < (bs s).size) = false := decide_eq_false (by omega)
    have hT : Hid (false = r) := Lib.hid (by rw [← hr2H.out, decide_eq_false h2]; rfl)
    clear h2 zs zp
    go_enter Tryd.func30, Tryd.ntmps30
    go_wp2
    go_ret
    exact ⟨ret_bool hT.out, rfl⟩
  have hd : decide (((bs p).size : Int) < ((bs s).size : Int)) = true := decide_eq_true (by omega)
  have hd2 : decide ((bs p).size < (bs s).size) = true := decide_eq_true (by omega)
  have hps : (bs p).size < (bs s).size := by omega
  have hps2 : (bs p).size ≤ (bs s).size := by omega
  have hps3 : ((bs p).size : Int) < ((bs s).size : Int) := by omega
  have hps4 : (bs s).size ≤ 9223372036854775807 := by omega
  have htk : ((bs s).extract 0 (bs p).size).toList = s.take p.length := by
    rw [baH_list, zp]
    show ((bs s).extract 0 p.length).data.toList = _
    rw [Lib.extract_from_zero]; rfl
  have hat : s[p.length]? = some (bs s)[(bs p).size] := by
    have h9 := baH_get (bs s) hps
    rw [bs_list] at h9
    rw [← h9]
    congr 1
  by_cases h3 : s.take p.length = p
  case neg =>
    have hqc : (((bs s).extract 0 (bs p).size).toList == (bs p).toList) = false := by rw [htk, bs_emptyH, beq_eq_false_iff_ne]; exact h3
    have hT : Hid (false = r) := Lib.hid (by rw [← hr2H.out, decide_eq_false h3, Bool.and_false]; rfl)
    clear h3 zs zp htk hat h2
    go_enter Tryd.func30, Tryd.ntmps30
    go_wp2
    go_ret
    exact ⟨ret_bool hT.out, rfl⟩
  have hqc : (((bs s).extract 0 (bs p).size).toList == (bs p).toList) = true := by rw [htk, bs_emptyH, h3]; simp
  by_cases h4 : (bs s)[(bs p).size] = 47
  · have hT : Hid (true = r) := Lib.hid (by rw [← hr2H.out, hat, h4, decide_eq_true h3, decide_eq_true h2]; rfl)
    have hqd : (((bs s)[(bs p).size].toNat : Int) == 47) = true := by rw [h4]; rfl
    clear h3 zs zp htk hat h2 h4
    go_enter Tryd.func30, Tryd.ntmps30
    go_wp2
    go_ret
    exact ⟨ret_bool hT.out, rfl⟩
  · have hT : Hid (false = r) := Lib.hid (by rw [← hr2H.out, hat, decide_eq_false (show ¬ some (bs s)[(bs p).size] = some 47 from fun e => h4 (by injection e)), Bool.and_false])
    have hqd : (((bs s)[(bs p).size].toNat : Int) == 47) = false := by
      rw [beq_eq_false_iff_ne]
      intro e
      apply h4
      apply UInt8.toNat_inj.1
      show _ = 47
      omega
    clear h3 zs zp htk hat h2 h4
    go_enter Tryd.func30, Tryd.ntmps30
    go_wp2
    go_ret
    exact ⟨ret_bool hT.out, rfl⟩
/-- The closures on one text. -/
theorem tchk1_any (s : List UInt8) (hs : s.length ≤ maxLen) (w : World) :
    Calls Tryd.prog 46 #[.string (bs s)] w fun e w' => e = .returned (.bool (decide (24 < s.length))) ∧ w = w' := by
  have zs := bs_size s
  unfold maxLen at hs
  by_cases h : 24 < s.length
  · have hT : Hid (true = decide (24 < s.length)) := Lib.hid (decide_eq_true h).symm
    have hd : decide ((24 : Int) < (((bs s).size : Nat) : Int)) = true := decide_eq_true (by omega)
    generalize decide (24 < s.length) = r at hT
    clear zs
    go_enter Tryd.func46, Tryd.ntmps46
    go_wp2
    go_ret
    exact ⟨ret_bool hT.out, rfl⟩
  · have hT : Hid (false = decide (24 < s.length)) := Lib.hid (decide_eq_false h).symm
    have hd : decide ((24 : Int) < (((bs s).size : Nat) : Int)) = false := decide_eq_false (by omega)
    generalize decide (24 < s.length) = r at hT
    clear zs
    go_enter Tryd.func46, Tryd.ntmps46
    go_wp2
    go_ret
    exact ⟨ret_bool hT.out, rfl⟩
theorem tchk2_any (s : List UInt8) (hs : s.length ≤ maxLen) (w : World) :
    Calls Tryd.prog 48 #[.string (bs s)] w fun e w' => e = .returned (.bool (!partB s)) ∧ w = w' := by
  have h := tpart_any (bs s) (by rw [bs_size]; exact hs) w
  rw [bs_list] at h
  generalize partB s = r at h
  go_enter Tryd.func48, Tryd.ntmps48
  go_wp2_with fail
  refine h.mono ?_
  rintro e w' ⟨rfl, rfl⟩
  go_wp2
  go_ret
  exact ⟨rfl, rfl⟩
end Go.Proofs.YtelipindcacphaaDoor
