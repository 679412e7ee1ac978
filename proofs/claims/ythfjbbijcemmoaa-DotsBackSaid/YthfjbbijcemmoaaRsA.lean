/- octet.number: the number at the front of bytes. -/
import Derived.Test.YthfjbbijcemmoaaOcB
import Derived.Laws.BitsAllLaws
namespace Go.Proofs.Ythfjbbijcemmoaa
open Go.RowKit

theorem ba_len (s : ByteArray) : s.data.toList.length = s.size := by rw [Array.length_toList]; rfl
theorem ba_get (s : ByteArray) {i : Nat} (h : i < s.size) : s.data.toList[i]? = some s[i] := by
  rw [List.getElem?_eq_getElem (by rw [ba_len]; exact h)]
  rfl
theorem ba_ne {s : ByteArray} (h : 0 < s.size) : s.toList.isEmpty = false := by
  rw [ByteArray.toList_eq, List.isEmpty_eq_false_iff]
  intro h0
  have := ba_len s
  rw [h0] at this
  simp at this; omega
theorem or256 (v c : Nat) (hv : v < 72057594037927936) (hc : c < 256) : bits .or .u64 ((v : Int) * 256) (c : Int) = ((v * 256 + c : Nat) : Int) := by
  have h := u64_or_nat (v * 256) c (by omega) (by omega)
  rw [show ((v * 256 : Nat) : Int) = (v : Int) * 256 from by omega] at h
  rw [h]
  congr 1
  rw [show v * 256 = v <<< 8 from by rw [Nat.shiftLeft_eq], Nat.shiftLeft_add_eq_or_of_lt (by simpa using hc)]

set_option maxRecDepth 100000 in
set_option maxHeartbeats 1000000 in
theorem number_any (s : ByteArray) (hs : s.size ≤ 1099511627776) (w : World) :
    Calls Try.prog 119 #[.string s] w fun e w' => e = .returned (.tuple #[.int .u64 ((numR s.data.toList).1 : Int), .int .i64 ((numR s.data.toList).2.1 : Int), .int .i64 (numR s.data.toList).2.2]) ∧ w = w' := by
  have hl := ba_len s
  by_cases h0 : s.size = 0
  · have : s = ⟨#[]⟩ := by
      rw [← bs_of s, List.eq_nil_of_length_eq_zero (hl.trans h0)]; rfl
    subst this
    clear hl
    go_enter Try.func119, Try.ntmps119
    go_wp2
    exact bodyPost_ret (v := .tuple #[.int .u64 0, .int .i64 0, .int .i64 1]) (by simp [results, Try.results119, go_sem]) rfl ⟨rfl, rfl⟩
  · have hpos : 0 < s.size := by omega
    have hcons : s.data.toList = s[0] :: s.data.toList.tail := by
      have := ba_get s hpos
      cases hd : s.data.toList with
      | nil => rw [hd] at this; cases this
      | cons a r => rw [hd] at this; simp at this; rw [this]; rfl
    obtain ⟨v, m, er, hr⟩ : ∃ v m er, numR s.data.toList = (v, m, er) := ⟨_, _, _, rfl⟩
    rw [hr]
    rw [hcons] at hr
    simp only [numR, List.length_tail, hl] at hr
    have hne := ba_ne hpos
    have hc256 := s[0].toNat_lt
    have hpi : (0 : Int) < (s.size : Int) := by omega
    by_cases h8 : 8 < s[0].toNat
    · rw [if_pos h8] at hr
      injection hr with hv hr
      injection hr with hm he
      subst hv hm he
      have h8i : decide ((9 : Int) < 1 + (s[0].toNat : Int)) = true := decide_eq_true (by omega)
      clear hcons hl h0
      go_enter Try.func119, Try.ntmps119
      go_wp2
      exact bodyPost_ret (v := .tuple #[.int .u64 0, .int .i64 0, .int .i64 3]) (by simp [results, Try.results119, go_sem]) rfl ⟨rfl, rfl⟩
    · rw [if_neg h8] at hr
      have h8i : decide ((9 : Int) < 1 + (s[0].toNat : Int)) = false := decide_eq_false (by omega)
      by_cases h9 : s.size - 1 < s[0].toNat
      · rw [if_pos h9] at hr
        injection hr with hv hr
        injection hr with hm he
        subst hv hm he
        have h9i : decide ((s.size : Int) < 1 + (s[0].toNat : Int)) = true := decide_eq_true (by omega)
        clear hcons hl h0
        go_enter Try.func119, Try.ntmps119
        go_wp2
        exact bodyPost_ret (v := .tuple #[.int .u64 0, .int .i64 0, .int .i64 1]) (by simp [results, Try.results119, go_sem]) rfl ⟨rfl, rfl⟩
      · rw [if_neg h9] at hr
        have h9i : decide ((s.size : Int) < 1 + (s[0].toNat : Int)) = false := decide_eq_false (by omega)
        by_cases hz : 0 < s[0].toNat
        · have h1 : 1 < s.size := by omega
          have hhead : s.data.toList.tail.head? = some s[1] := by
            have h2 := ba_get s h1
            rw [hcons] at h2
            rw [List.head?_eq_getElem?]
            simpa using h2
          have hzi : decide ((1 : Int) < 1 + (s[0].toNat : Int)) = true := decide_eq_true (by omega)
          by_cases hb0 : s[1] = 0
          · rw [if_pos ⟨hz, by rw [hhead, hb0]⟩] at hr
            injection hr with hv hr
            injection hr with hm he
            subst hv hm he
            have hb1 : (s[1].toNat : Int) = 0 := by rw [hb0]; rfl
            have hone : (1 : Int) < (s.size : Int) := by omega
            clear hcons hl h0 hhead hb0
            go_enter Try.func119, Try.ntmps119
            go_wp2
            exact bodyPost_ret (v := .tuple #[.int .u64 0, .int .i64 0, .int .i64 3]) (by simp [results, Try.results119, go_sem]) rfl ⟨rfl, rfl⟩
          · rw [if_neg (by rw [hhead]; rintro ⟨_, h⟩; injection h with h; exact hb0 h)] at hr
            have hb1 : ((s[1].toNat : Int) == 0) = false := by
              rw [beq_eq_false_iff_ne]; intro h
              exact hb0 (UInt8.toNat_inj.1 (by rw [show (0 : UInt8).toNat = 0 from rfl]; omega))
            have hone : (1 : Int) < (s.size : Int) := by omega
            injection hr with hv hr
            injection hr with hm he
            subst hm he
            have hget : ∀ k, k + 1 < s.size → s.data.toList.tail[k]? = s[k + 1]? := by
              intro k hk
              have h2 := ba_get s hk
              rw [hcons] at h2
              rw [getElem?_pos s (k + 1) hk]
              simpa using h2
            have hgetH := Lib.hid hget
            have hvH := Lib.hid hv
            have hc8 : s[0].toNat ≤ 8 := by omega
            have hcs : s[0].toNat + 1 ≤ s.size := by omega
            clear hget hv hcons hl h0 h8 h9
            go_enter Try.func119, Try.ntmps119
            go_wp2_with fail
            go_loopg [2, 5] 9 (fun g x i wr => ∃ (k : Nat), g = 9 - k ∧ k ≤ s[0].toNat ∧ x = .int .u64 (beV (s.data.toList.tail.take k) : Int) ∧ i = .int .i64 (k + 1 : Int) ∧ wr = w)
            case atStart => exact ⟨0, rfl, Nat.zero_le _, rfl, rfl, rfl⟩
            case round =>
              obtain ⟨k, rfl, hk, rfl, rfl, rfl⟩ := hrel
              by_cases hlt : k < s[0].toNat
              · have hk1 : k + 1 < s.size := by omega
                have hki : ((k : Int) + 1) < (s.size : Int) := by omega
                have hst : beV (s.data.toList.tail.take (k + 1)) = beV (s.data.toList.tail.take k) * 256 + s[k + 1].toNat := by
                  rw [List.take_add_one, hgetH.out k hk1, getElem?_pos s (k + 1) hk1]
                  exact beV_snoc _ _
                have hbd : beV (s.data.toList.tail.take k) < 72057594037927936 := by
                  have h1 := beV_lt (s.data.toList.tail.take k)
                  have h2 : 256 ^ (s.data.toList.tail.take k).length ≤ 256 ^ 7 := Nat.pow_le_pow_right (by decide) (by rw [List.length_take]; omega)
                  omega
                have hstH := Lib.hid hst
                have hor := or256 (beV (s.data.toList.tail.take k)) s[k + 1].toNat hbd (by have := s[k + 1].toNat_lt; simpa using this)
                generalize beV (s.data.toList.tail.take k) = x at hbd hor hstH
                have hwr : Hid (IntKind.u64.wrap (s[k + 1].toNat : Int) = s[k + 1].toNat) := Lib.hid (IntWalk.u64_in _ (by have := s[k + 1].toNat_lt; omega))
                have hor := Lib.hid hor
                clear hst
                go_wp2
                all_goals
                  go_roundg (9 - (k + 1))
                  case measure => omega
                  case rel => exact ⟨k + 1, rfl, by omega, by rw [hwr.out, hor.out, hstH.out], by go_num, rfl⟩
              · obtain rfl : k = s[0].toNat := by omega
                rw [hvH.out]
                go_wp2
                exact bodyPost_ret (v := .tuple #[.int .u64 (v : Int), .int .i64 (1 + (s[0].toNat : Int)), .int .i64 0]) (by simp [results, Try.results119, go_sem]) rfl ⟨by simp, rfl⟩
        · rw [if_neg (fun h => hz h.1)] at hr
          have hzi : decide ((1 : Int) < 1 + (s[0].toNat : Int)) = false := decide_eq_false (by omega)
          injection hr with hv hr
          injection hr with hm he
          subst hm he
          have hget : ∀ k, k + 1 < s.size → s.data.toList.tail[k]? = s[k + 1]? := by
            intro k hk
            have h2 := ba_get s hk
            rw [hcons] at h2
            rw [getElem?_pos s (k + 1) hk]
            simpa using h2
          have hgetH := Lib.hid hget
          have hvH := Lib.hid hv
          have hc8 : s[0].toNat ≤ 8 := by omega
          have hcs : s[0].toNat + 1 ≤ s.size := by omega
          clear hget hv hcons hl h0 h8 h9
          go_enter Try.func119, Try.ntmps119
          go_wp2_with fail
          go_loopg [2, 5] 9 (fun g x i wr => ∃ (k : Nat), g = 9 - k ∧ k ≤ s[0].toNat ∧ x = .int .u64 (beV (s.data.toList.tail.take k) : Int) ∧ i = .int .i64 (k + 1 : Int) ∧ wr = w)
          case atStart => exact ⟨0, rfl, Nat.zero_le _, rfl, rfl, rfl⟩
          case round =>
            obtain ⟨k, rfl, hk, rfl, rfl, rfl⟩ := hrel
            by_cases hlt : k < s[0].toNat
            · have hk1 : k + 1 < s.size := by omega
              have hki : ((k : Int) + 1) < (s.size : Int) := by omega
              have hst : beV (s.data.toList.tail.take (k + 1)) = beV (s.data.toList.tail.take k) * 256 + s[k + 1].toNat := by
                rw [List.take_add_one, hgetH.out k hk1, getElem?_pos s (k + 1) hk1]
                exact beV_snoc _ _
              have hbd : beV (s.data.toList.tail.take k) < 72057594037927936 := by
                have h1 := beV_lt (s.data.toList.tail.take k)
                have h2 : 256 ^ (s.data.toList.tail.take k).length ≤ 256 ^ 7 := Nat.pow_le_pow_right (by decide) (by rw [List.length_take]; omega)
                omega
              have hstH := Lib.hid hst
              have hor := or256 (beV (s.data.toList.tail.take k)) s[k + 1].toNat hbd (by have := s[k + 1].toNat_lt; simpa using this)
              generalize beV (s.data.toList.tail.take k) = x at hbd hor hstH
              have hwr : Hid (IntKind.u64.wrap (s[k + 1].toNat : Int) = s[k + 1].toNat) := Lib.hid (IntWalk.u64_in _ (by have := s[k + 1].toNat_lt; omega))
              have hor := Lib.hid hor
              clear hst
              go_wp2
              all_goals
                go_roundg (9 - (k + 1))
                case measure => omega
                case rel => exact ⟨k + 1, rfl, by omega, by rw [hwr.out, hor.out, hstH.out], by go_num, rfl⟩
            · obtain rfl : k = s[0].toNat := by omega
              rw [hvH.out]
              go_wp2
              exact bodyPost_ret (v := .tuple #[.int .u64 (v : Int), .int .i64 (1 + (s[0].toNat : Int)), .int .i64 0]) (by simp [results, Try.results119, go_sem]) rfl ⟨by simp, rfl⟩
end Go.Proofs.Ythfjbbijcemmoaa
