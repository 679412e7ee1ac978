/- The statements' helpers: Great, own; Same of numbers. -/
import Derived.Test.YtebpghpeeedgcaaNj
import Derived.Test.YtebpghpeeedgcaaNf
namespace Go.Proofs.Ytebpghpeeedgcaa
open Go.RowKit

def greatP (n : Nat) (rs : List Rw) : Bool := decide (300 < sumL rs) || decide (40 < n)
set_option maxRecDepth 100000 in
theorem great_any (A : Option Addr) (n c : Nat) (rs : List Rw) (w : World) (hA : RdG w w.heap.size A n rs) (hn : n ≤ maxLen) (hm : ∀ r ∈ rs, r.l ≤ 1000000000000000) :
    Calls Try.prog 6 #[.slice A n c] w fun e w' => e = .returned (.bool (greatP n rs)) ∧ Below w.heap.size w w' := by
  unfold maxLen at hn
  have hl := hA.len
  have hmH := Lib.hid hm
  have hAH := Lib.hid hA
  obtain ⟨R, hR⟩ : ∃ R, greatP n rs = R := ⟨_, rfl⟩
  rw [hR]
  replace hR := Lib.hid hR
  clear hm hA
  go_enter Try.func6, Try.ntmps6
  go_wp2
  go_loopg [3, 4] (n + 1) (fun g q i wr => ∃ (k : Nat) (z : Int), k ≤ n ∧ g = n + 1 - k ∧ i = .int .i64 k ∧ q = .int .i64 z ∧ z = (sumL (rs.take k) : Int) ∧ z ≤ 300 ∧ Below w.heap.size w wr)
  case atStart => exact ⟨0, 0, Nat.zero_le _, rfl, rfl, rfl, by simp [sumL], by omega, Below.refl _ _⟩
  case round =>
    obtain ⟨k, z, hk, rfl, rfl, rfl, hz, hz2, hbr⟩ := hrel
    by_cases hlt : k < n
    · have hlti : (k : Int) < (n : Int) := by omega
      obtain ⟨bA, oA, r, rfl, hbA, hq, hcp, _⟩ := (hAH.out.below hbr).at_ hlt
      have hm := hmH.out r (List.mem_of_getElem? hq)
      have hs := sumL_take rs hq
      have hle := sumL_le rs (k + 1)
      have hw : IntKind.i64.wrap (z + (r.l : Int)) = z + (r.l : Int) := IntWalk.i64_in _ (by omega)
      have hkn1 : IntKind.i64.wrap ((k : Int) + 1) = ((k + 1 : Nat) : Int) := by rw [IntWalk.i64_in _ (by omega)]; omega
      have hz0 : 0 ≤ z := by omega
      by_cases hg : 300 < z + (r.l : Int)
      · have hT : Hid (true = R) := Lib.hid (by
          rw [← hR.out]; unfold greatP
          rw [decide_eq_true (show 300 < sumL rs by omega), Bool.true_or])
        clear hs hz hle
        go_wp2
        go_ret
        exact ⟨ret_boolN hT.out, hbr⟩
      · have hT : Hid (z + (r.l : Int) = (sumL (rs.take (k + 1)) : Int)) := Lib.hid (by omega)
        clear hs hz hle
        go_wp2
        go_roundg (n + 1 - (k + 1))
        case measure => omega
        case rel => exact ⟨k + 1, _, by omega, rfl, by go_num, rfl, hT.out, by omega, hbr⟩
    · have hnlt : ¬ (k : Int) < (n : Int) := by omega
      have hs : sumL rs ≤ 300 := by rw [List.take_of_length_le (by omega)] at hz; omega
      have hT : Hid (decide ((40 : Int) < (n : Int)) = R) := Lib.hid (by
        rw [← hR.out]; unfold greatP
        rw [decide_eq_false (show ¬ 300 < sumL rs by omega), Bool.false_or, Bool.eq_iff_iff, decide_eq_true_iff, decide_eq_true_iff]
        omega)
      clear hz hs
      go_wp2
      go_ret
      exact ⟨ret_boolN hT.out, hbr⟩
theorem great_small {n : Nat} {rs : List Rw} (h : greatP n rs = false) : n ≤ 40 ∧ ∀ r ∈ rs, r.l ≤ 300 := by
  unfold greatP at h
  rw [Bool.or_eq_false_iff, decide_eq_false_iff_not, decide_eq_false_iff_not] at h
  refine ⟨by omega, fun r hr => ?_⟩
  have := sumL_at hr
  omega
/-- A copy of one's own. -/
def OwnGP (rs : List Rw) (w : World) (e : Ending) (w' : World) : Prop := ∃ (OA : Option Addr) (oc : Nat) (rs' : List Rw), e = .returned (.slice OA rs.length oc) ∧ RdG w' w'.heap.size OA rs.length rs' ∧ rs'.map Rw.xs = rs.map Rw.xs ∧ Below w.heap.size w w'
set_option maxRecDepth 100000 in
set_option maxHeartbeats 4000000 in
theorem ownG_any (A : Option Addr) (n c : Nat) (rs : List Rw) (w : World) (hA : RdG w w.heap.size A n rs) (hn : n ≤ 100000) (hm : ∀ r ∈ rs, r.l ≤ 1000000) :
    Calls Try.prog 8 #[.slice A n c] w fun e w' => OwnGP rs w e w' := by
  have hl := Lib.hid hA.len
  have hmH := Lib.hid hm
  have hAH := Lib.hid hA
  clear hm hA
  go_enter Try.func8, Try.ntmps8
  go_wp2
  go_loopg [3, 4] (n + 1) (fun g ov i wr => ∃ (k oc : Nat) (OA : Option Addr) (rs' : List Rw), k ≤ n ∧ g = n + 1 - k ∧ i = .int .i64 k ∧ ov = .slice OA k oc ∧ Ow wr w.heap.size 31 1 (.slice OA k oc) (rs'.map Rw.enc) ∧ (∀ r ∈ rs', Ow wr w.heap.size 3 1 (.slice r.A r.l r.c) (r.xs.map eI)) ∧ rs'.map Rw.xs = (rs.take k).map Rw.xs ∧ Below w.heap.size w wr)
  case atStart => exact ⟨0, 0, none, [], Nat.zero_le _, rfl, rfl, rfl, Ow.nil_ _ _ _ _, by simp, by simp, Below.refl _ _⟩
  case round =>
    obtain ⟨k, oc, OA, rs', hk, rfl, rfl, rfl, ho, hrows, hxs, hbr⟩ := hrel
    obtain ⟨wv, hwv⟩ : ∃ wv, wv = wr := ⟨_, rfl⟩
    obtain rfl := hwv
    have hz := hbr.size
    have hlk : rs'.length = k := by have := ho.rd.2.1; simpa using this
    have hoH := Lib.hid ho
    have hrowsH := Lib.hid hrows
    have hxsH := Lib.hid hxs
    have hlkH := Lib.hid hlk
    clear ho hrows hxs hlk
    by_cases hlt : k < n
    · have hlti : (k : Int) < (n : Int) := by omega
      obtain ⟨bA, oA, r, rfl, hbA, hq, hcp, hrk⟩ := (hAH.out.below hbr).at_ hlt
      have hm := hmH.out r (List.mem_of_getElem? hq)
      have hkn1 : IntKind.i64.wrap ((k : Int) + 1) = ((k + 1 : Nat) : Int) := by rw [IntWalk.i64_in _ (by omega)]; omega
      have hst : Hid ((rs.take (k + 1)).map Rw.xs = (rs.take k).map Rw.xs ++ [r.xs]) := Lib.hid (by rw [List.take_add_one, hq]; simp)
      have hbA2 : bA < wv.heap.size := by omega
      have hrkl := Lib.hid hrk.len
      have hrkH := Lib.hid hrk
      clear hrk hq
      go_wp2_with (at_builtin; first
        | (refine wpList_append_rd _ rfl _ _ _ rfl eInts (base := w.heap.size) (v := .slice OA k oc) (xs := rs'.map Rw.enc) rfl ((hoH.out.below hbU.out).below ((Below.refl _ _).alloc (Nat.le_refl _) _)) rfl (Rd.one' [.slice A2 r.l c2] rfl) (by simp) (by simp [Value.oneCell']) (by rw [List.length_map, hlkH.out]; simp [maxLen]; omega) (by rw [List.length_map, hlkH.out]; omega) (by have := hbU.out.size; simp; omega) ?_
           intro A5 n5 c5 w5 hn5 hown5 hg5 hat5
           obtain rfl : n5 = k + 1 := by rw [hn5, List.length_map, hlkH.out]
           clear hn5)
        | (refine wpList_append_rd _ rfl _ _ _ rfl eInt (base := wv.heap.size) (v := .slice (some ⟨wv.heap.size, 0, none⟩) 0 0) (xs := []) rfl (Ow.made0 _ _ _ (Nat.le_refl _)) rfl (hrkH.out.below (B := w.heap.size) (((Below.refl _ wv).alloc (Nat.le_refl _) _).mono hz)) eI_len eI_one (by simp [maxLen]; omega) (by simp; omega) (by simp) ?_
           intro A2 n2 c2 w2 hn2 hown2 hg2 hat2
           obtain rfl : n2 = r.l := by rw [hn2]; simp
           clear hn2
           have hbU : Hid (Below wv.heap.size wv w2) := Lib.hid (((Below.refl _ wv).alloc (Nat.le_refl _) _).grown hg2 (by simp) (fun q e => by simp [Value.ownBlock] at e; omega))
           have hown2H := Lib.hid hown2)
        | fail)
      have hz2 := hbU.out.size
      have hgr : Gk (fun b => (Value.slice OA k oc).ownBlock = some b) w2 w5 := ((Gk.refl _ w2).alloc _).grown hg5 (fun k e => .inl e)
      have hob : ∀ b, (Value.slice OA k oc).ownBlock = some b → w.heap.size ≤ b ∧ b < wv.heap.size := hoH.out.block
      have hbN : Below w.heap.size w w5 := (hbr.trans (hbU.out.mono hz)).trans (hgr.below (by omega) (fun b hb => (hob b hb).1))
      have ho2 := hoH.out.below hbU.out
      have hRN : ∀ r' ∈ rs' ++ [(⟨A2, r.l, c2, r.xs⟩ : Rw)], Ow w5 w.heap.size 3 1 (.slice r'.A r'.l r'.c) (r'.xs.map eI) := by
        intro r' hr'
        rcases List.mem_append.1 hr' with h1 | h1
        · have h2 := (hrowsH.out r' h1).below hbU.out
          exact hgr.ow h2 (fun b hb e => h2.ne_own ho2 (by decide) hb e)
        · obtain rfl := List.mem_singleton.1 h1
          have h2 : Ow w2 w.heap.size 3 1 (.slice A2 r.l c2) (r.xs.map eI) := by
            have := (hown2H.out.base hz)
            rw [List.nil_append] at this
            exact this
          exact hgr.ow h2 (fun b hb e => h2.ne_own ho2 (by decide) hb e)
      have hoN : Ow w5 w.heap.size 31 1 (.slice A5 (k + 1) c5) ((rs' ++ [(⟨A2, r.l, c2, r.xs⟩ : Rw)]).map Rw.enc) := by
        rw [List.map_append]; exact hown5
      have hxN : (rs' ++ [(⟨A2, r.l, c2, r.xs⟩ : Rw)]).map Rw.xs = (rs.take (k + 1)).map Rw.xs := by
        rw [List.map_append, hst.out, hxsH.out]; rfl
      go_roundg (n + 1 - (k + 1))
      case measure => omega
      case rel => exact ⟨k + 1, c5, A5, _, by omega, rfl, by go_num, rfl, hoN, hRN, hxN, hbN⟩
    · obtain rfl : k = n := by omega
      have hnlt : ¬ (k : Int) < (k : Int) := by omega
      have hfin : Hid (rs'.map Rw.xs = rs.map Rw.xs) := Lib.hid (by rw [hxsH.out, List.take_of_length_le (by rw [hl.out]; exact Nat.le_refl _)])
      have hRd : Hid (RdG wv wv.heap.size OA rs.length rs') := Lib.hid (by rw [hl.out]; exact ⟨hoH.out.rd.1, fun r hr => (hrowsH.out r hr).rd.1⟩)
      go_wp2
      go_ret
      exact ⟨OA, oc, rs', by rw [hl.out]; rfl, hRd.out, hfin.out, hbr⟩
set_option maxRecDepth 100000 in
theorem sameI_any (A B : Option Addr) (n m c d : Nat) (xs ys : List Int) (w : World) (hA : Rd w w.heap.size 1 A n (xs.map eI)) (hB : Rd w w.heap.size 1 B m (ys.map eI)) (hn : n ≤ maxLen) (hm : m ≤ maxLen) :
    Calls Try.prog 12 #[.slice A n c, .slice B m d] w fun e w' => e = .returned (.bool (decide (xs = ys))) ∧ Below w.heap.size w w' := by
  have hl : xs.length = n := by simpa using hA.1
  have hl2 : ys.length = m := by simpa using hB.1
  unfold maxLen at hn hm
  generalize hr : decide (xs = ys) = r
  have hrH := Lib.hid hr
  clear hr
  by_cases hnm : (n : Int) = (m : Int)
  · obtain rfl : n = m := by omega
    clear hnm
    go_enter Try.func12, Try.ntmps12
    go_wp2
    go_loopg [5] (n + 1) (fun g i wr => ∃ k : Nat, k ≤ n ∧ g = n + 1 - k ∧ i = .int .i64 (k : Int) ∧ xs.take k = ys.take k ∧ Below w.heap.size w wr)
    case atStart => exact ⟨0, Nat.zero_le _, rfl, rfl, rfl, Below.refl _ _⟩
    case round =>
      obtain ⟨k, hk, rfl, rfl, htk, hbr⟩ := hrel
      have hz := hbr.size
      by_cases hlt : k < n
      · have hkn1 : IntKind.i64.wrap ((k : Int) + 1) = ((k + 1 : Nat) : Int) := by rw [IntWalk.i64_in _ (by omega)]; omega
        obtain ⟨bA, oA, x, rfl, hbA, hp, hcp⟩ := Rd.at_ (enc := eI) (hA.below hbr) hlt
        obtain ⟨bB, oB, y, rfl, hbB, hq, hcq⟩ := Rd.at_ (enc := eI) (hB.below hbr) hlt
        have hlti : (k : Int) < (n : Int) := by omega
        have p0 := hcp 0 _ rfl
        have q0 := hcq 0 _ rfl
        rw [Nat.mul_one, Nat.add_zero] at p0 q0
        have hbA2 : bA < wr.heap.size := by omega
        have hbB2 : bB < wr.heap.size := by omega
        have htkH := Lib.hid htk
        have hpH := Lib.hid hp
        have hqH := Lib.hid hq
        clear htk hp hq hcp hcq
        have hG : Below w.heap.size w wr.drew := hbr.drew
        by_cases he : x = y
        · subst he
          have hT : Hid (xs.take (k + 1) = ys.take (k + 1)) := Lib.hid (by rw [List.take_add_one, List.take_add_one, htkH.out, hpH.out, hqH.out])
          go_wp2
          go_region
          go_wp2
          go_roundg (n + 1 - (k + 1))
          case measure => omega
          case rel => exact ⟨k + 1, by omega, rfl, by go_num, hT.out, hG⟩
        · have hT : Hid (false = r) := Lib.hid (by
            rw [← hrH.out]; symm; apply decide_eq_false; intro e; subst e
            have := hpH.out.symm.trans hqH.out
            injection this with this; exact he this)
          have hsn : (x == y) = false := by rw [beq_eq_false_iff_ne]; exact he
          clear he
          go_wp2
          go_region
          go_wp2
          go_ret
          exact ⟨ret_boolN hT.out, hG⟩
      · have hnlt : ¬ (k : Int) < (n : Int) := by omega
        have hT : Hid (true = r) := Lib.hid (by
          rw [← hrH.out]; symm; apply decide_eq_true
          rw [List.take_of_length_le (by omega), List.take_of_length_le (by omega)] at htk
          exact htk)
        clear htk
        go_wp2
        go_ret
        exact ⟨ret_boolN hT.out, hbr⟩
  · have hT : Hid (false = r) := Lib.hid (by
      rw [← hrH.out]; symm; apply decide_eq_false; rintro rfl; omega)
    have hd : ((n : Int) == (m : Int)) = false := by simpa using hnm
    go_enter Try.func12, Try.ntmps12
    go_wp2
    go_ret
    exact ⟨ret_boolN hT.out, Below.refl _ _⟩
end Go.Proofs.Ytebpghpeeedgcaa
