/- The plain law of readers: what is written is read as it was, whatever follows. Plain laws: a vector read behind what was written. -/
import Derived.Test.YtpolplmniaoikaaDoorN09
import Derived.Test.YtpolplmniaoikaaDoorN05
import Derived.Test.YtpolplmniaoikaaDoorPl
import Derived.Test.YtpolplmniaoikaaDoorN34
namespace Go.Proofs.YtpolplmniaoikaaDoor

/-- A reader between what it has read and what is left. -/
def stR (pre post : List UInt8) : Rs := ⟨pre ++ post, pre.length, 0, 0⟩
theorem stR_drop (pre post : List UInt8) : (stR pre post).l.drop (stR pre post).a = post := by simp [stR]
theorem stR_move (pre b post : List UInt8) : ({ stR pre (b ++ post) with a := (stR pre (b ++ post)).a + b.length } : Rs) = stR (pre ++ b) post := by simp [stR]
theorem beD_head {v : Nat} (h : v ≠ 0) : ∃ c r, beD v = c :: r ∧ c ≠ 0 := by
  induction v using Nat.strongRecOn with
  | _ v ih =>
    rw [beD_pos h]
    by_cases h1 : v / 256 = 0
    · rw [h1, beD_zero]
      refine ⟨_, [], rfl, ?_⟩
      intro h2
      have h3 := congrArg UInt8.toNat h2
      simp at h3
      omega
    · obtain ⟨c, r, hc, hn⟩ := ih (v / 256) (by omega) h1
      rw [hc]
      exact ⟨c, r ++ [UInt8.ofNat (v % 256)], rfl, hn⟩
theorem numR_numB {v : Nat} (hv : v < 18446744073709551616) (more : List UInt8) : numR (numB v ++ more) = (v, (numB v).length, 0) := by
  have hl : (beD v).length ≤ 8 := beD_len 8 v (by simpa using hv)
  unfold numB
  rw [List.cons_append]
  unfold numR
  have hk : (UInt8.ofNat (beD v).length).toNat = (beD v).length := by simp; omega
  simp only [hk]
  rw [if_neg (by omega), if_neg (by rw [List.length_append]; omega), if_neg]
  · rw [List.take_append_of_le_length (Nat.le_refl _), List.take_of_length_le (Nat.le_refl _), beV_beD, List.length_cons, Nat.add_comm]
  · rintro ⟨h1, h2⟩
    have hv0 : v ≠ 0 := by rintro rfl; rw [beD_zero] at h1; simp at h1
    obtain ⟨c, r, hc, hn⟩ := beD_head hv0
    rw [hc] at h2
    simp at h2
    exact hn h2
theorem nextS_back {v : Nat} (hv : v < 18446744073709551616) {right : Nat → Int} (hr : right v = 0) (pre more : List UInt8) : nextS right (stR pre (numB v ++ more)) = (v, stR (pre ++ numB v) more) := by
  rw [nextS_eq (S := stR pre (numB v ++ more)) rfl (by rw [stR_drop, numR_numB hv]), if_pos rfl, if_neg (by simp [hr]), stR_move]
theorem intS_back {v m : Nat} (hv : v ≤ m) (hm : m < 18446744073709551616) (pre more : List UInt8) : intS m (stR pre (numB v ++ more)) = (v, stR (pre ++ numB v) more) := by
  unfold intS
  exact nextS_back (by omega) (if_neg (by omega)) pre more
theorem readI_back {x : Im} (h : chk x = true) (pre more : List UInt8) : readI (stR pre (writeI x ++ more)) = (x, stR (pre ++ writeI x) more) := by
  have hc := h
  simp [chk] at hc
  unfold writeI
  rw [if_pos h]
  unfold readI
  rw [List.append_assoc, intS_back (by omega) (by decide)]
  dsimp only
  rw [intS_back (by omega) (by decide)]
  dsimp only
  rw [if_neg (by omega), List.append_assoc, show ((x.1.toNat : Nat) : Int) = x.1 from by omega, show ((x.2.toNat : Nat) : Int) = x.2 from by omega]
theorem readIs_back : ∀ (n : Nat) (xs : List Im), xs.length = n → (∀ x ∈ xs, chk x = true) → ∀ (pre more : List UInt8),
    readIs n (stR pre ((xs.map writeI).flatten ++ more)) = (xs, stR (pre ++ (xs.map writeI).flatten) more)
  | 0, xs, hl, _, pre, more => by
    obtain rfl := List.eq_nil_of_length_eq_zero hl
    simp [readIs]
  | n + 1, xs, hl, hc, pre, more => by
    obtain ⟨ys, y, rfl⟩ : ∃ ys y, xs = ys ++ [y] := ⟨xs.dropLast, xs.getLast (by rintro rfl; simp at hl), (List.dropLast_concat_getLast _).symm⟩
    have h1 := readIs_back n ys (by simpa using hl) (fun x hx => hc x (by simp [hx])) pre (writeI y ++ more)
    have e : ((ys ++ [y]).map writeI).flatten ++ more = (ys.map writeI).flatten ++ (writeI y ++ more) := by simp
    rw [e]
    unfold readIs
    rw [h1]
    dsimp only
    rw [readI_back (hc y (by simp))]
    simp
theorem readD_back {xs : List Im} (h : lerr xs = 0) (pre more : List UInt8) : readD (stR pre (writeD xs ++ more)) = (xs, stR (pre ++ writeD xs) more) := by
  obtain ⟨h1, h2, h3⟩ := lerr_zero.1 h
  unfold writeD
  rw [if_neg (by simp [h])]
  unfold readD
  rw [List.append_assoc, intS_back h1 (by decide)]
  dsimp only
  rw [readIs_back _ xs rfl h2]
  dsimp only
  have hf : failS (stR ((pre ++ numB xs.length) ++ (xs.map writeI).flatten) more) (lerr xs) = stR ((pre ++ numB xs.length) ++ (xs.map writeI).flatten) more := by
    unfold failS; rw [if_neg (fun hh => hh.2 h)]
  rw [hf, if_neg (by simp [stR]), List.append_assoc]
theorem stR_wf {pre post : List UInt8} (h : (pre ++ post).length ≤ 1099511627776) : (stR pre post).wf :=
  ⟨by simp [stR], h, by simp [stR], by simp [stR], fun _ => rfl⟩
end Go.Proofs.YtpolplmniaoikaaDoor
namespace Go.Proofs.YtpolplmniaoikaaDoor

theorem vecx {a b : Vm} (h : ∀ o : Int, 0 ≤ o → o < 8 → a.get o = b.get o) : a = b := by
  obtain ⟨a0, a1, a2, a3, a4, a5, a6, a7⟩ := a
  obtain ⟨b0, b1, b2, b3, b4, b5, b6, b7⟩ := b
  have h0 := h 0 (by decide) (by decide)
  have h1 := h 1 (by decide) (by decide)
  have h2 := h 2 (by decide) (by decide)
  have h3 := h 3 (by decide) (by decide)
  have h4 := h 4 (by decide) (by decide)
  have h5 := h 5 (by decide) (by decide)
  have h6 := h 6 (by decide) (by decide)
  have h7 := h 7 (by decide) (by decide)
  simp [Vm.get] at h0 h1 h2 h3 h4 h5 h6 h7
  simp [h0, h1, h2, h3, h4, h5, h6, h7]
theorem getnn {v : Vm} (h : v.wf) (o : Int) : 0 ≤ v.get o := by
  unfold Vm.wf at h
  unfold Vm.get
  (repeat' split) <;> omega
def preV (v : Vm) : Nat → Vm
  | 0 => zV
  | k + 1 => (preV v k).set (k : Int) (v.get (k : Int))
theorem preV_get (v : Vm) : ∀ (k : Nat), k ≤ 8 → ∀ o : Int, 0 ≤ o → o < 8 → (preV v k).get o = if o < k then v.get o else 0
  | 0, _, o, h0, h1 => by
    rw [if_neg (by omega)]
    obtain rfl | rfl | rfl | rfl | rfl | rfl | rfl | rfl : o = 0 ∨ o = 1 ∨ o = 2 ∨ o = 3 ∨ o = 4 ∨ o = 5 ∨ o = 6 ∨ o = 7 := by omega
    all_goals rfl
  | k + 1, hk, o, h0, h1 => by
    show ((preV v k).set (k : Int) (v.get (k : Int))).get o = _
    rw [get_set (by omega) (by omega) h0 h1, preV_get v k (by omega) o h0 h1]
    by_cases h : (k : Int) = o
    · rw [if_pos h, if_pos (by omega), h]
    · rw [if_neg h]
      by_cases h2 : o < k
      · rw [if_pos h2, if_pos (by omega)]
      · rw [if_neg h2, if_neg (by omega)]
theorem longV_zero {v : Vm} {o : Int} (h0 : 0 ≤ o) (h8 : o < 8) (h : (longV v : Int) ≤ o) : v.get o = 0 := by
  obtain rfl | rfl | rfl | rfl | rfl | rfl | rfl | rfl : o = 0 ∨ o = 1 ∨ o = 2 ∨ o = 3 ∨ o = 4 ∨ o = 5 ∨ o = 6 ∨ o = 7 := by omega
  · show v.d0 = 0
    revert h
    unfold longV
    (repeat' split) <;> intro h <;> omega
  · show v.d1 = 0
    revert h
    unfold longV
    (repeat' split) <;> intro h <;> omega
  · show v.d2 = 0
    revert h
    unfold longV
    (repeat' split) <;> intro h <;> omega
  · show v.d3 = 0
    revert h
    unfold longV
    (repeat' split) <;> intro h <;> omega
  · show v.d4 = 0
    revert h
    unfold longV
    (repeat' split) <;> intro h <;> omega
  · show v.d5 = 0
    revert h
    unfold longV
    (repeat' split) <;> intro h <;> omega
  · show v.d6 = 0
    revert h
    unfold longV
    (repeat' split) <;> intro h <;> omega
  · show v.d7 = 0
    revert h
    unfold longV
    (repeat' split) <;> intro h <;> omega
theorem longV_last {v : Vm} (h : 0 < longV v) : v.get ((longV v : Int) - 1) ≠ 0 := by
  by_cases h7 : v.d7 ≠ 0
  · have e : longV v = 8 := by unfold longV; rw [if_pos h7]
    rw [e]; exact h7
  by_cases h6 : v.d6 ≠ 0
  · have e : longV v = 7 := by unfold longV; rw [if_neg h7, if_pos h6]
    rw [e]; exact h6
  by_cases h5 : v.d5 ≠ 0
  · have e : longV v = 6 := by unfold longV; rw [if_neg h7, if_neg h6, if_pos h5]
    rw [e]; exact h5
  by_cases h4 : v.d4 ≠ 0
  · have e : longV v = 5 := by unfold longV; rw [if_neg h7, if_neg h6, if_neg h5, if_pos h4]
    rw [e]; exact h4
  by_cases h3 : v.d3 ≠ 0
  · have e : longV v = 4 := by unfold longV; rw [if_neg h7, if_neg h6, if_neg h5, if_neg h4, if_pos h3]
    rw [e]; exact h3
  by_cases h2 : v.d2 ≠ 0
  · have e : longV v = 3 := by unfold longV; rw [if_neg h7, if_neg h6, if_neg h5, if_neg h4, if_neg h3, if_pos h2]
    rw [e]; exact h2
  by_cases h1 : v.d1 ≠ 0
  · have e : longV v = 2 := by unfold longV; rw [if_neg h7, if_neg h6, if_neg h5, if_neg h4, if_neg h3, if_neg h2, if_pos h1]
    rw [e]; exact h1
  by_cases h0 : v.d0 ≠ 0
  · have e : longV v = 1 := by unfold longV; rw [if_neg h7, if_neg h6, if_neg h5, if_neg h4, if_neg h3, if_neg h2, if_neg h1, if_pos h0]
    rw [e]; exact h0
  exfalso
  have e : longV v = 0 := by unfold longV; rw [if_neg h7, if_neg h6, if_neg h5, if_neg h4, if_neg h3, if_neg h2, if_neg h1, if_neg h0]
  omega
theorem preV_long (v : Vm) : preV v (longV v) = v := vecx fun o h0 h8 => by
  rw [preV_get v _ (longV_le v) o h0 h8]
  by_cases h : o < longV v
  · rw [if_pos h]
  · rw [if_neg h, longV_zero h0 h8 (by omega)]
theorem readVs_back {v : Vm} (hv : vchk v = true) (hw : v.wf) : ∀ (k : Nat), k ≤ 8 → ∀ (pre more : List UInt8),
    readVs k (stR pre (((List.range k).map fun (i : Nat) => numB (v.get (i : Int)).toNat).flatten ++ more)) = (preV v k, stR (pre ++ ((List.range k).map fun (i : Nat) => numB (v.get (i : Int)).toNat).flatten) more)
  | 0, _, pre, more => by simp [readVs, preV]
  | k + 1, hk, pre, more => by
    have e : ((List.range (k + 1)).map fun (i : Nat) => numB (v.get (i : Int)).toNat).flatten = ((List.range k).map fun (i : Nat) => numB (v.get (i : Int)).toNat).flatten ++ numB (v.get (k : Int)).toNat := by
      rw [List.range_succ]; simp
    have h1 := getnn hw (k : Int)
    have h2 := vchk_get hv (k : Int)
    rw [e, List.append_assoc]
    unfold readVs
    rw [readVs_back hv hw k (by omega) pre (numB (v.get (k : Int)).toNat ++ more)]
    dsimp only
    rw [intS_back (m := 1048576) (by omega) (by decide)]
    dsimp only
    rw [show (((v.get (k : Int)).toNat : Nat) : Int) = v.get (k : Int) by omega, List.append_assoc]
    rfl
theorem readV_back {v : Vm} (hv : vchk v = true) (hw : v.wf) (pre more : List UInt8) : readV (stR pre (writeV v ++ more)) = (v, stR (pre ++ writeV v) more) := by
  have hL := longV_le v
  unfold writeV partV
  unfold readV
  rw [List.append_assoc, intS_back (m := 8) hL (by decide)]
  dsimp only
  rw [readVs_back hv hw _ hL]
  dsimp only
  have hc : ¬ (0 < longV v ∧ v.get ((longV v : Int) - 1) = 0) := fun h => longV_last h.1 h.2
  rw [preV_long]
  simp only [if_neg hc]
  rw [if_neg (by simp [stR]), List.append_assoc]
end Go.Proofs.YtpolplmniaoikaaDoor
