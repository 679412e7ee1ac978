/- The plain law of readers: what is written is read as it was, whatever follows. -/
import Derived.Test.YthfjbbijcemmoaaRx
import Derived.Test.YthfjbbijcemmoaaIw
import Derived.Test.YthfjbbijcemmoaaPl
namespace Go.Proofs.Ythfjbbijcemmoaa

/-- A reader between what it has read and what is left. -/
def stR (pre post : List UInt8) : Rs := ⟨pre ++ post, pre.length, 0, 0⟩
theorem stR_drop (pre post : List UInt8) : (stR pre post).l.drop (stR pre post).a = post := by simp [stR]
theorem stR_move (pre b post : List UInt8) : ({ stR pre (b ++ post) with a := (stR pre (b ++ post)).a + b.length } : Rs) = stR (pre ++ b) post := by simp [stR]
theorem beD_head {v : Nat} (h : v ≠ 0) : ∃ c r, beD v = c :: r ∧ c ≠ 0 := by
  induction v using Nat.strongRecOn with
  | _ v ih =>
    rw [beD_pos h]
    by_cases h1 : v / 256 = 0
    · rw [h1, beD_zero]
      refine ⟨_, [], rfl, ?_⟩
      intro h2
      have h3 := congrArg UInt8.toNat h2
      simp at h3
      omega
    · obtain ⟨c, r, hc, hn⟩ := ih (v / 256) (by omega) h1
      rw [hc]
      exact ⟨c, r ++ [UInt8.ofNat (v % 256)], rfl, hn⟩
theorem numR_numB {v : Nat} (hv : v < 18446744073709551616) (more : List UInt8) : numR (numB v ++ more) = (v, (numB v).length, 0) := by
  have hl : (beD v).length ≤ 8 := beD_len 8 v (by simpa using hv)
  unfold numB
  rw [List.cons_append]
  unfold numR
  have hk : (UInt8.ofNat (beD v).length).toNat = (beD v).length := by simp; omega
  simp only [hk]
  rw [if_neg (by omega), if_neg (by rw [List.length_append]; omega), if_neg]
  · rw [List.take_append_of_le_length (Nat.le_refl _), List.take_of_length_le (Nat.le_refl _), beV_beD, List.length_cons, Nat.add_comm]
  · rintro ⟨h1, h2⟩
    have hv0 : v ≠ 0 := by rintro rfl; rw [beD_zero] at h1; simp at h1
    obtain ⟨c, r, hc, hn⟩ := beD_head hv0
    rw [hc] at h2
    simp at h2
    exact hn h2
theorem nextS_back {v : Nat} (hv : v < 18446744073709551616) {right : Nat → Int} (hr : right v = 0) (pre more : List UInt8) : nextS right (stR pre (numB v ++ more)) = (v, stR (pre ++ numB v) more) := by
  rw [nextS_eq (S := stR pre (numB v ++ more)) rfl (by rw [stR_drop, numR_numB hv]), if_pos rfl, if_neg (by simp [hr]), stR_move]
theorem intS_back {v m : Nat} (hv : v ≤ m) (hm : m < 18446744073709551616) (pre more : List UInt8) : intS m (stR pre (numB v ++ more)) = (v, stR (pre ++ numB v) more) := by
  unfold intS
  exact nextS_back (by omega) (if_neg (by omega)) pre more
theorem readI_back {x : Im} (h : chk x = true) (pre more : List UInt8) : readI (stR pre (writeI x ++ more)) = (x, stR (pre ++ writeI x) more) := by
  have hc := h
  simp [chk] at hc
  unfold writeI
  rw [if_pos h]
  unfold readI
  rw [List.append_assoc, intS_back (by omega) (by decide)]
  dsimp only
  rw [intS_back (by omega) (by decide)]
  dsimp only
  rw [if_neg (by omega), List.append_assoc, show ((x.1.toNat : Nat) : Int) = x.1 from by omega, show ((x.2.toNat : Nat) : Int) = x.2 from by omega]
theorem readIs_back : ∀ (n : Nat) (xs : List Im), xs.length = n → (∀ x ∈ xs, chk x = true) → ∀ (pre more : List UInt8),
    readIs n (stR pre ((xs.map writeI).flatten ++ more)) = (xs, stR (pre ++ (xs.map writeI).flatten) more)
  | 0, xs, hl, _, pre, more => by
    obtain rfl := List.eq_nil_of_length_eq_zero hl
    simp [readIs]
  | n + 1, xs, hl, hc, pre, more => by
    obtain ⟨ys, y, rfl⟩ : ∃ ys y, xs = ys ++ [y] := ⟨xs.dropLast, xs.getLast (by rintro rfl; simp at hl), (List.dropLast_concat_getLast _).symm⟩
    have h1 := readIs_back n ys (by simpa using hl) (fun x hx => hc x (by simp [hx])) pre (writeI y ++ more)
    have e : ((ys ++ [y]).map writeI).flatten ++ more = (ys.map writeI).flatten ++ (writeI y ++ more) := by simp
    rw [e]
    unfold readIs
    rw [h1]
    dsimp only
    rw [readI_back (hc y (by simp))]
    simp
theorem readD_back {xs : List Im} (h : lerr xs = 0) (pre more : List UInt8) : readD (stR pre (writeD xs ++ more)) = (xs, stR (pre ++ writeD xs) more) := by
  obtain ⟨h1, h2, h3⟩ := lerr_zero.1 h
  unfold writeD
  rw [if_neg (by simp [h])]
  unfold readD
  rw [List.append_assoc, intS_back h1 (by decide)]
  dsimp only
  rw [readIs_back _ xs rfl h2]
  dsimp only
  have hf : failS (stR ((pre ++ numB xs.length) ++ (xs.map writeI).flatten) more) (lerr xs) = stR ((pre ++ numB xs.length) ++ (xs.map writeI).flatten) more := by
    unfold failS; rw [if_neg (fun hh => hh.2 h)]
  rw [hf, if_neg (by simp [stR]), List.append_assoc]
theorem stR_wf {pre post : List UInt8} (h : (pre ++ post).length ≤ 1099511627776) : (stR pre post).wf :=
  ⟨by simp [stR], h, by simp [stR], by simp [stR], fun _ => rfl⟩
end Go.Proofs.Ythfjbbijcemmoaa
