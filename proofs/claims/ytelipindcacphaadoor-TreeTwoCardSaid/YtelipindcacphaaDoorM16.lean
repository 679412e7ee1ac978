/- octet.number: the number at the front of bytes. The program's reader: what it holds, Fail. The program's reader: next, Num, Int. -/
import Derived.Test.YtelipindcacphaaDoorOct
import Derived.Laws.BitsAllLaws
import Derived.Deep.QuietTactic
import Derived.Shelf.Abstract
namespace Go.Proofs.YtelipindcacphaaDoor
open Go.RowKit

theorem ba_len (s : ByteArray) : s.data.toList.length = s.size := by rw [Array.length_toList]; rfl
theorem ba_get (s : ByteArray) {i : Nat} (h : i < s.size) : s.data.toList[i]? = some s[i] := by
  rw [List.getElem?_eq_getElem (by rw [ba_len]; exact h)]
  rfl
theorem ba_ne {s : ByteArray} (h : 0 < s.size) : s.toList.isEmpty = false := by
  rw [ByteArray.toList_eq, List.isEmpty_eq_false_iff]
  intro h0
  have := ba_len s
  rw [h0] at this
  simp at this; omega
theorem or256 (v c : Nat) (hv : v < 72057594037927936) (hc : c < 256) : bits .or .u64 ((v : Int) * 256) (c : Int) = ((v * 256 + c : Nat) : Int) := by
  have h := u64_or_nat (v * 256) c (by omega) (by omega)
  rw [show ((v * 256 : Nat) : Int) = (v : Int) * 256 from by omega] at h
  rw [h]
  congr 1
  rw [show v * 256 = v <<< 8 from by rw [Nat.shiftLeft_eq], Nat.shiftLeft_add_eq_or_of_lt (by simpa using hc)]

end Go.Proofs.YtelipindcacphaaDoor
namespace Go.Proofs.YtelipindcacphaaDoor
open Go.RowKit

end Go.Proofs.YtelipindcacphaaDoor
namespace Go.Proofs.YtelipindcacphaaDoor
open Go.RowKit

/-- A function value that tells of numbers whether they are right. -/
def RightF (g : Nat) (pre : Array Value) (right : Nat → Int) : Prop :=
  ∀ v : Nat, v < 18446744073709551616 → ∀ w, Calls Tryd.prog g (pre ++ #[.int .u64 (v : Int)]) w fun e w' => e = .returned (.int .i64 (right v)) ∧ w = w'
theorem bs_drop (l : List UInt8) {a : Nat} : (bs l).extract a (bs l).size = bs (l.drop a) := by
  apply ByteArray.ext
  rw [ByteArray.data_extract, bs_size]
  simp [bs]
  rw [List.take_of_length_le (by simp)]
theorem Rs.wf_fail {S : Rs} (h : S.wf) (e : Int) : (failS S e).wf := by
  unfold failS
  obtain ⟨h1, h2, h3, h4, h5⟩ := h
  split
  · rename_i hh
    exact ⟨h1, h2, by simp, by simp; omega, fun h => absurd h hh.2⟩
  · exact ⟨h1, h2, h3, h4, h5⟩
theorem nextS_eq {S : Rs} {right : Nat → Int} {v n : Nat} {e : Int} (h0 : S.fe = 0) (hr : numR (S.l.drop S.a) = (v, n, e)) :
    nextS right S = if (if e = 0 then right v else e) ≠ 0 then (0, failS S (if e = 0 then right v else e)) else (v, { S with a := S.a + n }) := by
  unfold nextS
  rw [if_neg (by simp [h0])]
  simp only [hr]
theorem nextS_bad {S : Rs} {right : Nat → Int} (h0 : S.fe ≠ 0) : nextS right S = (0, S) := by
  unfold nextS
  rw [if_pos h0]
theorem Rs.wf_next {S : Rs} (h : S.wf) (right : Nat → Int) : (nextS right S).2.wf := by
  by_cases h0 : S.fe = 0
  · obtain ⟨v, n, e, hr⟩ : ∃ v n e, numR (S.l.drop S.a) = (v, n, e) := ⟨_, _, _, rfl⟩
    have h2 := numR_some hr
    rw [nextS_eq h0 hr]
    by_cases he : e = 0
    · subst he
      by_cases hz : right v = 0
      · rw [if_neg (by simp [hz])]
        have h4 := (h2.2 rfl).1
        rw [List.length_drop] at h4
        obtain ⟨g1, g2, g3, g4, g5⟩ := h
        exact ⟨by simp; omega, g2, g3, g4, g5⟩
      · rw [if_pos (by simpa using hz)]
        exact Rs.wf_fail h _
    · rw [if_pos (by simp [he])]
      exact Rs.wf_fail h _
  · rw [nextS_bad h0]; exact h

theorem intS_le (m : Nat) (S : Rs) : (intS m S).1 ≤ m := by
  unfold intS
  by_cases h0 : S.fe = 0
  · obtain ⟨v, n, e, hr⟩ : ∃ v n e, numR (S.l.drop S.a) = (v, n, e) := ⟨_, _, _, rfl⟩
    rw [nextS_eq h0 hr]
    by_cases he : e = 0
    · subst he
      by_cases hz : m < v
      · rw [if_pos (by simp [hz])]; exact Nat.zero_le _
      · rw [if_neg (by simp [hz])]; omega
    · rw [if_pos (by simp [he])]; exact Nat.zero_le _
  · rw [nextS_bad h0]; exact Nat.zero_le _
end Go.Proofs.YtelipindcacphaaDoor
