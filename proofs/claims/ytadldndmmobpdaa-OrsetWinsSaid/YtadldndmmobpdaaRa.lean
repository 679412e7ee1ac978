/- octet.number: the number at the front of bytes. The program's reader: what it holds, Fail. -/
import Derived.Test.YtadldndmmobpdaaOct
import Derived.Laws.BitsAllLaws
namespace Go.Proofs.Ytadldndmmobpdaa
open Go.RowKit

theorem ba_len (s : ByteArray) : s.data.toList.length = s.size := by rw [Array.length_toList]; rfl
theorem ba_get (s : ByteArray) {i : Nat} (h : i < s.size) : s.data.toList[i]? = some s[i] := by
  rw [List.getElem?_eq_getElem (by rw [ba_len]; exact h)]
  rfl
theorem ba_ne {s : ByteArray} (h : 0 < s.size) : s.toList.isEmpty = false := by
  rw [ByteArray.toList_eq, List.isEmpty_eq_false_iff]
  intro h0
  have := ba_len s
  rw [h0] at this
  simp at this; omega
theorem or256 (v c : Nat) (hv : v < 72057594037927936) (hc : c < 256) : bits .or .u64 ((v : Int) * 256) (c : Int) = ((v * 256 + c : Nat) : Int) := by
  have h := u64_or_nat (v * 256) c (by omega) (by omega)
  rw [show ((v * 256 : Nat) : Int) = (v : Int) * 256 from by omega] at h
  rw [h]
  congr 1
  rw [show v * 256 = v <<< 8 from by rw [Nat.shiftLeft_eq], Nat.shiftLeft_add_eq_or_of_lt (by simpa using hc)]

end Go.Proofs.Ytadldndmmobpdaa
namespace Go.Proofs.Ytadldndmmobpdaa
open Go.RowKit

end Go.Proofs.Ytadldndmmobpdaa
