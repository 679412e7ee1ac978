/- ident.Write and the document's: a name's bytes. dots.Write and the document's: a set's bytes. -/
import Derived.Test.YtelipindcacphaaDoorOct
import Derived.Test.YtelipindcacphaaDoorM25
namespace Go.Proofs.YtelipindcacphaaDoor
open Go.RowKit

/-- A name's bytes. -/
def writeI (x : Im) : List UInt8 := if chk x then numB x.1.toNat ++ numB x.2.toNat else []
end Go.Proofs.YtelipindcacphaaDoor
namespace Go.Proofs.YtelipindcacphaaDoor
open Go.RowKit

theorem val_str {a b : ByteArray} (h : a = b) : Value.string a = .string b := by rw [h]
/-- A set's bytes. -/
def writeD (xs : List Im) : List UInt8 := if lerr xs ≠ 0 then [] else numB xs.length ++ (xs.map writeI).flatten
/-- The first k names' part of it. -/
def partD (xs : List Im) (n k : Nat) : List UInt8 := numB n ++ ((xs.take k).map writeI).flatten
theorem lerr_len {xs : List Im} (h : lerr xs = 0) : xs.length ≤ 64 := by
  unfold lerr at h
  split at h
  · exact absurd h (by decide)
  · omega
theorem writeI_len (x : Im) : (writeI x).length ≤ 18 := by
  unfold writeI
  split
  · rename_i h
    simp [chk] at h
    have h1 := numB_len x.1.toNat (by omega)
    have h2 := numB_len x.2.toNat (by omega)
    rw [List.length_append]; omega
  · simp
theorem flatW_len : ∀ (xs : List Im), ((xs.map writeI).flatten).length ≤ 18 * xs.length
  | [] => by simp
  | x :: xs => by
    have h1 := flatW_len xs
    have h2 := writeI_len x
    simp only [List.map_cons, List.flatten_cons, List.length_append, List.length_cons]
    omega
end Go.Proofs.YtelipindcacphaaDoor
