/- The document's Num. -/
import Derived.Test.YthfjbbijcemmoaaOcA
namespace Go.Proofs.Ythfjbbijcemmoaa
open Go.RowKit

theorem infoU8 : (Try.prog.info? 5).map (fun i => (i.zero, i.size, i.bytes)) = some (some (.int .u8 0), 1, 1) := by kernel_rfl
theorem eU8 : ElemInfo Try.prog 124 5 1 1 := by
  obtain ⟨i, hi, h0, h1, h2⟩ := info_parts infoU8
  exact ⟨Try.underlying124, ⟨i, _, hi, h0, h1, h2, rfl⟩, by decide⟩
/-- A row of one element, built anew. -/
theorem Ow.built1 (w : World) {base : Nat} (e : TypeId) (u : Value) (hb : base ≤ w.heap.size) : Ow (w.alloc (.cells #[u] e)) base e 1 (.slice (some ⟨w.heap.size, 0, none⟩) 1 1) [[u]] :=
  ⟨by simp, by simp, .inr ⟨w.heap.size, 1, #[u], rfl, hb, heap_at _ _ rfl, Nat.le_refl _, by decide, rfl, rfl⟩⟩
/-- Bytes as elements of one cell each. -/
abbrev byE (l : List UInt8) : List (List Value) := l.map fun c => [Value.int .u8 (c.toNat : Int)]
theorem byE_len {l : List UInt8} : ∀ y ∈ byE l, y.length = 1 := by simp
theorem byE_one {l : List UInt8} : ∀ y ∈ byE l, ∀ u ∈ y, u.oneCell' = true := by simp [Value.oneCell']

theorem conv_rd {W : World} {B : Nat} {A : Option Addr} {n : Nat} {l : List UInt8} (h : Rd W B 1 A n (byE l)) (c : Nat) :
    (convert 124 9 (.slice A n c)).run Try.prog W = .ok (.string (bs l)) W := by
  have hl : l.length = n := by simpa using h.1
  subst hl
  cases A with
  | none =>
    have h0 : l = [] := by
      rcases Nat.eq_zero_or_pos l.length with h0 | h0
      · exact List.eq_nil_of_length_eq_zero h0
      · obtain ⟨b, o, e, _⟩ := h.2 h0; cases e
    subst h0
    exact run_convert_bytes_nil W _ _ Try.underlying124 Try.underlying5 0 c _ Try.underlying9
  | some a =>
    refine run_convert_bytes_back _ _ _ 5 a c _ Try.underlying124 Try.underlying5 Try.underlying9 ?_
    intro j hj
    obtain ⟨b, o, e, _, hc⟩ := h.2 (by omega)
    injection e with e
    subst e
    have := hc j [Value.int .u8 (l[j].toNat : Int)] (by simp [hj]) 0 _ rfl
    rw [Nat.mul_one, Nat.add_zero] at this
    rw [show (⟨b, o, none⟩ : Addr).add j = ⟨b, o + j, none⟩ from by simp [Addr.add]]
    exact this

end Go.Proofs.Ythfjbbijcemmoaa
