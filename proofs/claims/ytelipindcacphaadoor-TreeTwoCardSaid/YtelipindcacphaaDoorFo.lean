/- Transactions as arguments, opened. -/
import Derived.Test.YtelipindcacphaaDoorM5
import Derived.Test.YtelipindcacphaaDoorOpM
import Derived.Test.YtelipindcacphaaDoorM39
namespace Go.Proofs.YtelipindcacphaaDoor
open Go.ChangeShapes Go.WideShapes Go.ChangeAt Go.RowKit

section
variable {H : Type} {enc : TypeId × Value → H} {w : World} {base : Nat} {spare : Nat → Bool} {held : Bool}
theorem reads_pe {cs : List Value} (hl : cs.length = 10) (h : Reads enc Tryd.prog w base spare held 56 cs) : ∃ p : Pe, cs = p.enc ∧ (p.Ok w w.heap.size ∧ p.e.wf ∧ p.key.length ≤ maxLen ∧ p.e.name.length ≤ maxLen ∧ p.l ≤ maxLen) := by
  obtain ⟨c0, c1, c2, c3, c4, c5, c6, c7, c8, c9, rfl⟩ := list10 hl
  obtain ⟨x0, rfl, k0⟩ := reads_string Tryd.underlying9 (reads_field 0 0 1 Tryd.underlying56 rfl rfl rfl (by kernel_rfl) h)
  have he := reads_field 1 1 9 Tryd.underlying56 rfl rfl rfl (by kernel_rfl) h
  obtain ⟨x1, rfl, a1, a2⟩ := reads_i64 Tryd.underlying3 (reads_field 0 0 1 Tryd.underlying54 rfl rfl rfl (by kernel_rfl) he)
  obtain ⟨x2, rfl, k2⟩ := reads_string Tryd.underlying9 (reads_field 1 1 1 Tryd.underlying54 rfl rfl rfl (by kernel_rfl) he)
  obtain ⟨x3, rfl, b1, b2⟩ := reads_i64 Tryd.underlying2 (reads_field 2 2 1 Tryd.underlying54 rfl rfl rfl (by kernel_rfl) he)
  obtain ⟨tg, htg, htw⟩ := reads_tm (cs := [c4, c5, c6]) rfl (reads_field 3 3 3 Tryd.underlying54 rfl rfl rfl (by kernel_rfl) he)
  have ha := reads_field 4 6 2 Tryd.underlying54 rfl rfl rfl (by kernel_rfl) he
  obtain ⟨x7, rfl, u1, u2⟩ := reads_u32 Tryd.underlying23 (reads_field 0 0 1 Tryd.underlying51 rfl rfl rfl (by kernel_rfl) ha)
  obtain ⟨x8, rfl⟩ := reads_int Tryd.underlying3 (reads_field 1 1 1 Tryd.underlying51 rfl rfl rfl (by kernel_rfl) ha)
  obtain ⟨A, l, c, ts, rfl, hR, hw, hlc, hcm⟩ := reads_slice Tm.enc Tm.wf Tryd.underlying52 (by kernel_rfl) (by decide) (fun cs hl h => reads_tm hl h) (reads_field 5 8 1 Tryd.underlying54 rfl rfl rfl (by kernel_rfl) he)
  simp only [Tm.enc, List.cons.injEq, and_true] at htg
  obtain ⟨rfl, rfl, rfl⟩ := htg
  exact ⟨⟨x0.data.toList, ⟨x1, x2.data.toList, x3, tg, (x7, x8), ts⟩, A, l, c⟩, by unfold Pe.enc; dsimp only; rw [bs_of, bs_of], hR, ⟨htw, ⟨u1, u2⟩, ⟨b1, b2⟩, hw, a1, a2⟩, by rw [Array.length_toList]; exact k0, by rw [Array.length_toList]; exact k2, Nat.le_trans hlc hcm⟩
set_option maxRecDepth 100000 in
theorem reads_txe {cs : List Value} (hl : cs.length = 12) (h : Reads enc Tryd.prog w base spare held 30 cs) :
    ∃ (x : Im) (v : Vm) (t : Bool) (A : Option Addr) (n c : Nat) (ps : List Pe), cs = [.int .i64 x.1, .int .u32 x.2, .int .u32 v.d0, .int .u32 v.d1, .int .u32 v.d2, .int .u32 v.d3, .int .u32 v.d4, .int .u32 v.d5, .int .u32 v.d6, .int .u32 v.d7, .bool t, .slice A n c] ∧ x.wf ∧ v.wf ∧ RdE w w.heap.size A n ps ∧ (∀ p ∈ ps, p.e.wf ∧ p.key.length ≤ maxLen ∧ p.e.name.length ≤ maxLen ∧ p.l ≤ maxLen) ∧ n ≤ maxLen := by
  obtain ⟨c0, c1, c2, c3, c4, c5, c6, c7, c8, c9, c10, c11, rfl⟩ := list12 hl
  obtain ⟨x, hx, hxw⟩ := reads_id (cs := [c0, c1]) rfl (reads_field 0 0 2 Tryd.underlying30 rfl rfl rfl (by kernel_rfl) h)
  obtain ⟨v, hv, hvw⟩ := reads_vec (cs := [c2, c3, c4, c5, c6, c7, c8, c9]) rfl (reads_field 1 2 8 Tryd.underlying30 rfl rfl rfl (by kernel_rfl) h)
  obtain ⟨t, rfl⟩ := reads_bool Tryd.underlying4 (reads_field 2 10 1 Tryd.underlying30 rfl rfl rfl (by kernel_rfl) h)
  obtain ⟨A, l, c, ps, rfl, hR, hQ, hlc, hcm⟩ := reads_slice Pe.enc (fun p => p.Ok w w.heap.size ∧ p.e.wf ∧ p.key.length ≤ maxLen ∧ p.e.name.length ≤ maxLen ∧ p.l ≤ maxLen) Tryd.underlying28 (by kernel_rfl) (by decide) (fun cs hl h => reads_pe hl h) (reads_field 3 11 1 Tryd.underlying30 rfl rfl rfl (by kernel_rfl) h)
  simp only [Im.enc, List.cons.injEq, and_true] at hx hv
  obtain ⟨rfl, rfl⟩ := hx
  obtain ⟨rfl, rfl, rfl, rfl, rfl, rfl, rfl, rfl⟩ := hv
  exact ⟨x, v, t, A, l, c, ps, rfl, hxw, hvw, ⟨hR, fun p hp => (hQ p hp).1⟩, fun p hp => (hQ p hp).2, Nat.le_trans hlc hcm⟩
set_option maxRecDepth 100000 in
theorem open_txe {r : Reach} {b0 : Nat} {v : Value} {d : DataW H} {p : List MemPlace} (hv : Value.okWide Tryd.prog w r b0 30 v) (h : DataW.Trod enc Tryd.prog w base spare held 30 v d p) :
    ∃ (x : Im) (u : Vm) (t : Bool) (A : Option Addr) (n c : Nat) (ps : List Pe), v = .agg #[.int .i64 x.1, .int .u32 x.2, .int .u32 u.d0, .int .u32 u.d1, .int .u32 u.d2, .int .u32 u.d3, .int .u32 u.d4, .int .u32 u.d5, .int .u32 u.d6, .int .u32 u.d7, .bool t, .slice A n c] ∧ x.wf ∧ u.wf ∧ RdE w w.heap.size A n ps ∧ (∀ p ∈ ps, p.e.wf ∧ p.key.length ≤ maxLen ∧ p.e.name.length ≤ maxLen ∧ p.l ≤ maxLen) ∧ n ≤ maxLen := by
  obtain ⟨cs, rfl, hsz⟩ := okWide_struct Tryd.underlying30 hv
  obtain ⟨x, u, t, A, n, c, ps, ht, h1, h2, h3, h4, h5⟩ := reads_txe (cs := cs.toList) (by rw [Array.length_toList, hsz]; kernel_rfl) (reads_of h)
  exact ⟨x, u, t, A, n, c, ps, by rw [show cs = [.int .i64 x.1, .int .u32 x.2, .int .u32 u.d0, .int .u32 u.d1, .int .u32 u.d2, .int .u32 u.d3, .int .u32 u.d4, .int .u32 u.d5, .int .u32 u.d6, .int .u32 u.d7, .bool t, .slice A n c].toArray by rw [← ht]], h1, h2, h3, h4, h5⟩
end
end Go.Proofs.YtelipindcacphaaDoor
