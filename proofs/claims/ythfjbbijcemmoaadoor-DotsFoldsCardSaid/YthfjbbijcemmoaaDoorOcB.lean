/- The document's Num. -/
import Derived.Test.YthfjbbijcemmoaaDoorOcA
namespace Go.Proofs.YthfjbbijcemmoaaDoor
open Go.RowKit

theorem infoU8 : (Tryd.prog.info? 5).map (fun i => (i.zero, i.size, i.bytes)) = some (some (.int .u8 0), 1, 1) := by kernel_rfl
theorem eU8 : ElemInfo Tryd.prog 95 5 1 1 := by
  obtain ⟨i, hi, h0, h1, h2⟩ := info_parts infoU8
  exact ⟨Tryd.underlying95, ⟨i, _, hi, h0, h1, h2, rfl⟩, by decide⟩
/-- A row of one element, built anew. -/
theorem Ow.built1 (w : World) {base : Nat} (e : TypeId) (u : Value) (hb : base ≤ w.heap.size) : Ow (w.alloc (.cells #[u] e)) base e 1 (.slice (some ⟨w.heap.size, 0, none⟩) 1 1) [[u]] :=
  ⟨by simp, by simp, .inr ⟨w.heap.size, 1, #[u], rfl, hb, heap_at _ _ rfl, Nat.le_refl _, by decide, rfl, rfl⟩⟩
/-- Bytes as elements of one cell each. -/
abbrev byE (l : List UInt8) : List (List Value) := l.map fun c => [Value.int .u8 (c.toNat : Int)]
theorem byE_len {l : List UInt8} : ∀ y ∈ byE l, y.length = 1 := by simp
theorem byE_one {l : List UInt8} : ∀ y ∈ byE l, ∀ u ∈ y, u.oneCell' = true := by simp [Value.oneCell']

theorem conv_rd {W : World} {B : Nat} {A : Option Addr} {n : Nat} {l : List UInt8} (h : Rd W B 1 A n (byE l)) (c : Nat) :
    (convert 95 9 (.slice A n c)).run Tryd.prog W = .ok (.string (bs l)) W := by
  have hl : l.length = n := by simpa using h.1
  subst hl
  cases A with
  | none =>
    have h0 : l = [] := by
      rcases Nat.eq_zero_or_pos l.length with h0 | h0
      · exact List.eq_nil_of_length_eq_zero h0
      · obtain ⟨b, o, e, _⟩ := h.2 h0; cases e
    subst h0
    exact run_convert_bytes_nil W _ _ Tryd.underlying95 Tryd.underlying5 0 c _ Tryd.underlying9
  | some a =>
    refine run_convert_bytes_back _ _ _ 5 a c _ Tryd.underlying95 Tryd.underlying5 Tryd.underlying9 ?_
    intro j hj
    obtain ⟨b, o, e, _, hc⟩ := h.2 (by omega)
    injection e with e
    subst e
    have := hc j [Value.int .u8 (l[j].toNat : Int)] (by simp [hj]) 0 _ rfl
    rw [Nat.mul_one, Nat.add_zero] at this
    rw [show (⟨b, o, none⟩ : Addr).add j = ⟨b, o + j, none⟩ from by simp [Addr.add]]
    exact this

set_option maxRecDepth 100000 in
set_option maxHeartbeats 1000000 in
theorem rnum_any (v : Nat) (hv : v < 18446744073709551616) (w : World) :
    Calls Tryd.prog 35 #[.int .u64 (v : Int)] w fun e w' => e = .returned (.string (bs (numB v))) ∧ Below w.heap.size w w' := by
  have hlen : (beD v).length ≤ 8 := beD_len 8 v (by simpa using hv)
  have hvH := Lib.hid hv
  clear hv
  go_enter Tryd.func35, Tryd.ntmps35
  go_wp2_with fail
  go_loopg [3, 4] 9 (fun g b i wr => ∃ (j : Nat) (A : Option Addr) (n c : Nat), g = j + 1 ∧ j ≤ 8 ∧ b = .slice A n c ∧ i = .int .i64 (j - 1 : Int) ∧ Ow wr w.heap.size 5 1 (.slice A n c) (byE (beD (v / 256 ^ j))) ∧ Below w.heap.size w wr)
  case atStart => exact ⟨8, none, 0, 0, rfl, by omega, rfl, rfl, by rw [show v / 256 ^ 8 = 0 from by have := hvH.out; omega, beD_zero]; exact Ow.nil_ _ _ _ _, Below.refl _ _⟩
  case round =>
    obtain ⟨j, A, n, c, rfl, hj, rfl, rfl, hown, hb⟩ := hrel
    cases j with
    | zero => 
      rw [show v / 256 ^ 0 = v from by simp] at hown
      have hn : (beD v).length = n := by simpa using hown.rd.2.1
      have hn8 : n ≤ 8 := by omega
      have hnH := Lib.hid hn
      have hN : Hid ([[Value.int .u8 (n : Int)]] ++ byE (beD v) = byE (numB v)) := Lib.hid (by
        unfold numB byE
        rw [List.map_cons, hnH.out, List.singleton_append]
        congr 3
        simp; omega)
      have hrd := hown.rd.1
      have hwr : (n : Int) % 256 = (n : Int) := by omega
      clear hn
      go_wp2_with (at_builtin; refine wpList_append_rd _ rfl _ _ _ rfl eU8 (base := wr.heap.size) (v := .slice (some ⟨wr.heap.size, 0, none⟩) 1 1) (xs := [[.int .u8 (n : Int)]]) rfl (Ow.built1 _ _ _ (Nat.le_refl _)) rfl (Rd.below hrd ((Below.refl _ wr).alloc (Nat.le_refl _) _)) byE_len byE_one (by simp [maxLen]; omega) (by simp; omega) (by simp) ?_; intro A2 n2 c2 w4 hn2 hown2 hg4 hat2; (have hcv := conv_rd (l := numB v) (hN.out ▸ hown2.rd.1) c2); clear hn2)
      have hB : Below w.heap.size w w4 := (hb.alloc hb.size _).grown hg4 (by have := hb.size; simp; omega) (fun g e => by simp [Value.ownBlock] at e; have := hb.size; omega)
      go_wp2
      go_ret
      exact ⟨rfl, hB⟩
    | succ k => 
      have hk0 : (0 : Int) ≤ (k : Int) := by omega
      have hk7 : (k : Int) ≤ 7 := by omega
      have hy : v / 256 ^ (k + 1) = v / 256 ^ k / 256 := by rw [Nat.pow_succ, Nat.div_div_eq_div_mul]
      have hn : (beD (v / 256 ^ (k + 1))).length = n := by simpa using hown.rd.2.1
      have hn8 : n ≤ 8 := by
        rw [← hn]; exact beD_len 8 _ (Nat.lt_of_le_of_lt (Nat.div_le_self _ _) (by have := hvH.out; omega))
      rw [hy] at hn hown
      have hc : (v : Int) / 2 ^ (8 * k) % 256 = ((v / 256 ^ k % 256 : Nat) : Int) := by
        rw [show (2 : Int) ^ (8 * k) = ((256 ^ k : Nat) : Int) from by rw [Int.pow_mul]; norm_cast]
        norm_cast
      generalize hxk : v / 256 ^ k = x at hy hn hown hc
      have hxk := Lib.hid hxk
      have hz := hb.size
      by_cases hx : x = 0
      · subst hx
        rw [show 0 / 256 = 0 from rfl, beD_zero] at hn hown
        simp at hn
        subst hn
        rw [show ((0 % 256 : Nat) : Int) = 0 from rfl] at hc
        go_wp2
        go_roundg (k + 1)
        case measure => omega
        case rel => exact ⟨k, A, 0, c, rfl, by omega, rfl, rfl, by rw [hxk.out, beD_zero]; exact hown, hb⟩
      · have hx1 : beD x = beD (x / 256) ++ [UInt8.ofNat (x % 256)] := beD_pos hx
        have hq : (v : Int) / 2 ^ (8 * k) % 256 = ((UInt8.ofNat (x % 256)).toNat : Int) := by rw [hc]; simp
        have hN : Hid (byE (beD (x / 256)) ++ [[Value.int .u8 ((v : Int) / 2 ^ (8 * k) % 256)]] = byE (beD (v / 256 ^ k))) := Lib.hid (by rw [hxk.out, hx1, hq]; simp)
        have hnH := Lib.hid hn
        have hnz : n = 0 → ((v : Int) / 2 ^ (8 * k) % 256 != 0) = true := by
          intro h0
          have : x / 256 = 0 := by
            rw [h0] at hn
            by_cases h9 : x / 256 = 0
            · exact h9
            · rw [beD_pos h9] at hn; simp at hn
          rw [hc, bne_iff_ne]; omega
        have hqH := Lib.hid hq
        clear hc hq hx1
        by_cases h0 : n = 0
        · have ht := hnz h0
          clear hnz hn
          subst h0
          have hlen1 : ∀ y ∈ ([[.int .u8 ((v : Int) / 2 ^ (8 * k) % 256)]] : List (List Value)), y.length = 1 := by simp
          have hone1 : ∀ y ∈ ([[.int .u8 ((v : Int) / 2 ^ (8 * k) % 256)]] : List (List Value)), ∀ u ∈ y, u.oneCell' = true := by simp [Value.oneCell']
          have hbO : Below wr.heap.size wr (wr.alloc (.cells #[.int .u8 ((v : Int) / 2 ^ (8 * k) % 256)] 5)) := (Below.refl _ wr).alloc (Nat.le_refl _) _
          go_wp2_with (at_builtin; refine wpList_append_rd _ rfl _ _ _ rfl eU8 (base := w.heap.size) (v := .slice A (0) c) (xs := byE (beD (x / 256))) rfl (hown.below hbO) rfl (Rd.one' [.int .u8 ((v : Int) / 2 ^ (8 * k) % 256)] rfl) hlen1 hone1 (by rw [List.length_map, hnH.out]; unfold maxLen; omega) (by rw [List.length_map, hnH.out]; omega) (by simp; omega) ?_; intro A2 n2 c2 w4 hn2 hown2 hg4 hat2; (obtain rfl : n2 = (0) + 1 := (by rw [hn2, List.length_map, hnH.out])); clear hn2)
          go_roundg (k + 1)
          case measure => omega
          case rel =>
            refine ⟨k, A2, (0) + 1, c2, rfl, by omega, by simp, rfl, by rw [← hN.out]; exact hown2, ?_⟩
            exact (hb.alloc hz _).grown hg4 (by simp; omega) (fun g e => by have := (hown.block g e).1; omega)
        · have hnp : (0 : Int) < (n : Int) := by omega
          clear hnz hn h0
          have hlen1 : ∀ y ∈ ([[.int .u8 ((v : Int) / 2 ^ (8 * k) % 256)]] : List (List Value)), y.length = 1 := by simp
          have hone1 : ∀ y ∈ ([[.int .u8 ((v : Int) / 2 ^ (8 * k) % 256)]] : List (List Value)), ∀ u ∈ y, u.oneCell' = true := by simp [Value.oneCell']
          have hbO : Below wr.heap.size wr (wr.alloc (.cells #[.int .u8 ((v : Int) / 2 ^ (8 * k) % 256)] 5)) := (Below.refl _ wr).alloc (Nat.le_refl _) _
          go_wp2_with (at_builtin; refine wpList_append_rd _ rfl _ _ _ rfl eU8 (base := w.heap.size) (v := .slice A (n) c) (xs := byE (beD (x / 256))) rfl (hown.below hbO) rfl (Rd.one' [.int .u8 ((v : Int) / 2 ^ (8 * k) % 256)] rfl) hlen1 hone1 (by rw [List.length_map, hnH.out]; unfold maxLen; omega) (by rw [List.length_map, hnH.out]; omega) (by simp; omega) ?_; intro A2 n2 c2 w4 hn2 hown2 hg4 hat2; (obtain rfl : n2 = (n) + 1 := (by rw [hn2, List.length_map, hnH.out])); clear hn2)
          go_roundg (k + 1)
          case measure => omega
          case rel =>
            refine ⟨k, A2, (n) + 1, c2, rfl, by omega, by simp, rfl, by rw [← hN.out]; exact hown2, ?_⟩
            exact (hb.alloc hz _).grown hg4 (by simp; omega) (fun g e => by have := (hown.block g e).1; omega)
end Go.Proofs.YthfjbbijcemmoaaDoor
