/- Plain words on numbers in bytes and on readers (no program in sight). octet.Num, the document's Num: a number's bytes. The document's Num. -/
import Derived.WalkKit
import Derived.Lib.Hide
import Derived.Test.YtfhandglpjnonaaGreatDoorRows
import Derived.Deep.DeepCutAuto
import Derived.Deep.RegionHeld3
import Derived.Test.YtfhandglpjnonaaGreatDoorGb
import Derived.Test.YtfhandglpjnonaaGreatDoorGc
import Derived.Laws.IdiomStrings
import Derived.Deep.LoopGhost
import Derived.IntWalk
namespace Go.Proofs.YtfhandglpjnonaaGreatDoor
open Go.RowKit

/-- A text of these bytes. -/
def bs (l : List UInt8) : ByteArray := ⟨l.toArray⟩
theorem bs_list (l : List UInt8) : (bs l).data.toList = l := rfl
theorem bs_size (l : List UInt8) : (bs l).size = l.length := by simp [bs, ByteArray.size]
theorem bs_append (l m : List UInt8) : bs l ++ bs m = bs (l ++ m) := by
  apply ByteArray.ext
  simp [bs, ByteArray.data_append]
theorem bs_of (s : ByteArray) : bs s.data.toList = s := by
  apply ByteArray.ext
  simp [bs]
theorem bs_inj {l m : List UInt8} : bs l = bs m ↔ l = m := by
  constructor
  · intro h
    have := congrArg (fun s : ByteArray => s.data.toList) h
    simpa [bs] using this
  · rintro rfl; rfl
theorem bs_nil : bs [] = ⟨#[]⟩ := rfl

/-- A number's digits to the base 256, the greatest first. -/
def beD (v : Nat) : List UInt8 := if v = 0 then [] else beD (v / 256) ++ [UInt8.ofNat (v % 256)]
termination_by v
decreasing_by omega
theorem beD_zero : beD 0 = [] := by rw [beD]; rfl
theorem beD_pos {v : Nat} (h : v ≠ 0) : beD v = beD (v / 256) ++ [UInt8.ofNat (v % 256)] := by rw [beD, if_neg h]
/-- A number's bytes. -/
def numB (v : Nat) : List UInt8 := UInt8.ofNat (beD v).length :: beD v
theorem beD_len : ∀ (k v : Nat), v < 256 ^ k → (beD v).length ≤ k
  | 0, v, h => by
    have : v = 0 := by simpa using h
    subst this; rw [beD_zero]; exact Nat.le_refl _
  | k + 1, v, h => by
    by_cases h0 : v = 0
    · subst h0; rw [beD_zero]; exact Nat.zero_le _
    · rw [beD_pos h0, List.length_append]
      have := beD_len k (v / 256) (by rw [Nat.pow_succ] at h; omega)
      simpa using this
theorem numB_len (v : Nat) (h : v < 18446744073709551616) : (numB v).length ≤ 9 := by
  have := beD_len 8 v (by simpa using h)
  simp [numB]; omega
/-- The value of digits. -/
def beV (l : List UInt8) : Nat := l.foldl (fun v c => v * 256 + c.toNat) 0
theorem beV_snoc (l : List UInt8) (c : UInt8) : beV (l ++ [c]) = beV l * 256 + c.toNat := by simp [beV]
theorem beV_beD (v : Nat) : beV (beD v) = v := by
  induction v using Nat.strongRecOn with
  | _ v ih =>
    by_cases h : v = 0
    · subst h; rw [beD_zero]; rfl
    · rw [beD_pos h, beV_snoc, ih _ (by omega)]
      simp
      omega
theorem beV_lt : ∀ (l : List UInt8), beV l < 256 ^ l.length := by
  intro l
  rw [← List.reverse_reverse l]
  induction l.reverse with
  | nil => simp [beV]
  | cons c r ih =>
    rw [List.reverse_cons, beV_snoc, List.length_append, List.length_singleton, Nat.pow_succ]
    have := c.toNat_lt
    omega

/-- The number at the front of bytes, how many bytes it has, what is wrong. -/
def numR : List UInt8 → Nat × Nat × Int
  | [] => (0, 0, 1)
  | c :: r => if 8 < c.toNat then (0, 0, 3) else if r.length < c.toNat then (0, 0, 1) else if 0 < c.toNat ∧ r.head? = some 0 then (0, 0, 3) else (beV (r.take c.toNat), 1 + c.toNat, 0)
/-- A reader: its bytes, its place, what was wrong first (e: 0, nothing), where. -/
structure Rs where
  l : List UInt8
  a : Nat
  fa : Int
  fe : Int
def Rs.wf (S : Rs) : Prop := S.a ≤ S.l.length ∧ S.l.length ≤ 1099511627776 ∧ 0 ≤ S.fa ∧ S.fa ≤ 1099511627776 ∧ (S.fe = 0 → S.fa = 0)
def failS (S : Rs) (e : Int) : Rs := if S.fe = 0 ∧ e ≠ 0 then { S with fa := S.a, fe := e } else S
/-- The next number, if it is right. -/
def nextS (right : Nat → Int) (S : Rs) : Nat × Rs :=
  if S.fe ≠ 0 then (0, S) else
    let r := numR (S.l.drop S.a)
    let e := if r.2.2 = 0 then right r.1 else r.2.2
    if e ≠ 0 then (0, failS S e) else (r.1, { S with a := S.a + r.2.1 })
def numS (S : Rs) : Nat × Rs := nextS (fun _ => 0) S
def intS (m : Nat) (S : Rs) : Nat × Rs := nextS (fun v => if m < v then 2 else 0) S
def textS (m : Nat) (S : Rs) : List UInt8 × Rs :=
  let r := intS m S
  if r.2.fe ≠ 0 then ([], r.2) else if r.2.l.length - r.2.a < r.1 then ([], failS { r.2 with a := S.a } 1) else ((r.2.l.drop r.2.a).take r.1, { r.2 with a := r.2.a + r.1 })
theorem numR_some {l : List UInt8} {v n : Nat} {e : Int} (h : numR l = (v, n, e)) : (e ≠ 0 → v = 0 ∧ n = 0 ∧ (e = 1 ∨ e = 3)) ∧ (e = 0 → n ≤ l.length ∧ 1 ≤ n ∧ n ≤ 9 ∧ v < 18446744073709551616) := by
  unfold numR at h
  cases l with
  | nil => simp at h; obtain ⟨rfl, rfl, rfl⟩ := h; simp
  | cons c r =>
    simp only at h
    split at h
    · simp at h; obtain ⟨rfl, rfl, rfl⟩ := h; simp
    · split at h
      · simp at h; obtain ⟨rfl, rfl, rfl⟩ := h; simp
      · split at h
        · simp at h; obtain ⟨rfl, rfl, rfl⟩ := h; simp
        · simp at h; obtain ⟨rfl, rfl, rfl⟩ := h
          refine ⟨by simp, fun _ => ⟨by simp; omega, by omega, by omega, ?_⟩⟩
          have h1 := beV_lt (r.take c.toNat)
          have h2 : 256 ^ (r.take c.toNat).length ≤ 256 ^ 8 := Nat.pow_le_pow_right (by decide) (by rw [List.length_take]; omega)
          omega
end Go.Proofs.YtfhandglpjnonaaGreatDoor
namespace Go.Proofs.YtfhandglpjnonaaGreatDoor
open Go.RowKit

theorem ret_str {a b : ByteArray} (h : a = b) : Ending.returned (.string a) = .returned (.string b) := by rw [h]
/-- Bytes as cells. -/
abbrev byC (l : List UInt8) : List Value := l.map fun c => Value.int .u8 (c.toNat : Int)
def numC (m : Nat) (t : List UInt8) : Array Value := (List.replicate (m + 1) (Value.int .u8 0) ++ byC t).toArray
theorem numC_set {m : Nat} {t : List UInt8} (c : UInt8) : (numC (m + 1) t).setIfInBounds (m + 1) (.int .u8 (c.toNat : Int)) = numC m (c :: t) := by
  unfold numC
  rw [List.replicate_succ']
  simp
theorem numC_last {m : Nat} {t : List UInt8} (c : UInt8) : (numC m t).setIfInBounds m (.int .u8 (c.toNat : Int)) = (List.replicate m (Value.int .u8 0) ++ byC (c :: t)).toArray := by
  unfold numC
  rw [List.replicate_succ']
  simp
theorem numC_at {m : Nat} {t : List UInt8} : (numC m t)[m]? = some (.int .u8 0) := by
  unfold numC
  simp only [List.getElem?_toArray]
  rw [List.getElem?_append_left (by simp)]
  simp

theorem slice9 (W : World) (g m : Nat) (hm : m < 9) :
    (Instr.sliceAt 209 (.pointer (some ⟨g, 0, none⟩)) (some (.int .i64 (m : Int))) none none).run Tryz.prog W = .ok (.slice (some ⟨g, m, none⟩) (9 - m) (9 - m)) W := by
  have h1 : Tryz.prog.arrayLen 209 = 9 := by kernel_rfl
  have h2 : Tryz.prog.elem 209 = 5 := by kernel_rfl
  have h3 : (sizeOf 5).run Tryz.prog W = .ok 1 W := by kernel_rfl
  rw [run_sliceAt_array_l W _ _ (by kernel_rfl) .i64 m (by omega) (by rw [h1]; omega), h1, h2, h3]
  simp [Result.andThen, slicedAt]
  rw [if_neg (by omega)]
  simp [Addr.add]
  intro h; exact h.symm
theorem conv_num {W : World} {g m : Nat} {t : List UInt8} (ht : t.length + m = 8) (cap : Nat) (h : W.heap[g]? = some (.cells (numC m t) 209 (0, 0))) :
    (convert 211 9 (.slice (some ⟨g, m, none⟩) (9 - m) cap)).run Tryz.prog (W.setCell ⟨g, m, none⟩ (.int .u8 (9 - (m + 1 : Int)))) = .ok (.string (bs (UInt8.ofNat t.length :: t))) (W.setCell ⟨g, m, none⟩ (.int .u8 (9 - (m + 1 : Int)))) := by
  have e0 : (9 - (m + 1 : Int)) = ((UInt8.ofNat t.length).toNat : Int) := by simp; omega
  rw [e0]
  have hb := blk_set h m (.int .u8 ((UInt8.ofNat t.length).toNat : Int))
  rw [numC_last] at hb
  have h9 : 9 - m = (UInt8.ofNat t.length :: t).length := by simp; omega
  rw [h9]
  refine run_convert_bytes_back _ _ _ 5 ⟨g, m, none⟩ cap _ Tryz.underlying211 Tryz.underlying5 Tryz.underlying9 ?_
  intro j hj
  rw [show (⟨g, m, none⟩ : Addr).add j = ⟨g, m + j, none⟩ from by simp [Addr.add], blk_cell hb]
  simp only [List.getElem?_toArray]
  rw [List.getElem?_append_right (by simp)]
  simp only [List.length_replicate, Nat.add_sub_cancel_left, List.getElem?_map, List.getElem?_eq_getElem hj, Option.map_some]

set_option maxRecDepth 100000 in
set_option maxHeartbeats 1000000 in
theorem num_any (v : Nat) (hv : v < 18446744073709551616) (w : World) :
    Calls Tryz.prog 93 #[.int .u64 (v : Int)] w fun e w' => e = .returned (.string (bs (numB v))) ∧ Below w.heap.size w w' := by
  have hlen : (beD v).length ≤ 8 := beD_len 8 v (by simpa using hv)
  have hvH := Lib.hid hv
  clear hv
  go_enter Tryz.func93, Tryz.ntmps93
  go_wp2_with fail
  go_loopg [0, 4] 9 (fun g x i wr => ∃ (m y : Nat) (t : List UInt8), g = m + 1 ∧ t.length + m = 8 ∧ x = .int .u64 (y : Int) ∧ i = .int .i64 (m + 1 : Int) ∧ beD v = beD y ++ t ∧ wr.heap[w.heap.size]? = some (.cells (numC m t) 209 (0, 0)) ∧ Below w.heap.size w wr)
  case atStart => exact ⟨8, v, [], rfl, rfl, rfl, rfl, by simp, heap_at _ _ rfl, (Below.refl _ _).alloc (Nat.le_refl _) _⟩
  case round =>
    obtain ⟨m, y, t, rfl, ht, rfl, rfl, hbe, hbl, hb⟩ := hrel
    have hlt := blk_lt hbl
    have hfr := blk_frozen hbl
    by_cases hy : y = 0
    · subst hy
      rw [beD_zero, List.nil_append] at hbe
      have hcm : wr.cell? ⟨w.heap.size, m, none⟩ = some (.int .u8 0) := by rw [blk_cell hbl]; exact numC_at
      have hm8 : m ≤ 8 := by omega
      have hbeH := Lib.hid hbe
      have htH := Lib.hid ht
      clear hbe ht
      have hsl := fun W => slice9 W w.heap.size m (by omega)
      have hcv := conv_num (cap := 9 - m) htH.out hbl
      have hT : Hid (bs (UInt8.ofNat t.length :: t) = bs (numB v)) := Lib.hid (by unfold numB; rw [hbeH.out])
      have hB : Below w.heap.size w (wr.setCell ⟨w.heap.size, m, none⟩ (.int .u8 (9 - (m + 1 : Int)))) := hb.setCell (Nat.le_refl _) _
      go_wp2
      go_ret
      exact ⟨ret_str hT.out, hB⟩
    · have hpos : (0 : Int) < (y : Int) := by omega
      have hbp := beD_pos hy
      have hm : ∃ m', m = m' + 1 := by
        rw [hbe, List.length_append, hbp, List.length_append] at hlen
        simp at hlen
        exact ⟨m - 1, by omega⟩
      obtain ⟨m', rfl⟩ := hm
      have hcm : wr.cell? ⟨w.heap.size, m' + 1, none⟩ = some (.int .u8 0) := by rw [blk_cell hbl]; exact numC_at
      have hm8 : m' ≤ 7 := by omega
      rw [hbp, List.append_assoc, List.singleton_append] at hbe
      have hbeH := Lib.hid hbe
      have htH := Lib.hid ht
      have hlenH := Lib.hid hlen
      have e1 : Hid ((y : Int) % 256 = ((UInt8.ofNat (y % 256)).toNat : Int)) := Lib.hid (by simp)
      have e2 : Hid ((y : Int) / 256 = ((y / 256 : Nat) : Int)) := Lib.hid (by omega)
      clear hbe ht hbp hlen hy
      go_wp2
      go_roundg (m' + 1)
      case measure => omega
      case rel =>
        refine ⟨m', y / 256, UInt8.ofNat (y % 256) :: t, rfl, by have := htH.out; simp; omega, by rw [e2.out], by go_num, hbeH.out, ?_, ?_⟩
        · rw [e1.out, blk_set hbl, numC_set]
        · exact hb.setCell (Nat.le_refl _) _
end Go.Proofs.YtfhandglpjnonaaGreatDoor
namespace Go.Proofs.YtfhandglpjnonaaGreatDoor
open Go.RowKit

theorem infoU8 : (Tryz.prog.info? 5).map (fun i => (i.zero, i.size, i.bytes)) = some (some (.int .u8 0), 1, 1) := by kernel_rfl
theorem eU8 : ElemInfo Tryz.prog 211 5 1 1 := by
  obtain ⟨i, hi, h0, h1, h2⟩ := info_parts infoU8
  exact ⟨Tryz.underlying211, ⟨i, _, hi, h0, h1, h2, rfl⟩, by decide⟩
/-- A row of one element, built anew. -/
theorem Ow.built1 (w : World) {base : Nat} (e : TypeId) (u : Value) (hb : base ≤ w.heap.size) : Ow (w.alloc (.cells #[u] e)) base e 1 (.slice (some ⟨w.heap.size, 0, none⟩) 1 1) [[u]] :=
  ⟨by simp, by simp, .inr ⟨w.heap.size, 1, #[u], rfl, hb, heap_at _ _ rfl, Nat.le_refl _, by decide, rfl, rfl⟩⟩
/-- Bytes as elements of one cell each. -/
abbrev byE (l : List UInt8) : List (List Value) := l.map fun c => [Value.int .u8 (c.toNat : Int)]
theorem byE_len {l : List UInt8} : ∀ y ∈ byE l, y.length = 1 := by simp
theorem byE_one {l : List UInt8} : ∀ y ∈ byE l, ∀ u ∈ y, u.oneCell' = true := by simp [Value.oneCell']

theorem conv_rd {W : World} {B : Nat} {A : Option Addr} {n : Nat} {l : List UInt8} (h : Rd W B 1 A n (byE l)) (c : Nat) :
    (convert 211 9 (.slice A n c)).run Tryz.prog W = .ok (.string (bs l)) W := by
  have hl : l.length = n := by simpa using h.1
  subst hl
  cases A with
  | none =>
    have h0 : l = [] := by
      rcases Nat.eq_zero_or_pos l.length with h0 | h0
      · exact List.eq_nil_of_length_eq_zero h0
      · obtain ⟨b, o, e, _⟩ := h.2 h0; cases e
    subst h0
    exact run_convert_bytes_nil W _ _ Tryz.underlying211 Tryz.underlying5 0 c _ Tryz.underlying9
  | some a =>
    refine run_convert_bytes_back _ _ _ 5 a c _ Tryz.underlying211 Tryz.underlying5 Tryz.underlying9 ?_
    intro j hj
    obtain ⟨b, o, e, _, hc⟩ := h.2 (by omega)
    injection e with e
    subst e
    have := hc j [Value.int .u8 (l[j].toNat : Int)] (by simp [hj]) 0 _ rfl
    rw [Nat.mul_one, Nat.add_zero] at this
    rw [show (⟨b, o, none⟩ : Addr).add j = ⟨b, o + j, none⟩ from by simp [Addr.add]]
    exact this

set_option maxRecDepth 100000 in
set_option maxHeartbeats 1000000 in
theorem rnum_any (v : Nat) (hv : v < 18446744073709551616) (w : World) :
    Calls Tryz.prog 95 #[.int .u64 (v : Int)] w fun e w' => e = .returned (.string (bs (numB v))) ∧ Below w.heap.size w w' := by
  have hlen : (beD v).length ≤ 8 := beD_len 8 v (by simpa using hv)
  have hvH := Lib.hid hv
  clear hv
  go_enter Tryz.func95, Tryz.ntmps95
  go_wp2_with fail
  go_loopg [3, 4] 9 (fun g b i wr => ∃ (j : Nat) (A : Option Addr) (n c : Nat), g = j + 1 ∧ j ≤ 8 ∧ b = .slice A n c ∧ i = .int .i64 (j - 1 : Int) ∧ Ow wr w.heap.size 5 1 (.slice A n c) (byE (beD (v / 256 ^ j))) ∧ Below w.heap.size w wr)
  case atStart => exact ⟨8, none, 0, 0, rfl, by omega, rfl, rfl, by rw [show v / 256 ^ 8 = 0 from by have := hvH.out; omega, beD_zero]; exact Ow.nil_ _ _ _ _, Below.refl _ _⟩
  case round =>
    obtain ⟨j, A, n, c, rfl, hj, rfl, rfl, hown, hb⟩ := hrel
    cases j with
    | zero => 
      rw [show v / 256 ^ 0 = v from by simp] at hown
      have hn : (beD v).length = n := by simpa using hown.rd.2.1
      have hn8 : n ≤ 8 := by omega
      have hnH := Lib.hid hn
      have hN : Hid ([[Value.int .u8 (n : Int)]] ++ byE (beD v) = byE (numB v)) := Lib.hid (by
        unfold numB byE
        rw [List.map_cons, hnH.out, List.singleton_append]
        congr 3
        simp; omega)
      have hrd := hown.rd.1
      have hwr : (n : Int) % 256 = (n : Int) := by omega
      clear hn
      go_wp2_with (at_builtin; refine wpList_append_rd _ rfl _ _ _ rfl eU8 (base := wr.heap.size) (v := .slice (some ⟨wr.heap.size, 0, none⟩) 1 1) (xs := [[.int .u8 (n : Int)]]) rfl (Ow.built1 _ _ _ (Nat.le_refl _)) rfl (Rd.below hrd ((Below.refl _ wr).alloc (Nat.le_refl _) _)) byE_len byE_one (by simp [maxLen]; omega) (by simp; omega) (by simp) ?_; intro A2 n2 c2 w4 hn2 hown2 hg4 hat2; (have hcv := conv_rd (l := numB v) (hN.out ▸ hown2.rd.1) c2); clear hn2)
      have hB : Below w.heap.size w w4 := (hb.alloc hb.size _).grown hg4 (by have := hb.size; simp; omega) (fun g e => by simp [Value.ownBlock] at e; have := hb.size; omega)
      go_wp2
      go_ret
      exact ⟨rfl, hB⟩
    | succ k => 
      have hk0 : (0 : Int) ≤ (k : Int) := by omega
      have hk7 : (k : Int) ≤ 7 := by omega
      have hy : v / 256 ^ (k + 1) = v / 256 ^ k / 256 := by rw [Nat.pow_succ, Nat.div_div_eq_div_mul]
      have hn : (beD (v / 256 ^ (k + 1))).length = n := by simpa using hown.rd.2.1
      have hn8 : n ≤ 8 := by
        rw [← hn]; exact beD_len 8 _ (Nat.lt_of_le_of_lt (Nat.div_le_self _ _) (by have := hvH.out; omega))
      rw [hy] at hn hown
      have hc : (v : Int) / 2 ^ (8 * k) % 256 = ((v / 256 ^ k % 256 : Nat) : Int) := by
        rw [show (2 : Int) ^ (8 * k) = ((256 ^ k : Nat) : Int) from by rw [Int.pow_mul]; norm_cast]
        norm_cast
      generalize hxk : v / 256 ^ k = x at hy hn hown hc
      have hxk := Lib.hid hxk
      have hz := hb.size
      by_cases hx : x = 0
      · subst hx
        rw [show 0 / 256 = 0 from rfl, beD_zero] at hn hown
        simp at hn
        subst hn
        rw [show ((0 % 256 : Nat) : Int) = 0 from rfl] at hc
        go_wp2
        go_roundg (k + 1)
        case measure => omega
        case rel => exact ⟨k, A, 0, c, rfl, by omega, rfl, rfl, by rw [hxk.out, beD_zero]; exact hown, hb⟩
      · have hx1 : beD x = beD (x / 256) ++ [UInt8.ofNat (x % 256)] := beD_pos hx
        have hq : (v : Int) / 2 ^ (8 * k) % 256 = ((UInt8.ofNat (x % 256)).toNat : Int) := by rw [hc]; simp
        have hN : Hid (byE (beD (x / 256)) ++ [[Value.int .u8 ((v : Int) / 2 ^ (8 * k) % 256)]] = byE (beD (v / 256 ^ k))) := Lib.hid (by rw [hxk.out, hx1, hq]; simp)
        have hnH := Lib.hid hn
        have hnz : n = 0 → ((v : Int) / 2 ^ (8 * k) % 256 != 0) = true := by
          intro h0
          have : x / 256 = 0 := by
            rw [h0] at hn
            by_cases h9 : x / 256 = 0
            · exact h9
            · rw [beD_pos h9] at hn; simp at hn
          rw [hc, bne_iff_ne]; omega
        have hqH := Lib.hid hq
        clear hc hq hx1
        by_cases h0 : n = 0
        · have ht := hnz h0
          clear hnz hn
          subst h0
          have hlen1 : ∀ y ∈ ([[.int .u8 ((v : Int) / 2 ^ (8 * k) % 256)]] : List (List Value)), y.length = 1 := by simp
          have hone1 : ∀ y ∈ ([[.int .u8 ((v : Int) / 2 ^ (8 * k) % 256)]] : List (List Value)), ∀ u ∈ y, u.oneCell' = true := by simp [Value.oneCell']
          have hbO : Below wr.heap.size wr (wr.alloc (.cells #[.int .u8 ((v : Int) / 2 ^ (8 * k) % 256)] 5)) := (Below.refl _ wr).alloc (Nat.le_refl _) _
          go_wp2_with (at_builtin; refine wpList_append_rd _ rfl _ _ _ rfl eU8 (base := w.heap.size) (v := .slice A (0) c) (xs := byE (beD (x / 256))) rfl (hown.below hbO) rfl (Rd.one' [.int .u8 ((v : Int) / 2 ^ (8 * k) % 256)] rfl) hlen1 hone1 (by rw [List.length_map, hnH.out]; unfold maxLen; omega) (by rw [List.length_map, hnH.out]; omega) (by simp; omega) ?_; intro A2 n2 c2 w4 hn2 hown2 hg4 hat2; (obtain rfl : n2 = (0) + 1 := (by rw [hn2, List.length_map, hnH.out])); clear hn2)
          go_roundg (k + 1)
          case measure => omega
          case rel =>
            refine ⟨k, A2, (0) + 1, c2, rfl, by omega, by simp, rfl, by rw [← hN.out]; exact hown2, ?_⟩
            exact (hb.alloc hz _).grown hg4 (by simp; omega) (fun g e => by have := (hown.block g e).1; omega)
        · have hnp : (0 : Int) < (n : Int) := by omega
          clear hnz hn h0
          have hlen1 : ∀ y ∈ ([[.int .u8 ((v : Int) / 2 ^ (8 * k) % 256)]] : List (List Value)), y.length = 1 := by simp
          have hone1 : ∀ y ∈ ([[.int .u8 ((v : Int) / 2 ^ (8 * k) % 256)]] : List (List Value)), ∀ u ∈ y, u.oneCell' = true := by simp [Value.oneCell']
          have hbO : Below wr.heap.size wr (wr.alloc (.cells #[.int .u8 ((v : Int) / 2 ^ (8 * k) % 256)] 5)) := (Below.refl _ wr).alloc (Nat.le_refl _) _
          go_wp2_with (at_builtin; refine wpList_append_rd _ rfl _ _ _ rfl eU8 (base := w.heap.size) (v := .slice A (n) c) (xs := byE (beD (x / 256))) rfl (hown.below hbO) rfl (Rd.one' [.int .u8 ((v : Int) / 2 ^ (8 * k) % 256)] rfl) hlen1 hone1 (by rw [List.length_map, hnH.out]; unfold maxLen; omega) (by rw [List.length_map, hnH.out]; omega) (by simp; omega) ?_; intro A2 n2 c2 w4 hn2 hown2 hg4 hat2; (obtain rfl : n2 = (n) + 1 := (by rw [hn2, List.length_map, hnH.out])); clear hn2)
          go_roundg (k + 1)
          case measure => omega
          case rel =>
            refine ⟨k, A2, (n) + 1, c2, rfl, by omega, by simp, rfl, by rw [← hN.out]; exact hown2, ?_⟩
            exact (hb.alloc hz _).grown hg4 (by simp; omega) (fun g e => by have := (hown.block g e).1; omega)
end Go.Proofs.YtfhandglpjnonaaGreatDoor
