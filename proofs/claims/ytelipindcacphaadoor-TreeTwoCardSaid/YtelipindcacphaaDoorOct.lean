/- Plain words on numbers in bytes and on readers (no program in sight). octet.Num, the document's Num: a number's bytes. The document's Num. -/
import Derived.WalkKit
import Derived.Lib.Hide
import Derived.Test.YtelipindcacphaaDoorRows
import Derived.Deep.DeepCutAuto
import Derived.Deep.RegionHeld3
import Derived.Test.YtelipindcacphaaDoorGb
import Derived.Test.YtelipindcacphaaDoorGc
import Derived.Laws.IdiomStrings
import Derived.Deep.LoopGhost
import Derived.IntWalk
namespace Go.Proofs.YtelipindcacphaaDoor
open Go.RowKit

/-- A text of these bytes. -/
def bs (l : List UInt8) : ByteArray := ⟨l.toArray⟩
theorem bs_list (l : List UInt8) : (bs l).data.toList = l := rfl
theorem bs_size (l : List UInt8) : (bs l).size = l.length := by simp [bs, ByteArray.size]
theorem bs_append (l m : List UInt8) : bs l ++ bs m = bs (l ++ m) := by
  apply ByteArray.ext
  simp [bs, ByteArray.data_append]
theorem bs_of (s : ByteArray) : bs s.data.toList = s := by
  apply ByteArray.ext
  simp [bs]
theorem bs_inj {l m : List UInt8} : bs l = bs m ↔ l = m := by
  constructor
  · intro h
    have := congrArg (fun s : ByteArray => s.data.toList) h
    simpa [bs] using this
  · rintro rfl; rfl
theorem bs_nil : bs [] = ⟨#[]⟩ := rfl

/-- A number's digits to the base 256, the greatest first. -/
def beD (v : Nat) : List UInt8 := if v = 0 then [] else beD (v / 256) ++ [UInt8.ofNat (v % 256)]
termination_by v
decreasing_by omega
theorem beD_zero : beD 0 = [] := by rw [beD]; rfl
theorem beD_pos {v : Nat} (h : v ≠ 0) : beD v = beD (v / 256) ++ [UInt8.ofNat (v % 256)] := by rw [beD, if_neg h]
/-- A number's bytes. -/
def numB (v : Nat) : List UInt8 := UInt8.ofNat (beD v).length :: beD v
theorem beD_len : ∀ (k v : Nat), v < 256 ^ k → (beD v).length ≤ k
  | 0, v, h => by
    have : v = 0 := by simpa using h
    subst this; rw [beD_zero]; exact Nat.le_refl _
  | k + 1, v, h => by
    by_cases h0 : v = 0
    · subst h0; rw [beD_zero]; exact Nat.zero_le _
    · rw [beD_pos h0, List.length_append]
      have := beD_len k (v / 256) (by rw [Nat.pow_succ] at h; omega)
      simpa using this
theorem numB_len (v : Nat) (h : v < 18446744073709551616) : (numB v).length ≤ 9 := by
  have := beD_len 8 v (by simpa using h)
  simp [numB]; omega
/-- The value of digits. -/
def beV (l : List UInt8) : Nat := l.foldl (fun v c => v * 256 + c.toNat) 0
theorem beV_snoc (l : List UInt8) (c : UInt8) : beV (l ++ [c]) = beV l * 256 + c.toNat := by simp [beV]
theorem beV_beD (v : Nat) : beV (beD v) = v := by
  induction v using Nat.strongRecOn with
  | _ v ih =>
    by_cases h : v = 0
    · subst h; rw [beD_zero]; rfl
    · rw [beD_pos h, beV_snoc, ih _ (by omega)]
      simp
      omega
theorem beV_lt : ∀ (l : List UInt8), beV l < 256 ^ l.length := by
  intro l
  rw [← List.reverse_reverse l]
  induction l.reverse with
  | nil => simp [beV]
  | cons c r ih =>
    rw [List.reverse_cons, beV_snoc, List.length_append, List.length_singleton, Nat.pow_succ]
    have := c.toNat_lt
    omega

/-- The number at the front of bytes, how many bytes it has, what is wrong. -/
def numR : List UInt8 → Nat × Nat × Int
  | [] => (0, 0, 1)
  | c :: r => if 8 < c.toNat then (0, 0, 3) else if r.length < c.toNat then (0, 0, 1) else if 0 < c.toNat ∧ r.head? = some 0 then (0, 0, 3) else (beV (r.take c.toNat), 1 + c.toNat, 0)
/-- A reader: its bytes, its place, what was wrong first (e: 0, nothing), where. -/
structure Rs where
  l : List UInt8
  a : Nat
  fa : Int
  fe : Int
def Rs.wf (S : Rs) : Prop := S.a ≤ S.l.length ∧ S.l.length ≤ 1099511627776 ∧ 0 ≤ S.fa ∧ S.fa ≤ 1099511627776 ∧ (S.fe = 0 → S.fa = 0)
def failS (S : Rs) (e : Int) : Rs := if S.fe = 0 ∧ e ≠ 0 then { S with fa := S.a, fe := e } else S
/-- The next number, if it is right. -/
def nextS (right : Nat → Int) (S : Rs) : Nat × Rs :=
  if S.fe ≠ 0 then (0, S) else
    let r := numR (S.l.drop S.a)
    let e := if r.2.2 = 0 then right r.1 else r.2.2
    if e ≠ 0 then (0, failS S e) else (r.1, { S with a := S.a + r.2.1 })
def numS (S : Rs) : Nat × Rs := nextS (fun _ => 0) S
def intS (m : Nat) (S : Rs) : Nat × Rs := nextS (fun v => if m < v then 2 else 0) S
def textS (m : Nat) (S : Rs) : List UInt8 × Rs :=
  let r := intS m S
  if r.2.fe ≠ 0 then ([], r.2) else if r.2.l.length - r.2.a < r.1 then ([], failS { r.2 with a := S.a } 1) else ((r.2.l.drop r.2.a).take r.1, { r.2 with a := r.2.a + r.1 })
theorem numR_some {l : List UInt8} {v n : Nat} {e : Int} (h : numR l = (v, n, e)) : (e ≠ 0 → v = 0 ∧ n = 0 ∧ (e = 1 ∨ e = 3)) ∧ (e = 0 → n ≤ l.length ∧ 1 ≤ n ∧ n ≤ 9 ∧ v < 18446744073709551616) := by
  unfold numR at h
  cases l with
  | nil => simp at h; obtain ⟨rfl, rfl, rfl⟩ := h; simp
  | cons c r =>
    simp only at h
    split at h
    · simp at h; obtain ⟨rfl, rfl, rfl⟩ := h; simp
    · split at h
      · simp at h; obtain ⟨rfl, rfl, rfl⟩ := h; simp
      · split at h
        · simp at h; obtain ⟨rfl, rfl, rfl⟩ := h; simp
        · simp at h; obtain ⟨rfl, rfl, rfl⟩ := h
          refine ⟨by simp, fun _ => ⟨by simp; omega, by omega, by omega, ?_⟩⟩
          have h1 := beV_lt (r.take c.toNat)
          have h2 : 256 ^ (r.take c.toNat).length ≤ 256 ^ 8 := Nat.pow_le_pow_right (by decide) (by rw [List.length_take]; omega)
          omega
end Go.Proofs.YtelipindcacphaaDoor
namespace Go.Proofs.YtelipindcacphaaDoor
open Go.RowKit

theorem ret_str {a b : ByteArray} (h : a = b) : Ending.returned (.string a) = .returned (.string b) := by rw [h]
/-- Bytes as cells. -/
abbrev byC (l : List UInt8) : List Value := l.map fun c => Value.int .u8 (c.toNat : Int)
def numC (m : Nat) (t : List UInt8) : Array Value := (List.replicate (m + 1) (Value.int .u8 0) ++ byC t).toArray
theorem numC_set {m : Nat} {t : List UInt8} (c : UInt8) : (numC (m + 1) t).setIfInBounds (m + 1) (.int .u8 (c.toNat : Int)) = numC m (c :: t) := by
  unfold numC
  rw [List.replicate_succ']
  simp
theorem numC_last {m : Nat} {t : List UInt8} (c : UInt8) : (numC m t).setIfInBounds m (.int .u8 (c.toNat : Int)) = (List.replicate m (Value.int .u8 0) ++ byC (c :: t)).toArray := by
  unfold numC
  rw [List.replicate_succ']
  simp
theorem numC_at {m : Nat} {t : List UInt8} : (numC m t)[m]? = some (.int .u8 0) := by
  unfold numC
  simp only [List.getElem?_toArray]
  rw [List.getElem?_append_left (by simp)]
  simp

end Go.Proofs.YtelipindcacphaaDoor
namespace Go.Proofs.YtelipindcacphaaDoor
open Go.RowKit

theorem infoU8 : (Tryd.prog.info? 5).map (fun i => (i.zero, i.size, i.bytes)) = some (some (.int .u8 0), 1, 1) := by kernel_rfl
/-- A row of one element, built anew. -/
theorem Ow.built1 (w : World) {base : Nat} (e : TypeId) (u : Value) (hb : base ≤ w.heap.size) : Ow (w.alloc (.cells #[u] e)) base e 1 (.slice (some ⟨w.heap.size, 0, none⟩) 1 1) [[u]] :=
  ⟨by simp, by simp, .inr ⟨w.heap.size, 1, #[u], rfl, hb, heap_at _ _ rfl, Nat.le_refl _, by decide, rfl, rfl⟩⟩
/-- Bytes as elements of one cell each. -/
abbrev byE (l : List UInt8) : List (List Value) := l.map fun c => [Value.int .u8 (c.toNat : Int)]
theorem byE_len {l : List UInt8} : ∀ y ∈ byE l, y.length = 1 := by simp
theorem byE_one {l : List UInt8} : ∀ y ∈ byE l, ∀ u ∈ y, u.oneCell' = true := by simp [Value.oneCell']

end Go.Proofs.YtelipindcacphaaDoor
