/- Keys: plain words; what the library's search by runes tells of a text. -/
import Derived.Test.YtpolplmniaoikaaGreatDoorM44
import Derived.Shelf.GgClosure.StringsIndexFunc
import Derived.Lib.TrimUEq
namespace Go.Proofs.YtpolplmniaoikaaGreatDoor
open Go.RowKit Go.Lib

def kindC (c : UInt8) : Int := if c = 114 then 1 else if c = 99 then 2 else if c = 115 then 3 else if c = 109 then 4 else 0
/-- The first byte of the last part, behind so many bytes of a part whose first one is known. -/
def fc : Nat → UInt8 → List UInt8 → UInt8
  | _, f, [] => f
  | n, f, c :: s => if okC c then fc (n + 1) (if n = 0 then c else f) s else fc 0 f s
/-- What is wrong with a key; its kind. -/
def keyE (s : List UInt8) : Int := if 24 < s.length then 8 else if pre 0 s = true then (if kindC (fc 0 0 s) = 0 then 5 else 0) else 3
def keyK (s : List UInt8) : Int := if 24 < s.length then 0 else if pre 0 s = true then kindC (fc 0 0 s) else 0
theorem fc_part : ∀ (s : List UInt8) (n : Nat) (f : UInt8), s.all okC = true → fc n f s = if n = 0 then s.headD f else f
  | [], n, f, _ => by simp [fc]
  | c :: s, n, f, h => by
    rw [List.all_cons, Bool.and_eq_true] at h
    rw [fc, if_pos h.1, fc_part s (n + 1) _ h.2, if_neg (by omega)]
    by_cases hn : n = 0
    · simp [hn]
    · simp [hn]
theorem fc_slash : ∀ (u v : List UInt8) (n : Nat) (f : UInt8), u.all okC = true → fc n f (u ++ 47 :: v) = fc 0 (fc n f u) v
  | [], v, n, f, _ => by simp [fc, okC_slash]
  | c :: u, v, n, f, h => by
    rw [List.all_cons, Bool.and_eq_true] at h
    rw [List.cons_append, fc, if_pos h.1, fc_slash u v (n + 1) _ h.2, fc, if_pos h.1]
/-- The last piece's first byte. -/
theorem splitK_last : ∀ (f : Nat) (s : List UInt8), s.length < f → pre 0 s = true → ∀ g, ∃ p l, splitK [47] 0 (countFrom [47] f s) s = l ++ [p] ∧ p ≠ [] ∧ p.headD 0 = fc 0 g s
  | 0, _, h, _, _ => by omega
  | f + 1, s, h, hp, g => by
    rw [countFrom]
    rcases index_slash s with ⟨h1, h2⟩ | ⟨u, v, rfl, h2, h3⟩
    · rw [if_pos (by simp [h1]), splitK]
      rw [pre_part s 0 h2, Bool.and_eq_true, decide_eq_true_eq] at hp
      refine ⟨s, [], rfl, fun e => by rw [e] at hp; simp at hp, ?_⟩
      rw [fc_part s 0 g hp.1, if_pos rfl]
      cases s with
      | nil => simp at hp
      | cons c s => rfl
    · rw [if_neg (by simp [h3]), Nat.add_comm, splitK, if_neg (by simp [h3]), h3]
      rw [pre_slash u v 0 h2, Bool.and_eq_true, Bool.and_eq_true] at hp
      have e1 : (u ++ 47 :: v).take (((u.length : Nat) : Int).toNat + 0) = u := by simp
      have e2 : (u ++ 47 :: v).drop (((u.length : Nat) : Int).toNat + [(47 : UInt8)].length) = v := by simp
      rw [e1, e2]
      obtain ⟨p, l, k1, k2, k3⟩ := splitK_last f v (by simp at h; omega) hp.2 (fc 0 g u)
      exact ⟨p, u :: l, by rw [k1]; rfl, k2, by rw [k3, fc_slash u v 0 g hp.1.1]⟩
theorem split_last (s : List UInt8) (h : pre 0 s = true) : ∃ p l, split s [47] = l ++ [p] ∧ p ≠ [] ∧ p.headD 0 = fc 0 0 s := splitK_last (s.length + 1) s (by omega) h 0
/-- A rune that stands in no part. -/
def badR (r : Nat) : Bool := decide (127 < r) || !okC (UInt8.ofNat r)
theorem decodeN_big {n b0 b1 b2 b3 : Nat} (h : ¬ b0 < 128) : 128 ≤ (decodeN n b0 b1 b2 b3).1 := by
  unfold decodeN
  rw [if_neg h]
  (repeat' split) <;> dsimp only <;> omega
theorem okC_small {c : UInt8} (h : okC c = true) : c.toNat < 128 := by
  unfold okC at h
  rw [decide_eq_true_eq] at h
  omega
theorem idx_all (s : ByteArray) : ∀ (f pos : Nat), s.size ≤ pos + f → decide (0 ≤ idxFuncFrom badR true s f pos) = !((s.data.toList.drop pos).all okC)
  | 0, pos, h => by
    rw [idxFuncFrom, List.drop_of_length_le (by rw [Array.length_toList]; exact h)]
    rfl
  | f + 1, pos, h => by
    rw [idxFuncFrom]
    by_cases hp : pos < s.size
    · rw [if_pos hp]
      have hlen : pos < s.data.toList.length := by rw [Array.length_toList]; exact hp
      have hd : s.data.toList.getD pos 0 = s.data.toList[pos] := by rw [List.getD_eq_getElem?_getD, List.getElem?_eq_getElem hlen]; rfl
      rw [List.drop_eq_getElem_cons hlen, List.all_cons, decode_N, hd]
      generalize hc : s.data.toList[pos] = c
      by_cases h128 : c.toNat < 128
      · have hdec : ∀ n b1 b2 b3, decodeN n c.toNat b1 b2 b3 = (c.toNat, 1) := fun n b1 b2 b3 => by unfold decodeN; rw [if_pos h128]
        rw [hdec]
        dsimp only
        have hof : UInt8.ofNat c.toNat = c := by simp
        have hb : badR c.toNat = !okC c := by unfold badR; rw [hof, decide_eq_false (by omega), Bool.false_or]
        rw [hb]
        cases ho : okC c with
        | false => simp
        | true =>
          simp only [Bool.not_true, Bool.false_eq_true, if_false, Bool.true_and]
          exact idx_all s f (pos + 1) (by omega)
      · have hbig := decodeN_big (n := s.data.toList.length - pos) (b1 := (s.data.toList.getD (pos + 1) 0).toNat) (b2 := (s.data.toList.getD (pos + 2) 0).toNat) (b3 := (s.data.toList.getD (pos + 3) 0).toNat) h128
        have hb : badR (decodeN (s.data.toList.length - pos) c.toNat (s.data.toList.getD (pos + 1) 0).toNat (s.data.toList.getD (pos + 2) 0).toNat (s.data.toList.getD (pos + 3) 0).toNat).1 = true := by
          unfold badR; rw [decide_eq_true (by omega), Bool.true_or]
        rw [hb]
        have ho : okC c = false := by
          rw [Bool.eq_false_iff]; intro h; exact h128 (okC_small h)
        rw [ho]
        simp
    · rw [if_neg hp, List.drop_of_length_le (by rw [baH_len]; omega)]
      rfl
end Go.Proofs.YtpolplmniaoikaaGreatDoor
