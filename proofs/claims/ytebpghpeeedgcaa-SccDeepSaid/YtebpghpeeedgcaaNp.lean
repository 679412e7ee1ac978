/- A path and a ring: their parts (no program in sight). -/
import Derived.Test.YtebpghpeeedgcaaNm
namespace Go.Proofs.Ytebpghpeeedgcaa
open Go.RowKit

def rowD (n : Nat) (rd : Bool) (i : Nat) : List Int := if i + 1 < n then [((i + 1 : Nat) : Int)] else if rd = true then [0] else []
def xD (n : Nat) (rd : Bool) : List (List Int) := (List.range n).map (rowD n rd)
theorem xD_len (n : Nat) (rd : Bool) : (xD n rd).length = n := by unfold xD; simp
theorem xD_at {n i : Nat} (rd : Bool) (h : i < n) : (xD n rd).getD i [] = rowD n rd i := by
  unfold xD
  rw [List.getD_eq_getElem?_getD, List.getElem?_map, List.getElem?_range h]; rfl
theorem edD {n : Nat} {rd : Bool} {i j : Nat} : Ed (gOf (xD n rd)) i j ↔ i < n ∧ ((i + 1 < n ∧ j = i + 1) ∨ (i + 1 = n ∧ rd = true ∧ j = 0)) := by
  rw [ed_gOf, xD_len]
  constructor
  · rintro ⟨hj, h⟩
    have hi : i < n := Nat.lt_of_not_le fun hc => by
      rw [List.getD_eq_getElem?_getD, List.getElem?_eq_none (by rw [xD_len]; exact hc)] at h
      cases h
    rw [xD_at rd hi] at h
    unfold rowD at h
    refine ⟨hi, ?_⟩
    split at h
    · rename_i h1
      have : (j : Int) = ((i + 1 : Nat) : Int) := by simpa using h
      exact .inl ⟨h1, by omega⟩
    · split at h
      · rename_i h1 h2
        have : (j : Int) = 0 := by simpa using h
        exact .inr ⟨by omega, h2, by omega⟩
      · cases h
  · rintro ⟨hi, ⟨h1, rfl⟩ | ⟨h1, h2, rfl⟩⟩
    · refine ⟨h1, ?_⟩
      rw [xD_at rd hi, rowD, if_pos h1]; simp
    · refine ⟨by omega, ?_⟩
      rw [xD_at rd hi, rowD, if_neg (by omega), if_pos h2]; simp
section
variable {n : Nat}
theorem rc_up {rd : Bool} : ∀ {d i : Nat}, i + d < n → Rc (gOf (xD n rd)) i (i + d)
  | 0, i, _ => .refl _
  | d + 1, i, h => by
    have h1 := rc_up (rd := rd) (d := d) (i := i + 1) (by omega)
    rw [show i + 1 + d = i + (d + 1) by omega] at h1
    exact .step (edD.2 ⟨by omega, .inl ⟨by omega, rfl⟩⟩) h1
theorem rc_ring {i j : Nat} (hi : i < n) (hj : j < n) : Rc (gOf (xD n true)) i j := by
  have h1 : Rc (gOf (xD n true)) i (n - 1) := by
    have := rc_up (n := n) (rd := true) (d := n - 1 - i) (i := i) (by omega)
    rw [show i + (n - 1 - i) = n - 1 by omega] at this
    exact this
  have h2 : Ed (gOf (xD n true)) (n - 1) 0 := edD.2 ⟨by omega, .inr ⟨by omega, rfl, rfl⟩⟩
  have h3 : Rc (gOf (xD n true)) 0 j := by
    have := rc_up (n := n) (rd := true) (d := j) (i := 0) (by omega)
    rw [Nat.zero_add] at this
    exact this
  exact h1.trans (.step h2 h3)
theorem rp_ring {i j : Nat} (hi : i < n) (hj : j < n) : Rp (gOf (xD n true)) i j := by
  by_cases h : i + 1 < n
  · exact ⟨i + 1, edD.2 ⟨hi, .inl ⟨h, rfl⟩⟩, rc_ring h hj⟩
  · exact ⟨0, edD.2 ⟨hi, .inr ⟨by omega, rfl, rfl⟩⟩, rc_ring (by omega) hj⟩
theorem ring_parts {o : List (List Nat)} (hn : 0 < n) (h : Full (gOf (xD n true)) o) (ha : ∀ x, x < n → Tof o x) : ∃ p, o = [p] ∧ p.length = n := by
  cases o with
  | nil => exact absurd (ha 0 hn) (tof_nil 0)
  | cons p t =>
    obtain ⟨i, hi, hp⟩ := h.1 0 p rfl
    have hin : i < n := by have := hi.1.1; rw [gOf_len, xD_len] at this; exact this
    have hall : ∀ j, j ∈ p ↔ j < n := fun j => by
      rw [hp.2 j, gOf_len, xD_len]
      exact ⟨fun h => h.1, fun hj => ⟨hj, .inr ⟨rp_ring hin hj, rp_ring hj hin⟩⟩⟩
    have hpe : p = List.range n := asc_ext hp.1 List.pairwise_lt_range fun x => by rw [hall, List.mem_range]
    cases t with
    | nil => exact ⟨p, rfl, by rw [hpe]; simp⟩
    | cons q t =>
      obtain ⟨k, hk, _⟩ := h.1 1 q rfl
      have hkn : k < n := by have := hk.1.1; rw [gOf_len, xD_len] at this; exact this
      exact absurd ⟨p, by simp, (hall k).2 hkn⟩ hk.1.2.1
theorem rc_path {i j : Nat} (h : Rc (gOf (xD n false)) i j) : i ≤ j := by
  induction h with
  | refl => exact Nat.le_refl _
  | step e _ ih =>
    rcases edD.1 e with ⟨_, ⟨_, rfl⟩ | ⟨_, h, _⟩⟩
    · omega
    · cases h
theorem rp_path {i j : Nat} (h : Rp (gOf (xD n false)) i j) : i < j := by
  obtain ⟨k, h1, h2⟩ := h
  have h3 := rc_path h2
  rcases edD.1 h1 with ⟨_, ⟨_, rfl⟩ | ⟨_, h, _⟩⟩
  · omega
  · cases h
/-- The path's parts, the last thing first. -/
def pathO (n m : Nat) : List (List Nat) := (List.range m).map fun k => [n - 1 - k]
theorem pathO_snoc (n m : Nat) : pathO n (m + 1) = pathO n m ++ [[n - 1 - m]] := by unfold pathO; rw [List.range_succ, List.map_append]; rfl
theorem tof_path {m x : Nat} (hm : m ≤ n) : Tof (pathO n m) x ↔ n - m ≤ x ∧ x < n := by
  induction m with
  | zero => constructor
            · intro h; exact absurd h (tof_nil x)
            · rintro ⟨h1, h2⟩; omega
  | succ m ih =>
    rw [pathO_snoc, tof_snoc, ih (by omega), List.mem_singleton]
    omega
theorem pre_path : ∀ {m : Nat}, m ≤ n → Pre (gOf (xD n false)) (pathO n m)
  | 0, _ => pre_nil _
  | m + 1, hm => by
    rw [pathO_snoc]
    have hlen : (gOf (xD n false)).length = n := by rw [gOf_len, xD_len]
    refine pre_snoc (pre_path (by omega)) (i := n - 1 - m) ⟨⟨by rw [hlen]; omega, ?_, fun j hj hr => ?_⟩, fun k hk => ?_⟩ ⟨by simp, fun j => ?_⟩
    · rw [tof_path (by omega)]; omega
    · rw [hlen] at hj
      have := rp_path hr
      exact .inl ((tof_path (by omega)).2 (by omega))
    · refine Nat.le_of_not_lt fun hc => ?_
      have hkn : k < n := by have := hk.1; rw [hlen] at this; exact this
      have hr : Rp (gOf (xD n false)) k (k + 1) := ⟨k + 1, edD.2 ⟨hkn, .inl ⟨by omega, rfl⟩⟩, .refl _⟩
      rcases hk.2.2 (k + 1) (by rw [hlen]; omega) hr with h | h | h
      · rw [tof_path (by omega)] at h; omega
      · omega
      · have := rp_path h; omega
    · rw [List.mem_singleton, hlen]
      constructor
      · rintro rfl; exact ⟨by omega, .inl rfl⟩
      · rintro ⟨_, h | ⟨h1, h2⟩⟩
        · exact h
        · have := rp_path h1
          have := rp_path h2
          omega
theorem path_parts {o : List (List Nat)} (h : Full (gOf (xD n false)) o) : o = pathO n n := by
  refine full_uniq h ⟨pre_path (Nat.le_refl _), fun i hi => hi.2.1 ?_⟩
  have : i < n := by have := hi.1; rw [gOf_len, xD_len] at this; exact this
  exact (tof_path (Nat.le_refl _)).2 (by omega)
end
theorem okX_D {n : Nat} {rd : Bool} {rs : List Rw} (hn : 0 < n) (h : rs.map Rw.xs = xD n rd) : okX n rs = true := by
  rw [okX_map, h, List.all_eq_true]
  intro l hl
  obtain ⟨i, hi, rfl⟩ := List.mem_map.1 hl
  rw [List.all_eq_true]
  intro x hx
  unfold rowD at hx
  unfold inR
  rw [Bool.and_eq_true, decide_eq_true_iff, decide_eq_true_iff]
  split at hx
  · have : x = ((i + 1 : Nat) : Int) := by simpa using hx
    omega
  · split at hx
    · have : x = 0 := by simpa using hx
      omega
    · cases hx
theorem rowD_len (n : Nat) (rd : Bool) (i : Nat) : (rowD n rd i).length ≤ 1 := by
  unfold rowD
  split
  · simp
  · split <;> simp
theorem sum_le_len : ∀ {l : List Nat}, (∀ x ∈ l, x ≤ 1) → l.sum ≤ l.length
  | [], _ => Nat.le_refl _
  | x :: l, h => by
    have h1 := sum_le_len (l := l) fun y hy => h y (List.mem_cons_of_mem _ hy)
    have h2 := h x (by simp)
    rw [List.sum_cons, List.length_cons]
    omega
theorem checkS_D {w : World} {B n n' : Nat} {A : Option Addr} {rd : Bool} {rs : List Rw} (hg : RdG w B A n' rs) (hn : 0 < n) (hn2 : n ≤ 1024) (h : rs.map Rw.xs = xD n rd) : checkS n rs = 0 ∧ ∀ r ∈ rs, r.l ≤ 1 := by
  have hl := lens_of hg
  rw [h] at hl
  have h1 : ∀ x ∈ rs.map Rw.l, x ≤ 1 := by
    intro x hx
    rw [hl] at hx
    obtain ⟨l, hl2, rfl⟩ := List.mem_map.1 hx
    obtain ⟨i, _, rfl⟩ := List.mem_map.1 hl2
    exact rowD_len n rd i
  have h2 : sumL rs ≤ n := by
    unfold sumL
    have := sum_le_len h1
    rw [hl, List.length_map, xD_len] at this
    rw [hl]
    exact this
  refine ⟨?_, fun r hr => h1 r.l (List.mem_map.2 ⟨r, hr, rfl⟩)⟩
  unfold checkS longP
  rw [decide_eq_false (by omega), decide_eq_false (by omega), okX_D hn h]
  rfl
end Go.Proofs.Ytebpghpeeedgcaa
