/- What a thing comes to be behind, by a list of what is to be looked at; and who is whole (no program in sight). -/
import Derived.Test.YtebpghpeeedgcaaKc
namespace Go.Proofs.Ytebpghpeeedgcaa

theorem if_t {c : Prop} [Decidable c] {b : Bool} (h : b = true) : (if c then true else b) = true := by split <;> first | rfl | exact h
theorem if_f {c : Prop} [Decidable c] {b : Bool} (h : b = false) : (if c then false else b) = false := by split <;> first | rfl | exact h
/-- Any lists of numbers: the right ones among them. -/
def inR (n : Nat) (k : Int) : Bool := decide (0 ≤ k) && decide (k < n)
def gOf (xs : List (List Int)) : Gr := xs.map fun l => (l.filter (inR xs.length)).map Int.toNat
theorem gOf_len (xs : List (List Int)) : (gOf xs).length = xs.length := by unfold gOf; simp
theorem sucs_gOf (xs : List (List Int)) (i : Nat) : sucs (gOf xs) i = ((xs.getD i []).filter (inR xs.length)).map Int.toNat := by
  unfold sucs gOf
  rw [List.getD_eq_getElem?_getD, List.getElem?_map, List.getD_eq_getElem?_getD]
  cases xs[i]? <;> rfl
theorem ed_gOf {xs : List (List Int)} {i m : Nat} : Ed (gOf xs) i m ↔ m < xs.length ∧ (m : Int) ∈ xs.getD i [] := by
  unfold Ed
  rw [sucs_gOf, List.mem_map]
  constructor
  · rintro ⟨k, hk, rfl⟩
    rw [List.mem_filter, inR, Bool.and_eq_true, decide_eq_true_iff, decide_eq_true_iff] at hk
    obtain ⟨h1, h2, h3⟩ := hk
    rw [Int.toNat_of_nonneg h2]
    exact ⟨by omega, h1⟩
  · rintro ⟨h1, h2⟩
    refine ⟨(m : Int), List.mem_filter.2 ⟨h2, ?_⟩, by simp⟩
    rw [inR, Bool.and_eq_true, decide_eq_true_iff, decide_eq_true_iff]
    omega
theorem gOf_ok (xs : List (List Int)) : Gok (gOf xs) := by
  intro i j h
  obtain ⟨h1, h2⟩ := ed_gOf.1 h
  refine ⟨?_, by rw [gOf_len]; exact h1⟩
  rw [gOf_len]
  refine Nat.lt_of_not_le fun hc => ?_
  rw [List.getD_eq_getElem?_getD, List.getElem?_eq_none hc] at h2
  cases h2
/-- All numbers are right. -/
def allR (xs : List (List Int)) : Prop := ∀ l ∈ xs, ∀ k ∈ l, inR xs.length k = true
theorem sucs_all {xs : List (List Int)} (h : allR xs) (i : Nat) : sucs (gOf xs) i = (xs.getD i []).map Int.toNat := by
  rw [sucs_gOf, List.filter_eq_self.2]
  intro k hk
  rw [List.getD_eq_getElem?_getD] at hk
  cases hi : xs[i]? with
  | none => rw [hi] at hk; cases hk
  | some l => rw [hi] at hk; exact h l (List.mem_of_getElem? hi) k hk
/-- The search from a thing: what was seen, what is to be looked at; the thing looked at has been looked through up to k. -/
structure Fr (xs : List (List Int)) (i : Nat) (sn : Nat → Bool) (td : List Nat) (j k : Nat) : Prop where
  s1 : ∀ m, sn m = true → Rp (gOf xs) i m
  s2 : ∀ x ∈ td, x = i ∨ sn x = true
  s3 : ∀ x, x = i ∨ sn x = true → x ∈ td ∨ (x = j ∧ ∀ m : Nat, m < xs.length → (m : Int) ∈ (xs.getD j []).take k → sn m = true) ∨ ∀ m, Ed (gOf xs) x m → sn m = true
  sj : j = i ∨ sn j = true
section
variable {xs : List (List Int)} {i j k : Nat} {sn : Nat → Bool} {td : List Nat}
theorem Fr.start (i : Nat) : Fr xs i (fun _ => false) [i] i 0 where
  s1 := fun m h => by cases h
  s2 := fun x hx => .inl (List.mem_singleton.1 hx)
  s3 := fun x hx => .inl (by rcases hx with rfl | h; · simp
                             · cases h)
  sj := .inl rfl
/-- The thing looked at is looked through: the next one, from the list's end. -/
theorem Fr.pop {jn : Nat} (h : Fr xs i sn (td ++ [jn]) j k) (hk : (xs.getD j []).length ≤ k) : Fr xs i sn td jn 0 where
  s1 := h.s1
  s2 := fun x hx => h.s2 x (List.mem_append_left _ hx)
  s3 := fun x hx => by
    rcases h.s3 x hx with h1 | ⟨rfl, h1⟩ | h1
    · rcases List.mem_append.1 h1 with h1 | h1
      · exact .inl h1
      · exact .inr (.inl ⟨List.mem_singleton.1 h1, fun m _ hm => by simp at hm⟩)
    · refine .inr (.inr fun m hm => ?_)
      obtain ⟨h2, h3⟩ := ed_gOf.1 hm
      exact h1 m h2 (by rw [List.take_of_length_le hk]; exact h3)
    · exact .inr (.inr h1)
  sj := h.s2 jn (by simp)
theorem Fr.skip {v : Int} (h : Fr xs i sn td j k) (hv : (xs.getD j [])[k]? = some v) (hs : ∀ m : Nat, m < xs.length → v = (m : Int) → sn m = true) : Fr xs i sn td j (k + 1) where
  s1 := h.s1
  s2 := h.s2
  s3 := fun x hx => by
    rcases h.s3 x hx with h1 | ⟨rfl, h1⟩ | h1
    · exact .inl h1
    · refine .inr (.inl ⟨rfl, fun m hm hmem => ?_⟩)
      rw [List.take_add_one, hv, List.mem_append] at hmem
      rcases hmem with h2 | h2
      · exact h1 m hm h2
      · exact hs m hm (Option.mem_toList.1 h2 |> fun e => by injection e)
    · exact .inr (.inr h1)
  sj := h.sj
theorem Fr.push {m : Nat} (h : Fr xs i sn td j k) (hv : (xs.getD j [])[k]? = some (m : Int)) (hm : m < xs.length) : Fr xs i (fun x => if x = m then true else sn x) (td ++ [m]) j (k + 1) := by
  have he : Ed (gOf xs) j m := ed_gOf.2 ⟨hm, List.mem_of_getElem? hv⟩
  have hrm : Rp (gOf xs) i m := by
    rcases h.sj with e | h1
    · rw [← e]; exact ⟨m, he, .refl _⟩
    · exact (h.s1 j h1).trans (.one he)
  refine ⟨fun x hx => ?_, fun x hx => ?_, fun x hx => ?_, ?_⟩
  · split at hx
    · rename_i e; rw [e]; exact hrm
    · exact h.s1 x hx
  · rcases List.mem_append.1 hx with hx | hx
    · rcases h.s2 x hx with h1 | h1
      · exact .inl h1
      · exact .inr (if_t h1)
    · rw [List.mem_singleton.1 hx]; exact .inr (if_pos rfl)
  · by_cases e : x = m
    · exact .inl (by rw [e]; simp)
    · rw [if_neg e] at hx
      rcases h.s3 x hx with h1 | ⟨rfl, h1⟩ | h1
      · exact .inl (List.mem_append_left _ h1)
      · refine .inr (.inl ⟨rfl, fun y hy hmem => ?_⟩)
        rw [List.take_add_one, hv, List.mem_append] at hmem
        rcases hmem with h2 | h2
        · have := h1 y hy h2
          exact if_t this
        · have h3 : (y : Int) = m := by simpa using h2
          rw [if_pos (by omega)]
      · refine .inr (.inr fun y hy => ?_)
        have := h1 y hy
        exact if_t this
  · rcases h.sj with h1 | h1
    · exact .inl h1
    · exact .inr (if_t h1)
theorem Fr.end_ (h : Fr xs i sn [] j k) (hk : (xs.getD j []).length ≤ k) (m : Nat) : sn m = true ↔ Rp (gOf xs) i m := by
  refine ⟨h.s1 m, fun hr => ?_⟩
  have hstep : ∀ x, x = i ∨ sn x = true → ∀ m, Ed (gOf xs) x m → sn m = true := by
    intro x hx m hm
    rcases h.s3 x hx with h1 | ⟨rfl, h1⟩ | h1
    · cases h1
    · obtain ⟨h2, h3⟩ := ed_gOf.1 hm
      exact h1 m h2 (by rw [List.take_of_length_le hk]; exact h3)
    · exact h1 m hm
  obtain ⟨y, h1, h2⟩ := hr
  have h3 := hstep i (.inl rfl) y h1
  clear h1
  induction h2 with
  | refl => exact h3
  | step e _ ih => exact ih (hstep _ (.inr h3) _ e)
end
/-- Something is wrong at a thing itself: it is not there, or comes behind none that there is. -/
def badW (xs : List (List Int)) (th : List Bool) (j : Nat) : Prop := th.getD j false = false ∨ ∃ k ∈ xs.getD j [], inR xs.length k = false
/-- Who is whole. -/
def Whl (xs : List (List Int)) (th : List Bool) (out : List Bool) : Prop :=
  out.length = xs.length ∧ ∀ i, i < xs.length → (out.getD i false = true ↔ ∀ j, j < xs.length → Rc (gOf xs) i j → ¬ badW xs th j)
theorem whl_uniq {xs : List (List Int)} {th o o2 : List Bool} (h : Whl xs th o) (h2 : Whl xs th o2) : o = o2 := by
  refine List.ext_getElem (h.1.trans h2.1.symm) fun i hi hi2 => ?_
  have h3 := h.2 i (by have := h.1; omega)
  have h4 := h2.2 i (by have := h.1; omega)
  rw [List.getD_eq_getElem?_getD, List.getElem?_eq_getElem hi] at h3
  rw [List.getD_eq_getElem?_getD, List.getElem?_eq_getElem hi2] at h4
  have h5 := h3.trans h4.symm
  simp only [Option.getD_some] at h5
  exact Bool.eq_iff_iff.2 h5
/-- Those that are lost: behind each all was told, or is to be told. -/
structure Ls (xs : List (List Int)) (th : List Bool) (wh : Nat → Bool) (ls : List Nat) (k : Nat) (as : List Nat) : Prop where
  w1 : ∀ x, x < xs.length → wh x = false → ∃ j, j < xs.length ∧ Rc (gOf xs) x j ∧ badW xs th j
  w2 : ∀ x, x < xs.length → badW xs th x → wh x = false
  w3 : ∀ x ∈ ls, x < xs.length ∧ wh x = false
  w4 : ∀ x, x < xs.length → wh x = false → x ∈ ls ∨ (x = k ∧ ∀ y, Ed (gOf xs) y x → y ∈ as ∨ wh y = false) ∨ ∀ y, Ed (gOf xs) y x → wh y = false
section
variable {xs : List (List Int)} {th : List Bool} {wh : Nat → Bool} {ls : List Nat} {k : Nat} {ax : List Nat}
theorem Ls.pop {kn : Nat} (h : Ls xs th wh (ls ++ [kn]) k []) (ha : ∀ y, Ed (gOf xs) y kn → y ∈ ax) : Ls xs th wh ls kn ax where
  w1 := h.w1
  w2 := h.w2
  w3 := fun x hx => h.w3 x (List.mem_append_left _ hx)
  w4 := fun x hx h0 => by
    rcases h.w4 x hx h0 with h1 | ⟨rfl, h1⟩ | h1
    · rcases List.mem_append.1 h1 with h1 | h1
      · exact .inl h1
      · obtain rfl := List.mem_singleton.1 h1
        exact .inr (.inl ⟨rfl, fun y hy => .inl (ha y hy)⟩)
    · refine .inr (.inr fun y hy => ?_)
      rcases h1 y hy with h2 | h2
      · cases h2
      · exact h2
    · exact .inr (.inr h1)
theorem Ls.skip {i : Nat} (h : Ls xs th wh ls k (i :: ax)) (hi : wh i = false) : Ls xs th wh ls k ax where
  w1 := h.w1
  w2 := h.w2
  w3 := h.w3
  w4 := fun x hx h0 => by
    rcases h.w4 x hx h0 with h1 | ⟨rfl, h1⟩ | h1
    · exact .inl h1
    · refine .inr (.inl ⟨rfl, fun y hy => ?_⟩)
      rcases h1 y hy with h2 | h2
      · rcases List.mem_cons.1 h2 with rfl | h2
        · exact .inr hi
        · exact .inl h2
      · exact .inr h2
    · exact .inr (.inr h1)
theorem Ls.push {i : Nat} (h : Ls xs th wh ls k (i :: ax)) (hil : i < xs.length) (hkl : k < xs.length) (hk : wh k = false) (he : Ed (gOf xs) i k) : Ls xs th (fun x => if x = i then false else wh x) (ls ++ [i]) k ax := by
  refine ⟨fun x hx h0 => ?_, fun x hx hb => ?_, fun x hx => ?_, fun x hx h0 => ?_⟩
  · split at h0
    · rename_i e
      subst e
      obtain ⟨j, h1, h2, h3⟩ := h.w1 k hkl hk
      exact ⟨j, h1, .step he h2, h3⟩
    · exact h.w1 x hx h0
  · have := h.w2 x hx hb
    exact if_f this
  · rcases List.mem_append.1 hx with hx | hx
    · obtain ⟨h1, h2⟩ := h.w3 x hx
      exact ⟨h1, if_f h2⟩
    · obtain rfl := List.mem_singleton.1 hx
      exact ⟨hil, if_pos rfl⟩
  · by_cases e : x = i
    · exact .inl (by rw [e]; simp)
    rw [if_neg e] at h0
    rcases h.w4 x hx h0 with h1 | ⟨rfl, h1⟩ | h1
    · exact .inl (List.mem_append_left _ h1)
    · refine .inr (.inl ⟨rfl, fun y hy => ?_⟩)
      rcases h1 y hy with h2 | h2
      · rcases List.mem_cons.1 h2 with rfl | h2
        · exact .inr (if_pos rfl)
        · exact .inl h2
      · exact .inr (if_f h2)
    · refine .inr (.inr fun y hy => ?_)
      have := h1 y hy
      exact if_f this
theorem Ls.end_ (h : Ls xs th wh [] k []) (i : Nat) (hi : i < xs.length) : wh i = true ↔ ∀ j, j < xs.length → Rc (gOf xs) i j → ¬ badW xs th j := by
  have hstep : ∀ x, x < xs.length → wh x = false → ∀ y, Ed (gOf xs) y x → wh y = false := by
    intro x hx h0 y hy
    rcases h.w4 x hx h0 with h1 | ⟨rfl, h1⟩ | h1
    · cases h1
    · rcases h1 y hy with h2 | h2
      · cases h2
      · exact h2
    · exact h1 y hy
  constructor
  · intro ht j hj hr hb
    have h0 := h.w2 j hj hb
    have key : ∀ {a b}, Rc (gOf xs) a b → b < xs.length → wh b = false → wh a = false := by
      intro a b hab
      induction hab with
      | refl => exact fun _ h1 => h1
      | step e hr' ih =>
        rename_i a c d
        intro h1 h2
        exact hstep c (by have := (gOf_ok xs _ _ e).2; rw [gOf_len] at this; exact this) (ih h1 h2) a e
    rw [key hr hj h0] at ht
    cases ht
  · intro ha
    cases hw : wh i with
    | true => rfl
    | false =>
      obtain ⟨j, h1, h2, h3⟩ := h.w1 i hi hw
      exact absurd h3 (ha j h1 h2)
end
end Go.Proofs.Ytebpghpeeedgcaa
