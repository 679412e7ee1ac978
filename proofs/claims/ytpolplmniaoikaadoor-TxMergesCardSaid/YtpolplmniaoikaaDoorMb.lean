/- Merging two rising lists: what the program does with the sorted whole, and the document with the two, is the same (plain laws). -/
import Derived.Test.YtpolplmniaoikaaDoorMa
namespace Go.Proofs.YtpolplmniaoikaaDoor

section
variable {α : Type} [DecidableEq α] (κ : α → Int)
/-- The program's pass over the sorted whole. -/
def fldP : List α → List α → Option (List α)
  | out, [] => some out
  | out, p :: r => match out.getLast? with
    | some q => if κ q = κ p then (if q = p then fldP out r else none) else fldP (out ++ [p]) r
    | none => fldP (out ++ [p]) r
def mrgP : List α → Option (List α)
  | [] => some []
  | [x] => some [x]
  | x :: y :: l => if κ x = κ y then (if x = y then mrgP (x :: l) else none) else (mrgP (y :: l)).map (x :: ·)
  termination_by l => l.length
/-- The document's pass over both. -/
def mrgD : List α → List α → Option (List α)
  | [], bs => some bs
  | a :: ax, [] => some (a :: ax)
  | a :: ax, b :: bs => if κ a < κ b then (mrgD ax (b :: bs)).map (a :: ·) else if κ b < κ a then (mrgD (a :: ax) bs).map (b :: ·) else if a = b then (mrgD ax bs).map (a :: ·) else none
  termination_by ax bs => ax.length + bs.length
theorem mrgD_none (ax : List α) : mrgD κ ax [] = some ax := by cases ax <;> simp [mrgD]
theorem fldP_eq : ∀ (zs out : List α) (q : α), fldP κ (out ++ [q]) zs = (mrgP κ (q :: zs)).map (out ++ ·)
  | [], out, q => by simp [fldP, mrgP]
  | p :: r, out, q => by
    rw [fldP, List.getLast?_append]
    simp only [List.getLast?_singleton, Option.some_or]
    rw [mrgP]
    split
    · rename_i h
      split
      · exact fldP_eq r out q
      · rfl
    · rw [fldP_eq r (out ++ [q]) p]
      cases mrgP κ (p :: r) <;> simp
theorem fldP_nil (zs : List α) : fldP κ [] zs = mrgP κ zs := by
  cases zs with
  | nil => simp [fldP, mrgP]
  | cons p r =>
    rw [fldP]
    have h := fldP_eq κ r [] p
    simp only [List.nil_append] at h
    simp only [List.getLast?_nil, List.nil_append, h]
    cases mrgP κ (p :: r) <;> simp
theorem fldP_app {out r : List α} {p : α} (h : ∀ q, out.getLast? = some q → κ q ≠ κ p) : fldP κ out (p :: r) = fldP κ (out ++ [p]) r := by
  rw [fldP]
  split
  · rename_i q hq
    rw [if_neg (h q hq)]
  · rfl
theorem fldP_same {out r : List α} {p : α} (h : out.getLast? = some p) : fldP κ out (p :: r) = fldP κ out r := by
  rw [fldP, h]; simp
theorem fldP_bad {out r : List α} {p q : α} (h : out.getLast? = some q) (h1 : κ q = κ p) (h2 : q ≠ p) : fldP κ out (p :: r) = none := by
  rw [fldP, h]; simp [h1, h2]
variable {κ}
theorem mrgP_cons {a : α} {zs : List α} (h : ∀ z ∈ zs, κ a < κ z) : mrgP κ (a :: zs) = (mrgP κ zs).map (a :: ·) := by
  cases zs with
  | nil => simp [mrgP]
  | cons y l =>
    rw [mrgP, if_neg (by have := h y (by simp); omega)]
theorem mrgP_rise : ∀ {l : List α}, l.Pairwise (fun x y => κ x < κ y) → mrgP κ l = some l
  | [], _ => by simp [mrgP]
  | a :: l, h => by
    rw [List.pairwise_cons] at h
    rw [mrgP_cons h.1, mrgP_rise h.2]; rfl
theorem sort_head {a : α} {zs rest : List α} (hp : zs.Perm (a :: rest)) (hs : zs.Pairwise (fun x y => κ x ≤ κ y)) (hl : ∀ r ∈ rest, κ a < κ r) :
    ∃ zs', zs = a :: zs' ∧ zs'.Perm rest ∧ zs'.Pairwise (fun x y => κ x ≤ κ y) := by
  cases zs with
  | nil => exact absurd hp.length_eq (by simp)
  | cons z l =>
    rw [List.pairwise_cons] at hs
    by_cases hz : z = a
    · subst hz
      exact ⟨l, rfl, (List.perm_cons z).1 hp, hs.2⟩
    · exfalso
      have h1 : z ∈ a :: rest := hp.mem_iff.1 (by simp)
      rw [List.mem_cons] at h1
      rcases h1 with h1 | h1
      · exact hz h1
      have h2 : a ∈ z :: l := hp.mem_iff.2 (by simp)
      rw [List.mem_cons] at h2
      rcases h2 with h2 | h2
      · exact hz h2.symm
      have := hl z h1
      have := hs.1 a h2
      omega
theorem sort_two {a b : α} {zs rest : List α} (hab : κ a = κ b) (hp : zs.Perm (a :: b :: rest)) (hs : zs.Pairwise (fun x y => κ x ≤ κ y)) (hl : ∀ r ∈ rest, κ a < κ r) :
    ∃ x y zs', zs = x :: y :: zs' ∧ (x = a ∧ y = b ∨ x = b ∧ y = a) ∧ zs'.Perm rest ∧ zs'.Pairwise (fun x y => κ x ≤ κ y) := by
  cases zs with
  | nil => exact absurd hp.length_eq (by simp)
  | cons z l =>
    rw [List.pairwise_cons] at hs
    by_cases hz : z = a
    · subst hz
      obtain ⟨zs', h1, h2, h3⟩ := sort_head ((List.perm_cons z).1 hp) hs.2 (fun r hr => by have := hl r hr; omega)
      exact ⟨z, b, zs', by rw [h1], .inl ⟨rfl, rfl⟩, h2, h3⟩
    · by_cases hzb : z = b
      · subst hzb
        obtain ⟨zs', h1, h2, h3⟩ := sort_head ((List.perm_cons z).1 (hp.trans (List.Perm.swap _ _ _))) hs.2 hl
        exact ⟨z, a, zs', by rw [h1], .inr ⟨rfl, rfl⟩, h2, h3⟩
      · exfalso
        have h1 : z ∈ a :: b :: rest := hp.mem_iff.1 (by simp)
        simp only [List.mem_cons] at h1
        rcases h1 with h1 | h1 | h1
        · exact hz h1
        · exact hzb h1
        have h2 : a ∈ z :: l := hp.mem_iff.2 (by simp)
        rw [List.mem_cons] at h2
        rcases h2 with h2 | h2
        · exact hz h2.symm
        have := hl z h1
        have := hs.1 a h2
        omega
/-- The law: the sorted whole passed over is the two merged. -/
theorem mrg_law : ∀ (n : Nat) {ax bs zs : List α}, ax.length + bs.length ≤ n → ax.Pairwise (fun x y => κ x < κ y) → bs.Pairwise (fun x y => κ x < κ y) → zs.Perm (ax ++ bs) → zs.Pairwise (fun x y => κ x ≤ κ y) → mrgP κ zs = mrgD κ ax bs := by
  intro n
  induction n with
  | zero =>
    intro ax bs zs hn _ _ hp _
    obtain rfl : ax = [] := List.eq_nil_of_length_eq_zero (by omega)
    obtain rfl : bs = [] := List.eq_nil_of_length_eq_zero (by omega)
    obtain rfl : zs = [] := List.eq_nil_of_length_eq_zero (by simpa using hp.length_eq)
    simp [mrgP, mrgD]
  | succ n ih =>
    intro ax bs zs hn ha hb hp hs
    cases ax with
    | nil =>
      cases bs with
      | nil =>
        obtain rfl : zs = [] := List.eq_nil_of_length_eq_zero (by simpa using hp.length_eq)
        simp [mrgP, mrgD]
      | cons b bs =>
        rw [List.pairwise_cons] at hb
        obtain ⟨zs', rfl, h2, h3⟩ := sort_head (rest := bs) (by simpa using hp) hs hb.1
        rw [mrgP_cons (fun z hz => hb.1 z (h2.mem_iff.1 hz)), ih (ax := []) (bs := bs) (by simp at hn ⊢; omega) List.Pairwise.nil hb.2 (by simpa using h2) h3]
        simp [mrgD]
    | cons a ax =>
      have ha' := ha
      rw [List.pairwise_cons] at ha
      cases bs with
      | nil =>
        rw [List.append_nil] at hp
        obtain ⟨zs', rfl, h2, h3⟩ := sort_head hp hs ha.1
        rw [mrgP_cons (fun z hz => ha.1 z (h2.mem_iff.1 hz)), ih (ax := ax) (bs := []) (by simp at hn ⊢; omega) ha.2 List.Pairwise.nil (by simpa using h2) h3, mrgD_none, mrgD_none]
        rfl
      | cons b bs =>
        have hb' := hb
        rw [List.pairwise_cons] at hb
        rw [mrgD]
        by_cases h1 : κ a < κ b
        · rw [if_pos h1]
          have hl : ∀ r ∈ ax ++ b :: bs, κ a < κ r := fun r hr => by
            rw [List.mem_append, List.mem_cons] at hr
            rcases hr with hr | rfl | hr
            · exact ha.1 r hr
            · exact h1
            · exact Int.lt_trans h1 (hb.1 r hr)
          obtain ⟨zs', rfl, h2, h3⟩ := sort_head (rest := ax ++ b :: bs) hp hs hl
          rw [mrgP_cons (fun z hz => hl z (h2.mem_iff.1 hz)), ih (ax := ax) (bs := b :: bs) (by simp at hn ⊢; omega) ha.2 hb' h2 h3]
        · rw [if_neg h1]
          by_cases h4 : κ b < κ a
          · rw [if_pos h4]
            have hl : ∀ r ∈ (a :: ax) ++ bs, κ b < κ r := fun r hr => by
              rw [List.mem_append, List.mem_cons] at hr
              rcases hr with (rfl | hr) | hr
              · exact h4
              · exact Int.lt_trans h4 (ha.1 r hr)
              · exact hb.1 r hr
            obtain ⟨zs', rfl, h2, h3⟩ := sort_head (rest := (a :: ax) ++ bs) (hp.trans List.perm_middle) hs hl
            rw [mrgP_cons (fun z hz => hl z (h2.mem_iff.1 hz)), ih (ax := a :: ax) (bs := bs) (by simp at hn ⊢; omega) ha' hb.2 h2 h3]
          · rw [if_neg h4]
            have hab : κ a = κ b := by omega
            have hl : ∀ r ∈ ax ++ bs, κ a < κ r := fun r hr => by
              rw [List.mem_append] at hr
              rcases hr with hr | hr
              · exact ha.1 r hr
              · rw [hab]; exact hb.1 r hr
            have hp' : zs.Perm (a :: b :: (ax ++ bs)) := hp.trans ((List.perm_cons a).2 List.perm_middle)
            obtain ⟨x, y, zs', rfl, hxy, h2, h3⟩ := sort_two hab hp' hs hl
            by_cases hq : a = b
            · subst hq
              obtain ⟨rfl, rfl⟩ : x = a ∧ y = a := by rcases hxy with h | h <;> exact h
              rw [if_pos rfl, mrgP, if_pos rfl, if_pos rfl, mrgP_cons (fun z hz => hl z (h2.mem_iff.1 hz)), ih (ax := ax) (bs := bs) (by simp at hn ⊢; omega) ha.2 hb.2 h2 h3]
            · rw [if_neg hq]
              rcases hxy with ⟨rfl, rfl⟩ | ⟨rfl, rfl⟩
              · rw [mrgP, if_pos hab, if_neg hq]
              · rw [mrgP, if_pos hab.symm, if_neg (Ne.symm hq)]
/-- A rising list cut in two by any test, and merged again, is itself. -/
theorem mrg_halves {ps : List α} (h : ps.Pairwise (fun x y => κ x < κ y)) (t : α → Bool) : mrgD κ (ps.filter t) (ps.filter fun p => !t p) = some ps := by
  rw [← mrg_law _ (Nat.le_refl _) (h.filter t) (h.filter _) (List.filter_append_perm t ps).symm (h.imp fun h => Int.le_of_lt h), mrgP_rise h]
theorem mrg_self : ∀ {ps : List α}, mrgD κ ps ps = some ps
  | [] => by simp [mrgD]
  | a :: l => by
    rw [mrgD, if_neg (by omega), if_neg (by omega), if_pos rfl, mrg_self]; rfl
end
/-- In order, place by place: in order, pair by pair. -/
theorem So.pair {α : Type} {κ : α → Int} {a b : Nat} {xs : List α} (h : So κ a b xs) (ha : a = 0) (hb : xs.length ≤ b) : xs.Pairwise (fun x y => κ x ≤ κ y) := by
  rw [List.pairwise_iff_getElem]
  intro i j hi hj hij
  exact h i j _ _ (by omega) (by omega) (by omega) (List.getElem?_eq_getElem hi) (List.getElem?_eq_getElem hj)
end Go.Proofs.YtpolplmniaoikaaDoor
