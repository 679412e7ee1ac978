/- Prefixes and interests: plain words (no program in sight). -/
import Derived.Test.YtfhandglpjnonaaGreatDoorM29
import Derived.Lib.Split
namespace Go.Proofs.YtfhandglpjnonaaGreatDoor
open Go.Lib

/-- A byte that may stand in a part. -/
def okC (c : UInt8) : Bool := decide ((97 ≤ c.toNat ∧ c.toNat ≤ 122) ∨ (48 ≤ c.toNat ∧ c.toNat ≤ 57))
def partB (s : List UInt8) : Bool := !s.isEmpty && s.all okC
/-- The rest of a prefix behind some bytes of a part. -/
def pre : Nat → List UInt8 → Bool
  | n, [] => decide (0 < n)
  | n, c :: s => if okC c then pre (n + 1) s else if c = 47 ∧ 0 < n then pre 0 s else false
def prefOk (s : List UInt8) : Bool := s.isEmpty || pre 0 s
theorem okC_slash : okC 47 = false := by decide
theorem pre_part : ∀ (s : List UInt8) (n : Nat), (47 : UInt8) ∉ s → pre n s = (s.all okC && decide (0 < n + s.length))
  | [], n, _ => by simp [pre]
  | c :: s, n, h => by
    have hc : ¬ c = 47 := fun e => h (by simp [e])
    have hs : (47 : UInt8) ∉ s := fun e => h (List.mem_cons_of_mem _ e)
    rw [pre, List.all_cons]
    by_cases ho : okC c = true
    · rw [if_pos ho, pre_part s (n + 1) hs, ho, Bool.true_and]
      congr 1
      simp; omega
    · rw [if_neg ho, if_neg (fun e => hc e.1)]
      simp [ho]
theorem pre_slash : ∀ (u v : List UInt8) (n : Nat), (47 : UInt8) ∉ u → pre n (u ++ 47 :: v) = (u.all okC && decide (0 < n + u.length) && pre 0 v)
  | [], v, n, _ => by
    rw [List.nil_append, pre, if_neg (by rw [okC_slash]; simp)]
    by_cases h : 0 < n
    · rw [if_pos ⟨rfl, h⟩]; simp [h]
    · rw [if_neg (fun e => h e.2)]; simp [h]
  | c :: u, v, n, h => by
    have hc : ¬ c = 47 := fun e => h (by simp [e])
    have hs : (47 : UInt8) ∉ u := fun e => h (List.mem_cons_of_mem _ e)
    rw [List.cons_append, pre, List.all_cons]
    by_cases ho : okC c = true
    · rw [if_pos ho, pre_slash u v (n + 1) hs, ho, Bool.true_and]
      congr 2
      simp; omega
    · rw [if_neg ho, if_neg (fun e => hc e.1)]
      simp [ho]
theorem index_slash : ∀ s : List UInt8, (index s [47] = -1 ∧ (47 : UInt8) ∉ s) ∨ ∃ u v, s = u ++ 47 :: v ∧ (47 : UInt8) ∉ u ∧ index s [47] = u.length
  | [] => .inl ⟨rfl, by simp⟩
  | c :: s => by
    rw [index]
    by_cases hc : c = 47
    · subst hc
      rw [if_pos (by simp [List.isPrefixOf])]
      exact .inr ⟨[], s, rfl, by simp, rfl⟩
    · rw [if_neg (by simp [List.isPrefixOf]; exact fun e => hc e.symm)]
      rcases index_slash s with ⟨h1, h2⟩ | ⟨u, v, rfl, h2, h3⟩
      · rw [h1]
        refine .inl ⟨by simp, ?_⟩
        intro h
        rcases List.mem_cons.1 h with e | e
        · exact hc e.symm
        · exact h2 e
      · rw [h3, if_neg (by simp)]
        refine .inr ⟨c :: u, v, rfl, ?_, by simp⟩
        intro h
        rcases List.mem_cons.1 h with e | e
        · exact hc e.symm
        · exact h2 e
theorem splitK_parts : ∀ (f : Nat) (s : List UInt8), s.length < f → (splitK [47] 0 (countFrom [47] f s) s).all partB = pre 0 s
  | 0, _, h => by omega
  | f + 1, s, h => by
    rw [countFrom]
    rcases index_slash s with ⟨h1, h2⟩ | ⟨u, v, rfl, h2, h3⟩
    · rw [if_pos (by simp [h1]), splitK, pre_part s 0 h2]
      cases s <;> simp [partB]
    · rw [if_neg (by simp [h3]), Nat.add_comm, splitK, if_neg (by simp [h3]), h3, pre_slash u v 0 h2]
      have e1 : (u ++ 47 :: v).take (((u.length : Nat) : Int).toNat + 0) = u := by simp
      have e2 : (u ++ 47 :: v).drop (((u.length : Nat) : Int).toNat + [(47 : UInt8)].length) = v := by simp
      rw [e1, e2, List.all_cons, splitK_parts f v (by simp at h; omega)]
      congr 1
      cases u <;> simp [partB]
/-- Each piece may be a part: the text may be a prefix. -/
theorem split_parts (s : List UInt8) : (split s [47]).all partB = pre 0 s := splitK_parts (s.length + 1) s (by omega)

/-- Does a text lie within a prefix? -/
def withinB (s p : List UInt8) : Bool := p.isEmpty || decide (s = p) || (p ++ [47]).isPrefixOf s
theorem withinB_iff {s p : List UInt8} : withinB s p = true ↔ p = [] ∨ s = p ∨ ∃ r, s = p ++ 47 :: r := by
  unfold withinB
  rw [Bool.or_eq_true, Bool.or_eq_true, List.isEmpty_iff, decide_eq_true_eq, List.isPrefixOf_iff_prefix, or_assoc]
  refine or_congr Iff.rfl (or_congr Iff.rfl ⟨?_, ?_⟩)
  · rintro ⟨r, rfl⟩; exact ⟨r, by simp⟩
  · rintro ⟨r, rfl⟩; exact ⟨r, by simp⟩
theorem within_refl (s : List UInt8) : withinB s s = true := withinB_iff.2 (.inr (.inl rfl))
theorem within_trans {s p q : List UInt8} (h : withinB s p = true) (h2 : withinB p q = true) : withinB s q = true := by
  rw [withinB_iff] at *
  rcases h2 with rfl | rfl | ⟨r', rfl⟩
  · exact .inl rfl
  · exact h
  · rcases h with h | rfl | ⟨r, rfl⟩
    · simp at h
    · exact .inr (.inr ⟨r', rfl⟩)
    · exact .inr (.inr ⟨r' ++ 47 :: r, by simp⟩)
theorem within_le {s p : List UInt8} (h : withinB s p = true) : p ≤ s := by
  rw [withinB_iff] at h
  rcases h with rfl | rfl | ⟨r, rfl⟩
  · exact List.nil_le _
  · exact List.le_refl _
  · exact List.le_append_left
/-- The same, as the document has it. -/
theorem within_doc (s p : List UInt8) : withinB s p = (p.isEmpty || decide (s = p) || (decide (p.length < s.length) && decide (s.take p.length = p) && decide (s[p.length]? = some 47))) := by
  rw [Bool.eq_iff_iff, withinB_iff]
  simp only [Bool.or_eq_true, List.isEmpty_iff, decide_eq_true_eq, Bool.and_eq_true]
  rw [or_assoc]
  refine or_congr Iff.rfl (or_congr Iff.rfl ⟨?_, ?_⟩)
  · rintro ⟨r, rfl⟩; simp
  · rintro ⟨⟨h1, h2⟩, h3⟩
    refine ⟨s.drop (p.length + 1), ?_⟩
    have h4 : s.drop p.length = 47 :: s.drop (p.length + 1) := by
      rw [List.drop_eq_getElem_cons h1]
      rw [List.getElem?_eq_getElem h1] at h3
      injection h3 with h3
      rw [h3]
    conv => lhs; rw [← List.take_append_drop p.length s, h2, h4]

/-- Does a key lie within interests? -/
def hasW (l : List (List UInt8)) (key : List UInt8) : Bool := l.any fun p => withinB key p
def coversW (a b : List (List UInt8)) : Bool := b.all fun p => hasW a p
def outStep (out : List (List UInt8)) (p : List UInt8) : List (List UInt8) := if hasW out p then out else out ++ [p]
/-- The prefixes that lie within none of the others, in order. -/
def outW (l : List (List UInt8)) : List (List UInt8) := (sortS l).foldl outStep []
/-- What is wrong with prefixes, each alone. -/
def chkN (most : Nat) (l : List (List UInt8)) : Int := if most < l.length ∨ l.any (fun p => decide (24 < p.length)) = true then 8 else if l.all prefOk = true then 0 else 3
def chkW (l : List (List UInt8)) : Int := if chkN 16 l ≠ 0 then chkN 16 l else if outW l = l then 0 else 3
def makeWE (l : List (List UInt8)) : Int := if chkN 256 l ≠ 0 then chkN 256 l else if 16 < (outW l).length then 8 else 0
def makeW (l : List (List UInt8)) : List (List UInt8) := if makeWE l ≠ 0 then [] else outW l
def joinWE (a b : List (List UInt8)) : Int := if chkW a ≠ 0 then chkW a else if chkW b ≠ 0 then chkW b else makeWE (a ++ b)
def joinW (a b : List (List UInt8)) : List (List UInt8) := if joinWE a b ≠ 0 then [] else outW (a ++ b)
def minusWE (a : List (List UInt8)) (p : List UInt8) : Int := if chkW a ≠ 0 then chkW a else chkN 1 [p]
def minusW (a : List (List UInt8)) (p : List UInt8) : List (List UInt8) := if minusWE a p ≠ 0 then [] else a.filter fun x => !withinB x p
/-- It lies within no other one. -/
def minl (l : List (List UInt8)) (z : List UInt8) : Prop := ∀ y ∈ l, withinB z y = true → y = z

theorem hasW_iff {l : List (List UInt8)} {k : List UInt8} : hasW l k = true ↔ ∃ p ∈ l, withinB k p = true := by unfold hasW; rw [List.any_eq_true]
theorem hasW_false {l : List (List UInt8)} {k : List UInt8} : hasW l k = false ↔ ∀ p ∈ l, withinB k p = false := by unfold hasW; rw [List.any_eq_false]; simp
theorem outW_fold : ∀ (xs P out : List (List UInt8)), (P ++ xs).Pairwise (fun x y => x ≤ y) → ascS out → (∀ z, z ∈ out ↔ z ∈ P ∧ minl P z) → (∀ y ∈ P, hasW out y = true) →
    ascS (xs.foldl outStep out) ∧ (∀ z, z ∈ xs.foldl outStep out ↔ z ∈ P ++ xs ∧ minl (P ++ xs) z) ∧ (∀ y ∈ P ++ xs, hasW (xs.foldl outStep out) y = true)
  | [], P, out, _, h1, h2, h3 => by simpa using ⟨h1, h2, h3⟩
  | p :: xs, P, out, hp, h1, h2, h3 => by
    have hle : ∀ y ∈ P, y ≤ p := fun y hy => (List.pairwise_append.1 hp).2.2 y hy p (by simp)
    have key : ascS (outStep out p) ∧ (∀ z, z ∈ outStep out p ↔ z ∈ P ++ [p] ∧ minl (P ++ [p]) z) ∧ (∀ y ∈ P ++ [p], hasW (outStep out p) y = true) := by
      unfold outStep
      by_cases hh : hasW out p = true
      · rw [if_pos hh]
        obtain ⟨q, hq, hqw⟩ := hasW_iff.1 hh
        obtain ⟨hqP, hqm⟩ := (h2 q).1 hq
        refine ⟨h1, fun z => ?_, fun y hy => ?_⟩
        · rw [h2]
          constructor
          · rintro ⟨hz, hm⟩
            refine ⟨by simp [hz], fun y hy hw => ?_⟩
            rcases List.mem_append.1 hy with hy | hy
            · exact hm y hy hw
            · obtain rfl := List.mem_singleton.1 hy
              exact List.le_antisymm (within_le hw) (hle z hz)
          · rintro ⟨hz, hm⟩
            have hm' : minl P z := fun y hy hw => hm y (by simp [hy]) hw
            rcases List.mem_append.1 hz with hz | hz
            · exact ⟨hz, hm'⟩
            · obtain rfl := List.mem_singleton.1 hz
              have : q = z := hm q (by simp [hqP]) hqw
              subst this
              exact ⟨hqP, hm'⟩
        · rcases List.mem_append.1 hy with hy | hy
          · exact h3 y hy
          · obtain rfl := List.mem_singleton.1 hy; exact hh
      · rw [if_neg hh]
        have hno : ∀ q ∈ out, withinB p q = false := by simpa using hasW_false.1 (by simpa using hh)
        have hnoP : ∀ q ∈ P, withinB p q = false := fun q hq => by
          rw [Bool.eq_false_iff]
          intro hw
          obtain ⟨q', hq', hw'⟩ := hasW_iff.1 (h3 q hq)
          have := hno q' hq'
          rw [within_trans hw hw'] at this
          cases this
        have hpP : p ∉ P := fun hp => by have := hnoP p hp; rw [within_refl] at this; cases this
        refine ⟨?_, fun z => ?_, fun y hy => ?_⟩
        · refine List.pairwise_append.2 ⟨h1, List.pairwise_singleton _ _, fun x hx y hy => ?_⟩
          obtain rfl := List.mem_singleton.1 hy
          have hxP := ((h2 x).1 hx).1
          exact ltS_of (hle x hxP) (fun e => hpP (e ▸ hxP))
        · rw [List.mem_append, h2, List.mem_singleton]
          constructor
          · rintro (⟨hz, hm⟩ | rfl)
            · refine ⟨by simp [hz], fun y hy hw => ?_⟩
              rcases List.mem_append.1 hy with hy | hy
              · exact hm y hy hw
              · obtain rfl := List.mem_singleton.1 hy
                exact List.le_antisymm (within_le hw) (hle z hz)
            · refine ⟨by simp, fun y hy hw => ?_⟩
              rcases List.mem_append.1 hy with hy | hy
              · rw [hnoP y hy] at hw; cases hw
              · exact List.mem_singleton.1 hy
          · rintro ⟨hz, hm⟩
            rcases List.mem_append.1 hz with hz | hz
            · exact .inl ⟨hz, fun y hy hw => hm y (by simp [hy]) hw⟩
            · exact .inr (List.mem_singleton.1 hz)
        · rcases List.mem_append.1 hy with hy | hy
          · obtain ⟨q, hq, hw⟩ := hasW_iff.1 (h3 y hy)
            exact hasW_iff.2 ⟨q, by simp [hq], hw⟩
          · obtain rfl := List.mem_singleton.1 hy
            exact hasW_iff.2 ⟨y, by simp, within_refl y⟩
    have := outW_fold xs (P ++ [p]) (outStep out p) (by simpa using hp) key.1 key.2.1 key.2.2
    simpa using this
theorem minl_sort {l : List (List UInt8)} {z : List UInt8} : minl (sortS l) z ↔ minl l z := by unfold minl; simp only [sortS_mem]
theorem outW_spec (l : List (List UInt8)) : ascS (outW l) ∧ (∀ z, z ∈ outW l ↔ z ∈ l ∧ minl l z) ∧ ∀ y ∈ l, hasW (outW l) y = true := by
  obtain ⟨h1, h2, h3⟩ := outW_fold (sortS l) [] [] (by simpa using sortS_asc l) .nil (by simp) (by simp)
  refine ⟨h1, fun z => ?_, fun y hy => h3 y (by simpa [sortS_mem] using hy)⟩
  have := h2 z
  rw [List.nil_append, sortS_mem, minl_sort] at this
  exact this
theorem outW_of {l r : List (List UInt8)} (h : ascS r) (hm : ∀ z, z ∈ r ↔ z ∈ l ∧ minl l z) : outW l = r :=
  ascS_ext (outW_spec l).1 h fun z => ((outW_spec l).2.1 z).trans (hm z).symm
/-- Interests are right: they rise strictly, and none lies within another one. -/
theorem outW_self {l : List (List UInt8)} : outW l = l ↔ ascS l ∧ ∀ x ∈ l, minl l x := by
  constructor
  · intro e
    obtain ⟨h1, h2, _⟩ := outW_spec l
    rw [e] at h1 h2
    exact ⟨h1, fun x hx => ((h2 x).1 hx).2⟩
  · rintro ⟨h1, h2⟩
    exact outW_of h1 fun z => ⟨fun hz => ⟨hz, h2 z hz⟩, fun h => h.1⟩
theorem outW_idem (l : List (List UInt8)) : outW (outW l) = outW l := by
  rw [outW_self]
  obtain ⟨h1, h2, _⟩ := outW_spec l
  exact ⟨h1, fun x hx y hy hw => ((h2 x).1 hx).2 y ((h2 y).1 hy).1 hw⟩
theorem hasW_out (l : List (List UInt8)) (k : List UInt8) : hasW (outW l) k = hasW l k := by
  obtain ⟨_, h2, h3⟩ := outW_spec l
  rw [Bool.eq_iff_iff, hasW_iff, hasW_iff]
  constructor
  · rintro ⟨p, hp, hw⟩; exact ⟨p, ((h2 p).1 hp).1, hw⟩
  · rintro ⟨p, hp, hw⟩
    obtain ⟨q, hq, hw'⟩ := hasW_iff.1 (h3 p hp)
    exact ⟨q, hq, within_trans hw hw'⟩
theorem chkN_zero {m : Nat} {l : List (List UInt8)} : chkN m l = 0 ↔ l.length ≤ m ∧ (∀ p ∈ l, p.length ≤ 24) ∧ ∀ p ∈ l, prefOk p = true := by
  unfold chkN
  rw [← List.all_eq_true (p := prefOk)]
  split
  · rename_i h
    refine ⟨fun e => by simp at e, fun ⟨h1, h2, _⟩ => ?_⟩
    rcases h with h | h
    · omega
    · obtain ⟨p, hp, hd⟩ := List.any_eq_true.1 h
      have := h2 p hp
      simp at hd; omega
  · rename_i h
    have h1 : l.length ≤ m := Nat.le_of_not_lt fun e => h (.inl e)
    have h2 : ∀ p ∈ l, p.length ≤ 24 := fun p hp => Nat.le_of_not_lt fun e => h (.inr (List.any_eq_true.2 ⟨p, hp, by simpa using e⟩))
    split
    · rename_i h3; simp [h1, h3]; exact h2
    · rename_i h3; simp [h3]
theorem chkW_zero {l : List (List UInt8)} : chkW l = 0 ↔ chkN 16 l = 0 ∧ outW l = l := by
  unfold chkW
  by_cases h : chkN 16 l = 0
  · rw [if_neg (by simp [h])]
    split
    · rename_i h2; simp [h, h2]
    · rename_i h2; simp [h2]
  · rw [if_pos h]; simp [h]
theorem makeWE_zero {l : List (List UInt8)} : makeWE l = 0 ↔ chkN 256 l = 0 ∧ (outW l).length ≤ 16 := by
  unfold makeWE
  by_cases h : chkN 256 l = 0
  · rw [if_neg (by simp [h])]
    split
    · rename_i h2; simp; omega
    · rename_i h2; simp [h]; omega
  · rw [if_pos h]; simp [h]
theorem make_chk {l : List (List UInt8)} (h : makeWE l = 0) : chkW (outW l) = 0 := by
  obtain ⟨h1, h2⟩ := makeWE_zero.1 h
  obtain ⟨h3, h4, h5⟩ := chkN_zero.1 h1
  obtain ⟨_, h6, _⟩ := outW_spec l
  exact chkW_zero.2 ⟨chkN_zero.2 ⟨h2, fun p hp => h4 p ((h6 p).1 hp).1, fun p hp => h5 p ((h6 p).1 hp).1⟩, outW_idem l⟩
theorem make_out {l : List (List UInt8)} (h : makeWE l = 0) : makeW l = outW l := by unfold makeW; rw [if_neg (by simp [h])]
theorem covers_has {a b : List (List UInt8)} {k : List UInt8} (h : coversW a b = true) (hb : hasW b k = true) : hasW a k = true := by
  obtain ⟨p, hp, hw⟩ := hasW_iff.1 hb
  unfold coversW at h
  obtain ⟨q, hq, hw'⟩ := hasW_iff.1 (List.all_eq_true.1 h p hp)
  exact hasW_iff.2 ⟨q, hq, within_trans hw hw'⟩
theorem covers_of {a b : List (List UInt8)} (h : ∀ p ∈ b, hasW a p = true) : coversW a b = true := List.all_eq_true.2 h
theorem covers_self (a : List (List UInt8)) : coversW a a = true := covers_of fun p hp => hasW_iff.2 ⟨p, hp, within_refl p⟩
theorem outW_len (l : List (List UInt8)) : (outW l).length ≤ l.length := by
  unfold outW
  have h : ∀ (xs out : List (List UInt8)), (xs.foldl outStep out).length ≤ out.length + xs.length := by
    intro xs
    induction xs with
    | nil => intro out; simp
    | cons x xs ih =>
      intro out
      rw [List.foldl_cons]
      have h1 := ih (outStep out x)
      have h2 : (outStep out x).length ≤ out.length + 1 := by unfold outStep; split <;> simp
      simp; omega
  have := h (sortS l) []
  rw [sortS_len] at this
  simpa using this
/-- The statement TreeWithin. -/
theorem treewithin_law {a b : List (List UInt8)} (ha : makeWE a = 0) (hb : makeWE b = 0) (key : List UInt8) :
    chkW (outW a) = 0 ∧ chkW (outW b) = 0 ∧ hasW (outW a) key = hasW a key ∧ (coversW (outW a) (outW b) = true → hasW (outW b) key = true → hasW (outW a) key = true) ∧ coversW (outW a) (outW a) = true ∧
    (joinWE (outW a) (outW b) ≠ 0 → joinWE (outW a) (outW b) = 8) ∧
    (joinWE (outW a) (outW b) = 0 → joinW (outW a) (outW b) = outW (outW a ++ outW b) ∧ hasW (outW (outW a ++ outW b)) key = (hasW (outW a) key || hasW (outW b) key) ∧ coversW (outW (outW a ++ outW b)) (outW a) = true ∧ coversW (outW (outW a ++ outW b)) (outW b) = true) := by
  have ca := make_chk ha
  have cb := make_chk hb
  refine ⟨ca, cb, hasW_out a key, fun h1 h2 => covers_has h1 h2, covers_self _, fun h => ?_, fun h => ⟨?_, ?_, ?_, ?_⟩⟩
  · unfold joinWE at h ⊢
    rw [if_neg (by simp [ca]), if_neg (by simp [cb])] at h ⊢
    obtain ⟨p1, p2, p3⟩ := chkN_zero.1 (chkW_zero.1 ca).1
    obtain ⟨q1, q2, q3⟩ := chkN_zero.1 (chkW_zero.1 cb).1
    have h0 : chkN 256 (outW a ++ outW b) = 0 := chkN_zero.2 ⟨by simp; omega, fun p hp => (List.mem_append.1 hp).elim (p2 p) (q2 p), fun p hp => (List.mem_append.1 hp).elim (p3 p) (q3 p)⟩
    unfold makeWE at h ⊢
    rw [if_neg (by simp [h0])] at h ⊢
    split
    · rfl
    · rename_i h9; rw [if_neg h9] at h; exact absurd rfl h
  · unfold joinW; rw [if_neg (by simp [h])]
  · rw [hasW_out]; unfold hasW; rw [List.any_append]
  · exact covers_of fun p hp => by rw [hasW_out]; exact hasW_iff.2 ⟨p, by simp [hp], within_refl p⟩
  · exact covers_of fun p hp => by rw [hasW_out]; exact hasW_iff.2 ⟨p, by simp [hp], within_refl p⟩
/-- The statement TreeMinus. -/
theorem treeminus_law {x : List (List UInt8)} (hx : chkW x = 0) (p key : List UInt8) (hm : minusWE x p = 0) :
    minusW x p = x.filter (fun q => !withinB q p) ∧ (hasW (x.filter fun q => !withinB q p) key = true → hasW x key = true) ∧ coversW x (x.filter fun q => !withinB q p) = true ∧ chkW (x.filter fun q => !withinB q p) = 0 ∧
    (hasW [p] key = false → hasW (x.filter fun q => !withinB q p) key = hasW x key) := by
  have hsub : ∀ q, q ∈ x.filter (fun q => !withinB q p) → q ∈ x := fun q hq => (List.mem_filter.1 hq).1
  obtain ⟨h1, h2⟩ := chkW_zero.1 hx
  obtain ⟨h3, h4, h5⟩ := chkN_zero.1 h1
  obtain ⟨h6, h7⟩ := outW_self.1 h2
  refine ⟨by unfold minusW; rw [if_neg (by simp [hm])], fun h => ?_, covers_of fun q hq => hasW_iff.2 ⟨q, hsub q hq, within_refl q⟩, ?_, fun h => ?_⟩
  · obtain ⟨q, hq, hw⟩ := hasW_iff.1 h
    exact hasW_iff.2 ⟨q, hsub q hq, hw⟩
  · refine chkW_zero.2 ⟨chkN_zero.2 ⟨Nat.le_trans (List.length_filter_le _ _) h3, fun q hq => h4 q (hsub q hq), fun q hq => h5 q (hsub q hq)⟩, outW_self.2 ⟨h6.sublist List.filter_sublist, fun q hq y hy hw => h7 q (hsub q hq) y (hsub y hy) hw⟩⟩
  · rw [Bool.eq_iff_iff, hasW_iff, hasW_iff]
    constructor
    · rintro ⟨q, hq, hw⟩; exact ⟨q, hsub q hq, hw⟩
    · rintro ⟨q, hq, hw⟩
      refine ⟨q, List.mem_filter.2 ⟨hq, ?_⟩, hw⟩
      cases hc : withinB q p with
      | false => rfl
      | true =>
        have := hasW_false.1 h p (by simp)
        rw [within_trans hw hc] at this
        cases this
/-- A text of the list at its place. -/
def sinkS : Nat → List (List UInt8) → List (List UInt8)
  | 0, l => l
  | k + 1, l => if l.getD (k + 1) [] < l.getD k [] then sinkS k ((l.set (k + 1) (l.getD k [])).set k (l.getD (k + 1) [])) else l
theorem sinkS_len : ∀ (k : Nat) (l : List (List UInt8)), (sinkS k l).length = l.length
  | 0, l => rfl
  | k + 1, l => by
    rw [sinkS]
    split
    · rw [sinkS_len k]; simp
    · rfl
theorem sinkS_spec : ∀ (k : Nat) (p : List (List UInt8)) (x : List UInt8) (s : List (List UInt8)), p.length = k → ascS (p ++ s) → (∀ z ∈ s, x < z) → x ∉ p →
    ascS (sinkS k (p ++ x :: s)) ∧ ∀ z, z ∈ sinkS k (p ++ x :: s) ↔ z = x ∨ z ∈ p ++ s := by
  intro k
  induction k with
  | zero =>
    intro p x s hk ha hs _
    obtain rfl := List.eq_nil_of_length_eq_zero hk
    refine ⟨List.pairwise_cons.2 ⟨hs, ha⟩, fun z => by simp [sinkS]⟩
  | succ k ih =>
    intro p x s hk ha hs hx
    obtain ⟨p', y, rfl⟩ : ∃ p' y, p = p' ++ [y] := by
      rcases List.eq_nil_or_concat p with rfl | ⟨p', y, e⟩
      · simp at hk
      · exact ⟨p', y, by simpa using e⟩
    have hk' : p'.length = k := by simpa using hk
    have e1 : (p' ++ [y] ++ x :: s).getD k [] = y := by subst hk'; simp [List.getD]
    have e2 : (p' ++ [y] ++ x :: s).getD (k + 1) [] = x := by subst hk'; simp [List.getD]
    rw [sinkS, e1, e2]
    by_cases h : x < y
    · rw [if_pos h]
      have e3 : ((p' ++ [y] ++ x :: s).set (k + 1) y).set k x = p' ++ x :: (y :: s) := by
        subst hk'; simp
      rw [e3]
      obtain ⟨g1, g2⟩ := ih p' x (y :: s) hk' (by simpa using ha) (fun z hz => by
        rcases List.mem_cons.1 hz with rfl | hz
        · exact h
        · exact hs z hz) (fun hm => hx (by simp [hm]))
      exact ⟨g1, fun z => by rw [g2 z]; simp⟩
    · rw [if_neg h]
      have h' : y < x := ltS_total (fun e => hx (by simp [e])) h
      refine ⟨?_, fun z => by simp [or_left_comm]⟩
      rw [List.append_assoc] at ha
      obtain ⟨a1, a2, a3⟩ := List.pairwise_append.1 ha
      obtain ⟨a4, a5⟩ := List.pairwise_cons.1 (show ascS (y :: s) from a2)
      rw [List.append_assoc]
      refine List.pairwise_append.2 ⟨a1, ?_, fun u hu v hv => ?_⟩
      · refine List.pairwise_cons.2 ⟨fun v hv => ?_, List.pairwise_cons.2 ⟨hs, a5⟩⟩
        rcases List.mem_cons.1 hv with rfl | hv
        · exact h'
        · exact a4 v hv
      · have hy : u < y := a3 u hu y (by simp)
        simp only [List.singleton_append, List.mem_cons] at hv
        rcases hv with rfl | rfl | hv
        · exact hy
        · exact ltS_trans hy h'
        · exact ltS_trans hy (a4 v hv)
/-- May the text at a place stay? -/
def keepR (l : List (List UInt8)) (i : Nat) : Bool := (List.range l.length).all fun k => !((!decide (l.getD k [] = l.getD i []) && withinB (l.getD i []) (l.getD k [])) || (decide (l.getD k [] = l.getD i []) && decide (k < i)))
def stepR (l out : List (List UInt8)) (i : Nat) : List (List UInt8) := if keepR l i then sinkS out.length (out ++ [l.getD i []]) else out
def makeR (l : List (List UInt8)) (k : Nat) : List (List UInt8) := (List.range k).foldl (stepR l) []
theorem makeR_succ (l : List (List UInt8)) (k : Nat) : makeR l (k + 1) = stepR l (makeR l k) k := by unfold makeR; rw [List.range_succ, List.foldl_append]; rfl
theorem keepR_iff {l : List (List UInt8)} {i : Nat} (hi : i < l.length) : keepR l i = true ↔ minl l (l.getD i []) ∧ ∀ k, k < i → l.getD k [] ≠ l.getD i [] := by
  unfold keepR
  rw [List.all_eq_true]
  simp only [List.mem_range]
  constructor
  · intro h
    refine ⟨fun y hy hw => ?_, fun k hk e => ?_⟩
    · obtain ⟨k, hk⟩ := List.mem_iff_getElem?.1 hy
      have hkl := (List.getElem?_eq_some_iff.1 hk).1
      have := h k hkl
      have e : l.getD k [] = y := by rw [List.getD, hk]; rfl
      rw [e, hw] at this
      by_cases he : y = l.getD i []
      · exact he
      · rw [decide_eq_false he] at this; simp at this
    · have := h k (by omega)
      rw [e, decide_eq_true rfl, decide_eq_true hk] at this; simp at this
  · rintro ⟨h1, h2⟩ k hk
    have hm : l.getD k [] ∈ l := by rw [List.getD, List.getElem?_eq_getElem hk]; exact List.getElem_mem hk
    by_cases he : l.getD k [] = l.getD i []
    · have : ¬ k < i := fun hlt => h2 k hlt he
      rw [he, decide_eq_true rfl, decide_eq_false this]
      simp
    · cases hw : withinB (l.getD i []) (l.getD k []) with
      | true => exact absurd (h1 _ hm hw) he
      | false => rw [decide_eq_false he]; rfl
theorem makeR_spec (l : List (List UInt8)) : ∀ k, k ≤ l.length → ascS (makeR l k) ∧ (makeR l k).length ≤ k ∧ ∀ z, z ∈ makeR l k ↔ z ∈ l.take k ∧ minl l z
  | 0, _ => by simp [makeR, List.range_zero]
  | k + 1, hk => by
    obtain ⟨h1, hl, h2⟩ := makeR_spec l k (by omega)
    have hg : l[k]? = some (l.getD k []) := by rw [List.getD, List.getElem?_eq_getElem (by omega)]; rfl
    have ht : l.take (k + 1) = l.take k ++ [l.getD k []] := by rw [List.take_add_one, hg]; rfl
    have hmem : l.getD k [] ∈ l.take k ↔ ∃ j, j < k ∧ l.getD j [] = l.getD k [] := by
      rw [List.mem_iff_getElem?]
      constructor
      · rintro ⟨j, hj⟩
        have hlt := (List.getElem?_eq_some_iff.1 hj).1
        rw [List.length_take] at hlt
        rw [List.getElem?_take_of_lt (by omega)] at hj
        exact ⟨j, by omega, by rw [List.getD, hj]; rfl⟩
      · rintro ⟨j, hj, e⟩
        refine ⟨j, ?_⟩
        rw [List.getElem?_take_of_lt hj, ← e, List.getD, List.getElem?_eq_getElem (by omega)]; rfl
    rw [makeR_succ]
    unfold stepR
    by_cases hkeep : keepR l k = true
    · rw [if_pos hkeep]
      obtain ⟨m1, m2⟩ := (keepR_iff (by omega)).1 hkeep
      have hnot : l.getD k [] ∉ makeR l k := fun h => by
        obtain ⟨j, hj, e⟩ := hmem.1 ((h2 _).1 h).1
        exact m2 j hj e
      obtain ⟨g1, g2⟩ := sinkS_spec (makeR l k).length (makeR l k) (l.getD k []) [] rfl (by simpa using h1) (by simp) hnot
      refine ⟨g1, by rw [sinkS_len]; simp; omega, fun z => ?_⟩
      rw [g2, List.append_nil, h2, ht, List.mem_append, List.mem_singleton]
      constructor
      · rintro (rfl | ⟨h, h'⟩)
        · exact ⟨.inr rfl, m1⟩
        · exact ⟨.inl h, h'⟩
      · rintro ⟨h | h, h'⟩
        · exact .inr ⟨h, h'⟩
        · exact .inl h
    · rw [if_neg hkeep]
      refine ⟨h1, by omega, fun z => ?_⟩
      rw [h2, ht, List.mem_append, List.mem_singleton]
      constructor
      · rintro ⟨h, h'⟩; exact ⟨.inl h, h'⟩
      · rintro ⟨h | rfl, h'⟩
        · exact ⟨h, h'⟩
        · refine ⟨hmem.2 ?_, h'⟩
          apply Classical.byContradiction
          intro hne
          exact hkeep ((keepR_iff (by omega)).2 ⟨h', fun j hj e => hne ⟨j, hj, e⟩⟩)
/-- The document's way comes to the same interests. -/
theorem makeR_out (l : List (List UInt8)) : makeR l l.length = outW l := by
  obtain ⟨h1, _, h2⟩ := makeR_spec l l.length (Nat.le_refl _)
  exact (outW_of h1 fun z => by rw [h2, List.take_length]).symm
/-- Interests are right, place by place. -/
def okAt (l : List (List UInt8)) (i : Nat) : Prop := (0 < i → l.getD (i - 1) [] < l.getD i []) ∧ ∀ k, k < l.length → k ≠ i → withinB (l.getD i []) (l.getD k []) = false
theorem okAt_all {l : List (List UInt8)} : (∀ i, i < l.length → okAt l i) ↔ outW l = l := by
  have hget : ∀ i (h : i < l.length), l.getD i [] = l[i] := fun i h => by rw [List.getD, List.getElem?_eq_getElem h]; rfl
  rw [outW_self]
  constructor
  · intro h
    have hasc : ascS l := by
      have : ∀ d i, (hi : i + d + 1 < l.length) → l[i]'(by omega) < l[i + d + 1] := by
        intro d
        induction d with
        | zero =>
          intro i hi
          have := (h (i + 1) hi).1 (by omega)
          rw [Nat.add_sub_cancel, hget _ (by omega), hget _ hi] at this
          exact this
        | succ d ih =>
          intro i hi
          have h1 := ih i (by omega)
          have h2 := (h (i + (d + 1) + 1) hi).1 (by omega)
          rw [hget _ (by omega), hget _ hi] at h2
          exact ltS_trans h1 h2
      rw [ascS, List.pairwise_iff_getElem]
      intro i j hi hj hij
      have := this (j - i - 1) i (by omega)
      simpa [show i + (j - i - 1) + 1 = j by omega] using this
    refine ⟨hasc, fun x hx y hy hw => ?_⟩
    obtain ⟨i, hi, rfl⟩ := List.mem_iff_getElem.1 hx
    obtain ⟨k, hk, rfl⟩ := List.mem_iff_getElem.1 hy
    by_cases e : k = i
    · subst e; rfl
    · have := (h i hi).2 k hk e
      rw [hget _ hi, hget _ hk, hw] at this
      cases this
  · rintro ⟨h1, h2⟩ i hi
    have hlt := List.pairwise_iff_getElem.1 h1
    refine ⟨fun h0 => ?_, fun k hk hne => ?_⟩
    · rw [hget _ (by omega), hget _ hi]
      exact hlt (i - 1) i (by omega) hi (by omega)
    · rw [Bool.eq_false_iff]
      intro hw
      rw [hget _ hi, hget _ hk] at hw
      have e := h2 _ (List.getElem_mem hi) _ (List.getElem_mem hk) hw
      rcases Nat.lt_trichotomy k i with hl | hl | hl
      · have := hlt k i hk hi hl
        rw [e] at this
        exact ltS_irrefl _ this
      · exact hne hl
      · have := hlt i k hi hk hl
        rw [e] at this
        exact ltS_irrefl _ this
end Go.Proofs.YtfhandglpjnonaaGreatDoor
