/- Parts in which each comes behind each: the plain law of the search (no program in sight). -/
import Derived.Lib.Hide
namespace Go.Proofs.Ytebpghpeeedgcaa

/-- Who each comes behind. -/
abbrev Gr := List (List Nat)
def sucs (g : Gr) (i : Nat) : List Nat := g.getD i []
def Ed (g : Gr) (i j : Nat) : Prop := j ∈ sucs g i
/-- It comes to be behind it, in any number of steps. -/
inductive Rc (g : Gr) : Nat → Nat → Prop
  | refl (i : Nat) : Rc g i i
  | step {i j k : Nat} : Ed g i j → Rc g j k → Rc g i k
theorem Rc.one {g : Gr} {i j : Nat} (h : Ed g i j) : Rc g i j := .step h (.refl j)
theorem Rc.trans {g : Gr} {i j k : Nat} (h : Rc g i j) (h2 : Rc g j k) : Rc g i k := by
  induction h with
  | refl => exact h2
  | step e _ ih => exact .step e (ih h2)
def upd {α : Type} (f : Nat → α) (i : Nat) (v : α) : Nat → α := fun x => if x = i then v else f x
theorem upd_at {α : Type} (f : Nat → α) (i : Nat) (v : α) : upd f i v i = v := by unfold upd; rw [if_pos rfl]
theorem upd_ne {α : Type} {f : Nat → α} {i x : Nat} {v : α} (h : x ≠ i) : upd f i v x = f x := by unfold upd; rw [if_neg h]
def sortN (l : List Nat) : List Nat := l.mergeSort fun a b => decide (a ≤ b)
theorem sortN_mem {l : List Nat} {z : Nat} : z ∈ sortN l ↔ z ∈ l := List.mem_mergeSort
theorem sortN_len (l : List Nat) : (sortN l).length = l.length := List.length_mergeSort l
theorem sortN_asc {l : List Nat} (h : l.Nodup) : (sortN l).Pairwise (· < ·) := by
  have h1 : (sortN l).Pairwise fun a b => decide (a ≤ b) = true := List.pairwise_mergeSort (le := fun a b : Nat => decide (a ≤ b)) (fun a b c h1 h2 => by simp at *; omega) (fun a b => by simp; omega) l
  have h2 : (sortN l).Nodup := (List.mergeSort_perm l _).nodup_iff.2 h
  refine (h1.and h2).imp ?_
  rintro a b ⟨h3, h4⟩
  simp at h3
  have : a ≠ b := h4
  omega
/-- The search's state. -/
structure TS where
  num : Nat → Nat
  low : Nat → Nat
  nxt : Nat → Nat
  opn : Nat → Bool
  prt : Nat → Nat
  pts : List (List Nat)
  cnt : Nat
/-- The stack: segments, the top one first; each a thing on the path and those above it. -/
def flat : List (Nat × List Nat) → List Nat
  | [] => []
  | p :: r => flat r ++ p.1 :: p.2
def Chn (g : Gr) : List (Nat × List Nat) → Prop
  | [] => True
  | [_] => True
  | a :: b :: r => Ed g b.1 a.1 ∧ Chn g (b :: r)
theorem Chn.tail {g : Gr} {a : Nat × List Nat} {r : List (Nat × List Nat)} (h : Chn g (a :: r)) : Chn g r := by
  cases r with
  | nil => trivial
  | cons b r => exact h.2
theorem Chn.head {g : Gr} {h : Nat} {t t' : List Nat} {r : List (Nat × List Nat)} (hc : Chn g ((h, t) :: r)) : Chn g ((h, t') :: r) := by
  cases r with
  | nil => trivial
  | cons b r => exact hc
theorem mem_flat {ss : List (Nat × List Nat)} {x : Nat} : x ∈ flat ss ↔ ∃ p ∈ ss, x ∈ p.1 :: p.2 := by
  induction ss with
  | nil => simp [flat]
  | cons p r ih =>
    rw [flat, List.mem_append, ih]
    constructor
    · rintro (⟨q, hq, hx⟩ | hx)
      · exact ⟨q, by simp [hq], hx⟩
      · exact ⟨p, by simp, hx⟩
    · rintro ⟨q, hq, hx⟩
      rcases List.mem_cons.1 hq with e | hq
      · subst e; exact .inr hx
      · exact .inl ⟨q, hq, hx⟩
theorem flat_uniq {ss : List (Nat × List Nat)} (hn : (flat ss).Nodup) {p q : Nat × List Nat} {x : Nat} (hp : p ∈ ss) (hq : q ∈ ss) (hxp : x ∈ p.1 :: p.2) (hxq : x ∈ q.1 :: q.2) : p = q := by
  induction ss with
  | nil => cases hp
  | cons a r ih =>
    rw [flat] at hn
    obtain ⟨h1, _, h3⟩ := List.nodup_append.1 hn
    rcases List.mem_cons.1 hp with e | hp2 <;> rcases List.mem_cons.1 hq with e' | hq2
    · rw [e, e']
    · subst e; exact absurd rfl (h3 x (mem_flat.2 ⟨q, hq2, hxq⟩) x hxp)
    · subst e'; exact absurd rfl (h3 x (mem_flat.2 ⟨p, hp2, hxp⟩) x hxq)
    · exact ih h1 hp2 hq2
theorem flat_own {ss : List (Nat × List Nat)} (hn : (flat ss).Nodup) {p : Nat × List Nat} (hp : p ∈ ss) : p.1 ∉ p.2 := by
  induction ss with
  | nil => cases hp
  | cons a r ih =>
    rw [flat] at hn
    obtain ⟨h1, h2, _⟩ := List.nodup_append.1 hn
    rcases List.mem_cons.1 hp with rfl | hp
    · exact (List.nodup_cons.1 h2).1
    · exact ih h1 hp
structure Inv (g : Gr) (s : TS) (ss : List (Nat × List Nat)) : Prop where
  lt : ∀ x, 0 < s.num x → x < g.length
  le : ∀ x, s.num x ≤ s.cnt
  op : ∀ x, s.opn x = true ↔ x ∈ flat ss
  pos : ∀ x ∈ flat ss, 0 < s.num x
  inc : (flat ss).Pairwise fun a b => s.num a < s.num b
  chn : Chn g ss
  con : ∀ p ∈ ss, ∀ x ∈ p.2, Rc g p.1 x ∧ Rc g x p.1
  white : ∀ x, s.num x = 0 → s.nxt x = 0
  nle : ∀ x, s.nxt x ≤ (sucs g x).length
  done : ∀ p ∈ ss, ∀ x ∈ p.2, s.nxt x = (sucs g x).length
  proc : ∀ p ∈ ss, ∀ x, x ∈ p.1 :: p.2 → ∀ (j y : Nat), j < s.nxt x → (sucs g x)[j]? = some y → 0 < s.num y ∧ (s.opn y = true → s.low p.1 ≤ s.num y)
  lle : ∀ p ∈ ss, s.low p.1 ≤ s.num p.1
  lat : ∀ p ∈ ss, ∃ y ∈ flat ss, s.num y = s.low p.1 ∧ Rc g p.1 y
  suc : ∀ x y, 0 < s.num x → s.opn x = false → Ed g x y → 0 < s.num y ∧ s.opn y = false ∧ s.prt y ≤ s.prt x
  cls : ∀ x, 0 < s.num x → s.opn x = false → ∃ p, s.pts[s.prt x]? = some p ∧ x ∈ p
  scc : ∀ (j : Nat) p, s.pts[j]? = some p → p ≠ [] ∧ p.Pairwise (· < ·) ∧ ∀ x ∈ p, 0 < s.num x ∧ s.opn x = false ∧ s.prt x = j ∧ ∀ y, y ∈ p ↔ Rc g x y ∧ Rc g y x
section
variable {g : Gr} {s : TS} {ss : List (Nat × List Nat)}
theorem Inv.nodup (h : Inv g s ss) : (flat ss).Nodup := h.inc.imp fun hab e => by subst e; omega
theorem inv_start (g : Gr) : Inv g ⟨fun _ => 0, fun _ => 0, fun _ => 0, fun _ => false, fun _ => 0, [], 0⟩ [] where
  lt := by simp
  le := by simp
  op := by simp [flat]
  pos := by simp [flat]
  inc := by simp [flat]
  chn := trivial
  con := by simp
  white := by simp
  nle := by simp
  done := by simp
  proc := by simp
  lle := by simp
  lat := by simp
  suc := by simp
  cls := by simp
  scc := by simp
/-- One step more of a thing on the path was looked at. -/
theorem Inv.bump (h : Inv g s ss) {i k : Nat} {t : List Nat} (hi : (i, t) ∈ ss) (hk : (sucs g i)[s.nxt i]? = some k) (h0 : 0 < s.num k) (hl : s.opn k = true → s.low i ≤ s.num k) :
    Inv g { s with nxt := upd s.nxt i (s.nxt i + 1) } ss where
  lt := h.lt
  le := h.le
  op := h.op
  pos := h.pos
  inc := h.inc
  chn := h.chn
  con := h.con
  white := fun x hx => by
    have : x ≠ i := fun e => by
      have := h.pos i (mem_flat.2 ⟨_, hi, by simp⟩)
      subst e
      dsimp only at hx
      omega
    show upd s.nxt i _ x = 0
    rw [upd_ne this]; exact h.white x hx
  nle := fun x => by
    show upd s.nxt i _ x ≤ _
    by_cases e : x = i
    · subst e; rw [upd_at]; exact (List.getElem?_eq_some_iff.1 hk).1
    · rw [upd_ne e]; exact h.nle x
  done := fun p hp x hx => by
    have : x ≠ i := fun e => by
      subst e
      have := flat_uniq h.nodup hp hi (List.mem_cons_of_mem _ hx) (by simp)
      subst this
      exact flat_own h.nodup hi hx
    show upd s.nxt i _ x = _
    rw [upd_ne this]; exact h.done p hp x hx
  proc := fun p hp x hx j y hj hy => by
    have hj' : j < upd s.nxt i (s.nxt i + 1) x := hj
    by_cases e : x = i
    · subst e
      rw [upd_at] at hj'
      by_cases ej : j = s.nxt x
      · subst ej
        rw [hk] at hy
        injection hy with hy
        subst hy
        have := flat_uniq h.nodup hp hi hx (by simp)
        subst this
        exact ⟨h0, hl⟩
      · exact h.proc p hp x hx j y (by omega) hy
    · rw [upd_ne e] at hj'
      exact h.proc p hp x hx j y hj' hy
  lle := h.lle
  lat := h.lat
  suc := h.suc
  cls := h.cls
  scc := h.scc
/-- The least number that a thing on the path leads to is lowered. -/
theorem Inv.lower (h : Inv g s ss) {i m y : Nat} (hm : m ≤ s.low i) (hy : y ∈ flat ss) (he : s.num y = m) (hr : Rc g i y) :
    Inv g { s with low := upd s.low i m } ss where
  lt := h.lt
  le := h.le
  op := h.op
  pos := h.pos
  inc := h.inc
  chn := h.chn
  con := h.con
  white := h.white
  nle := h.nle
  done := h.done
  proc := fun p hp x hx j y hj hy => by
    obtain ⟨h1, h2⟩ := h.proc p hp x hx j y hj hy
    refine ⟨h1, fun ho => ?_⟩
    have := h2 ho
    show upd s.low i m p.1 ≤ s.num y
    by_cases e : p.1 = i
    · rw [e, upd_at]; rw [e] at this; omega
    · rw [upd_ne e]; exact this
  lle := fun p hp => by
    have := h.lle p hp
    show upd s.low i m p.1 ≤ s.num p.1
    by_cases e : p.1 = i
    · rw [e, upd_at]; rw [e] at this; omega
    · rw [upd_ne e]; exact this
  lat := fun p hp => by
    show ∃ y ∈ flat ss, s.num y = upd s.low i m p.1 ∧ Rc g p.1 y
    by_cases e : p.1 = i
    · rw [e, upd_at]; exact ⟨y, hy, he, hr⟩
    · rw [upd_ne e]; exact h.lat p hp
  suc := h.suc
  cls := h.cls
  scc := h.scc
/-- A thing is reached. -/
theorem Inv.reach (h : Inv g s ss) {k : Nat} (hk : s.num k = 0) (hlt : k < g.length) (hc : Chn g ((k, []) :: ss)) :
    Inv g { s with num := upd s.num k (s.cnt + 1), low := upd s.low k (s.cnt + 1), opn := upd s.opn k true, cnt := s.cnt + 1 } ((k, []) :: ss) := by
  have hn : ∀ x ∈ flat ss, x ≠ k := fun x hx e => by have := h.pos x hx; subst e; omega
  have hh : ∀ p ∈ ss, p.1 ≠ k := fun p hp => hn _ (mem_flat.2 ⟨p, hp, by simp⟩)
  have hfl : flat ((k, []) :: ss) = flat ss ++ [k] := rfl
  have hclo : ∀ x, 0 < upd s.num k (s.cnt + 1) x → upd s.opn k true x = false → x ≠ k ∧ 0 < s.num x ∧ s.opn x = false := fun x h1 h2 => by
    have e : x ≠ k := fun e => by subst e; rw [upd_at] at h2; cases h2
    rw [upd_ne e] at h1 h2
    exact ⟨e, h1, h2⟩
  refine { lt := ?_, le := ?_, op := ?_, pos := ?_, inc := ?_, chn := hc, con := ?_, white := ?_, nle := h.nle, done := ?_, proc := ?_, lle := ?_, lat := ?_, suc := ?_, cls := ?_, scc := ?_ }
  · intro x hx
    by_cases e : x = k
    · subst e; exact hlt
    · have hx' : 0 < upd s.num k (s.cnt + 1) x := hx
      rw [upd_ne e] at hx'; exact h.lt x hx'
  · intro x
    show upd s.num k (s.cnt + 1) x ≤ s.cnt + 1
    by_cases e : x = k
    · subst e; rw [upd_at]; exact Nat.le_refl _
    · rw [upd_ne e]; have := h.le x; omega
  · intro x
    show upd s.opn k true x = true ↔ _
    rw [hfl, List.mem_append, List.mem_singleton]
    by_cases e : x = k
    · subst e; rw [upd_at]; simp
    · rw [upd_ne e, h.op]; simp [e]
  · intro x hx
    show 0 < upd s.num k (s.cnt + 1) x
    rw [hfl, List.mem_append, List.mem_singleton] at hx
    by_cases e : x = k
    · subst e; rw [upd_at]; omega
    · rw [upd_ne e]; exact h.pos x (hx.resolve_right e)
  · rw [hfl]
    refine List.pairwise_append.2 ⟨?_, List.pairwise_singleton _ _, ?_⟩
    · refine h.inc.imp_of_mem ?_
      intro a b ha hb hab
      show upd s.num k _ a < upd s.num k _ b
      rw [upd_ne (hn a ha), upd_ne (hn b hb)]; exact hab
    · intro a ha b hb
      obtain rfl := List.mem_singleton.1 hb
      show upd s.num b _ a < upd s.num b _ b
      rw [upd_ne (hn a ha), upd_at]
      have := h.le a; omega
  · intro p hp x hx
    rcases List.mem_cons.1 hp with rfl | hp
    · cases hx
    · exact h.con p hp x hx
  · intro x hx
    have hx' : upd s.num k (s.cnt + 1) x = 0 := hx
    by_cases e : x = k
    · subst e; rw [upd_at] at hx'; omega
    · rw [upd_ne e] at hx'; exact h.white x hx'
  · intro p hp x hx
    rcases List.mem_cons.1 hp with rfl | hp
    · cases hx
    · exact h.done p hp x hx
  · intro p hp x hx j y hj hy
    rcases List.mem_cons.1 hp with rfl | hp
    · obtain rfl : x = k := by simpa using hx
      have hj' : j < s.nxt x := hj
      rw [h.white x hk] at hj'
      omega
    · obtain ⟨h1, h2⟩ := h.proc p hp x hx j y hj hy
      have hy' : y ≠ k := fun e => by subst e; omega
      show 0 < upd s.num k _ y ∧ (upd s.opn k true y = true → upd s.low k _ p.1 ≤ upd s.num k _ y)
      rw [upd_ne hy', upd_ne hy', upd_ne (hh p hp)]
      exact ⟨h1, h2⟩
  · intro p hp
    rcases List.mem_cons.1 hp with rfl | hp
    · show upd s.low k _ k ≤ upd s.num k _ k
      rw [upd_at, upd_at]; exact Nat.le_refl _
    · show upd s.low k _ p.1 ≤ upd s.num k _ p.1
      rw [upd_ne (hh p hp), upd_ne (hh p hp)]; exact h.lle p hp
  · intro p hp
    rcases List.mem_cons.1 hp with rfl | hp
    · refine ⟨k, by rw [hfl]; simp, ?_, .refl k⟩
      show upd s.num k _ k = upd s.low k _ k
      rw [upd_at, upd_at]
    · obtain ⟨y, hy, h1, h2⟩ := h.lat p hp
      refine ⟨y, by rw [hfl]; simp [hy], ?_, h2⟩
      show upd s.num k _ y = upd s.low k _ p.1
      rw [upd_ne (hn y hy), upd_ne (hh p hp)]; exact h1
  · intro x y h1 h2 h3
    obtain ⟨_, h4, h5⟩ := hclo x h1 h2
    obtain ⟨h6, h7, h8⟩ := h.suc x y h4 h5 h3
    have hy' : y ≠ k := fun e => by subst e; omega
    show 0 < upd s.num k _ y ∧ upd s.opn k true y = false ∧ s.prt y ≤ s.prt x
    rw [upd_ne hy', upd_ne hy']
    exact ⟨h6, h7, h8⟩
  · intro x h1 h2
    obtain ⟨_, h4, h5⟩ := hclo x h1 h2
    exact h.cls x h4 h5
  · intro j p hp
    obtain ⟨h1, h2, h3⟩ := h.scc j p hp
    refine ⟨h1, h2, fun x hx => ?_⟩
    obtain ⟨h4, h5, h6⟩ := h3 x hx
    have hx' : x ≠ k := fun e => by subst e; omega
    show 0 < upd s.num k _ x ∧ upd s.opn k true x = false ∧ _
    rw [upd_ne hx', upd_ne hx']
    exact ⟨h4, h5, h6⟩
theorem Inv.closed (h : Inv g s ss) {x y : Nat} (hr : Rc g x y) : 0 < s.num x → s.opn x = false → 0 < s.num y ∧ s.opn y = false := by
  induction hr with
  | refl => exact fun h1 h2 => ⟨h1, h2⟩
  | step e _ ih =>
    intro h1 h2
    obtain ⟨h3, h4, _⟩ := h.suc _ _ h1 h2 e
    exact ih h3 h4
/-- The top of the path is looked through, and nothing leads below it. -/
theorem Inv.close {i : Nat} {t : List Nat} {r : List (Nat × List Nat)} (h : Inv g s ((i, t) :: r)) (hd : s.nxt i = (sucs g i).length) (hl : s.low i = s.num i) :
    Inv g { s with opn := fun x => if x ∈ i :: t then false else s.opn x, prt := fun x => if x ∈ i :: t then s.pts.length else s.prt x, pts := s.pts ++ [sortN (i :: t)] } r := by
  have hnd := h.nodup
  have hfl : flat ((i, t) :: r) = flat r ++ i :: t := rfl
  rw [hfl] at hnd
  obtain ⟨n1, n2, n3⟩ := List.nodup_append.1 hnd
  have hdis : ∀ x ∈ flat r, x ∉ i :: t := fun x hx hx' => n3 x hx x hx' rfl
  have hinc := h.inc
  rw [hfl] at hinc
  have hless : ∀ x ∈ flat r, ∀ y ∈ i :: t, s.num x < s.num y := (List.pairwise_append.1 hinc).2.2
  have htop : ∀ x ∈ i :: t, 0 < s.num x ∧ s.opn x = true ∧ s.nxt x = (sucs g x).length ∧ Rc g i x ∧ Rc g x i := by
    intro x hx
    refine ⟨h.pos x (by rw [hfl]; exact List.mem_append_right _ hx), (h.op x).2 (by rw [hfl]; exact List.mem_append_right _ hx), ?_, ?_⟩
    · rcases List.mem_cons.1 hx with rfl | hx
      · exact hd
      · exact h.done (i, t) (by simp) x hx
    · rcases List.mem_cons.1 hx with rfl | hx
      · exact ⟨.refl _, .refl _⟩
      · exact h.con (i, t) (by simp) x hx
  have hsuc : ∀ x ∈ i :: t, ∀ y, Ed g x y → y ∈ i :: t ∨ (0 < s.num y ∧ s.opn y = false) := by
    intro x hx y he
    obtain ⟨j, hj⟩ := List.mem_iff_getElem?.1 he
    have hjl := (List.getElem?_eq_some_iff.1 hj).1
    obtain ⟨p1, p2⟩ := h.proc (i, t) (by simp) x hx j y (by rw [(htop x hx).2.2.1]; exact hjl) hj
    cases ho : s.opn y with
    | false => exact .inr ⟨p1, rfl⟩
    | true =>
      refine .inl ?_
      have hy := (h.op y).1 ho
      rw [hfl, List.mem_append] at hy
      rcases hy with hy | hy
      · have h1 := p2 ho
        dsimp only at h1
        have h2 := hless y hy i (by simp)
        omega
      · exact hy
  have hreach : ∀ {x y}, Rc g x y → x ∈ i :: t → y ∈ i :: t ∨ (0 < s.num y ∧ s.opn y = false) := by
    intro x y hr
    induction hr with
    | refl => exact fun hx => .inl hx
    | step e hr' ih =>
      intro hx
      rcases hsuc _ hx _ e with hx' | ⟨h1, h2⟩
      · exact ih hx'
      · exact .inr (h.closed hr' h1 h2)
  have hopf : ∀ x, s.opn x = false → x ∉ i :: t := fun x hx hm => by rw [(htop x hm).2.1] at hx; cases hx
  have hcl : ∀ x, 0 < s.num x → (if x ∈ i :: t then false else s.opn x) = false → x ∈ i :: t ∨ (x ∉ i :: t ∧ s.opn x = false) := by
    intro x _ hx
    by_cases hm : x ∈ i :: t
    · exact .inl hm
    · rw [if_neg hm] at hx; exact .inr ⟨hm, hx⟩
  have hlt : ∀ x, 0 < s.num x → s.opn x = false → s.prt x < s.pts.length := fun x h1 h2 => by
    obtain ⟨p, hp, _⟩ := h.cls x h1 h2
    exact (List.getElem?_eq_some_iff.1 hp).1
  refine { lt := h.lt, le := h.le, op := ?_, pos := ?_, inc := ?_, chn := h.chn.tail, con := ?_, white := h.white, nle := h.nle, done := ?_, proc := ?_, lle := ?_, lat := ?_, suc := ?_, cls := ?_, scc := ?_ }
  · intro x
    show (if x ∈ i :: t then false else s.opn x) = true ↔ x ∈ flat r
    by_cases hm : x ∈ i :: t
    · rw [if_pos hm]
      exact ⟨(fun e => by cases e), fun e => absurd hm (hdis x e)⟩
    · rw [if_neg hm, h.op, hfl, List.mem_append]
      exact ⟨fun e => e.resolve_right hm, .inl⟩
  · exact fun x hx => h.pos x (by rw [hfl]; exact List.mem_append_left _ hx)
  · exact (List.pairwise_append.1 hinc).1
  · exact fun p hp => h.con p (List.mem_cons_of_mem _ hp)
  · exact fun p hp => h.done p (List.mem_cons_of_mem _ hp)
  · intro p hp x hx j y hj hy
    obtain ⟨h1, h2⟩ := h.proc p (List.mem_cons_of_mem _ hp) x hx j y hj hy
    refine ⟨h1, fun ho => h2 ?_⟩
    have ho' : (if y ∈ i :: t then false else s.opn y) = true := ho
    by_cases hm : y ∈ i :: t
    · rw [if_pos hm] at ho'; cases ho'
    · rw [if_neg hm] at ho'; exact ho'
  · exact fun p hp => h.lle p (List.mem_cons_of_mem _ hp)
  · intro p hp
    obtain ⟨y, hy, h1, h2⟩ := h.lat p (List.mem_cons_of_mem _ hp)
    refine ⟨y, ?_, h1, h2⟩
    rw [hfl, List.mem_append] at hy
    rcases hy with hy | hy
    · exact hy
    · have h3 := h.lle p (List.mem_cons_of_mem _ hp)
      have h4 := hless p.1 (mem_flat.2 ⟨p, hp, by simp⟩) y hy
      omega
  · intro x y h1 h2 h3
    show 0 < s.num y ∧ (if y ∈ i :: t then false else s.opn y) = false ∧ (if y ∈ i :: t then s.pts.length else s.prt y) ≤ (if x ∈ i :: t then s.pts.length else s.prt x)
    rcases hcl x h1 h2 with hx | ⟨hx, hxo⟩
    · rw [if_pos hx]
      rcases hsuc x hx y h3 with hy | ⟨hy, hyo⟩
      · rw [if_pos hy, if_pos hy]; exact ⟨(htop y hy).1, rfl, Nat.le_refl _⟩
      · rw [if_neg (hopf y hyo), if_neg (hopf y hyo)]
        exact ⟨hy, hyo, Nat.le_of_lt (hlt y hy hyo)⟩
    · obtain ⟨k1, k2, k3⟩ := h.suc x y h1 hxo h3
      rw [if_neg (hopf y k2), if_neg (hopf y k2), if_neg hx]
      exact ⟨k1, k2, k3⟩
  · intro x h1 h2
    show ∃ p, (s.pts ++ [sortN (i :: t)])[if x ∈ i :: t then s.pts.length else s.prt x]? = some p ∧ x ∈ p
    rcases hcl x h1 h2 with hx | ⟨hx, hxo⟩
    · rw [if_pos hx]
      exact ⟨sortN (i :: t), by simp, sortN_mem.2 hx⟩
    · rw [if_neg hx]
      obtain ⟨p, hp, hxp⟩ := h.cls x h1 hxo
      exact ⟨p, by rw [List.getElem?_append_left (List.getElem?_eq_some_iff.1 hp).1]; exact hp, hxp⟩
  · intro j p hp
    have hp' : (s.pts ++ [sortN (i :: t)])[j]? = some p := hp
    show p ≠ [] ∧ p.Pairwise (· < ·) ∧ ∀ x ∈ p, 0 < s.num x ∧ (if x ∈ i :: t then false else s.opn x) = false ∧ (if x ∈ i :: t then s.pts.length else s.prt x) = j ∧ ∀ y, y ∈ p ↔ Rc g x y ∧ Rc g y x
    by_cases hj : j < s.pts.length
    · rw [List.getElem?_append_left hj] at hp'
      obtain ⟨k1, k2, k3⟩ := h.scc j p hp'
      refine ⟨k1, k2, fun x hx => ?_⟩
      obtain ⟨k4, k5, k6⟩ := k3 x hx
      rw [if_neg (hopf x k5), if_neg (hopf x k5)]
      exact ⟨k4, k5, k6⟩
    · have hjl := (List.getElem?_eq_some_iff.1 hp').1
      obtain rfl : j = s.pts.length := by simp at hjl; omega
      obtain rfl : sortN (i :: t) = p := by simpa using hp'
      refine ⟨fun e => by have := sortN_len (i :: t); rw [e] at this; simp at this, sortN_asc n2, fun x hx => ?_⟩
      have hx' := sortN_mem.1 hx
      rw [if_pos hx', if_pos hx']
      refine ⟨(htop x hx').1, rfl, rfl, fun y => ?_⟩
      rw [sortN_mem]
      constructor
      · intro hy
        exact ⟨(htop x hx').2.2.2.2.trans (htop y hy).2.2.2.1, (htop y hy).2.2.2.2.trans (htop x hx').2.2.2.1⟩
      · rintro ⟨r1, r2⟩
        rcases hreach r1 hx' with hy | ⟨c1, c2⟩
        · exact hy
        · have := (h.closed r2 c1 c2).2
          exact absurd hx' (hopf x this)
theorem to_top : ∀ {r : List (Nat × List Nat)} {u : Nat} {v : List Nat}, Chn g ((u, v) :: r) → (∀ p ∈ (u, v) :: r, ∀ x ∈ p.2, Rc g x p.1) → ∀ y ∈ flat ((u, v) :: r), Rc g y u
  | [], u, v, _, hc, y, hy => by
    have : y = u ∨ y ∈ v := by simpa [flat] using hy
    rcases this with rfl | h
    · exact .refl _
    · exact hc (u, v) (by simp) y h
  | (a, b) :: r, u, v, hch, hc, y, hy => by
    rw [flat, List.mem_append] at hy
    rcases hy with hy | hy
    · exact (to_top hch.2 (fun p hp => hc p (List.mem_cons_of_mem _ hp)) y hy).trans (.one hch.1)
    · rcases List.mem_cons.1 hy with rfl | h
      · exact .refl _
      · exact hc (u, v) (by simp) y h
/-- The top of the path is looked through, and something leads below it. -/
theorem Inv.merge {i u : Nat} {t v : List Nat} {r : List (Nat × List Nat)} (h : Inv g s ((i, t) :: (u, v) :: r)) (hd : s.nxt i = (sucs g i).length) (hl : s.low i ≠ s.num i) :
    Inv g { s with low := upd s.low u (min (s.low u) (s.low i)) } ((u, v ++ i :: t) :: r) := by
  have hfl : flat ((u, v ++ i :: t) :: r) = flat ((i, t) :: (u, v) :: r) := by simp [flat]
  have hnd := h.nodup
  have hi : s.low i < s.num i := by have := h.lle (i, t) (by simp); dsimp only at this; omega
  have hinc := h.inc
  have hfl2 : flat ((i, t) :: (u, v) :: r) = flat ((u, v) :: r) ++ i :: t := rfl
  rw [hfl2] at hinc
  have hless : ∀ x ∈ flat ((u, v) :: r), ∀ y ∈ i :: t, s.num x < s.num y := (List.pairwise_append.1 hinc).2.2
  have hge : ∀ y ∈ i :: t, s.num i ≤ s.num y := by
    intro y hy
    rcases List.mem_cons.1 hy with rfl | hy
    · exact Nat.le_refl _
    · exact Nat.le_of_lt ((List.pairwise_cons.1 (List.pairwise_append.1 hinc).2.1).1 y hy)
  have hui : Rc g u i := .one h.chn.1
  have hiu : Rc g i u := by
    obtain ⟨y, hy, h1, h2⟩ := h.lat (i, t) (by simp)
    dsimp only at h1
    rw [hfl2, List.mem_append] at hy
    rcases hy with hy | hy
    · exact h2.trans (to_top h.chn.2 (fun p hp x hx => (h.con p (List.mem_cons_of_mem _ hp) x hx).2) y hy)
    · have := hge y hy; omega
  have hne : ∀ p ∈ r, p.1 ≠ u := fun p hp e => by
    have hnd2 : (flat ((u, v) :: r)).Nodup := by rw [hfl2] at hnd; exact (List.nodup_append.1 hnd).1
    have hn3 : (flat r ++ u :: v).Nodup := hnd2
    exact (List.nodup_append.1 hn3).2.2 p.1 (mem_flat.2 ⟨p, hp, by simp⟩) u (by simp) e
  refine { lt := h.lt, le := h.le, op := ?_, pos := ?_, inc := ?_, chn := h.chn.2.head, con := ?_, white := h.white, nle := h.nle, done := ?_, proc := ?_, lle := ?_, lat := ?_, suc := h.suc, cls := h.cls, scc := h.scc }
  · rw [hfl]; exact h.op
  · rw [hfl]; exact h.pos
  · rw [hfl]; exact h.inc
  · intro p hp x hx
    rcases List.mem_cons.1 hp with rfl | hp
    · dsimp only at hx ⊢
      rcases List.mem_append.1 hx with hx | hx
      · exact h.con (u, v) (by simp) x hx
      · rcases List.mem_cons.1 hx with rfl | hx
        · exact ⟨hui, hiu⟩
        · obtain ⟨h1, h2⟩ := h.con (i, t) (by simp) x hx
          exact ⟨hui.trans h1, h2.trans hiu⟩
    · exact h.con p (by simp [hp]) x hx
  · intro p hp x hx
    rcases List.mem_cons.1 hp with rfl | hp
    · dsimp only at hx
      rcases List.mem_append.1 hx with hx | hx
      · exact h.done (u, v) (by simp) x hx
      · rcases List.mem_cons.1 hx with rfl | hx
        · exact hd
        · exact h.done (i, t) (by simp) x hx
    · exact h.done p (by simp [hp]) x hx
  · intro p hp x hx j y hj hy
    rcases List.mem_cons.1 hp with rfl | hp
    · show 0 < s.num y ∧ (s.opn y = true → upd s.low u (min (s.low u) (s.low i)) u ≤ s.num y)
      rw [upd_at]
      have hx' : x ∈ u :: v ∨ x ∈ i :: t := by
        dsimp only at hx
        rw [← List.cons_append, List.mem_append] at hx; exact hx
      rcases hx' with hx | hx
      · obtain ⟨h1, h2⟩ := h.proc (u, v) (by simp) x hx j y hj hy
        refine ⟨h1, fun ho => ?_⟩
        have := h2 ho
        dsimp only at this
        omega
      · obtain ⟨h1, h2⟩ := h.proc (i, t) (by simp) x hx j y hj hy
        refine ⟨h1, fun ho => ?_⟩
        have := h2 ho
        dsimp only at this
        omega
    · show 0 < s.num y ∧ (s.opn y = true → upd s.low u (min (s.low u) (s.low i)) p.1 ≤ s.num y)
      rw [upd_ne (hne p hp)]
      exact h.proc p (by simp [hp]) x hx j y hj hy
  · intro p hp
    rcases List.mem_cons.1 hp with rfl | hp
    · show upd s.low u (min (s.low u) (s.low i)) u ≤ s.num u
      rw [upd_at]
      have := h.lle (u, v) (by simp)
      dsimp only at this
      omega
    · show upd s.low u (min (s.low u) (s.low i)) p.1 ≤ s.num p.1
      rw [upd_ne (hne p hp)]; exact h.lle p (by simp [hp])
  · intro p hp
    rw [hfl]
    rcases List.mem_cons.1 hp with rfl | hp
    · show ∃ y ∈ flat ((i, t) :: (u, v) :: r), s.num y = upd s.low u (min (s.low u) (s.low i)) u ∧ Rc g u y
      rw [upd_at]
      obtain ⟨y, hy, h1, h2⟩ := h.lat (u, v) (by simp)
      obtain ⟨z, hz, h3, h4⟩ := h.lat (i, t) (by simp)
      dsimp only at h1 h2 h3 h4
      by_cases hc : s.low u ≤ s.low i
      · exact ⟨y, hy, by rw [h1]; omega, h2⟩
      · exact ⟨z, hz, by rw [h3]; omega, hui.trans h4⟩
    · show ∃ y ∈ flat ((i, t) :: (u, v) :: r), s.num y = upd s.low u (min (s.low u) (s.low i)) p.1 ∧ Rc g p.1 y
      rw [upd_ne (hne p hp)]; exact h.lat p (by simp [hp])
end
end Go.Proofs.Ytebpghpeeedgcaa
