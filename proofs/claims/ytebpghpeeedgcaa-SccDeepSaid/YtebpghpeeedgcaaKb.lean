/- Parts in which each comes behind each: what the document asks for, step by step, and that it is one thing alone (no program in sight). -/
import Derived.Test.YtebpghpeeedgcaaKa
namespace Go.Proofs.Ytebpghpeeedgcaa

/-- It comes to be behind it, in one step or more. -/
def Rp (g : Gr) (i j : Nat) : Prop := ∃ k, Ed g i k ∧ Rc g k j
theorem Rp.rc {g : Gr} {i j : Nat} (h : Rp g i j) : Rc g i j := by
  obtain ⟨k, h1, h2⟩ := h
  exact .step h1 h2
theorem Rc.cases_ {g : Gr} {i j : Nat} (h : Rc g i j) : i = j ∨ Rp g i j := by
  cases h with
  | refl => exact .inl rfl
  | step e r => exact .inr ⟨_, e, r⟩
theorem Rp.trans {g : Gr} {i j k : Nat} (h : Rp g i j) (h2 : Rc g j k) : Rp g i k := by
  obtain ⟨m, h3, h4⟩ := h
  exact ⟨m, h3, h4.trans h2⟩
theorem Rp.after {g : Gr} {i j k : Nat} (h : Rc g i j) (h2 : Rp g j k) : Rp g i k := by
  rcases h.cases_ with rfl | h
  · exact h2
  · exact h.trans h2.rc
/-- What is there: all things of the parts so far. -/
def Tof (o : List (List Nat)) (j : Nat) : Prop := ∃ q ∈ o, j ∈ q
theorem tof_nil (j : Nat) : ¬ Tof [] j := by rintro ⟨q, h, _⟩; cases h
theorem tof_snoc {o : List (List Nat)} {p : List Nat} {j : Nat} : Tof (o ++ [p]) j ↔ Tof o j ∨ j ∈ p := by
  unfold Tof
  constructor
  · rintro ⟨q, hq, hj⟩
    rcases List.mem_append.1 hq with hq | hq
    · exact .inl ⟨q, hq, hj⟩
    · obtain rfl := List.mem_singleton.1 hq
      exact .inr hj
  · rintro (⟨q, hq, hj⟩ | hj)
    · exact ⟨q, List.mem_append_left _ hq, hj⟩
    · exact ⟨p, by simp, hj⟩
def Rdy (g : Gr) (T : Nat → Prop) (i : Nat) : Prop := i < g.length ∧ ¬ T i ∧ ∀ j, j < g.length → Rp g i j → T j ∨ j = i ∨ Rp g j i
def Nxt (g : Gr) (T : Nat → Prop) (i : Nat) : Prop := Rdy g T i ∧ ∀ k, Rdy g T k → i ≤ k
def PartOf (g : Gr) (i : Nat) (p : List Nat) : Prop := p.Pairwise (· < ·) ∧ ∀ j, j ∈ p ↔ j < g.length ∧ (j = i ∨ Rp g i j ∧ Rp g j i)
def Pre (g : Gr) (o : List (List Nat)) : Prop := ∀ m p, o[m]? = some p → ∃ i, Nxt g (Tof (o.take m)) i ∧ PartOf g i p
def Full (g : Gr) (o : List (List Nat)) : Prop := Pre g o ∧ ∀ i, ¬ Rdy g (Tof o) i
theorem pre_nil (g : Gr) : Pre g [] := by intro m p h; simp at h
theorem pre_snoc {g : Gr} {o : List (List Nat)} {p : List Nat} {i : Nat} (h : Pre g o) (hi : Nxt g (Tof o) i) (hp : PartOf g i p) : Pre g (o ++ [p]) := by
  intro m q hq
  by_cases hm : m < o.length
  · rw [List.getElem?_append_left hm] at hq
    rw [List.take_append_of_le_length (by omega)]
    exact h m q hq
  · have hl := (List.getElem?_eq_some_iff.1 hq).1
    obtain rfl : m = o.length := by simp at hl; omega
    obtain rfl : p = q := by simpa using hq
    rw [List.take_left]
    exact ⟨i, hi, hp⟩
theorem asc_ext : ∀ {a b : List Nat}, a.Pairwise (· < ·) → b.Pairwise (· < ·) → (∀ x, x ∈ a ↔ x ∈ b) → a = b
  | [], [], _, _, _ => rfl
  | [], b :: t, _, _, h => by have := (h b).2 (by simp); cases this
  | a :: s, [], _, _, h => by have := (h a).1 (by simp); cases this
  | a :: s, b :: t, ha, hb, h => by
    rw [List.pairwise_cons] at ha hb
    have e : a = b := by
      have h1 := (h a).1 (by simp)
      have h2 := (h b).2 (by simp)
      rcases List.mem_cons.1 h1 with h1 | h1
      · exact h1
      rcases List.mem_cons.1 h2 with h2 | h2
      · exact h2.symm
      have := hb.1 a h1
      have := ha.1 b h2
      omega
    subst e
    rw [asc_ext ha.2 hb.2]
    intro x
    have h0 := h x
    rw [List.mem_cons, List.mem_cons] at h0
    constructor
    · intro hx
      rcases h0.1 (.inr hx) with rfl | h1
      · have := ha.1 x hx; omega
      · exact h1
    · intro hx
      rcases h0.2 (.inr hx) with rfl | h1
      · have := hb.1 x hx; omega
      · exact h1
theorem PartOf.uniq {g : Gr} {i : Nat} {p q : List Nat} (h : PartOf g i p) (h2 : PartOf g i q) : p = q := asc_ext h.1 h2.1 fun x => (h.2 x).trans (h2.2 x).symm
theorem Nxt.uniq {g : Gr} {T : Nat → Prop} {i k : Nat} (h : Nxt g T i) (h2 : Nxt g T k) : i = k := by
  have h3 := h.2 k h2.1
  have h4 := h2.2 i h.1
  omega
theorem full_uniq {g : Gr} {o o2 : List (List Nat)} (h : Full g o) (h2 : Full g o2) : o = o2 := by
  have key : ∀ m, m ≤ o.length → m ≤ o2.length → o.take m = o2.take m := by
    intro m
    induction m with
    | zero => intros; simp
    | succ m ih =>
      intro ha hb
      have e := ih (by omega) (by omega)
      have e1 : o[m]? = some o[m] := List.getElem?_eq_getElem (by omega)
      have e2 : o2[m]? = some o2[m] := List.getElem?_eq_getElem (by omega)
      obtain ⟨i, hi, hp⟩ := h.1 m _ e1
      obtain ⟨k, hk, hq⟩ := h2.1 m _ e2
      rw [e] at hi
      obtain rfl := hi.uniq hk
      have := hp.uniq hq
      rw [List.take_add_one, List.take_add_one, e, e1, e2, this]
  by_cases hl : o.length < o2.length
  · exfalso
    have e := key o.length (Nat.le_refl _) (by omega)
    rw [List.take_length] at e
    have e2 : o2[o.length]? = some o2[o.length] := List.getElem?_eq_getElem hl
    obtain ⟨k, hk, _⟩ := h2.1 _ _ e2
    rw [← e] at hk
    exact h.2 k hk.1
  by_cases hl2 : o2.length < o.length
  · exfalso
    have e := key o2.length (by omega) (Nat.le_refl _)
    rw [List.take_length] at e
    have e2 : o[o2.length]? = some o[o2.length] := List.getElem?_eq_getElem hl2
    obtain ⟨k, hk, _⟩ := h.1 _ _ e2
    rw [e] at hk
    exact h2.2 k hk.1
  have e := key o.length (Nat.le_refl _) (by omega)
  rw [List.take_length, show o.length = o2.length by omega, List.take_length] at e
  exact e
/-- Each step leads to a thing that there is. -/
def Gok (g : Gr) : Prop := ∀ i j, Ed g i j → i < g.length ∧ j < g.length
theorem Gok.rc {g : Gr} (hg : Gok g) {i j : Nat} (h : Rc g i j) (hi : i < g.length) : j < g.length := by
  induction h with
  | refl => exact hi
  | step e _ ih => exact ih (hg _ _ e).2
/-- Parts so far: what a thing of theirs comes to be behind is among them, in its own part or ahead of it. -/
theorem Pre.behind {g : Gr} (hg : Gok g) {o : List (List Nat)} (h : Pre g o) {m : Nat} {p : List Nat} (hp : o[m]? = some p) {x y : Nat} (hx : x ∈ p) (hr : Rc g x y) : Tof (o.take m) y ∨ y ∈ p := by
  obtain ⟨i, ⟨⟨h1, h2, h3⟩, _⟩, h5⟩ := h m p hp
  obtain ⟨hxl, hx2⟩ := (h5.2 x).1 hx
  have hyl := hg.rc hr hxl
  have hiy : Rc g i y := by
    rcases hx2 with rfl | hx2
    · exact hr
    · exact hx2.1.rc.trans hr
  rcases hiy.cases_ with rfl | hiy
  · exact .inr ((h5.2 _).2 ⟨hyl, .inl rfl⟩)
  rcases h3 y hyl hiy with h4 | rfl | h4
  · exact .inl h4
  · exact .inr ((h5.2 _).2 ⟨hyl, .inl rfl⟩)
  · exact .inr ((h5.2 _).2 ⟨hyl, .inr ⟨hiy, h4⟩⟩)
theorem Pre.closed {g : Gr} (hg : Gok g) {o : List (List Nat)} (h : Pre g o) {x y : Nat} (hx : Tof o x) (hr : Rc g x y) : Tof o y := by
  obtain ⟨p, hp, hxp⟩ := hx
  obtain ⟨m, hm⟩ := List.mem_iff_getElem?.1 hp
  rcases h.behind hg hm hxp hr with ⟨q, h1, h2⟩ | h1
  · exact ⟨q, List.mem_of_mem_take h1, h2⟩
  · exact ⟨p, hp, h1⟩
theorem Pre.take {g : Gr} {o : List (List Nat)} (h : Pre g o) (m : Nat) : Pre g (o.take m) := by
  intro k p hp
  have hk := (List.getElem?_eq_some_iff.1 hp).1
  rw [List.length_take] at hk
  rw [List.getElem?_take_of_lt (by omega)] at hp
  rw [List.take_take, Nat.min_eq_left (by omega)]
  exact h k p hp
/-- No thing is in two parts. -/
theorem Pre.once {g : Gr} (hg : Gok g) {o : List (List Nat)} (h : Pre g o) {m : Nat} {p : List Nat} (hp : o[m]? = some p) {x : Nat} (hx : x ∈ p) : ¬ Tof (o.take m) x := by
  intro ht
  obtain ⟨i, ⟨⟨h1, h2, h3⟩, _⟩, h5⟩ := h m p hp
  obtain ⟨hxl, hx2⟩ := (h5.2 x).1 hx
  refine h2 ((h.take m).closed hg ht ?_)
  rcases hx2 with rfl | hx2
  · exact .refl _
  · exact hx2.2.rc
theorem Pre.lt {g : Gr} {o : List (List Nat)} (h : Pre g o) {m : Nat} {p : List Nat} (hp : o[m]? = some p) {x : Nat} (hx : x ∈ p) : x < g.length := by
  obtain ⟨i, _, h5⟩ := h m p hp
  exact ((h5.2 x).1 hx).1
theorem Pre.asc {g : Gr} {o : List (List Nat)} (h : Pre g o) {m : Nat} {p : List Nat} (hp : o[m]? = some p) : p.Pairwise (· < ·) := by
  obtain ⟨i, _, h5⟩ := h m p hp
  exact h5.1
/-- What the search has found: each thing's part, and the parts, each behind none that was found after it. -/
structure Tar (g : Gr) (pt : Nat → Nat) (pts : List (List Nat)) : Prop where
  ok : Gok g
  has : ∀ x, x < g.length → ∃ p, pts[pt x]? = some p ∧ x ∈ p
  scc : ∀ (j : Nat) p, pts[j]? = some p → p ≠ [] ∧ p.Pairwise (· < ·) ∧ ∀ x ∈ p, x < g.length ∧ pt x = j ∧ ∀ y, y ∈ p ↔ Rc g x y ∧ Rc g y x
  suc : ∀ x y, Ed g x y → pt y ≤ pt x
section
variable {g : Gr} {pt : Nat → Nat} {pts : List (List Nat)}
theorem Tar.lt (h : Tar g pt pts) {x : Nat} (hx : x < g.length) : pt x < pts.length := by
  obtain ⟨p, hp, _⟩ := h.has x hx
  exact (List.getElem?_eq_some_iff.1 hp).1
theorem Tar.mem (h : Tar g pt pts) {x j : Nat} {p : List Nat} (hp : pts[j]? = some p) : x ∈ p ↔ x < g.length ∧ pt x = j := by
  constructor
  · intro hx
    exact ⟨((h.scc j p hp).2.2 x hx).1, ((h.scc j p hp).2.2 x hx).2.1⟩
  · rintro ⟨hx, rfl⟩
    obtain ⟨q, hq, hxq⟩ := h.has x hx
    rw [hp] at hq
    injection hq with hq
    subst hq
    exact hxq
theorem Tar.rc_le (h : Tar g pt pts) {x y : Nat} (hr : Rc g x y) : pt y ≤ pt x := by
  induction hr with
  | refl => exact Nat.le_refl _
  | step e _ ih => exact Nat.le_trans ih (h.suc _ _ e)
theorem Tar.same (h : Tar g pt pts) {x y : Nat} (hx : x < g.length) (hy : y < g.length) : pt x = pt y ↔ Rc g x y ∧ Rc g y x := by
  constructor
  · intro e
    obtain ⟨p, hp, hxp⟩ := h.has x hx
    have hyp : y ∈ p := (h.mem hp).2 ⟨hy, e.symm⟩
    exact (((h.scc _ _ hp).2.2 x hxp).2.2 y).1 hyp
  · rintro ⟨h1, h2⟩
    have := h.rc_le h1
    have := h.rc_le h2
    omega
/-- All things are among the parts once none is ready. -/
theorem Tar.all (h : Tar g pt pts) {o : List (List Nat)} (ho : Full g o) : ∀ x, x < g.length → Tof o x := by
  have key : ∀ n x, x < g.length → pt x ≤ n → Tof o x := by
    intro n
    induction n with
    | zero =>
      intro x hx hn
      refine Classical.byContradiction fun hc => ho.2 x ⟨hx, hc, fun j hj hr => ?_⟩
      have h1 := h.rc_le hr.rc
      have h2 := ((h.same hx hj).1 (by omega)).2
      rcases h2.cases_ with e | h2
      · exact .inr (.inl e)
      · exact .inr (.inr h2)
    | succ n ih =>
      intro x hx hn
      refine Classical.byContradiction fun hc => ho.2 x ⟨hx, hc, fun j hj hr => ?_⟩
      have h1 := h.rc_le hr.rc
      by_cases h3 : pt j ≤ n
      · exact .inl (ih j hj h3)
      have h2 := ((h.same hx hj).1 (by omega)).2
      rcases h2.cases_ with e | h2
      · exact .inr (.inl e)
      · exact .inr (.inr h2)
  exact fun x hx => key (pt x) x hx (Nat.le_refl _)
/-- The parts that were taken, by their numbers. -/
def outs (pts : List (List Nat)) (os : List Nat) : List (List Nat) := os.map fun p => pts.getD p []
theorem outs_snoc (pts : List (List Nat)) (os : List Nat) (p : Nat) : outs pts (os ++ [p]) = outs pts os ++ [pts.getD p []] := by unfold outs; simp
theorem Tar.tof (h : Tar g pt pts) {os : List Nat} (ho : ∀ q ∈ os, q < pts.length) {x : Nat} : Tof (outs pts os) x ↔ x < g.length ∧ pt x ∈ os := by
  unfold Tof outs
  constructor
  · rintro ⟨q, hq, hx⟩
    obtain ⟨j, hj, rfl⟩ := List.mem_map.1 hq
    have hp : pts[j]? = some (pts.getD j []) := by rw [List.getD_eq_getElem?_getD, List.getElem?_eq_getElem (ho j hj)]; rfl
    obtain ⟨h1, h2⟩ := (h.mem hp).1 hx
    exact ⟨h1, h2 ▸ hj⟩
  · rintro ⟨hx, hj⟩
    have hp : pts[pt x]? = some (pts.getD (pt x) []) := by rw [List.getD_eq_getElem?_getD, List.getElem?_eq_getElem (ho _ hj)]; rfl
    exact ⟨_, List.mem_map.2 ⟨_, hj, rfl⟩, (h.mem hp).2 ⟨hx, rfl⟩⟩
/-- A part waits for none that is not there. -/
def Free (g : Gr) (pt : Nat → Nat) (os : List Nat) (p : Nat) : Prop := p ∉ os ∧ ∀ x y, Ed g x y → pt x = p → pt y ≠ p → pt y ∈ os
theorem Tar.ready (h : Tar g pt pts) {os : List Nat} (ho : ∀ q ∈ os, q < pts.length) (hc : ∀ x y, Ed g x y → pt x ∈ os → pt y ∈ os) {x : Nat} (hx : x < g.length) : Rdy g (Tof (outs pts os)) x ↔ Free g pt os (pt x) := by
  have hcr : ∀ {x y}, Rc g x y → pt x ∈ os → pt y ∈ os := by
    intro x y hr
    induction hr with
    | refl => exact id
    | step e _ ih => exact fun h0 => ih (hc _ _ e h0)
  constructor
  · rintro ⟨_, h2, h3⟩
    refine ⟨fun hm => h2 ((h.tof ho).2 ⟨hx, hm⟩), fun a b e ea eb => ?_⟩
    have hal := (h.ok a b e).1
    have hbl := (h.ok a b e).2
    have hxa := ((h.same hx hal).1 ea.symm).1
    have hxb : Rp g x b := Rp.after hxa ⟨b, e, .refl _⟩
    rcases h3 b hbl hxb with h4 | rfl | h4
    · exact ((h.tof ho).1 h4).2
    · exact absurd rfl eb
    · exact absurd ((h.same hbl hx).2 ⟨h4.rc, hxb.rc⟩) eb
  · rintro ⟨h2, h3⟩
    refine ⟨hx, fun ht => h2 ((h.tof ho).1 ht).2, fun j hj hr => ?_⟩
    have key : ∀ {a b}, Rc g a b → pt a = pt x → pt b = pt x ∨ pt b ∈ os := by
      intro a b hr
      induction hr with
      | refl => exact .inl
      | step e hr' ih =>
        rename_i i k m
        intro ea
        by_cases ek : pt k = pt x
        · exact ih ek
        · exact .inr (hcr hr' (h3 _ _ e ea ek))
    rcases key hr.rc rfl with h4 | h4
    · have h5 := ((h.same hj hx).1 h4).1
      rcases h5.cases_ with e | h5
      · exact .inr (.inl e)
      · exact .inr (.inr h5)
    · exact .inl ((h.tof ho).2 ⟨hj, h4⟩)
theorem headD_le {p : List Nat} (ha : p.Pairwise (· < ·)) {x : Nat} (hx : x ∈ p) : p.headD 0 ≤ x ∧ p.headD 0 ∈ p := by
  cases p with
  | nil => cases hx
  | cons a t =>
    rw [List.pairwise_cons] at ha
    refine ⟨?_, by simp⟩
    rcases List.mem_cons.1 hx with rfl | h
    · exact Nat.le_refl _
    · exact Nat.le_of_lt (ha.1 x h)
/-- The free part with the least first thing is the next one. -/
theorem Tar.next (h : Tar g pt pts) {os : List Nat} (ho : ∀ q ∈ os, q < pts.length) (hc : ∀ x y, Ed g x y → pt x ∈ os → pt y ∈ os) {p : Nat} (hp : p < pts.length) (hf : Free g pt os p)
    (hl : ∀ q, q < pts.length → Free g pt os q → (pts.getD p []).headD 0 ≤ (pts.getD q []).headD 0) (hpre : Pre g (outs pts os)) : Pre g (outs pts (os ++ [p])) := by
  have hgd : ∀ q, q < pts.length → pts[q]? = some (pts.getD q []) := fun q hq => by rw [List.getD_eq_getElem?_getD, List.getElem?_eq_getElem hq]; rfl
  have hhd : ∀ q, q < pts.length → (pts.getD q []).headD 0 ∈ pts.getD q [] := fun q hq => by
    have h1 := (h.scc q _ (hgd q hq)).1
    cases hq2 : pts.getD q [] with
    | nil => exact absurd hq2 h1
    | cons a t => simp
  rw [outs_snoc]
  obtain ⟨hi1, hi2⟩ := (h.mem (hgd p hp)).1 (hhd p hp)
  refine pre_snoc (i := (pts.getD p []).headD 0) hpre ⟨(h.ready ho hc hi1).2 (by rw [hi2]; exact hf), fun k hk => ?_⟩ ⟨(h.scc p _ (hgd p hp)).2.1, fun j => ?_⟩
  · have hkl := hk.1
    have h1 := hl (pt k) (h.lt hkl) ((h.ready ho hc hkl).1 hk)
    have h2 := (headD_le (h.scc _ _ (hgd _ (h.lt hkl))).2.1 ((h.mem (hgd _ (h.lt hkl))).2 ⟨hkl, rfl⟩)).1
    omega
  · have h0 := ((h.scc p _ (hgd p hp)).2.2 _ (hhd p hp)).2.2 j
    constructor
    · intro hj
      refine ⟨((h.mem (hgd p hp)).1 hj).1, ?_⟩
      obtain ⟨h1, h2⟩ := h0.1 hj
      rcases h1.cases_ with e | h1
      · exact .inl e.symm
      rcases h2.cases_ with e | h2
      · exact .inl e
      · exact .inr ⟨h1, h2⟩
    · rintro ⟨_, e | ⟨h1, h2⟩⟩
      · rw [e]; exact hhd p hp
      · exact h0.2 ⟨h1.rc, h2.rc⟩
theorem Tar.end_ (h : Tar g pt pts) {os : List Nat} (ho : ∀ q ∈ os, q < pts.length) (hc : ∀ x y, Ed g x y → pt x ∈ os → pt y ∈ os) (hf : ∀ q, q < pts.length → ¬ Free g pt os q) (hpre : Pre g (outs pts os)) : Full g (outs pts os) :=
  ⟨hpre, fun i hi => hf (pt i) (h.lt hi.1) ((h.ready ho hc hi.1).1 hi)⟩
end
/-- The search's end: all was reached, and the path is empty. -/
theorem Inv.tar {g : Gr} {s : TS} (h : Inv g s []) (hg : Gok g) (ha : ∀ x, x < g.length → 0 < s.num x) : Tar g s.prt s.pts := by
  have ho : ∀ x, s.opn x = false := fun x => by
    cases hx : s.opn x with
    | false => rfl
    | true => have := (h.op x).1 hx; simp [flat] at this
  refine ⟨hg, fun x hx => h.cls x (ha x hx) (ho x), fun j p hp => ?_, fun x y e => (h.suc x y (ha x (hg x y e).1) (ho x) e).2.2⟩
  obtain ⟨h1, h2, h3⟩ := h.scc j p hp
  refine ⟨h1, h2, fun x hx => ?_⟩
  obtain ⟨h4, h5, h6, h7⟩ := h3 x hx
  exact ⟨h.lt x h4, h6, h7⟩
end Go.Proofs.Ytebpghpeeedgcaa
