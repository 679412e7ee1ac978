/- Parts in order: the count of the steps to parts that are not there yet (no program in sight). -/
import Derived.Test.YtebpghpeeedgcaaKb
namespace Go.Proofs.Ytebpghpeeedgcaa

/-- Steps from a part to parts that are not out. -/
def cntK (ce : List (Nat × Nat)) (os : List Nat) (q : Nat) : Nat := ce.countP fun e => e.1 == q && !os.contains e.2
/-- The parts that wait for a part, once for each step. -/
def waitK (ce : List (Nat × Nat)) (q : Nat) : List Nat := (ce.filter fun e => e.2 == q).map Prod.fst
/-- Between two rounds. -/
structure KA (ce : List (Nat × Nat)) (P : Nat) (os rd : List Nat) (lf : Nat → Nat) : Prop where
  lt : ∀ q ∈ os, q < P
  nd : os.Nodup
  cl : ∀ e ∈ ce, e.1 ∈ os → e.2 ∈ os
  rn : rd.Nodup
  rd : ∀ q, q ∈ rd ↔ q < P ∧ q ∉ os ∧ lf q = 0
  lf : ∀ q, lf q = cntK ce os q
/-- Within a round: part p is out, and the first of those that waited for it were told. -/
structure KB (ce : List (Nat × Nat)) (P : Nat) (os : List Nat) (p : Nat) (ws : List Nat) (rd : List Nat) (lf : Nat → Nat) : Prop where
  rn : rd.Nodup
  rd : ∀ q, q ∈ rd ↔ q < P ∧ q ∉ os ++ [p] ∧ lf q = 0
  lf : ∀ q, lf q = cntK ce (os ++ [p]) q + ws.count q
theorem countP_split {α : Type} (f g h : α → Bool) : ∀ (l : List α), (∀ x ∈ l, f x = (g x || h x) ∧ (g x && h x) = false) → l.countP f = l.countP g + l.countP h
  | [], _ => rfl
  | x :: l, hl => by
    have ih := countP_split f g h l (fun y hy => hl y (List.mem_cons_of_mem _ hy))
    obtain ⟨h1, h2⟩ := hl x (by simp)
    rw [List.countP_cons, List.countP_cons, List.countP_cons, ih, h1]
    cases hg : g x <;> cases hh : h x <;> simp [hg, hh] at h2 ⊢ <;> omega
theorem waitK_count (ce : List (Nat × Nat)) (p q : Nat) : (waitK ce p).count q = ce.countP fun e => e.1 == q && e.2 == p := by
  unfold waitK List.count
  rw [List.countP_map, List.countP_filter]
  rfl
theorem cntK_snoc {ce : List (Nat × Nat)} {os : List Nat} {p : Nat} (hp : p ∉ os) (q : Nat) : cntK ce os q = cntK ce (os ++ [p]) q + (waitK ce p).count q := by
  rw [waitK_count]
  refine countP_split _ _ _ ce fun e _ => ?_
  have h1 : (os ++ [p]).contains e.2 = (os.contains e.2 || (e.2 == p)) := by rw [Bool.eq_iff_iff]; simp
  rw [h1]
  by_cases he : e.2 = p
  · have h2 : os.contains e.2 = false := by simpa [he] using hp
    rw [h2]; simp [he]
  · have h2 : (e.2 == p) = false := by simpa using he
    rw [h2]; simp
theorem cntK_zero {ce : List (Nat × Nat)} {os : List Nat} {q : Nat} (h : cntK ce os q = 0) {e : Nat × Nat} (he : e ∈ ce) (h1 : e.1 = q) : e.2 ∈ os := by
  unfold cntK at h
  rw [List.countP_eq_zero] at h
  have := h e he
  simpa [h1] using this
theorem cntK_free {ce : List (Nat × Nat)} {os : List Nat} {q : Nat} (h : ∀ e ∈ ce, e.1 = q → e.2 ∈ os) : cntK ce os q = 0 := by
  unfold cntK
  rw [List.countP_eq_zero]
  intro e he
  by_cases h1 : e.1 = q
  · simp [h1, h e he h1]
  · simp [h1]
theorem KA.take {ce : List (Nat × Nat)} {P : Nat} {os rd : List Nat} {lf : Nat → Nat} (h : KA ce P os rd lf) {p : Nat} (hp : p ∈ rd) : KB ce P os p (waitK ce p) (rd.filter fun q => !(q == p)) lf where
  rn := h.rn.filter _
  rd := fun q => by
    rw [List.mem_filter, h.rd, List.mem_append]
    by_cases e : q = p
    · subst e; simp
    · simp [e]
  lf := fun q => by rw [h.lf, cntK_snoc ((h.rd p).1 hp).2.1]
theorem KB.step {ce : List (Nat × Nat)} {P : Nat} {os : List Nat} {p q : Nat} {ws rd : List Nat} {lf : Nat → Nat} (h : KB ce P os p (q :: ws) rd lf) (hq : q < P) (hqo : q ∉ os ++ [p]) :
    0 < lf q ∧ KB ce P os p ws (if lf q - 1 = 0 then rd ++ [q] else rd) (fun x => if x = q then lf q - 1 else lf x) := by
  have h0 : 0 < lf q := by rw [h.lf, List.count_cons_self]; omega
  have hn : q ∉ rd := fun hm => by have := ((h.rd q).1 hm).2.2; omega
  refine ⟨h0, ?_⟩
  constructor
  · split
    · refine List.nodup_append.2 ⟨h.rn, by simp, fun a ha b hb => ?_⟩
      obtain rfl := List.mem_singleton.1 hb
      intro e
      subst e
      exact hn ha
    · exact h.rn
  · intro x
    by_cases e : x = q
    · subst e
      simp only [if_true]
      constructor
      · intro hm
        refine ⟨hq, hqo, ?_⟩
        split at hm
        · assumption
        · exact absurd hm hn
      · rintro ⟨_, _, h3⟩
        rw [if_pos h3]; simp
    · simp only [e, if_false]
      rw [← h.rd x]
      split
      · simp [e]
      · rfl
  · intro x
    by_cases e : x = q
    · subst e
      simp only [if_true]
      have := h.lf x
      rw [List.count_cons_self] at this
      omega
    · simp only [e, if_false]
      have := h.lf x
      rw [List.count_cons_of_ne (by simpa using Ne.symm e)] at this
      exact this
theorem KB.done {ce : List (Nat × Nat)} {P : Nat} {os : List Nat} {p : Nat} {rd : List Nat} {lf : Nat → Nat} (h : KB ce P os p [] rd lf) (hlt : ∀ q ∈ os, q < P) (hnd : os.Nodup) (hp : p < P) (hpo : p ∉ os)
    (hcl : ∀ e ∈ ce, e.1 ∈ os → e.2 ∈ os) (hz : ∀ e ∈ ce, e.1 = p → e.2 ∈ os) : KA ce P (os ++ [p]) rd lf where
  lt := fun q hq => by
    rcases List.mem_append.1 hq with hq | hq
    · exact hlt q hq
    · obtain rfl := List.mem_singleton.1 hq
      exact hp
  nd := List.nodup_append.2 ⟨hnd, by simp, fun a ha b hb => by
    obtain rfl := List.mem_singleton.1 hb
    intro e
    subst e
    exact hpo ha⟩
  cl := fun e he h1 => by
    rcases List.mem_append.1 h1 with h1 | h1
    · exact List.mem_append_left _ (hcl e he h1)
    · exact List.mem_append_left _ (hz e he (List.mem_singleton.1 h1))
  rn := h.rn
  rd := h.rd
  lf := fun q => by have := h.lf q; simpa using this
/-- The steps between parts, in order. -/
def ceK (pt : Nat → Nat) (es : List (Nat × Nat)) : List (Nat × Nat) := (es.filter fun e => !(pt e.1 == pt e.2)).map fun e => (pt e.1, pt e.2)
def edgesK (g : Gr) (i j : Nat) : List (Nat × Nat) := (List.range i).flatMap (fun x => (sucs g x).map fun k => (x, k)) ++ ((sucs g i).take j).map fun k => (i, k)
def allK (g : Gr) : List (Nat × Nat) := edgesK g g.length 0
theorem edgesK_zero (g : Gr) : edgesK g 0 0 = [] := by simp [edgesK]
theorem edgesK_step (g : Gr) (i : Nat) {j k : Nat} (h : (sucs g i)[j]? = some k) : edgesK g i (j + 1) = edgesK g i j ++ [(i, k)] := by
  unfold edgesK
  rw [List.take_add_one, h]; simp
theorem edgesK_row (g : Gr) (i : Nat) : edgesK g i (sucs g i).length = edgesK g (i + 1) 0 := by
  unfold edgesK
  rw [List.range_succ, List.flatMap_append]; simp
theorem edgesK_len (g : Gr) : ∀ i j, (edgesK g i j).length = ((List.range i).map fun x => (sucs g x).length).sum + min j (sucs g i).length := by
  intro i j
  unfold edgesK
  simp [List.length_flatMap]
theorem mem_allK {g : Gr} (hg : Gok g) {x y : Nat} : (x, y) ∈ allK g ↔ Ed g x y := by
  unfold allK edgesK
  simp only [List.take_zero, List.map_nil, List.append_nil, List.mem_flatMap, List.mem_range, List.mem_map, Prod.mk.injEq]
  constructor
  · rintro ⟨a, _, b, hb, rfl, rfl⟩; exact hb
  · intro h; exact ⟨x, (hg x y h).1, y, h, rfl, rfl⟩
theorem ceK_snoc (pt : Nat → Nat) (es : List (Nat × Nat)) (i k : Nat) : ceK pt (es ++ [(i, k)]) = if pt i = pt k then ceK pt es else ceK pt es ++ [(pt i, pt k)] := by
  unfold ceK
  rw [List.filter_append, List.map_append]
  by_cases h : pt i = pt k
  · simp [h]
  · simp [h]
theorem mem_ceK {pt : Nat → Nat} {es : List (Nat × Nat)} {p q : Nat} : (p, q) ∈ ceK pt es ↔ p ≠ q ∧ ∃ x y, (x, y) ∈ es ∧ pt x = p ∧ pt y = q := by
  unfold ceK
  simp only [List.mem_map, List.mem_filter, Prod.exists, Prod.mk.injEq, Bool.not_eq_true', beq_eq_false_iff_ne]
  constructor
  · rintro ⟨x, y, ⟨h1, h2⟩, rfl, rfl⟩; exact ⟨h2, x, y, h1, rfl, rfl⟩
  · rintro ⟨h2, x, y, h1, rfl, rfl⟩; exact ⟨x, y, ⟨h1, h2⟩, rfl, rfl⟩
theorem ceK_len (pt : Nat → Nat) (es : List (Nat × Nat)) : (ceK pt es).length ≤ es.length := by
  unfold ceK
  rw [List.length_map]; exact List.length_filter_le _ _
theorem cntK_le (ce : List (Nat × Nat)) (os : List Nat) (q : Nat) : cntK ce os q ≤ ce.length := List.countP_le_length
theorem waitK_len (ce : List (Nat × Nat)) (q : Nat) : (waitK ce q).length ≤ ce.length := by
  unfold waitK
  rw [List.length_map]; exact List.length_filter_le _ _
theorem cntK_add (ce : List (Nat × Nat)) (p q x : Nat) : cntK (ce ++ [(p, q)]) [] x = if x = p then cntK ce [] p + 1 else cntK ce [] x := by
  unfold cntK
  rw [List.countP_append]
  by_cases h : x = p
  · subst h; simp
  · have : ¬ p = x := Ne.symm h
    simp [h, this]
theorem waitK_add (ce : List (Nat × Nat)) (p q x : Nat) : waitK (ce ++ [(p, q)]) x = if x = q then waitK ce q ++ [p] else waitK ce x := by
  unfold waitK
  rw [List.filter_append, List.map_append]
  by_cases h : x = q
  · subst h; simp
  · have : ¬ q = x := Ne.symm h
    simp [h, this]
section
variable {g : Gr} {pt : Nat → Nat} {pts : List (List Nat)}
theorem Tar.ce_lt (h : Tar g pt pts) {p q : Nat} (he : (p, q) ∈ ceK pt (allK g)) : p < pts.length ∧ q < pts.length := by
  obtain ⟨_, x, y, h1, rfl, rfl⟩ := mem_ceK.1 he
  have h2 := (mem_allK h.ok).1 h1
  exact ⟨h.lt (h.ok _ _ h2).1, h.lt (h.ok _ _ h2).2⟩
theorem KA.start {rd : List Nat} (hn : rd.Nodup) (hr : ∀ q, q ∈ rd ↔ q < pts.length ∧ cntK (ceK pt (allK g)) [] q = 0) : KA (ceK pt (allK g)) pts.length [] rd (cntK (ceK pt (allK g)) []) where
  lt := fun q hq => by cases hq
  nd := List.nodup_nil
  cl := fun e he h1 => by cases h1
  rn := hn
  rd := fun q => by rw [hr]; simp
  lf := fun _ => rfl
theorem KA.closed (h : Tar g pt pts) {os rd : List Nat} {lf : Nat → Nat} (k : KA (ceK pt (allK g)) pts.length os rd lf) : ∀ x y, Ed g x y → pt x ∈ os → pt y ∈ os := by
  intro x y e hx
  by_cases hp : pt x = pt y
  · rw [← hp]; exact hx
  · exact k.cl (pt x, pt y) (mem_ceK.2 ⟨hp, x, y, (mem_allK h.ok).2 e, rfl, rfl⟩) hx
theorem KA.free (h : Tar g pt pts) {os rd : List Nat} {lf : Nat → Nat} (k : KA (ceK pt (allK g)) pts.length os rd lf) {q : Nat} (hq : q < pts.length) : q ∈ rd ↔ Free g pt os q := by
  rw [k.rd, k.lf]
  constructor
  · rintro ⟨_, h2, h3⟩
    refine ⟨h2, fun x y e hx hy => ?_⟩
    have := cntK_zero h3 (e := (pt x, pt y)) (mem_ceK.2 ⟨fun e0 => hy (e0.symm.trans hx), x, y, (mem_allK h.ok).2 e, rfl, rfl⟩) hx
    exact this
  · rintro ⟨h2, h3⟩
    refine ⟨hq, h2, cntK_free fun e he h1 => ?_⟩
    obtain ⟨a, b⟩ := e
    obtain ⟨h4, x, y, h5, rfl, rfl⟩ := mem_ceK.1 he
    exact h3 x y ((mem_allK h.ok).1 h5) h1 (fun e0 => h4 (h1.trans e0.symm))
/-- One round: the part is the next one. -/
theorem KA.pick (h : Tar g pt pts) {os rd : List Nat} {lf : Nat → Nat} (k : KA (ceK pt (allK g)) pts.length os rd lf) (hpre : Pre g (outs pts os)) {p : Nat} (hp : p ∈ rd) (hl : ∀ q ∈ rd, (pts.getD p []).headD 0 ≤ (pts.getD q []).headD 0) :
    Pre g (outs pts (os ++ [p])) :=
  h.next k.lt (k.closed h) ((k.rd p).1 hp).1 ((k.free h ((k.rd p).1 hp).1).1 hp) (fun q hq hf => hl q ((k.free h hq).2 hf)) hpre
theorem KA.full (h : Tar g pt pts) {os : List Nat} {lf : Nat → Nat} (k : KA (ceK pt (allK g)) pts.length os [] lf) (hpre : Pre g (outs pts os)) : Full g (outs pts os) :=
  h.end_ k.lt (k.closed h) (fun q hq hf => by have := (k.free h hq).2 hf; cases this) hpre
theorem nodup_le : ∀ (P : Nat) {l : List Nat}, l.Nodup → (∀ x ∈ l, x < P) → l.length ≤ P
  | 0, l, _, h => by
    cases l with
    | nil => exact Nat.le_refl _
    | cons a t => have := h a (by simp); omega
  | P + 1, l, hn, h => by
    by_cases hp : P ∈ l
    · have h1 := nodup_le P (l := l.erase P) (hn.erase P) fun x hx => by
        obtain ⟨h2, h3⟩ := (hn.mem_erase_iff).1 hx
        have := h x h3
        omega
      rw [List.length_erase_of_mem hp] at h1
      omega
    · have h1 := nodup_le P hn fun x hx => by
        have h2 := h x hx
        have h3 : x ≠ P := fun e => hp (e ▸ hx)
        omega
      omega
theorem KA.room {ce : List (Nat × Nat)} {P : Nat} {os rd : List Nat} {lf : Nat → Nat} (k : KA ce P os rd lf) {p : Nat} (hp : p ∈ rd) : os.length < P := by
  obtain ⟨h1, h2, _⟩ := (k.rd p).1 hp
  have := nodup_le P (l := p :: os) (List.nodup_cons.2 ⟨h2, k.nd⟩) fun x hx => by
    rcases List.mem_cons.1 hx with rfl | hx
    · exact h1
    · exact k.lt x hx
  simp at this
  omega
end
end Go.Proofs.Ytebpghpeeedgcaa
