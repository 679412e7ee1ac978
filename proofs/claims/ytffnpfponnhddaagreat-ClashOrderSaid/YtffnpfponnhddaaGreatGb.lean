/- A law for regions that draw their order and write what they have read: one condition 'C' holds throughout, a second one, 'E', until operation number m has been carried out. A region that draws its order: the condition that holds throughout may be taken anew on the way. More on blocks behind stores and allocations. -/
import Derived.Test.YtffnpfponnhddaaGreatGa
import Derived.Deep.RegionHeld3
namespace Go.Proofs.YtffnpfponnhddaaGreat
open Go.RowKit

theorem count_set' : ∀ (l : List Bool) (i : Nat), l[i]? = some false → (l.set i true).count false + 1 = l.count false
  | [], i, h => by simp at h
  | x :: l, 0, h => by simp at h; subst h; simp
  | x :: l, i + 1, h => by
    have := count_set' l i (by simpa using h)
    simp only [List.set_cons_succ, List.count_cons]
    omega
theorem count_set (L : Array Bool) (i : Nat) (h : i < L.size) (hf : L.getD i true = false) : (L.setIfInBounds i true).toList.count false + 1 = L.toList.count false := by
  rw [Array.toList_setIfInBounds]
  apply count_set'
  simp [h] at hf
  simp [h, hf]

section
variable {P : Program} {ops : Array Oper} {Q : Exit → Act → World → Prop} {md : Region.Mode} {C E : World → Prop} {m : Nat}

/-- Whatever is listed, what it waits for is listed. -/
def ClosedL (md : Region.Mode) (ops : Array Oper) (L : Array Bool) : Prop :=
  ∀ j oj, ops[j]? = some oj → L.getD j false = true → ∀ e ∈ oj.after, Region.binds md e = true → L.getD e.on false = true

theorem closedL_start {n : Nat} : ClosedL md ops (Array.replicate n false) := by
  intro j oj _ h
  rcases Nat.lt_or_ge j n with h' | h' <;> simp [h'] at h
theorem ClosedL.set {L : Array Bool} {i : Nat} (h : ClosedL md ops L) (hi : i ∈ Region.ready md ops L) : ClosedL md ops (L.setIfInBounds i true) := by
  intro j oj hj hl e he hb
  by_cases hij : i = j
  · subst hij
    obtain ⟨_, o', ho', hall⟩ := mem_ready.1 hi
    obtain rfl : oj = o' := Option.some.inj (hj.symm.trans ho')
    exact getD_set_true (hall e he hb)
  · rw [getD_set_ne false hij] at hl
    exact getD_set_true (h j oj hj hl e he hb)

def wpAnyM (P : Program) (md : Region.Mode) (ops : Array Oper) (Q : Exit → Act → World → Prop) (C E : World → Prop) (m : Nat) : Nat → Array Bool → Act → World → Prop
  | 0, L, a, w => Region.ready md ops L = [] ∧ Q .normal a w
  | f + 1, L, a, w => (Region.ready md ops L = [] → Q .normal a w) ∧
    ∀ i ∈ Region.ready md ops L, wpOp P ops Q i (fun a' w' => C w' ∧ ((L.setIfInBounds i true).getD m false = false → E w') ∧ wpAnyM P md ops Q C E m f (L.setIfInBounds i true) a' w') a w

theorem wpAny_of_M : ∀ (f : Nat) (L : Array Bool) (a : Act) (w : World), wpAnyM P md ops Q C E m f L a w → wpAny P md ops Q f L a w
  | 0, _, _, _, h => h
  | f + 1, _, _, _, h => ⟨h.1, fun i hi => wpOp_mono (fun a' w' h' => wpAny_of_M f _ a' w' h'.2.2) (h.2 i hi)⟩

/-- An operation that yields its value wherever S holds may be taken first. -/
theorem wpAnyM_first {i : Nat} {oi : Oper} {v : Value} {S : World → Prop} (hi : ops[i]? = some oi) (hsel : ∀ (j : Nat) (o : Oper) cs b, ops[j]? = some o → o.op ≠ .select cs b)
    (hQ : ∀ c a w, Q (.panic c) (a.put oi.dst v) w → Q (.panic c) a w) (him : i ≠ m)
    (hS : ∀ L w, ClosedL md ops L → L.getD i true = false → C w → (L.getD m false = false → E w) → S w) :
    ∀ (f : Nat) (L : Array Bool) (a : Act) (w : World), ClosedL md ops L →
      (∀ j oj, ops[j]? = some oj → j ≠ i → L.getD j true = false → (∀ e ∈ oj.after, Region.binds md e = true → e.on ≠ i) → oi.apart ops oj = true) →
      i ∈ Region.ready md ops L → YieldsIf P ops S oi v a → C w → (L.getD m false = false → E w) →
      wpAnyM P md ops Q C E m f (L.setIfInBounds i true) (a.put oi.dst v) w → wpAnyM P md ops Q C E m (f + 1) L a w := by
  intro f
  induction f with
  | zero =>
    intro L a w hcl _ hr hy hC hE H
    refine ⟨fun h => (by rw [h] at hr; cases hr), fun j hj => ?_⟩
    by_cases hji : j = i
    · subst hji
      exact hy.wpOp hi (hS L w hcl (mem_ready.1 hr).1 hC hE) ⟨hC, fun h => hE (by rw [getD_set_ne false him] at h; exact h), H⟩
    · have := ready_mono hj hji
      rw [H.1] at this
      cases this
  | succ f ih =>
    intro L a w hcl hfree hr hy hC hE H
    refine ⟨fun h => (by rw [h] at hr; cases hr), fun j hj => ?_⟩
    by_cases hji : j = i
    · subst hji
      exact hy.wpOp hi (hS L w hcl (mem_ready.1 hr).1 hC hE) ⟨hC, fun h => hE (by rw [getD_set_ne false him] at h; exact h), H⟩
    · have h1 := H.2 j (ready_mono hj hji)
      obtain ⟨hjun, oj, hoj, hall⟩ := mem_ready.1 hj
      have hnot : ∀ e ∈ oj.after, Region.binds md e = true → e.on ≠ i := fun e he hb heq => by
        have h1 := hall e he hb
        have h0 := (mem_ready.1 hr).1
        rw [heq] at h1
        rcases Nat.lt_or_ge i L.size with h' | h'
        · simp [h'] at h0 h1; rw [h0] at h1; cases h1
        · simp [Array.getElem?_eq_none h'] at h1
      have h2 := wpOp_putIf hoj (hfree j oj hoj hji hjun hnot) (fun cs b => hsel i oi cs b hi) (fun cs b => hsel j oj cs b hoj) hQ hy h1
      have hfree' : ∀ k ok, ops[k]? = some ok → k ≠ i → (L.setIfInBounds j true).getD k true = false →
          (∀ e ∈ ok.after, Region.binds md e = true → e.on ≠ i) → oi.apart ops ok = true := fun k ok hk hki hun hno => by
        refine hfree k ok hk hki ?_ hno
        by_cases hjk : j = k
        · subst hjk; exact hjun
        · rw [getD_set_ne true hjk] at hun; exact hun
      refine wpOp_mono (fun a' w' h3 => ?_) h2
      obtain ⟨hy', hC', hE', H'⟩ := h3
      have hE2 : (L.setIfInBounds j true).getD m false = false → E w' := fun h => hE' (by
        rw [Array.setIfInBounds_comm _ _ (Ne.symm hji), getD_set_ne false him]; exact h)
      refine ⟨hC', hE2, ih (L.setIfInBounds j true) a' w' (hcl.set hj) hfree' (ready_mono hr (Ne.symm hji)) hy' hC' hE2 ?_⟩
      rw [Array.setIfInBounds_comm _ _ hji]
      exact H'

/-- An operation that yields its value wherever C holds is taken first. -/
theorem wpM_take {i : Nat} {oi : Oper} {v : Value} {f : Nat} {L : Array Bool} {a : Act} {w : World} (hi : ops[i]? = some oi)
    (hs : Region.noSelect ops = true) (hf : Region.free md ops L i = true) (hr : (Region.ready md ops L).contains i = true) (him : i ≠ m)
    (hQ : ∀ c a w, Q (.panic c) (a.put oi.dst v) w → Q (.panic c) a w) (hcl : ClosedL md ops L) (hC : C w) (hE : L.getD m false = false → E w) (hy : YieldsIf P ops C oi v a)
    (h : ClosedL md ops (L.setIfInBounds i true) → wpAnyM P md ops Q C E m f (L.setIfInBounds i true) (a.put oi.dst v) w) : wpAnyM P md ops Q C E m (f + 1) L a w :=
  wpAnyM_first hi (Region.noSelect_spec hs) hQ him (fun _ _ _ _ hc _ => hc) f L a w hcl (Region.free_spec hi hf) (by simpa using hr) hy hC hE (h (hcl.set (by simpa using hr)))

/-- An operation for which number m waits, and which yields its value wherever C and E hold, is taken first. -/
theorem wpM_take0 {i : Nat} {oi om : Oper} {v : Value} {f : Nat} {L : Array Bool} {a : Act} {w : World} (hi : ops[i]? = some oi) (hm : ops[m]? = some om)
    (hw : (om.after.any fun e => Region.binds md e && e.on == i) = true)
    (hs : Region.noSelect ops = true) (hf : Region.free md ops L i = true) (hr : (Region.ready md ops L).contains i = true) (him : i ≠ m)
    (hQ : ∀ c a w, Q (.panic c) (a.put oi.dst v) w → Q (.panic c) a w) (hcl : ClosedL md ops L) (hC : C w) (hE : L.getD m false = false → E w) (hy : YieldsIf P ops (fun w => C w ∧ E w) oi v a)
    (h : ClosedL md ops (L.setIfInBounds i true) → wpAnyM P md ops Q C E m f (L.setIfInBounds i true) (a.put oi.dst v) w) : wpAnyM P md ops Q C E m (f + 1) L a w := by
  refine wpAnyM_first (S := fun w => C w ∧ E w) hi (Region.noSelect_spec hs) hQ him (fun L w hcl hun hc he => ⟨hc, he ?_⟩) f L a w hcl (Region.free_spec hi hf) (by simpa using hr) hy hC hE (h (hcl.set (by simpa using hr)))
  obtain ⟨e, he, hb⟩ := Array.any_eq_true'.1 hw
  simp only [Bool.and_eq_true, beq_iff_eq] at hb
  rw [← Bool.not_eq_true]
  intro hlm
  have h2 := hcl m om hm hlm e he hb.1
  rw [hb.2] at h2
  rcases Nat.lt_or_ge i L.size with h' | h'
  · simp [h'] at hun h2; rw [hun] at h2; cases h2
  · simp [Array.getElem?_eq_none h'] at h2

/-- The same behind number m: E is not asked any more. -/
theorem wpM_takeX {i : Nat} {oi : Oper} {v : Value} {f : Nat} {L : Array Bool} {a : Act} {w : World} (hi : ops[i]? = some oi)
    (hs : Region.noSelect ops = true) (hf : Region.free md ops L i = true) (hr : (Region.ready md ops L).contains i = true) (him : i ≠ m)
    (hQ : ∀ c a w, Q (.panic c) (a.put oi.dst v) w → Q (.panic c) a w) (hcl : ClosedL md ops L) (hC : C w) (hm : L.getD m false = true) (hy : YieldsIf P ops C oi v a)
    (h : ClosedL md ops (L.setIfInBounds i true) → wpAnyM P md ops Q C E m f (L.setIfInBounds i true) (a.put oi.dst v) w) : wpAnyM P md ops Q C E m (f + 1) L a w :=
  wpM_take hi hs hf hr him hQ hcl hC (fun h => by rw [hm] at h; cases h) hy h

/-- The one operation that may come up, ahead of number m. -/
theorem wpM_only {i : Nat} {o : Oper} {f : Nat} {L : Array Bool} {a : Act} {w : World} (ho : ops[i]? = some o) (hr : Region.ready md ops L = [i]) (hcl : ClosedL md ops L)
    (h : ∀ K : Act → World → Prop, Shut (∀ a w, C w → E w → (ClosedL md ops (L.setIfInBounds i true) → wpAnyM P md ops Q C E m f (L.setIfInBounds i true) a w) → K a w) →
      if Region.wanted o (yielded ops a.tmps) = true then Oper.wp P o a w K Q else K (a.put o.dst undef) w) : wpAnyM P md ops Q C E m (f + 1) L a w := by
  refine ⟨fun h0 => (by rw [hr] at h0; cases h0), fun j hj => ?_⟩
  have hcl' := hcl.set hj
  rw [hr] at hj
  obtain rfl : j = i := by simpa using hj
  exact wpOp_step ho (fun K hK => h K fun a w hc he hh => hK a w ⟨hc, fun _ => he, hh hcl'⟩)
/-- The one operation that may come up: number m, or behind it. -/
theorem wpM_last {i : Nat} {o : Oper} {f : Nat} {L : Array Bool} {a : Act} {w : World} (ho : ops[i]? = some o) (hr : Region.ready md ops L = [i]) (hcl : ClosedL md ops L)
    (hm : (L.setIfInBounds i true).getD m false = true)
    (h : ∀ K : Act → World → Prop, Shut (∀ a w, C w → (ClosedL md ops (L.setIfInBounds i true) → wpAnyM P md ops Q C E m f (L.setIfInBounds i true) a w) → K a w) →
      if Region.wanted o (yielded ops a.tmps) = true then Oper.wp P o a w K Q else K (a.put o.dst undef) w) : wpAnyM P md ops Q C E m (f + 1) L a w := by
  refine ⟨fun h0 => (by rw [hr] at h0; cases h0), fun j hj => ?_⟩
  have hcl' := hcl.set hj
  rw [hr] at hj
  obtain rfl : j = i := by simpa using hj
  exact wpOp_step ho (fun K hK => h K fun a w hc hh => hK a w ⟨hc, fun h => (by rw [hm] at h; cases h), hh hcl'⟩)

theorem wpM_done {f : Nat} {L : Array Bool} {a : Act} {w : World} (hr : Region.ready md ops L = []) (h : Q .normal a w) : wpAnyM P md ops Q C E m f L a w := by
  cases f with
  | zero => exact ⟨hr, h⟩
  | succ f => exact ⟨fun _ => h, fun i hi => by rw [hr] at hi; cases hi⟩

theorem wp_region_M {id : Nat} {a : Act} {w : World} (C E : World → Prop) (m : Nat) (hm : P.follows .mixedOrders = true) (_ : C w.drew) (_ : E w.drew)
    (h : ClosedL .any ops (Array.replicate ops.size false) → wpAnyM P .any ops Q C E m ops.size (Array.replicate ops.size false) a w.drew) : (Code.region id ops true).wp P Q a w :=
  wp_region_any hm (wpAny_of_M _ _ _ _ (h closedL_start))

/-- One operation of a region, from whatever state the invariant allows. -/
def StepJ (P : Program) (md : Region.Mode) (ops : Array Oper) (Q : Exit → Act → World → Prop) (J : Array Bool → Act → World → Prop) (i : Nat) : Prop :=
  ∀ L a w, J L a w → ClosedL md ops L → i ∈ Region.ready md ops L → wpOp P ops Q i (fun a' w' => J (L.setIfInBounds i true) a' w') a w

theorem wpAny_of_J {J : Array Bool → Act → World → Prop} (hs : ∀ i, i < ops.size → StepJ P md ops Q J i) (hd : ∀ L a w, J L a w → ClosedL md ops L → Region.ready md ops L = [] → Q .normal a w) :
    ∀ (f : Nat) (L : Array Bool) (a : Act) (w : World), J L a w → ClosedL md ops L → L.size = ops.size → L.toList.count false = f → wpAny P md ops Q f L a w := by
  intro f
  induction f with
  | zero =>
    intro L a w hJ hcl hsz hc
    have hr : Region.ready md ops L = [] := by
      rw [List.eq_nil_iff_forall_not_mem]
      intro i hi
      obtain ⟨hun, o, ho, _⟩ := mem_ready.1 hi
      have hlt : i < L.size := by rw [hsz]; exact (Array.getElem?_eq_some_iff.1 ho).1
      have := count_set L i hlt hun
      omega
    exact ⟨hr, hd L a w hJ hcl hr⟩
  | succ f ih =>
    intro L a w hJ hcl hsz hc
    refine ⟨fun h => hd L a w hJ hcl h, fun i hi => ?_⟩
    obtain ⟨hun, o, ho, _⟩ := mem_ready.1 hi
    have hlt : i < ops.size := (Array.getElem?_eq_some_iff.1 ho).1
    have := count_set L i (by omega) hun
    exact wpOp_mono (fun a' w' h => ih _ a' w' h (hcl.set hi) (by simp [hsz]) (by omega)) (hs i hlt L a w hJ hcl hi)

/-- A region that draws its order, by an invariant: each operation is looked at once. -/
theorem wp_region_J {id : Nat} {a : Act} {w : World} (J : Array Bool → Act → World → Prop) (hm : P.follows .mixedOrders = true) (h0 : J (Array.replicate ops.size false) a w.drew)
    (hd : ∀ L a w, J L a w → ClosedL .any ops L → Region.ready .any ops L = [] → Q .normal a w) (hs : ∀ i, i < ops.size → StepJ P .any ops Q J i) : (Code.region id ops true).wp P Q a w :=
  wp_region_any hm (wpAny_of_J hs hd ops.size _ _ _ h0 closedL_start (by simp) (by simp))

/-- The same, the invariant told the frame in which the region begins. -/
theorem wp_region_Ja {id : Nat} {a : Act} {w : World} (J : Act → Array Bool → Act → World → Prop) (hm : P.follows .mixedOrders = true) (h0 : J a (Array.replicate ops.size false) a w.drew)
    (hd : ∀ L a' w, J a L a' w → ClosedL .any ops L → Region.ready .any ops L = [] → Q .normal a' w) (hs : ∀ i, i < ops.size → StepJ P .any ops Q (J a) i) : (Code.region id ops true).wp P Q a w :=
  wp_region_J (J a) hm h0 hd hs
theorem getD_set_same {L : Array Bool} {i : Nat} (h : L.getD i true = false) : (L.setIfInBounds i true).getD i false = true := by
  rcases Nat.lt_or_ge i L.size with h' | h'
  · simp [h']
  · simp [Array.getElem?_eq_none h'] at h
/-- Nothing comes up any more: all is listed. -/
theorem ready_nil {L : Array Bool} (_ : ClosedL md ops L) (hsz : ∀ i, i < ops.size → (∀ e ∈ (ops[i]!).after, Region.binds md e = true → e.on < i)) (hr : Region.ready md ops L = []) (hL : L.size = ops.size) : ∀ i, i < ops.size → L.getD i false = true := by
  intro i
  induction i using Nat.strongRecOn with
  | _ i ih =>
    intro hi
    rw [← Bool.not_eq_false]
    intro hf
    have hm : i ∈ Region.ready md ops L := by
      rw [mem_ready]
      have ho : ops[i]? = some ops[i]! := by simp [hi]
      refine ⟨?_, ops[i]!, ho, fun e he hb => ?_⟩
      · have : i < L.size := by omega
        simp [this] at hf ⊢; exact hf
      · have := hsz i hi e he hb
        exact ih e.on this (by omega)
    rw [hr] at hm
    cases hm
/-- What is known of the list when an operation comes up: it is not listed, all that it waits for is. -/
theorem ready_pre {i : Nat} {o : Oper} {L : Array Bool} (h : i ∈ Region.ready md ops L) (ho : ops[i]? = some o) : L.getD i true = false ∧ ∀ e ∈ o.after, Region.binds md e = true → L.getD e.on false = true := by
  obtain ⟨hun, o', ho', hall⟩ := mem_ready.1 h
  obtain rfl : o = o' := Option.some.inj (ho.symm.trans ho')
  exact ⟨hun, hall⟩
end
end Go.Proofs.YtffnpfponnhddaaGreat
namespace Go.Proofs.YtffnpfponnhddaaGreat
open Go.RowKit

section
variable {P : Program} {ops : Array Oper} {Q : Exit → Act → World → Prop} {md : Region.Mode} {C E C' E' : World → Prop} {m m' : Nat}
/-- A stronger condition from here on. -/
theorem wpAnyM_mono (hC : ∀ w, C' w → C w) (hE : ∀ w, E w) : ∀ (f : Nat) (L : Array Bool) (a : Act) (w : World), wpAnyM P md ops Q C' E' m' f L a w → wpAnyM P md ops Q C E m f L a w
  | 0, _, _, _, h => h
  | f + 1, _, _, _, h => ⟨h.1, fun i hi => wpOp_mono (fun a' w' h' => ⟨hC _ h'.1, fun _ => hE _, wpAnyM_mono hC hE f _ a' w' h'.2.2⟩) (h.2 i hi)⟩
theorem wpM_now {C' : World → Prop} {f : Nat} {L : Array Bool} {a : Act} {w : World} (h : wpAnyM P md ops Q C' (fun _ => True) m f L a w) : wpAnyM P md ops Q (fun _ => True) (fun _ => True) m f L a w :=
  wpAnyM_mono (fun _ _ => trivial) (fun _ => trivial) f L a w h
end
end Go.Proofs.YtffnpfponnhddaaGreat
namespace Go.Proofs.YtffnpfponnhddaaGreat
open Go.RowKit

theorem heap_set_ne {w : World} {x : Option Obj} {k : Nat} {p : Addr} {u : Value} (hne : p.block ≠ k) (h : w.heap[k]? = x) : (w.setCell p u).heap[k]? = x :=
  (Below.heap_setCell w p u k (fun e => hne e.symm)).trans h
/-- A store into a block that is newer than what is spoken of. -/
theorem gr_set_new {a w : World} {g : Nat} {row : Option Nat} (h : a.grownBy w row) (hg : a.heap.size ≤ g) (i : Nat) (u : Value) : a.grownBy (w.setCell ⟨g, i, none⟩ u) row :=
  ⟨h.os, h.tape, h.output, by simpa [World.setCell] using h.size, fun k hk hne => (heap_set_ne (p := ⟨g, i, none⟩) (u := u) (by dsimp only; omega) rfl).trans (h.block k hk hne)⟩
theorem gr_alloc {a w : World} {row : Option Nat} (h : a.grownBy w row) (o : Obj) : a.grownBy (w.alloc o) row := h.trans (World.grownBy_alloc _ _ _)
/-- A list of elements, built anew. -/
theorem Rd.built {w : World} {e : TypeId} {sz n : Nat} {xs : List (List Value)} {cs : Array Value} (hl : ∀ x ∈ xs, x.length = sz) (hc : cs = xs.flatten.toArray) (hn : xs.length = n) :
    Rd (w.alloc (.cells cs e)) (w.alloc (.cells cs e)).heap.size sz (some ⟨w.heap.size, 0, none⟩) n xs := by
  refine ⟨hn, fun _ => ⟨_, 0, rfl, by simp, fun k x hx j u hu => ?_⟩⟩
  have h := heap_at w (.cells cs e) rfl
  rw [blk_cell h, hc]
  simpa using flat_get hl hx hu
/-- A block of eight cells, each set anew. -/
theorem blk_set8 {w : World} {g : Nat} {t : TypeId} {a0 a1 a2 a3 a4 a5 a6 a7 : Value} (h : w.heap[g]? = some (.cells #[a0, a1, a2, a3, a4, a5, a6, a7] t (0, 0))) (x0 x1 x2 x3 x4 x5 x6 x7 : Value) :
    ((((((((w.setCell ⟨g, 0, none⟩ x0).setCell ⟨g, 1, none⟩ x1).setCell ⟨g, 2, none⟩ x2).setCell ⟨g, 3, none⟩ x3).setCell ⟨g, 4, none⟩ x4).setCell ⟨g, 5, none⟩ x5).setCell ⟨g, 6, none⟩ x6).setCell ⟨g, 7, none⟩ x7).heap[g]? = some (.cells #[x0, x1, x2, x3, x4, x5, x6, x7] t (0, 0)) := by
  have h0 := blk_set h 0 x0
  rw [show (#[a0, a1, a2, a3, a4, a5, a6, a7] : Array Value).setIfInBounds 0 x0 = #[x0, a1, a2, a3, a4, a5, a6, a7] from by simp] at h0
  have h1 := blk_set h0 1 x1
  rw [show (#[x0, a1, a2, a3, a4, a5, a6, a7] : Array Value).setIfInBounds 1 x1 = #[x0, x1, a2, a3, a4, a5, a6, a7] from by simp] at h1
  have h2 := blk_set h1 2 x2
  rw [show (#[x0, x1, a2, a3, a4, a5, a6, a7] : Array Value).setIfInBounds 2 x2 = #[x0, x1, x2, a3, a4, a5, a6, a7] from by simp] at h2
  have h3 := blk_set h2 3 x3
  rw [show (#[x0, x1, x2, a3, a4, a5, a6, a7] : Array Value).setIfInBounds 3 x3 = #[x0, x1, x2, x3, a4, a5, a6, a7] from by simp] at h3
  have h4 := blk_set h3 4 x4
  rw [show (#[x0, x1, x2, x3, a4, a5, a6, a7] : Array Value).setIfInBounds 4 x4 = #[x0, x1, x2, x3, x4, a5, a6, a7] from by simp] at h4
  have h5 := blk_set h4 5 x5
  rw [show (#[x0, x1, x2, x3, x4, a5, a6, a7] : Array Value).setIfInBounds 5 x5 = #[x0, x1, x2, x3, x4, x5, a6, a7] from by simp] at h5
  have h6 := blk_set h5 6 x6
  rw [show (#[x0, x1, x2, x3, x4, x5, a6, a7] : Array Value).setIfInBounds 6 x6 = #[x0, x1, x2, x3, x4, x5, x6, a7] from by simp] at h6
  have h7 := blk_set h6 7 x7
  rw [show (#[x0, x1, x2, x3, x4, x5, x6, a7] : Array Value).setIfInBounds 7 x7 = #[x0, x1, x2, x3, x4, x5, x6, x7] from by simp] at h7
  exact h7
theorem gr_set8 {a w : World} {g : Nat} {row : Option Nat} (h : a.grownBy w row) (hg : a.heap.size ≤ g) (x0 x1 x2 x3 x4 x5 x6 x7 : Value) :
    a.grownBy ((((((((w.setCell ⟨g, 0, none⟩ x0).setCell ⟨g, 1, none⟩ x1).setCell ⟨g, 2, none⟩ x2).setCell ⟨g, 3, none⟩ x3).setCell ⟨g, 4, none⟩ x4).setCell ⟨g, 5, none⟩ x5).setCell ⟨g, 6, none⟩ x6).setCell ⟨g, 7, none⟩ x7) row :=
  gr_set_new (gr_set_new (gr_set_new (gr_set_new (gr_set_new (gr_set_new (gr_set_new (gr_set_new h hg 0 _) hg 1 _) hg 2 _) hg 3 _) hg 4 _) hg 5 _) hg 6 _) hg 7 _
end Go.Proofs.YtffnpfponnhddaaGreat
