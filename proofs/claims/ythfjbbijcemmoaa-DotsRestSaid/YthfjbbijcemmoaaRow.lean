/- A row of structs that the call itself owns, and what append does to it. -/
import Derived.Test.YthfjbbijcemmoaaRd
import Derived.Maps.AppendAt
import Derived.Laws.OwnMore
import Derived.RegionTactic
import Derived.OwnWalk
namespace Go.Proofs.Ythfjbbijcemmoaa
open Go.RowKit

theorem addr_add (b o j : Nat) : (⟨b, o, none⟩ : Addr).add j = ⟨b, o + j, none⟩ := by
  unfold Addr.add; split <;> simp_all

section
variable {α : Type} {sz : Nat}
theorem flat_get : ∀ {xs : List (List α)}, (∀ x ∈ xs, x.length = sz) → ∀ {k : Nat} {x : List α} {j : Nat} {u : α}, xs[k]? = some x → x[j]? = some u → xs.flatten[k * sz + j]? = some u
  | [], _, k, x, j, u, h, _ => by simp at h
  | y :: ys, hl, 0, x, j, u, h, hu => by
    simp at h; subst h
    have hj : j < y.length := (List.getElem?_eq_some_iff.1 hu).1
    rw [List.flatten_cons, Nat.zero_mul, Nat.zero_add, List.getElem?_append_left hj]
    exact hu
  | y :: ys, hl, k + 1, x, j, u, h, hu => by
    have hy : y.length = sz := hl y (by simp)
    have ih := flat_get (fun x hx => hl x (by simp [hx])) (xs := ys) (k := k) (by simpa using h) hu
    rw [List.flatten_cons, show (k + 1) * sz + j = y.length + (k * sz + j) by rw [hy, Nat.succ_mul]; omega, List.getElem?_append_right (by omega), Nat.add_sub_cancel_left]
    exact ih
theorem flat_inv : ∀ {xs : List (List α)}, (∀ x ∈ xs, x.length = sz) → ∀ {j : Nat} {u : α}, xs.flatten[j]? = some u → ∃ k x i, j = k * sz + i ∧ xs[k]? = some x ∧ x[i]? = some u
  | [], _, j, u, h => by simp at h
  | y :: ys, hl, j, u, h => by
    have hy : y.length = sz := hl y (by simp)
    rw [List.flatten_cons] at h
    by_cases hj : j < y.length
    · rw [List.getElem?_append_left hj] at h
      exact ⟨0, y, j, by omega, rfl, h⟩
    · rw [List.getElem?_append_right (by omega)] at h
      obtain ⟨k, x, i, he, hx, hi⟩ := flat_inv (fun x hx => hl x (by simp [hx])) h
      exact ⟨k + 1, x, i, by rw [Nat.succ_mul]; omega, by simpa using hx, hi⟩
theorem flat_len : ∀ {xs : List (List α)}, (∀ x ∈ xs, x.length = sz) → xs.flatten.length = xs.length * sz
  | [], _ => by simp
  | y :: ys, hl => by
    rw [List.flatten_cons, List.length_append, flat_len (fun x hx => hl x (by simp [hx])), hl y (by simp), List.length_cons, Nat.succ_mul, Nat.add_comm]
end

/-- A row of structs (sz cells each) of the call's own, from block 'base' on. -/
def Ow (w : World) (base : Nat) (e : TypeId) (sz : Nat) (v : Value) (xs : List (List Value)) : Prop :=
  (∀ x ∈ xs, x.length = sz) ∧ w.ownsRow base e sz v xs.length xs.flatten

section
variable {w w' : World} {base : Nat} {e : TypeId} {sz : Nat} {v : Value} {xs : List (List Value)}
theorem Ow.nil_ (w : World) (base : Nat) (e : TypeId) (sz : Nat) : Ow w base e sz (.slice none 0 0) [] := ⟨by simp, World.ownsRow_nil w base e sz⟩
theorem Ow.form (h : Ow w base e sz v xs) : ∃ A c, v = .slice A xs.length c ∧ xs.length ≤ c ∧ c ≤ maxLen ∧ Rd w w.heap.size sz A xs.length xs := by
  obtain ⟨hl, hown⟩ := h
  rcases hown.2 with ⟨rfl, h0⟩ | ⟨g, cap, cur, rfl, hb, hg, hn, hm, hs, ht⟩
  · have hx : xs = [] := List.eq_nil_of_length_eq_zero h0
    subst hx
    exact ⟨none, 0, rfl, Nat.le_refl _, Nat.zero_le _, Rd.nil_⟩
  · have hlt : g < w.heap.size := (Array.getElem?_eq_some_iff.1 hg).1
    refine ⟨_, cap, rfl, hn, hm, rfl, fun _ => ⟨g, 0, rfl, hlt, fun k x hx j u hu => ?_⟩⟩
    have := hown.cells (g := g) rfl _ u (flat_get hl hx hu)
    rw [addr_add] at this
    simpa using this
theorem Ow.rd {A : Option Addr} {n c : Nat} (h : Ow w base e sz (.slice A n c) xs) : Rd w w.heap.size sz A n xs ∧ xs.length = n ∧ n ≤ c ∧ c ≤ maxLen := by
  obtain ⟨A', c', hv, hn, hm, hr⟩ := h.form
  injection hv with e1 e2 e3
  subst e1; subst e2; subst e3
  exact ⟨hr, rfl, hn, hm⟩
theorem Ow.below (h : Ow w base e sz v xs) (hb : Below w.heap.size w w') : Ow w' base e sz v xs :=
  ⟨h.1, h.2.kept (row := none) ⟨hb.os, hb.tape, hb.output, hb.size, fun k hk _ => hb.block k hk⟩ (by cases hv : v.ownBlock <;> simp)⟩
theorem Ow.block (h : Ow w base e sz v xs) : ∀ k, v.ownBlock = some k → base ≤ k ∧ k < w.heap.size := h.2.lt
theorem Ow.setCell (h : Ow w base e sz v xs) {a : Addr} (ha : a.block < base) (u : Value) : Ow (w.setCell a u) base e sz v xs := ⟨h.1, ownsRow_setCell_below h.2 ha u⟩
end

section
variable {P : Program} (w : World)

theorem run_append_nil_any (base : Nat) (t ty e : TypeId) (i : TypeInfo) (size : Nat) (ht : P.underlying t = some (.slice e)) (hi : P.info? e = some i)
    (v : Value) (n : Nat) (xs : List Value) (hown : w.ownsRow base e size v n xs) (c : Nat) : (Builtin.append_ #[t, t] ty #[v, .slice none 0 c]).run P w = .ok v w := by
  rcases hown.2 with ⟨rfl, rfl⟩ | ⟨g, cap, cur, rfl, _, _, hnc, _⟩
  · simp [Builtin.append_, run_underlying ht, sizeOf, typeInfo, hi, Builtin.lenOf, Builtin.firstCells]
  · simp [Builtin.append_, run_underlying ht, sizeOf, typeInfo, hi, Builtin.lenOf, Builtin.firstCells, hnc, storeCells]

/-- What is known of an element's type. -/
structure ElemInfo (P : Program) (t e : TypeId) (sz bytes : Nat) : Prop where
  slice : P.underlying t = some (.slice e)
  info : ∃ i z, P.info? e = some i ∧ i.zero = some z ∧ i.size = sz ∧ i.bytes = bytes ∧ z.cells.size = sz
  pos : 0 < sz

theorem run_append_rd {base : Nat} {t ty e : TypeId} {sz bytes : Nat} (E : ElemInfo P t e sz bytes)
    {v : Value} {xs : List (List Value)} (hown : Ow w base e sz v xs)
    {B : Nat} {A : Option Addr} {m c : Nat} {ys : List (List Value)} (hr : Rd w B sz A m ys) (hlen : ∀ y ∈ ys, y.length = sz) (h1 : ∀ y ∈ ys, ∀ u ∈ y, u.oneCell' = true)
    (h63 : xs.length + m ≤ maxLen) (hbytes : (xs.length + m) * bytes ≤ 140737488355328) (hbase : base ≤ w.heap.size) :
    ∃ v' w', (Builtin.append_ #[t, t] ty #[v, .slice A m c]).run P w = .ok v' w' ∧ Ow w' base e sz v' (xs ++ ys) ∧ w.grownBy w' v.ownBlock ∧ (v'.ownBlock = v.ownBlock ∨ v'.ownBlock = some w.heap.size) := by
  obtain ⟨i, z, hi, hz, hs, hby, hzs⟩ := E.info
  have hym : ys.length = m := hr.1
  have hall : ∀ x ∈ xs ++ ys, x.length = sz := fun x hx => (List.mem_append.1 hx).elim (hown.1 x) (hlen x)
  by_cases hA : A = none
  · subst hA
    have hm : m = 0 := by
      rcases Nat.eq_zero_or_pos m with h0 | h0
      · exact h0
      · obtain ⟨b, o, h, _⟩ := hr.2 h0; cases h
    subst hm
    have hy : ys = [] := List.eq_nil_of_length_eq_zero hym
    subst hy
    exact ⟨v, w, run_append_nil_any w base t ty e i sz E.slice hi v _ _ hown.2 c, by simpa using hown, World.grownBy.refl w _, .inl rfl⟩
  · obtain ⟨ad, rfl⟩ := Option.ne_none_iff_exists'.1 hA
    have hcells : ∀ j u, ys.flatten[j]? = some u → w.cell? (ad.add j) = some u := by
      intro j u hu
      obtain ⟨k, x, i, he, hx, hi⟩ := flat_inv hlen hu
      have hk : k < ys.length := (List.getElem?_eq_some_iff.1 hx).1
      obtain ⟨b, o, h, _, hc⟩ := hr.2 (by omega)
      injection h with h
      subst h
      rw [addr_add, he, ← Nat.add_assoc]
      exact hc k x hx i u hi
    have hone : ∀ u ∈ ys.flatten, u.oneCell' = true := by
      intro u hu
      obtain ⟨y, hy, hu'⟩ := List.mem_flatten.1 hu
      exact h1 y hy u hu'
    obtain ⟨v', w', hrun, h2, h3, _, h5⟩ := run_append_own_at (P := P) w base t ty e i z sz bytes E.slice hi hz hs hby hzs E.pos v xs.length xs.flatten hown.2 ad m c ys.flatten
      (by rw [flat_len hlen, hym]) hcells hone h63 hbytes hbase
    exact ⟨v', w', hrun, ⟨hall, by rw [List.length_append, hym, List.flatten_append]; exact h2⟩, h3, h5⟩

theorem wp_append_rd {o : Oper} {a : Act} {K : Act → World → Prop} {Q : Exit → Act → World → Prop} (s x : Operand) (t : TypeId)
    (ho : o.op = .call { callee := .builtin .append, args := #[s, x], argTypes := #[t, t] }) {base : Nat} {e : TypeId} {sz bytes : Nat} (E : ElemInfo P t e sz bytes)
    {v : Value} {xs : List (List Value)} (hs : a.eval s = v) (hown : Ow w base e sz v xs)
    {B : Nat} {A : Option Addr} {m c : Nat} {ys : List (List Value)} (hx : a.eval x = .slice A m c) (hr : Rd w B sz A m ys) (hlen : ∀ y ∈ ys, y.length = sz) (h1 : ∀ y ∈ ys, ∀ u ∈ y, u.oneCell' = true)
    (h63 : xs.length + m ≤ maxLen) (hbytes : (xs.length + m) * bytes ≤ 140737488355328) (hbase : base ≤ w.heap.size)
    (h : ∀ A' n' c' w', n' = xs.length + m → Ow w' base e sz (.slice A' n' c') (xs ++ ys) → w.grownBy w' v.ownBlock → ((Value.slice A' n' c').ownBlock = v.ownBlock ∨ (Value.slice A' n' c').ownBlock = some w.heap.size) → K (a.put o.dst (.slice A' n' c')) w') : o.wp P a w K Q := by
  obtain ⟨v', w', hrun, h2, h3, h4⟩ := run_append_rd (P := P) (ty := o.type) (c := c) w E hown hr hlen h1 h63 hbytes hbase
  obtain ⟨A', c', hv, _, _, _⟩ := h2.form
  subst hv
  unfold Oper.wp execOp
  simp only [ho, resolve, invoke, builtin, Sem.run_bind, Sem.run_pure, Result.andThen_ok, List.map_toArray, List.map_cons, List.map_nil, hs, hx, hrun]
  exact h _ _ _ w' (by rw [List.length_append, hr.1]) h2 h3 h4

/-- append in a region that keeps the text's order. -/
theorem wpList_append_rd {ops : Array Oper} {rest : List Oper} {o : Oper} {a : Act} {Q : Exit → Act → World → Prop} (hgd : o.guard = none) (s x : Operand) (t : TypeId)
    (ho : o.op = .call { callee := .builtin .append, args := #[s, x], argTypes := #[t, t] }) {base : Nat} {e : TypeId} {sz bytes : Nat} (E : ElemInfo P t e sz bytes)
    {v : Value} {xs : List (List Value)} (hs : a.eval s = v) (hown : Ow w base e sz v xs)
    {B : Nat} {A : Option Addr} {m c : Nat} {ys : List (List Value)} (hx : a.eval x = .slice A m c) (hr : Rd w B sz A m ys) (hlen : ∀ y ∈ ys, y.length = sz) (h1 : ∀ y ∈ ys, ∀ u ∈ y, u.oneCell' = true)
    (h63 : xs.length + m ≤ maxLen) (hbytes : (xs.length + m) * bytes ≤ 140737488355328) (hbase : base ≤ w.heap.size)
    (h : ∀ A' n' c' w', n' = xs.length + m → Ow w' base e sz (.slice A' n' c') (xs ++ ys) → w.grownBy w' v.ownBlock → ((Value.slice A' n' c').ownBlock = v.ownBlock ∨ (Value.slice A' n' c').ownBlock = some w.heap.size) → wpList P ops Q rest (a.put o.dst (.slice A' n' c')) w') : wpList P ops Q (o :: rest) a w :=
  wpList_plain hgd fun _ hK => wp_append_rd w s x t ho E hs hown hx hr hlen h1 h63 hbytes hbase fun A' n' c' w' h1 h2 h3 h4 => hK _ _ (h A' n' c' w' h1 h2 h3 h4)

/-- append in a region that draws its order. -/
theorem step_append_rd {ops : Array Oper} {o : Oper} {a : Act} {K : Act → World → Prop} {Q : Exit → Act → World → Prop} {R : Prop} (hgd : o.guard = none) (s x : Operand) (t : TypeId)
    (ho : o.op = .call { callee := .builtin .append, args := #[s, x], argTypes := #[t, t] }) {base : Nat} {e : TypeId} {sz bytes : Nat} (E : ElemInfo P t e sz bytes)
    {v : Value} {xs : List (List Value)} (hs : a.eval s = v) (hown : Ow w base e sz v xs)
    {B : Nat} {A : Option Addr} {m c : Nat} {ys : List (List Value)} (hx : a.eval x = .slice A m c) (hr : Rd w B sz A m ys) (hlen : ∀ y ∈ ys, y.length = sz) (h1 : ∀ y ∈ ys, ∀ u ∈ y, u.oneCell' = true)
    (h63 : xs.length + m ≤ maxLen) (hbytes : (xs.length + m) * bytes ≤ 140737488355328) (hbase : base ≤ w.heap.size)
    (h : ∀ A' n' c' w', n' = xs.length + m → Ow w' base e sz (.slice A' n' c') (xs ++ ys) → w.grownBy w' v.ownBlock → ((Value.slice A' n' c').ownBlock = v.ownBlock ∨ (Value.slice A' n' c').ownBlock = some w.heap.size) → K (a.put o.dst (.slice A' n' c')) w') :
    if Region.wanted o (yielded ops a.tmps) = true then Oper.wp P o a w K Q else R := by
  have hw : Region.wanted o (yielded ops a.tmps) = true := by simp [Region.wanted, hgd]
  rw [if_pos hw]
  exact wp_append_rd w s x t ho E hs hown hx hr hlen h1 h63 hbytes hbase h
end
end Go.Proofs.Ythfjbbijcemmoaa
