/- append onto a full slice that came in: always a new row. -/
import Derived.Test.YtpfohpfgfdeecaaGa
import Derived.ArgAppend
namespace Go.Proofs.Ytpfohpfgfdeecaa
open Go.RowKit

section
variable {P : Program} (w : World)
theorem run_append_full {t ty e : TypeId} {sz bytes : Nat} (E : ElemInfo P t e sz bytes)
    {B0 : Nat} {A0 : Option Addr} {n : Nat} {xs : List (List Value)} (hr0 : Rd w B0 sz A0 n xs) (hlen0 : ∀ y ∈ xs, y.length = sz)
    {B : Nat} {A : Option Addr} {m c : Nat} {ys : List (List Value)} (hr : Rd w B sz A m ys) (hm : 0 < m) (hlen : ∀ y ∈ ys, y.length = sz) (h1 : ∀ y ∈ ys, ∀ u ∈ y, u.oneCell' = true)
    (h63 : n + m ≤ maxLen) (hbytes : (n + m) * bytes ≤ 140737488355328) :
    ∃ v' w', (Builtin.append_ #[t, t] ty #[.slice A0 n n, .slice A m c]).run P w = .ok v' w' ∧ Ow w' w.heap.size e sz v' (xs ++ ys) ∧ w.grownBy w' none := by
  obtain ⟨i, z, hi, hz, hs, hby, hzs⟩ := E.info
  have hxn : xs.length = n := hr0.1
  have hym : ys.length = m := hr.1
  have hall : ∀ x ∈ xs ++ ys, x.length = sz := fun x hx => (List.mem_append.1 hx).elim (hlen0 x) (hlen x)
  have flat : ∀ {B : Nat} {ad : Addr} {k : Nat} {zs : List (List Value)}, Rd w B sz (some ad) k zs → (∀ y ∈ zs, y.length = sz) → ∀ j u, zs.flatten[j]? = some u → w.cell? (ad.add j) = some u := by
    intro B ad k zs hrz hlz j u hu
    obtain ⟨k', x, i, he, hx, hi⟩ := flat_inv hlz hu
    have hk : k' < zs.length := (List.getElem?_eq_some_iff.1 hx).1
    obtain ⟨b, o, h, _, hc⟩ := hrz.2 (by have := hrz.1; omega)
    injection h with h
    subst h
    rw [addr_add, he, ← Nat.add_assoc]
    exact hc k' x hx i u hi
  obtain ⟨b, o, hA, _, _⟩ := hr.2 hm
  subst hA
  have hone : ∀ u ∈ ys.flatten, u.oneCell' = true := by
    intro u hu
    obtain ⟨y, hy, hu'⟩ := List.mem_flatten.1 hu
    exact h1 y hy u hu'
  cases A0 with
  | some b0 =>
    obtain ⟨v', w', hrun, r1, r2⟩ := run_append_arg_grows (P := P) w t ty e i z sz bytes E.slice hi hz hs hby hzs E.pos b0 n n xs.flatten (by rw [flat_len hlen0, hxn]) (flat hr0 hlen0) ⟨b, o, none⟩ m c ys.flatten
      (by rw [flat_len hlen, hym]) (flat hr hlen) (by omega) h63 hbytes
    exact ⟨v', w', hrun, ⟨hall, by rw [List.length_append, hxn, hym, List.flatten_append]; exact r1⟩, r2⟩
  | none =>
    have hn : n = 0 := by
      rcases Nat.eq_zero_or_pos n with h | h
      · exact h
      · obtain ⟨_, _, h', _⟩ := hr0.2 h; cases h'
    subst hn
    obtain rfl : xs = [] := List.eq_nil_of_length_eq_zero hxn
    obtain ⟨v', w', hrun, r1, r2, _⟩ := run_append_rd (P := P) (ty := ty) (c := c) (base := w.heap.size) w E (Ow.nil_ w w.heap.size e sz) hr hlen h1 (by simpa using h63) (by simpa using hbytes) (Nat.le_refl _)
    exact ⟨v', w', hrun, r1, by simpa [Value.ownBlock] using r2⟩
theorem wp_append_full {o : Oper} {a : Act} {K : Act → World → Prop} {Q : Exit → Act → World → Prop} (s x : Operand) (t : TypeId)
    (ho : o.op = .call { callee := .builtin .append, args := #[s, x], argTypes := #[t, t] }) {e : TypeId} {sz bytes : Nat} (E : ElemInfo P t e sz bytes)
    {B0 : Nat} {A0 : Option Addr} {n : Nat} {xs : List (List Value)} (hs : a.eval s = .slice A0 n n) (hr0 : Rd w B0 sz A0 n xs) (hlen0 : ∀ y ∈ xs, y.length = sz)
    {B : Nat} {A : Option Addr} {m c : Nat} {ys : List (List Value)} (hx : a.eval x = .slice A m c) (hr : Rd w B sz A m ys) (hm : 0 < m) (hlen : ∀ y ∈ ys, y.length = sz) (h1 : ∀ y ∈ ys, ∀ u ∈ y, u.oneCell' = true)
    (h63 : n + m ≤ maxLen) (hbytes : (n + m) * bytes ≤ 140737488355328)
    (h : ∀ A' n' c' w', n' = n + m → Ow w' w.heap.size e sz (.slice A' n' c') (xs ++ ys) → w.grownBy w' none → K (a.put o.dst (.slice A' n' c')) w') : o.wp P a w K Q := by
  obtain ⟨v', w', hrun, h2, h3⟩ := run_append_full (P := P) (ty := o.type) (c := c) w E hr0 hlen0 hr hm hlen h1 h63 hbytes
  obtain ⟨A', c', hv, _, _, _⟩ := h2.form
  subst hv
  unfold Oper.wp execOp
  simp only [ho, resolve, invoke, builtin, Sem.run_bind, Sem.run_pure, Result.andThen_ok, List.map_toArray, List.map_cons, List.map_nil, hs, hx, hrun]
  exact h _ _ _ w' (by rw [List.length_append, hr0.1, hr.1]) h2 h3
theorem wpList_append_full {ops : Array Oper} {rest : List Oper} {o : Oper} {a : Act} {Q : Exit → Act → World → Prop} (hgd : o.guard = none) (s x : Operand) (t : TypeId)
    (ho : o.op = .call { callee := .builtin .append, args := #[s, x], argTypes := #[t, t] }) {e : TypeId} {sz bytes : Nat} (E : ElemInfo P t e sz bytes)
    {B0 : Nat} {A0 : Option Addr} {n : Nat} {xs : List (List Value)} (hs : a.eval s = .slice A0 n n) (hr0 : Rd w B0 sz A0 n xs) (hlen0 : ∀ y ∈ xs, y.length = sz)
    {B : Nat} {A : Option Addr} {m c : Nat} {ys : List (List Value)} (hx : a.eval x = .slice A m c) (hr : Rd w B sz A m ys) (hm : 0 < m) (hlen : ∀ y ∈ ys, y.length = sz) (h1 : ∀ y ∈ ys, ∀ u ∈ y, u.oneCell' = true)
    (h63 : n + m ≤ maxLen) (hbytes : (n + m) * bytes ≤ 140737488355328)
    (h : ∀ A' n' c' w', n' = n + m → Ow w' w.heap.size e sz (.slice A' n' c') (xs ++ ys) → w.grownBy w' none → wpList P ops Q rest (a.put o.dst (.slice A' n' c')) w') : wpList P ops Q (o :: rest) a w :=
  wpList_plain hgd fun _ hK => wp_append_full w s x t ho E hs hr0 hlen0 hx hr hm hlen h1 h63 hbytes fun A' n' c' w' h1 h2 h3 => hK _ _ (h A' n' c' w' h1 h2 h3)
theorem step_append_full {ops : Array Oper} {o : Oper} {a : Act} {K : Act → World → Prop} {Q : Exit → Act → World → Prop} {R : Prop} (hgd : o.guard = none) (s x : Operand) (t : TypeId)
    (ho : o.op = .call { callee := .builtin .append, args := #[s, x], argTypes := #[t, t] }) {e : TypeId} {sz bytes : Nat} (E : ElemInfo P t e sz bytes)
    {B0 : Nat} {A0 : Option Addr} {n : Nat} {xs : List (List Value)} (hs : a.eval s = .slice A0 n n) (hr0 : Rd w B0 sz A0 n xs) (hlen0 : ∀ y ∈ xs, y.length = sz)
    {B : Nat} {A : Option Addr} {m c : Nat} {ys : List (List Value)} (hx : a.eval x = .slice A m c) (hr : Rd w B sz A m ys) (hm : 0 < m) (hlen : ∀ y ∈ ys, y.length = sz) (h1 : ∀ y ∈ ys, ∀ u ∈ y, u.oneCell' = true)
    (h63 : n + m ≤ maxLen) (hbytes : (n + m) * bytes ≤ 140737488355328)
    (h : ∀ A' n' c' w', n' = n + m → Ow w' w.heap.size e sz (.slice A' n' c') (xs ++ ys) → w.grownBy w' none → K (a.put o.dst (.slice A' n' c')) w') :
    if Region.wanted o (yielded ops a.tmps) = true then Oper.wp P o a w K Q else R := by
  have hw : Region.wanted o (yielded ops a.tmps) = true := by simp [Region.wanted, hgd]
  rw [if_pos hw]
  exact wp_append_full w s x t ho E hs hr0 hlen0 hx hr hm hlen h1 h63 hbytes h
end
theorem Ow.made_at {w : World} {base g : Nat} {e : TypeId} {sz : Nat} (h : w.heap[g]? = some (.cells #[] e (0, 0))) (hb : base ≤ g) : Ow w base e sz (.slice (some ⟨g, 0, none⟩) 0 0) [] :=
  ⟨by simp, by simp, .inr ⟨g, 0, #[], rfl, hb, h, Nat.le_refl _, by simp [maxLen], by simp, by simp⟩⟩
theorem Rd.one_at {w : World} {g sz : Nat} {t : TypeId} (x : List Value) (h : w.heap[g]? = some (.cells x.toArray t (0, 0))) : Rd w (g + 1) sz (some ⟨g, 0, none⟩) 1 [x] := by
  refine ⟨rfl, fun _ => ⟨_, 0, rfl, Nat.lt_succ_self _, fun k y hy j u hu => ?_⟩⟩
  obtain rfl : k = 0 := by have := (List.getElem?_eq_some_iff.1 hy).1; simp at this; omega
  simp only [List.getElem?_cons_zero, Option.some.injEq] at hy
  subst hy
  rw [blk_cell h]
  simpa using hu
theorem heap9 {w : World} {g : Nat} {t : TypeId} {a0 a1 a2 a3 a4 a5 a6 a7 a8 : Value} (h : w.heap[g]? = some (.cells #[a0, a1, a2, a3, a4, a5, a6, a7, a8] t (0, 0))) (x0 x1 x2 x3 x4 x5 x6 x7 x8 : Value) :
    (((((((((w.setCell ⟨g, 0, none⟩ x0).setCell ⟨g, 1, none⟩ x1).setCell ⟨g, 2, none⟩ x2).setCell ⟨g, 3, none⟩ x3).setCell ⟨g, 4, none⟩ x4).setCell ⟨g, 5, none⟩ x5).setCell ⟨g, 6, none⟩ x6).setCell ⟨g, 7, none⟩ x7).setCell ⟨g, 8, none⟩ x8).heap[g]? = some (.cells #[x0, x1, x2, x3, x4, x5, x6, x7, x8] t (0, 0)) := by
  rw [blk_set (blk_set (blk_set (blk_set (blk_set (blk_set (blk_set (blk_set (blk_set h 0 x0) 1 x1) 2 x2) 3 x3) 4 x4) 5 x5) 6 x6) 7 x7) 8 x8]
  simp
end Go.Proofs.Ytpfohpfgfdeecaa
