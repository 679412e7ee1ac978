/- General lemmas of these proofs (no program in sight): comparing arrays of integers; facts on worlds that only grow. A slice of structs that reads as a list: nil and empty let in. A row of structs that the call itself owns, and what append does to it. What a call keeps of old memory, as a condition for regions that draw their order. -/
import Derived.WalkKit
import Derived.WalkSpells
import Derived.WalkLawsBesides
import Derived.Laws.StructEq
import Derived.Lib.Hide
import Derived.ChangeKeysEq
import Derived.Maps.AppendAt
import Derived.Laws.OwnMore
import Derived.RegionTactic
import Derived.OwnWalk
namespace Go.Proofs.YtffnpfponnhddaaGreat
open Go.RowKit

section
variable {P : Program}

theorem run_eqItems_ints (d : Nat) {e : TypeId} {k : IntKind} (he : P.underlying e = some (.int k)) (xs ys : List Int) (w : World) :
    ∀ is : List Nat, (∀ i ∈ is, i < xs.length ∧ i < ys.length) →
    (Op.eqItems (d + 1) e 1 (xs.map (Value.int k)).toArray (ys.map (Value.int k)).toArray is).run P w = .ok (is.all fun i => xs[i]? == ys[i]?) w := by
  have hp : P.plainKey e = true := by simp [Program.plainKey, he]
  intro is
  induction is with
  | nil => intro _; simp [Op.eqItems]
  | cons i is ih =>
    intro h
    have h0 := h i (by simp)
    have ih' := ih (fun j hj => h j (by simp [hj]))
    have hx : (xs.map (Value.int k)).toArray[i * 1]? = some (.int k (xs[i]'h0.1)) := by simp [h0.1]
    have hy : (ys.map (Value.int k)).toArray[i * 1]? = some (.int k (ys[i]'h0.2)) := by simp [h0.2]
    simp only [Op.eqItems, Sem.run_bind, run_part_plain w hp hx, run_part_plain w hp hy, Result.andThen_ok, run_equalIn_int w d e k k _ _ he]
    by_cases hxy : xs[i]'h0.1 = ys[i]'h0.2
    · simp [hxy, ih', h0.1, h0.2]
    · simp [hxy, h0.1, h0.2]

theorem range_all_beq (xs ys : List Int) (h : xs.length = ys.length) : ((List.range xs.length).all fun i => xs[i]? == ys[i]?) = (xs == ys) := by
  rw [Bool.eq_iff_iff]
  simp only [List.all_eq_true, List.mem_range, beq_iff_eq]
  constructor
  · intro hh
    apply List.ext_getElem?
    intro i
    by_cases hi : i < xs.length
    · exact hh i hi
    · rw [List.getElem?_eq_none (by omega), List.getElem?_eq_none (by omega)]
  · rintro rfl i _
    rfl

/-- '==' between two arrays of integers. -/
theorem run_eql_ints {t e : TypeId} {n : Nat} {i : TypeInfo} {k : IntKind} (hu : P.underlying t = some (.array n e)) (hi : P.info? e = some i) (hs : P.cellsOf e = 1)
    (he : P.underlying e = some (.int k)) (xs ys : List Int) (hx : xs.length = n) (hy : ys.length = n) (w : World) :
    (binOp .eql t (.agg (xs.map (Value.int k)).toArray) (.agg (ys.map (Value.int k)).toArray)).run P w = .ok (.bool (xs == ys)) w := by
  rw [run_eql_struct, show (10000 : Nat) = 9998 + 1 + 1 from rfl, run_equalIn_array w _ _ _ hu hi, hs, run_eqItems_ints 9998 he xs ys w _ (by intro j hj; have := List.mem_range.1 hj; omega)]
  have := range_all_beq xs ys (by omega)
  rw [hx] at this
  rw [this]
  rfl
theorem run_neq_ints {t e : TypeId} {n : Nat} {i : TypeInfo} {k : IntKind} (hu : P.underlying t = some (.array n e)) (hi : P.info? e = some i) (hs : P.cellsOf e = 1)
    (he : P.underlying e = some (.int k)) (xs ys : List Int) (hx : xs.length = n) (hy : ys.length = n) (w : World) :
    (binOp .neq t (.agg (xs.map (Value.int k)).toArray) (.agg (ys.map (Value.int k)).toArray)).run P w = .ok (.bool (!(xs == ys))) w := by
  rw [run_neq_struct, show (10000 : Nat) = 9998 + 1 + 1 from rfl, run_equalIn_array w _ _ _ hu hi, hs, run_eqItems_ints 9998 he xs ys w _ (by intro j hj; have := List.mem_range.1 hj; omega)]
  have := range_all_beq xs ys (by omega)
  rw [hx] at this
  rw [this]
  rfl
end

/-- Below B nothing has turned: as two rules for the walk. -/
theorem bcell {B : Nat} {W w1 : World} (hb : Below B W w1) : (∀ b o, b < B → w1.cell? ⟨b, o, none⟩ = W.cell? ⟨b, o, none⟩) ∧ (∀ b o, b < B → w1.frozen? ⟨b, o, none⟩ = W.frozen? ⟨b, o, none⟩) :=
  ⟨fun b o h => hb.cell (p := ⟨b, o, none⟩) h, fun b o h => hb.frozen (p := ⟨b, o, none⟩) h⟩

/-- What a region that only grows the world keeps: old blocks, and so old cells. -/
theorem kp_drew (W : World) : Below W.heap.size W W.drew ∧ ∀ b o, b < W.heap.size → W.drew.cell? ⟨b, o, none⟩ = W.cell? ⟨b, o, none⟩ := ⟨(Below.refl _ _).drew, fun _ _ _ => rfl⟩
theorem kp_step {W w w1 : World} (h : Below W.heap.size W w ∧ ∀ b o, b < W.heap.size → w.cell? ⟨b, o, none⟩ = W.cell? ⟨b, o, none⟩) (hb : Below w.heap.size w w1) :
    Below W.heap.size W w1 ∧ ∀ b o, b < W.heap.size → w1.cell? ⟨b, o, none⟩ = W.cell? ⟨b, o, none⟩ :=
  have h1 := h.1.trans (hb.mono h.1.size)
  ⟨h1, fun b o hlt => h1.cell (p := ⟨b, o, none⟩) hlt⟩

theorem kp_alloc {W w : World} (h : Below W.heap.size W w ∧ ∀ b o, b < W.heap.size → w.cell? ⟨b, o, none⟩ = W.cell? ⟨b, o, none⟩) (x : Obj) :
    Below W.heap.size W (w.alloc x) ∧ ∀ b o, b < W.heap.size → (w.alloc x).cell? ⟨b, o, none⟩ = W.cell? ⟨b, o, none⟩ :=
  have h1 := h.1.alloc h.1.size x
  ⟨h1, fun b o hlt => h1.cell (p := ⟨b, o, none⟩) hlt⟩

end Go.Proofs.YtffnpfponnhddaaGreat
namespace Go.Proofs.YtffnpfponnhddaaGreat
open Go.RowKit

/-- The slice value '.slice A n c' reads as the list xs: each element is a list of cells; it lies below block B. -/
def Rd (w : World) (B sz : Nat) (A : Option Addr) (n : Nat) (xs : List (List Value)) : Prop :=
  xs.length = n ∧ (0 < n → ∃ b o, A = some ⟨b, o, none⟩ ∧ b < B ∧ ∀ k (x : List Value), xs[k]? = some x → ∀ j u, x[j]? = some u → w.cell? ⟨b, o + k * sz + j, none⟩ = some u)

section
variable {w w' : World} {B B' sz n : Nat} {A : Option Addr} {xs : List (List Value)} {α : Type} {enc : α → List Value} {ps : List α}

theorem Rd.nil_ : Rd w B sz none 0 [] := ⟨rfl, fun h => absurd h (by omega)⟩
theorem Rd.keep (h : Rd w B sz A n xs) (hk : ∀ b o, b < B → w'.cell? ⟨b, o, none⟩ = w.cell? ⟨b, o, none⟩) : Rd w' B sz A n xs :=
  ⟨h.1, fun hn => by
    obtain ⟨b, o, e, hb, hc⟩ := h.2 hn
    exact ⟨b, o, e, hb, fun k x hx j u hu => (hk _ _ hb).trans (hc k x hx j u hu)⟩⟩
theorem Rd.more (h : Rd w B sz A n xs) (hB : B ≤ B') : Rd w B' sz A n xs :=
  ⟨h.1, fun hn => by
    obtain ⟨b, o, e, hb, hc⟩ := h.2 hn
    exact ⟨b, o, e, by omega, hc⟩⟩
theorem Rd.below (h : Rd w B sz A n xs) (hb : Below B w w') : Rd w' B sz A n xs := h.keep fun _ _ hp => hb.cell (p := ⟨_, _, none⟩) hp
theorem Rd.at_ (h : Rd w B sz A n (ps.map enc)) {k : Nat} (hk : k < n) : ∃ b o p, A = some ⟨b, o, none⟩ ∧ b < B ∧ ps[k]? = some p ∧ ∀ j u, (enc p)[j]? = some u → w.cell? ⟨b, o + k * sz + j, none⟩ = some u := by
  obtain ⟨b, o, e, hb, hc⟩ := h.2 (by omega)
  have hl : k < ps.length := by have := h.1; simp at this; omega
  exact ⟨b, o, ps[k], e, hb, by simp [hl], fun j u hu => hc k (enc ps[k]) (by simp [hl]) j u hu⟩
theorem Rd.len (h : Rd w B sz A n (ps.map enc)) : ps.length = n := by have := h.1; simpa using this
end

theorem all_take_succ {α : Type} {l : List α} {P : α → Prop} {k : Nat} {x : α} (h : ∀ y ∈ l.take k, P y) (hx : l[k]? = some x) (hp : P x) : ∀ y ∈ l.take (k + 1), P y := by
  intro y hy
  rw [List.take_add_one, hx] at hy
  rcases List.mem_append.1 hy with h1 | h1
  · exact h y h1
  · simp at h1; exact h1 ▸ hp
theorem all_take_all {α : Type} {l : List α} {P : α → Prop} {n : Nat} (h : ∀ y ∈ l.take n, P y) (hn : l.length = n) : ∀ y ∈ l, P y := by
  rw [List.take_of_length_le (by omega)] at h
  exact h
end Go.Proofs.YtffnpfponnhddaaGreat
namespace Go.Proofs.YtffnpfponnhddaaGreat
open Go.RowKit

theorem addr_add (b o j : Nat) : (⟨b, o, none⟩ : Addr).add j = ⟨b, o + j, none⟩ := by
  unfold Addr.add; split <;> simp_all

section
variable {α : Type} {sz : Nat}
theorem flat_get : ∀ {xs : List (List α)}, (∀ x ∈ xs, x.length = sz) → ∀ {k : Nat} {x : List α} {j : Nat} {u : α}, xs[k]? = some x → x[j]? = some u → xs.flatten[k * sz + j]? = some u
  | [], _, k, x, j, u, h, _ => by simp at h
  | y :: ys, hl, 0, x, j, u, h, hu => by
    simp at h; subst h
    have hj : j < y.length := (List.getElem?_eq_some_iff.1 hu).1
    rw [List.flatten_cons, Nat.zero_mul, Nat.zero_add, List.getElem?_append_left hj]
    exact hu
  | y :: ys, hl, k + 1, x, j, u, h, hu => by
    have hy : y.length = sz := hl y (by simp)
    have ih := flat_get (fun x hx => hl x (by simp [hx])) (xs := ys) (k := k) (by simpa using h) hu
    rw [List.flatten_cons, show (k + 1) * sz + j = y.length + (k * sz + j) by rw [hy, Nat.succ_mul]; omega, List.getElem?_append_right (by omega), Nat.add_sub_cancel_left]
    exact ih
theorem flat_inv : ∀ {xs : List (List α)}, (∀ x ∈ xs, x.length = sz) → ∀ {j : Nat} {u : α}, xs.flatten[j]? = some u → ∃ k x i, j = k * sz + i ∧ xs[k]? = some x ∧ x[i]? = some u
  | [], _, j, u, h => by simp at h
  | y :: ys, hl, j, u, h => by
    have hy : y.length = sz := hl y (by simp)
    rw [List.flatten_cons] at h
    by_cases hj : j < y.length
    · rw [List.getElem?_append_left hj] at h
      exact ⟨0, y, j, by omega, rfl, h⟩
    · rw [List.getElem?_append_right (by omega)] at h
      obtain ⟨k, x, i, he, hx, hi⟩ := flat_inv (fun x hx => hl x (by simp [hx])) h
      exact ⟨k + 1, x, i, by rw [Nat.succ_mul]; omega, by simpa using hx, hi⟩
theorem flat_len : ∀ {xs : List (List α)}, (∀ x ∈ xs, x.length = sz) → xs.flatten.length = xs.length * sz
  | [], _ => by simp
  | y :: ys, hl => by
    rw [List.flatten_cons, List.length_append, flat_len (fun x hx => hl x (by simp [hx])), hl y (by simp), List.length_cons, Nat.succ_mul, Nat.add_comm]
end

/-- A row of structs (sz cells each) of the call's own, from block 'base' on. -/
def Ow (w : World) (base : Nat) (e : TypeId) (sz : Nat) (v : Value) (xs : List (List Value)) : Prop :=
  (∀ x ∈ xs, x.length = sz) ∧ w.ownsRow base e sz v xs.length xs.flatten

section
variable {w w' : World} {base : Nat} {e : TypeId} {sz : Nat} {v : Value} {xs : List (List Value)}
theorem Ow.nil_ (w : World) (base : Nat) (e : TypeId) (sz : Nat) : Ow w base e sz (.slice none 0 0) [] := ⟨by simp, World.ownsRow_nil w base e sz⟩
theorem Ow.form (h : Ow w base e sz v xs) : ∃ A c, v = .slice A xs.length c ∧ xs.length ≤ c ∧ c ≤ maxLen ∧ Rd w w.heap.size sz A xs.length xs := by
  obtain ⟨hl, hown⟩ := h
  rcases hown.2 with ⟨rfl, h0⟩ | ⟨g, cap, cur, rfl, hb, hg, hn, hm, hs, ht⟩
  · have hx : xs = [] := List.eq_nil_of_length_eq_zero h0
    subst hx
    exact ⟨none, 0, rfl, Nat.le_refl _, Nat.zero_le _, Rd.nil_⟩
  · have hlt : g < w.heap.size := (Array.getElem?_eq_some_iff.1 hg).1
    refine ⟨_, cap, rfl, hn, hm, rfl, fun _ => ⟨g, 0, rfl, hlt, fun k x hx j u hu => ?_⟩⟩
    have := hown.cells (g := g) rfl _ u (flat_get hl hx hu)
    rw [addr_add] at this
    simpa using this
theorem Ow.rd {A : Option Addr} {n c : Nat} (h : Ow w base e sz (.slice A n c) xs) : Rd w w.heap.size sz A n xs ∧ xs.length = n ∧ n ≤ c ∧ c ≤ maxLen := by
  obtain ⟨A', c', hv, hn, hm, hr⟩ := h.form
  injection hv with e1 e2 e3
  subst e1; subst e2; subst e3
  exact ⟨hr, rfl, hn, hm⟩
theorem Ow.below (h : Ow w base e sz v xs) (hb : Below w.heap.size w w') : Ow w' base e sz v xs :=
  ⟨h.1, h.2.kept (row := none) ⟨hb.os, hb.tape, hb.output, hb.size, fun k hk _ => hb.block k hk⟩ (by cases hv : v.ownBlock <;> simp)⟩
theorem Ow.block (h : Ow w base e sz v xs) : ∀ k, v.ownBlock = some k → base ≤ k ∧ k < w.heap.size := h.2.lt
theorem Ow.setCell (h : Ow w base e sz v xs) {a : Addr} (ha : a.block < base) (u : Value) : Ow (w.setCell a u) base e sz v xs := ⟨h.1, ownsRow_setCell_below h.2 ha u⟩
end

section
variable {P : Program} (w : World)

theorem run_append_nil_any (base : Nat) (t ty e : TypeId) (i : TypeInfo) (size : Nat) (ht : P.underlying t = some (.slice e)) (hi : P.info? e = some i)
    (v : Value) (n : Nat) (xs : List Value) (hown : w.ownsRow base e size v n xs) (c : Nat) : (Builtin.append_ #[t, t] ty #[v, .slice none 0 c]).run P w = .ok v w := by
  rcases hown.2 with ⟨rfl, rfl⟩ | ⟨g, cap, cur, rfl, _, _, hnc, _⟩
  · simp [Builtin.append_, run_underlying ht, sizeOf, typeInfo, hi, Builtin.lenOf, Builtin.firstCells]
  · simp [Builtin.append_, run_underlying ht, sizeOf, typeInfo, hi, Builtin.lenOf, Builtin.firstCells, hnc, storeCells]

/-- What is known of an element's type. -/
structure ElemInfo (P : Program) (t e : TypeId) (sz bytes : Nat) : Prop where
  slice : P.underlying t = some (.slice e)
  info : ∃ i z, P.info? e = some i ∧ i.zero = some z ∧ i.size = sz ∧ i.bytes = bytes ∧ z.cells.size = sz
  pos : 0 < sz

theorem run_append_rd {base : Nat} {t ty e : TypeId} {sz bytes : Nat} (E : ElemInfo P t e sz bytes)
    {v : Value} {xs : List (List Value)} (hown : Ow w base e sz v xs)
    {B : Nat} {A : Option Addr} {m c : Nat} {ys : List (List Value)} (hr : Rd w B sz A m ys) (hlen : ∀ y ∈ ys, y.length = sz) (h1 : ∀ y ∈ ys, ∀ u ∈ y, u.oneCell' = true)
    (h63 : xs.length + m ≤ maxLen) (hbytes : (xs.length + m) * bytes ≤ 140737488355328) (hbase : base ≤ w.heap.size) :
    ∃ v' w', (Builtin.append_ #[t, t] ty #[v, .slice A m c]).run P w = .ok v' w' ∧ Ow w' base e sz v' (xs ++ ys) ∧ w.grownBy w' v.ownBlock ∧ (v'.ownBlock = v.ownBlock ∨ v'.ownBlock = some w.heap.size) := by
  obtain ⟨i, z, hi, hz, hs, hby, hzs⟩ := E.info
  have hym : ys.length = m := hr.1
  have hall : ∀ x ∈ xs ++ ys, x.length = sz := fun x hx => (List.mem_append.1 hx).elim (hown.1 x) (hlen x)
  by_cases hA : A = none
  · subst hA
    have hm : m = 0 := by
      rcases Nat.eq_zero_or_pos m with h0 | h0
      · exact h0
      · obtain ⟨b, o, h, _⟩ := hr.2 h0; cases h
    subst hm
    have hy : ys = [] := List.eq_nil_of_length_eq_zero hym
    subst hy
    exact ⟨v, w, run_append_nil_any w base t ty e i sz E.slice hi v _ _ hown.2 c, by simpa using hown, World.grownBy.refl w _, .inl rfl⟩
  · obtain ⟨ad, rfl⟩ := Option.ne_none_iff_exists'.1 hA
    have hcells : ∀ j u, ys.flatten[j]? = some u → w.cell? (ad.add j) = some u := by
      intro j u hu
      obtain ⟨k, x, i, he, hx, hi⟩ := flat_inv hlen hu
      have hk : k < ys.length := (List.getElem?_eq_some_iff.1 hx).1
      obtain ⟨b, o, h, _, hc⟩ := hr.2 (by omega)
      injection h with h
      subst h
      rw [addr_add, he, ← Nat.add_assoc]
      exact hc k x hx i u hi
    have hone : ∀ u ∈ ys.flatten, u.oneCell' = true := by
      intro u hu
      obtain ⟨y, hy, hu'⟩ := List.mem_flatten.1 hu
      exact h1 y hy u hu'
    obtain ⟨v', w', hrun, h2, h3, _, h5⟩ := run_append_own_at (P := P) w base t ty e i z sz bytes E.slice hi hz hs hby hzs E.pos v xs.length xs.flatten hown.2 ad m c ys.flatten
      (by rw [flat_len hlen, hym]) hcells hone h63 hbytes hbase
    exact ⟨v', w', hrun, ⟨hall, by rw [List.length_append, hym, List.flatten_append]; exact h2⟩, h3, h5⟩

theorem wp_append_rd {o : Oper} {a : Act} {K : Act → World → Prop} {Q : Exit → Act → World → Prop} (s x : Operand) (t : TypeId)
    (ho : o.op = .call { callee := .builtin .append, args := #[s, x], argTypes := #[t, t] }) {base : Nat} {e : TypeId} {sz bytes : Nat} (E : ElemInfo P t e sz bytes)
    {v : Value} {xs : List (List Value)} (hs : a.eval s = v) (hown : Ow w base e sz v xs)
    {B : Nat} {A : Option Addr} {m c : Nat} {ys : List (List Value)} (hx : a.eval x = .slice A m c) (hr : Rd w B sz A m ys) (hlen : ∀ y ∈ ys, y.length = sz) (h1 : ∀ y ∈ ys, ∀ u ∈ y, u.oneCell' = true)
    (h63 : xs.length + m ≤ maxLen) (hbytes : (xs.length + m) * bytes ≤ 140737488355328) (hbase : base ≤ w.heap.size)
    (h : ∀ A' n' c' w', n' = xs.length + m → Ow w' base e sz (.slice A' n' c') (xs ++ ys) → w.grownBy w' v.ownBlock → ((Value.slice A' n' c').ownBlock = v.ownBlock ∨ (Value.slice A' n' c').ownBlock = some w.heap.size) → K (a.put o.dst (.slice A' n' c')) w') : o.wp P a w K Q := by
  obtain ⟨v', w', hrun, h2, h3, h4⟩ := run_append_rd (P := P) (ty := o.type) (c := c) w E hown hr hlen h1 h63 hbytes hbase
  obtain ⟨A', c', hv, _, _, _⟩ := h2.form
  subst hv
  unfold Oper.wp execOp
  simp only [ho, resolve, invoke, builtin, Sem.run_bind, Sem.run_pure, Result.andThen_ok, List.map_toArray, List.map_cons, List.map_nil, hs, hx, hrun]
  exact h _ _ _ w' (by rw [List.length_append, hr.1]) h2 h3 h4

/-- append in a region that keeps the text's order. -/
theorem wpList_append_rd {ops : Array Oper} {rest : List Oper} {o : Oper} {a : Act} {Q : Exit → Act → World → Prop} (hgd : o.guard = none) (s x : Operand) (t : TypeId)
    (ho : o.op = .call { callee := .builtin .append, args := #[s, x], argTypes := #[t, t] }) {base : Nat} {e : TypeId} {sz bytes : Nat} (E : ElemInfo P t e sz bytes)
    {v : Value} {xs : List (List Value)} (hs : a.eval s = v) (hown : Ow w base e sz v xs)
    {B : Nat} {A : Option Addr} {m c : Nat} {ys : List (List Value)} (hx : a.eval x = .slice A m c) (hr : Rd w B sz A m ys) (hlen : ∀ y ∈ ys, y.length = sz) (h1 : ∀ y ∈ ys, ∀ u ∈ y, u.oneCell' = true)
    (h63 : xs.length + m ≤ maxLen) (hbytes : (xs.length + m) * bytes ≤ 140737488355328) (hbase : base ≤ w.heap.size)
    (h : ∀ A' n' c' w', n' = xs.length + m → Ow w' base e sz (.slice A' n' c') (xs ++ ys) → w.grownBy w' v.ownBlock → ((Value.slice A' n' c').ownBlock = v.ownBlock ∨ (Value.slice A' n' c').ownBlock = some w.heap.size) → wpList P ops Q rest (a.put o.dst (.slice A' n' c')) w') : wpList P ops Q (o :: rest) a w :=
  wpList_plain hgd fun _ hK => wp_append_rd w s x t ho E hs hown hx hr hlen h1 h63 hbytes hbase fun A' n' c' w' h1 h2 h3 h4 => hK _ _ (h A' n' c' w' h1 h2 h3 h4)

/-- append in a region that draws its order. -/
theorem step_append_rd {ops : Array Oper} {o : Oper} {a : Act} {K : Act → World → Prop} {Q : Exit → Act → World → Prop} {R : Prop} (hgd : o.guard = none) (s x : Operand) (t : TypeId)
    (ho : o.op = .call { callee := .builtin .append, args := #[s, x], argTypes := #[t, t] }) {base : Nat} {e : TypeId} {sz bytes : Nat} (E : ElemInfo P t e sz bytes)
    {v : Value} {xs : List (List Value)} (hs : a.eval s = v) (hown : Ow w base e sz v xs)
    {B : Nat} {A : Option Addr} {m c : Nat} {ys : List (List Value)} (hx : a.eval x = .slice A m c) (hr : Rd w B sz A m ys) (hlen : ∀ y ∈ ys, y.length = sz) (h1 : ∀ y ∈ ys, ∀ u ∈ y, u.oneCell' = true)
    (h63 : xs.length + m ≤ maxLen) (hbytes : (xs.length + m) * bytes ≤ 140737488355328) (hbase : base ≤ w.heap.size)
    (h : ∀ A' n' c' w', n' = xs.length + m → Ow w' base e sz (.slice A' n' c') (xs ++ ys) → w.grownBy w' v.ownBlock → ((Value.slice A' n' c').ownBlock = v.ownBlock ∨ (Value.slice A' n' c').ownBlock = some w.heap.size) → K (a.put o.dst (.slice A' n' c')) w') :
    if Region.wanted o (yielded ops a.tmps) = true then Oper.wp P o a w K Q else R := by
  have hw : Region.wanted o (yielded ops a.tmps) = true := by simp [Region.wanted, hgd]
  rw [if_pos hw]
  exact wp_append_rd w s x t ho E hs hown hx hr hlen h1 h63 hbytes hbase h
end
end Go.Proofs.YtffnpfponnhddaaGreat
namespace Go.Proofs.YtffnpfponnhddaaGreat
open Go.RowKit

/-- Below block n the world w is as W was: as a fact and as a rule. -/
abbrev KQ (n : Nat) (W w : World) : Prop := Below n W w ∧ ∀ b o, b < n → w.cell? ⟨b, o, none⟩ = W.cell? ⟨b, o, none⟩
theorem kq {n : Nat} {W w : World} (h : Below n W w) : KQ n W w := ⟨h, fun b _ hlt => h.cell (p := ⟨b, _, none⟩) hlt⟩
theorem kq_drew {n : Nat} {W w : World} (h : Below n W w) : KQ n W w.drew := kq h.drew
theorem kq_alloc {n : Nat} {W w : World} (h : KQ n W w) (hn : n ≤ W.heap.size) (x : Obj) : KQ n W (w.alloc x) := kq (h.1.alloc (Nat.le_trans hn h.1.size) x)
theorem kq_call {n : Nat} {W w w1 : World} (h : KQ n W w) (hn : n ≤ W.heap.size) (hb : Below w.heap.size w w1) : KQ n W w1 := kq (h.1.trans (hb.mono (Nat.le_trans hn h.1.size)))
theorem kq_set {n : Nat} {W w : World} (h : KQ n W w) {p : Addr} (hp : n ≤ p.block) (u : Value) : KQ n W (w.setCell p u) := kq (h.1.setCell hp u)
theorem kq_grown {n : Nat} {W w w1 : World} {row : Option Nat} (h : KQ n W w) (hn : n ≤ W.heap.size) (hg : w.grownBy w1 row) (hr : ∀ k, row = some k → n ≤ k) : KQ n W w1 :=
  kq (h.1.grown hg (Nat.le_trans hn h.1.size) hr)
theorem kq_rd {n B sz l : Nat} {W w : World} {A : Option Addr} {xs : List (List Value)} (hr : Rd W B sz A l xs) (hB : B ≤ n) (h : KQ n W w) : Rd w B sz A l xs := hr.below (h.1.mono hB)
theorem Ow.made0 (w : World) {base : Nat} (e : TypeId) (sz : Nat) (hb : base ≤ w.heap.size) : Ow (w.alloc (.cells #[] e)) base e sz (.slice (some ⟨w.heap.size, 0, none⟩) 0 0) [] :=
  ⟨by simp, World.ownsRow_made w #[] 0 hb (by decide) (by simp)⟩
theorem Ow.made0d (w : World) {base g : Nat} (e : TypeId) (sz : Nat) (hb : base ≤ w.heap.size) (hg : g = w.heap.size) : Ow (w.alloc (.cells #[] e)).drew base e sz (.slice (some ⟨g, 0, none⟩) 0 0) [] := by
  subst hg; exact Ow.made0 w e sz hb
/-- A block that an append leaves alone: its cells, and that none is frozen. -/
theorem grown_cells {w w1 : World} {row : Option Nat} {b : Nat} {cs : Array Value} {t : TypeId} (hg : w.grownBy w1 row) (hb : w.heap[b]? = some (.cells cs t (0, 0))) (hne : some b ≠ row) :
    w1.heap[b]? = some (.cells cs t (0, 0)) ∧ (∀ o, w1.cell? ⟨b, o, none⟩ = cs[o]?) ∧ ∀ o, w1.frozen? ⟨b, o, none⟩ = false := by
  have h := (hg.block b (Array.getElem?_eq_some_iff.1 hb).1 hne).trans hb
  exact ⟨h, fun o => by simp [World.cell?, h], fun o => by simp [World.frozen?, h]⟩
theorem heap_at (w : World) (o : Obj) {k : Nat} (h : k = w.heap.size) : (w.alloc o).heap[k]? = some o := by subst h; exact heap_alloc_new w o
theorem heap_old {w : World} {x : Option Obj} (o : Obj) {k : Nat} (hk : k < w.heap.size) (h : w.heap[k]? = x) : (w.alloc o).heap[k]? = x := (Below.heap_alloc w o k hk).trans h
theorem heap_drew {w : World} {x : Option Obj} {k : Nat} (h : w.heap[k]? = x) : w.drew.heap[k]? = x := h
theorem blk_set {w : World} {g : Nat} {cs : Array Value} {t : TypeId} (h : w.heap[g]? = some (.cells cs t (0, 0))) (i : Nat) (u : Value) :
    (w.setCell ⟨g, i, none⟩ u).heap[g]? = some (.cells (cs.setIfInBounds i u) t (0, 0)) := by
  simp [World.setCell, Array.getElem?_modify, h]
theorem blk_cell {w : World} {g : Nat} {cs : Array Value} {t : TypeId} (h : w.heap[g]? = some (.cells cs t (0, 0))) (o : Nat) : w.cell? ⟨g, o, none⟩ = cs[o]? := by simp [World.cell?, h]
theorem blk_frozen {w : World} {g : Nat} {cs : Array Value} {t : TypeId} (h : w.heap[g]? = some (.cells cs t (0, 0))) (o : Nat) : w.frozen? ⟨g, o, none⟩ = false := by simp [World.frozen?, h]
theorem blk_lt {w : World} {g : Nat} {x : Obj} (h : w.heap[g]? = some x) : g < w.heap.size := (Array.getElem?_eq_some_iff.1 h).1
theorem blk_below {w w' : World} {g : Nat} {x : Obj} (h : w.heap[g]? = some x) (hb : Below w.heap.size w w') : w'.heap[g]? = some x := (hb.block g (blk_lt h)).trans h

theorem Ow.base {w : World} {base base' : Nat} {e : TypeId} {sz : Nat} {v : Value} {xs : List (List Value)} (h : Ow w base e sz v xs) (hb : base' ≤ base) : Ow w base' e sz v xs := by
  refine ⟨h.1, h.2.1, ?_⟩
  rcases h.2.2 with h2 | ⟨g, cap, cur, hv, hg, r⟩
  · exact .inl h2
  · exact .inr ⟨g, cap, cur, hv, Nat.le_trans hb hg, r⟩
/-- Two rows of unlike element types: the one stays where the other is appended to. -/
theorem Ow.other {w w' : World} {b1 b2 : Nat} {e1 e2 : TypeId} {s1 s2 : Nat} {v1 v2 : Value} {xs ys : List (List Value)} (h : Ow w b1 e1 s1 v1 xs) (h2 : Ow w b2 e2 s2 v2 ys) (hne : e1 ≠ e2)
    (hg : w.grownBy w' v2.ownBlock) : Ow w' b1 e1 s1 v1 xs := by
  refine ⟨h.1, h.2.kept hg ?_⟩
  rcases h.2.2 with ⟨rfl, _⟩ | ⟨g, cap, cur, rfl, _, hh, _⟩
  · exact .inl rfl
  · refine .inr ?_
    rcases h2.2.2 with ⟨rfl, _⟩ | ⟨g2, cap2, cur2, rfl, _, hh2, _⟩
    · simp [Value.ownBlock]
    · simp only [Value.ownBlock, ne_eq, Option.some.injEq]
      rintro rfl
      rw [hh] at hh2
      injection hh2 with hh2
      injection hh2 with _ ht
      exact hne ht
/-- One new element, laid in a block of its own. -/
theorem Rd.one' {w : World} {e : TypeId} {sz g : Nat} (x : List Value) (hg : g = w.heap.size) : Rd (w.alloc (.cells x.toArray e)) (g + 1) sz (some ⟨g, 0, none⟩) 1 [x] := by
  subst hg
  refine ⟨rfl, fun _ => ⟨_, 0, rfl, Nat.lt_succ_self _, fun k y hy j u hu => ?_⟩⟩
  obtain rfl : k = 0 := by have := (List.getElem?_eq_some_iff.1 hy).1; simp at this; omega
  simp only [List.getElem?_cons_zero, Option.some.injEq] at hy
  subst hy
  have := heap_at w (.cells x.toArray e) rfl
  rw [blk_cell (cs := x.toArray) (t := e) this]
  simpa using hu
/-- The same behind a draw. -/
theorem Rd.one {w : World} {e : TypeId} {sz g : Nat} (x : List Value) (hg : g = w.heap.size) : Rd (w.alloc (.cells x.toArray e)).drew (g + 1) sz (some ⟨g, 0, none⟩) 1 [x] := by
  subst hg
  refine ⟨rfl, fun _ => ⟨_, 0, rfl, Nat.lt_succ_self _, fun k y hy j u hu => ?_⟩⟩
  obtain rfl : k = 0 := by have := (List.getElem?_eq_some_iff.1 hy).1; simp at this; omega
  simp only [List.getElem?_cons_zero, Option.some.injEq] at hy
  subst hy
  have := heap_at w (.cells x.toArray e) rfl
  show (w.alloc (.cells x.toArray e)).cell? _ = _
  rw [blk_cell (cs := x.toArray) (t := e) this]
  simpa using hu
/-- A store into a block of another element type. -/
theorem Ow.set_blk {w : World} {base : Nat} {e t : TypeId} {sz g : Nat} {v : Value} {xs : List (List Value)} {cs : Array Value} (h : Ow w base e sz v xs) (hg : w.heap[g]? = some (.cells cs t (0, 0))) (hne : e ≠ t) (i : Nat) (u : Value) :
    Ow (w.setCell ⟨g, i, none⟩ u) base e sz v xs := by
  refine ⟨h.1, h.2.1, ?_⟩
  rcases h.2.2 with h2 | ⟨g', cap, cur, hv, hb, hh, r⟩
  · exact .inl h2
  · refine .inr ⟨g', cap, cur, hv, hb, ?_, r⟩
    rw [Below.heap_setCell _ _ _ _ (fun e => by
      simp only at e
      subst e
      rw [hg] at hh
      injection hh with hh
      injection hh with _ ht
      exact hne ht.symm)]
    exact hh
/-- Only block g, of another element type, has turned. -/
theorem Ow.other_blk {w w' : World} {base : Nat} {e t : TypeId} {sz g : Nat} {v : Value} {xs : List (List Value)} {cs : Array Value} (h : Ow w base e sz v xs) (hg : w.heap[g]? = some (.cells cs t (0, 0))) (hne : e ≠ t)
    (hgr : w.grownBy w' (some g)) : Ow w' base e sz v xs := by
  refine ⟨h.1, h.2.kept hgr ?_⟩
  rcases h.2.2 with ⟨rfl, _⟩ | ⟨g', cap, cur, rfl, _, hh, _⟩
  · exact .inl rfl
  · refine .inr ?_
    simp only [Value.ownBlock, ne_eq, Option.some.injEq]
    rintro rfl
    rw [hg] at hh
    injection hh with hh
    injection hh with _ ht
    exact hne ht.symm
theorem grown_set {a w : World} {g : Nat} (h : a.grownBy w (some g)) (i : Nat) (u : Value) : a.grownBy (w.setCell ⟨g, i, none⟩ u) (some g) :=
  ⟨h.os, h.tape, h.output, by simpa [World.setCell] using h.size, fun k hk hne => (Below.heap_setCell w _ u k (fun e => hne (by simp only at e; rw [e]))).trans (h.block k hk hne)⟩
end Go.Proofs.YtffnpfponnhddaaGreat
