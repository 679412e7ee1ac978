/- A range over an iterator that keeps its state in cells of its own (blocks Z); the body never leaves the loop. append onto a full slice that came in: always a new row. Laws of no program: copy into a row of elements of any number of cells; what an insertion makes of a row. -/
import Derived.RangeFuncNested
import Derived.RangeFuncBound
import Derived.RangeFuncCalls
import Derived.RangeFuncLeaves
import Derived.OwnWalkIn
import Derived.Test.YtffnpfponnhddaaGreatGa
import Derived.ArgAppend
import Derived.Laws.CopyOwn
import Derived.Laws.CopyRow
import Derived.Lib.AppendZerosOnto
import Derived.Lib.Overlaps
import Derived.Laws.Externs
namespace Go.Proofs.YtffnpfponnhddaaGreat
open Go.RowKit

/-- What a step of such an iterator may turn: new blocks, and one of its own. -/
def AbidesZ {β : Type} (Z : Nat → Prop) (J : β → World → Prop) : Prop :=
  ∀ s W W' row, J s W → W.grownBy W' row → (∀ r, row = some r → Z r) → J s W'
/-- The iterator hands ys out, one by one, to whatever body that keeps Kp. -/
def SeqZ {α : Type} (F : Fence) (n : Nat) (P : Program) (g : Nat) (lb : Array Value) (encs : α → Array Value) (Z : Nat → Prop) (Kp : World → World → Prop) (ys : List α) (w : World) : Prop :=
  ∀ (l : Nat) (J : List α → World → Prop) (W : World), Below w.heap.size w W → AbidesZ Z J →
    (∀ pre x W1, J pre W1 → pre ++ [x] <+: ys → YieldAt F (n - 1) P l (encs x) W1 fun e W' => e = .returned (.bool true) ∧ J (pre ++ [x]) W' ∧ Kp W1 W') →
    J [] W → CallsIn F n P g (#[.func (.yield l) #[] #[]] ++ lb) W fun e W' => (∃ v, e = .returned v) ∧ J ys W'

variable {F : Fence} {n : Nat} {P : Program} {w : World}
theorem wpIn_rangeFunc_Z {α : Type} {g : Operand} {ps : Array Tmp} {assign body : Code} {Q : Exit → Act → World → Prop} {a : Act} {w : World}
    (hro : F.round = none) (h1 : 1 ≤ n) {gf : Nat} {lb : Array Value} (hg : a.eval g = .func (.func gf) #[] lb) (hFg : F.fn gf) (eg : ∀ args w, (callFunc gf args).run P w = .ok (.enter gf args) w)
    {encs : α → Array Value} {Z : Nat → Prop} {Kp : World → World → Prop} {ys : List α} {w0 : World} (hseq : SeqZ F (n - 1) P gf lb encs Z Kp ys w0)
    (hKt : ∀ {A B C : World}, Kp A B → Kp B C → Kp A C) (hKb : ∀ (W : World) (l : Nat) (o o' : Obj), w.heap.size ≤ l → W.heap[l]? = some o → o.isCells = false → o.isWalk = false → Kp W (W.putObj l o')) (hb0 : Below w0.heap.size w0 w) (hps : ∀ x, (encs x).size = ps.size)
    (I : List α → World → Prop) (hI : OwnFrom w.heap.size I) (hIZ : AbidesZ Z I) (hZ : ∀ r, Z r → r < w.heap.size) (h0 : I [] w) (Ax : α → Act → World → Prop) (hAx : ∀ x a', OwnFrom w.heap.size (fun (_ : Unit) W => Ax x a' W))
    (hassign : ∀ (l : Nat) (pre : List α) (x : α) (W : World) (K : Act → World → Prop), I pre W → (∀ a' W', KeepsFrom w.heap.size W W' → Kp W W' → I pre W' → Ax x a' W' → K a' W') →
      assign.wpIn (F.inRound l) (n - 1 - 1) P (Exit.then K (fun _ _ _ => False)) { tmps := (ps.zip (encs x)).foldl (fun t (p, v) => t.setIfInBounds p v) a.tmps, defers := [] } W)
    (hbody : ∀ (l : Nat) (pre : List α) (x : α) (a' : Act) (W : World), w.heap.size ≤ l → (∃ r, W.heap[l]? = some (.loop r)) → I pre W → Ax x a' W → pre ++ [x] <+: ys → body.wpIn (F.inRound l) (n - 1 - 1) P (ownPostG w.heap.size Kp I (fun _ _ _ => False) (pre ++ [x]) W) a' W)
    (hdone : ∀ (D : Nat) (W : World), w.heap.size ≤ D → I ys W → W.heap[D]? = some (.deferred (some [])) → Q .normal { a with defers := { target := .collected D, args := #[] } :: a.defers } W) :
    (Code.rangeFunc g ps assign body).wpIn F n P Q a w := by
  refine wpIn_rangeFunc ?_
  intro fn hfn
  rw [hro]
  obtain ⟨rec, hrec⟩ : ∃ rec : LoopState → Option Code → Loop, rec = fun st pe => { state := st, pending := pe, fn, tmps := a.tmps, params := ps, assign, body, defers := w.heap.size } := ⟨_, rfl⟩
  obtain ⟨W1, hW1⟩ : ∃ W1, (w.alloc (.deferred (some []))).alloc (.loop (rec .ready none)) = W1 := ⟨_, rfl⟩
  have hL1 : W1.heap[w.heap.size + 1]? = some (.loop (rec .ready none)) := by
    rw [← hW1]; have := World.alloc_heap_new (w.alloc (.deferred (some []))) (.loop (rec .ready none)); rwa [World.size_alloc] at this
  have hK1 : W1.heap[w.heap.size]? = some (.deferred (some [])) := by
    rw [← hW1]; exact (Below.heap_alloc _ _ _ (by simp)).trans (World.alloc_heap_new w _)
  have hI1 : I [] W1 := by rw [← hW1]; exact hI.alloc _ (hI.alloc _ h0)
  have hb1 : Below w0.heap.size w0 W1 := by
    rw [← hW1]; exact hb0.trans ((((Below.refl _ w).alloc (Nat.le_refl _) _).alloc (by simp) _).mono hb0.size)
  have hs1 : W1.heap.size = w.heap.size + 2 := by rw [← hW1]; simp
  refine ⟨w.heap.size + 1, [{ target := .collected w.heap.size, args := #[] }], W1, { target := .fn (.func gf) lb, args := #[.func (.yield (w.heap.size + 1)) #[] #[]] }, W1, gf,
    #[.func (.yield (w.heap.size + 1)) #[] #[]] ++ lb, W1, ?_, ?_, ?_, ?_, fun _ => h1, ?_⟩
  · rw [← hW1, hrec]; exact run_enterLoop_outer _ _ _ _ _
  · simp only [resolve, hg]
    simp [go_sem]
  · intro f' hf'; simp [Target.leads] at hf'; subst hf'; exact hFg
  · simp [invoke, go_sem, eg]
  · refine (hseq (w.heap.size + 1)
      (fun pre W => I pre W ∧ W.heap[w.heap.size + 1]? = some (.loop (rec .ready none)) ∧ W.heap[w.heap.size]? = some (.deferred (some [])))
      W1 hb1
      (fun s A B row hs hg' hr => ⟨hIZ s A B row hs.1 hg' hr,
        (hg'.block _ (Array.getElem?_eq_some_iff.1 hs.2.1).1 (fun e => by have := hZ _ (hr _ e.symm); omega)).trans hs.2.1,
        (hg'.block _ (Array.getElem?_eq_some_iff.1 hs.2.2).1 (fun e => by have := hZ _ (hr _ e.symm); omega)).trans hs.2.2⟩)
      ?_ ⟨hI1, hL1, hK1⟩).mono ?_
    · -- one round
      rintro pre x W ⟨hi, hl, hk⟩ hlen
      have hlt : w.heap.size + 1 < W.heap.size := (Array.getElem?_eq_some_iff.1 hl).1
      have hy := run_yield (P := P) (args := encs x) hl (by rw [hrec]; exact hps x)
      rw [hrec] at hy
      refine ⟨fn, _, assign, body, hy, roundIn_of_wpIn hfn (hassign _ pre x W _ hi ?_)⟩
      clear hy
      intro a' Wa hkfa hkpa hia hax
      replace hl := hkfa.same _ _ (by omega) hl rfl
      replace hk := hkfa.same _ _ (Nat.le_refl _) hk rfl
      replace hlt : w.heap.size + 1 < Wa.heap.size := (Array.getElem?_eq_some_iff.1 hl).1
      have hl2 : (Wa.putObj (w.heap.size + 1) (.loop { rec .ready none with state := .busy })).heap[w.heap.size + 1]? = some (.loop { rec .ready none with state := .busy }) := World.putObj_heap_same hlt
      have hk2 : (Wa.putObj (w.heap.size + 1) (.loop { rec .ready none with state := .busy })).heap[w.heap.size]? = some (.deferred (some [])) := (World.putObj_heap_other (by omega)).trans hk
      have hw2 : Kp Wa (Wa.putObj (w.heap.size + 1) (.loop { rec .ready none with state := .busy })) := hKb _ _ _ _ (by omega) hl rfl rfl
      refine ⟨_, run_beginRound hl (by rw [hrec]), ?_⟩
      refine wpIn_mono (hbody _ pre x a' _ (by omega) ⟨_, hl2⟩ (hI.putObj _ hia (by omega) hl rfl) ((hAx x a').putObj (s := ()) _ hax (by omega) hl rfl) hlen) ?_
      rintro e a3 W3 hp
      cases e with
      | normal =>
        obtain ⟨hk3, hkp3, hi3⟩ := hp
        have hl3 := hk3.same _ _ (by omega) hl2 rfl
        have hr := run_endRound (P := P) none hl3
        rw [hrec] at hr hl3
        refine ⟨_, _, hr, rfl, ⟨?_, ?_, ?_⟩, ?_⟩
        · exact hI.putObj _ hi3 (by omega) hl3 rfl
        · rw [hrec]; exact World.putObj_heap_same (Array.getElem?_eq_some_iff.1 hl3).1
        · exact (World.putObj_heap_other (by omega)).trans (hk3.same _ _ (Nat.le_refl _) hk2 rfl)
        · exact hKt hkpa (hKt (hKt hw2 hkp3) (hKb _ _ _ _ (by omega) hl3 rfl rfl))
      | ret => exact hp.2.elim
      | exit id => exact hp.2.elim
      | goto t => exact hp.2.elim
      | panic ch => exact hp.elim
      | outgrown => exact hp.elim
    · rintro e W2 ⟨⟨v, rfl⟩, hi, hl, hk⟩
      exact ⟨none, _, by have := run_endLoop (P := P) hl (by rw [hrec]; simp); rw [hrec] at this; exact this, hdone _ _ (Nat.le_refl _) (hI.putObj _ hi (by omega) hl rfl) ((World.putObj_heap_other (by omega)).trans hk)⟩

/-- append of a list that is read to a row of one's own, inside a fence. -/
theorem wpListIn_append_rd {F : Fence} {n : Nat} {P : Program} (w : World) {ops : Array Oper} {rest : List Oper} {o : Oper} {a : Act} {Q : Exit → Act → World → Prop} (hgd : o.guard = none) (s x : Operand) (t : TypeId)
    (ho : o.op = .call { callee := .builtin .append, args := #[s, x], argTypes := #[t, t] }) {base : Nat} {e : TypeId} {sz bytes : Nat} (E : ElemInfo P t e sz bytes)
    {v : Value} {xs : List (List Value)} (hs : a.eval s = v) (hown : Ow w base e sz v xs)
    {B : Nat} {A : Option Addr} {m c : Nat} {ys : List (List Value)} (hx : a.eval x = .slice A m c) (hr : Rd w B sz A m ys) (hlen : ∀ y ∈ ys, y.length = sz) (h1 : ∀ y ∈ ys, ∀ u ∈ y, u.oneCell' = true)
    (h63 : xs.length + m ≤ maxLen) (hbytes : (xs.length + m) * bytes ≤ 140737488355328) (hbase : base ≤ w.heap.size)
    (h : ∀ A' n' c' w', n' = xs.length + m → Ow w' base e sz (.slice A' n' c') (xs ++ ys) → w.grownBy w' v.ownBlock → ((Value.slice A' n' c').ownBlock = v.ownBlock ∨ (Value.slice A' n' c').ownBlock = some w.heap.size) → wpListIn F n P ops Q rest (a.put o.dst (.slice A' n' c')) w') : wpListIn F n P ops Q (o :: rest) a w := by
  refine wpListIn_plain hgd fun K hK' => ?_
  obtain ⟨v', w', hrun, h2, h3, h4⟩ := run_append_rd (P := P) (ty := o.type) (c := c) w E hown hr hlen h1 h63 hbytes hbase
  obtain ⟨A', c', hv, _, _, _⟩ := h2.form
  subst hv
  have hN : (xs ++ ys).length = xs.length + m := by rw [List.length_append, hr.1]
  rw [hN] at hrun h2 h4
  unfold Oper.wpIn
  refine ⟨?_, ?_⟩
  · simp [Oper.about, ho, resolve, Target.leads, Sem.run_pure]
  · rw [Oper.semAt_plain F _ _ (by rw [ho]; intro c hc'; cases hc')]
    simp [execOp, ho, resolve, invoke, builtin, hs, hx, hrun, Result.andThen]
    exact hK' _ _ (h _ _ _ w' rfl h2 h3 h4)
theorem Ow.kept {w w' : World} {base : Nat} {e : TypeId} {sz : Nat} {v : Value} {xs : List (List Value)} {row : Option Nat} (h : Ow w base e sz v xs) (hg : w.grownBy w' row) (hne : ∀ g cs t, v.ownBlock = some g → base ≤ g → w.heap[g]? = some (.cells cs t (0, 0)) → row ≠ some g) : Ow w' base e sz v xs := by
  refine ⟨h.1, h.2.kept hg ?_⟩
  rcases h.2.2 with ⟨rfl, _⟩ | ⟨g, cap, cur, rfl, hb, hh, _⟩
  · exact .inl rfl
  · exact .inr fun e' => hne g _ _ rfl hb hh e'.symm
/-- What a round of the loop over merge keeps: all blocks below N but one. -/
structure KpB (N B : Nat) (W W' : World) : Prop where
  size : W.heap.size ≤ W'.heap.size
  block : ∀ k, k < N → k ≠ B → W'.heap[k]? = W.heap[k]?
theorem KpB.trans {N B : Nat} {a b c : World} (h : KpB N B a b) (k : KpB N B b c) : KpB N B a c := ⟨Nat.le_trans h.size k.size, fun i h1 h2 => (k.block i h1 h2).trans (h.block i h1 h2)⟩
theorem KpB.of_below {N B : Nat} {a b : World} (h : Below N a b) : KpB N B a b := ⟨h.size, fun i h1 _ => h.block i h1⟩
theorem Rd.kp {N B n0 sz n : Nat} {w w' : World} {A : Option Addr} {xs : List (List Value)} (h : Rd w n0 sz A n xs) (hk : KpB N B w w') (h1 : n0 ≤ N) (h2 : n0 ≤ B) : Rd w' n0 sz A n xs :=
  h.keep fun b o hb => World.cell?_of_block (a := ⟨b, o, none⟩) (hk.block b (by omega) (by omega))
end Go.Proofs.YtffnpfponnhddaaGreat
namespace Go.Proofs.YtffnpfponnhddaaGreat
open Go.RowKit

section
variable {P : Program} (w : World)
theorem run_append_full {t ty e : TypeId} {sz bytes : Nat} (E : ElemInfo P t e sz bytes)
    {B0 : Nat} {A0 : Option Addr} {n : Nat} {xs : List (List Value)} (hr0 : Rd w B0 sz A0 n xs) (hlen0 : ∀ y ∈ xs, y.length = sz)
    {B : Nat} {A : Option Addr} {m c : Nat} {ys : List (List Value)} (hr : Rd w B sz A m ys) (hm : 0 < m) (hlen : ∀ y ∈ ys, y.length = sz) (h1 : ∀ y ∈ ys, ∀ u ∈ y, u.oneCell' = true)
    (h63 : n + m ≤ maxLen) (hbytes : (n + m) * bytes ≤ 140737488355328) :
    ∃ v' w', (Builtin.append_ #[t, t] ty #[.slice A0 n n, .slice A m c]).run P w = .ok v' w' ∧ Ow w' w.heap.size e sz v' (xs ++ ys) ∧ w.grownBy w' none := by
  obtain ⟨i, z, hi, hz, hs, hby, hzs⟩ := E.info
  have hxn : xs.length = n := hr0.1
  have hym : ys.length = m := hr.1
  have hall : ∀ x ∈ xs ++ ys, x.length = sz := fun x hx => (List.mem_append.1 hx).elim (hlen0 x) (hlen x)
  have flat : ∀ {B : Nat} {ad : Addr} {k : Nat} {zs : List (List Value)}, Rd w B sz (some ad) k zs → (∀ y ∈ zs, y.length = sz) → ∀ j u, zs.flatten[j]? = some u → w.cell? (ad.add j) = some u := by
    intro B ad k zs hrz hlz j u hu
    obtain ⟨k', x, i, he, hx, hi⟩ := flat_inv hlz hu
    have hk : k' < zs.length := (List.getElem?_eq_some_iff.1 hx).1
    obtain ⟨b, o, h, _, hc⟩ := hrz.2 (by have := hrz.1; omega)
    injection h with h
    subst h
    rw [addr_add, he, ← Nat.add_assoc]
    exact hc k' x hx i u hi
  obtain ⟨b, o, hA, _, _⟩ := hr.2 hm
  subst hA
  have hone : ∀ u ∈ ys.flatten, u.oneCell' = true := by
    intro u hu
    obtain ⟨y, hy, hu'⟩ := List.mem_flatten.1 hu
    exact h1 y hy u hu'
  cases A0 with
  | some b0 =>
    obtain ⟨v', w', hrun, r1, r2⟩ := run_append_arg_grows (P := P) w t ty e i z sz bytes E.slice hi hz hs hby hzs E.pos b0 n n xs.flatten (by rw [flat_len hlen0, hxn]) (flat hr0 hlen0) ⟨b, o, none⟩ m c ys.flatten
      (by rw [flat_len hlen, hym]) (flat hr hlen) (by omega) h63 hbytes
    exact ⟨v', w', hrun, ⟨hall, by rw [List.length_append, hxn, hym, List.flatten_append]; exact r1⟩, r2⟩
  | none =>
    have hn : n = 0 := by
      rcases Nat.eq_zero_or_pos n with h | h
      · exact h
      · obtain ⟨_, _, h', _⟩ := hr0.2 h; cases h'
    subst hn
    obtain rfl : xs = [] := List.eq_nil_of_length_eq_zero hxn
    obtain ⟨v', w', hrun, r1, r2, _⟩ := run_append_rd (P := P) (ty := ty) (c := c) (base := w.heap.size) w E (Ow.nil_ w w.heap.size e sz) hr hlen h1 (by simpa using h63) (by simpa using hbytes) (Nat.le_refl _)
    exact ⟨v', w', hrun, r1, by simpa [Value.ownBlock] using r2⟩
theorem wp_append_full {o : Oper} {a : Act} {K : Act → World → Prop} {Q : Exit → Act → World → Prop} (s x : Operand) (t : TypeId)
    (ho : o.op = .call { callee := .builtin .append, args := #[s, x], argTypes := #[t, t] }) {e : TypeId} {sz bytes : Nat} (E : ElemInfo P t e sz bytes)
    {B0 : Nat} {A0 : Option Addr} {n : Nat} {xs : List (List Value)} (hs : a.eval s = .slice A0 n n) (hr0 : Rd w B0 sz A0 n xs) (hlen0 : ∀ y ∈ xs, y.length = sz)
    {B : Nat} {A : Option Addr} {m c : Nat} {ys : List (List Value)} (hx : a.eval x = .slice A m c) (hr : Rd w B sz A m ys) (hm : 0 < m) (hlen : ∀ y ∈ ys, y.length = sz) (h1 : ∀ y ∈ ys, ∀ u ∈ y, u.oneCell' = true)
    (h63 : n + m ≤ maxLen) (hbytes : (n + m) * bytes ≤ 140737488355328)
    (h : ∀ A' n' c' w', n' = n + m → Ow w' w.heap.size e sz (.slice A' n' c') (xs ++ ys) → w.grownBy w' none → K (a.put o.dst (.slice A' n' c')) w') : o.wp P a w K Q := by
  obtain ⟨v', w', hrun, h2, h3⟩ := run_append_full (P := P) (ty := o.type) (c := c) w E hr0 hlen0 hr hm hlen h1 h63 hbytes
  obtain ⟨A', c', hv, _, _, _⟩ := h2.form
  subst hv
  unfold Oper.wp execOp
  simp only [ho, resolve, invoke, builtin, Sem.run_bind, Sem.run_pure, Result.andThen_ok, List.map_toArray, List.map_cons, List.map_nil, hs, hx, hrun]
  exact h _ _ _ w' (by rw [List.length_append, hr0.1, hr.1]) h2 h3
theorem wpList_append_full {ops : Array Oper} {rest : List Oper} {o : Oper} {a : Act} {Q : Exit → Act → World → Prop} (hgd : o.guard = none) (s x : Operand) (t : TypeId)
    (ho : o.op = .call { callee := .builtin .append, args := #[s, x], argTypes := #[t, t] }) {e : TypeId} {sz bytes : Nat} (E : ElemInfo P t e sz bytes)
    {B0 : Nat} {A0 : Option Addr} {n : Nat} {xs : List (List Value)} (hs : a.eval s = .slice A0 n n) (hr0 : Rd w B0 sz A0 n xs) (hlen0 : ∀ y ∈ xs, y.length = sz)
    {B : Nat} {A : Option Addr} {m c : Nat} {ys : List (List Value)} (hx : a.eval x = .slice A m c) (hr : Rd w B sz A m ys) (hm : 0 < m) (hlen : ∀ y ∈ ys, y.length = sz) (h1 : ∀ y ∈ ys, ∀ u ∈ y, u.oneCell' = true)
    (h63 : n + m ≤ maxLen) (hbytes : (n + m) * bytes ≤ 140737488355328)
    (h : ∀ A' n' c' w', n' = n + m → Ow w' w.heap.size e sz (.slice A' n' c') (xs ++ ys) → w.grownBy w' none → wpList P ops Q rest (a.put o.dst (.slice A' n' c')) w') : wpList P ops Q (o :: rest) a w :=
  wpList_plain hgd fun _ hK => wp_append_full w s x t ho E hs hr0 hlen0 hx hr hm hlen h1 h63 hbytes fun A' n' c' w' h1 h2 h3 => hK _ _ (h A' n' c' w' h1 h2 h3)
theorem step_append_full {ops : Array Oper} {o : Oper} {a : Act} {K : Act → World → Prop} {Q : Exit → Act → World → Prop} {R : Prop} (hgd : o.guard = none) (s x : Operand) (t : TypeId)
    (ho : o.op = .call { callee := .builtin .append, args := #[s, x], argTypes := #[t, t] }) {e : TypeId} {sz bytes : Nat} (E : ElemInfo P t e sz bytes)
    {B0 : Nat} {A0 : Option Addr} {n : Nat} {xs : List (List Value)} (hs : a.eval s = .slice A0 n n) (hr0 : Rd w B0 sz A0 n xs) (hlen0 : ∀ y ∈ xs, y.length = sz)
    {B : Nat} {A : Option Addr} {m c : Nat} {ys : List (List Value)} (hx : a.eval x = .slice A m c) (hr : Rd w B sz A m ys) (hm : 0 < m) (hlen : ∀ y ∈ ys, y.length = sz) (h1 : ∀ y ∈ ys, ∀ u ∈ y, u.oneCell' = true)
    (h63 : n + m ≤ maxLen) (hbytes : (n + m) * bytes ≤ 140737488355328)
    (h : ∀ A' n' c' w', n' = n + m → Ow w' w.heap.size e sz (.slice A' n' c') (xs ++ ys) → w.grownBy w' none → K (a.put o.dst (.slice A' n' c')) w') :
    if Region.wanted o (yielded ops a.tmps) = true then Oper.wp P o a w K Q else R := by
  have hw : Region.wanted o (yielded ops a.tmps) = true := by simp [Region.wanted, hgd]
  rw [if_pos hw]
  exact wp_append_full w s x t ho E hs hr0 hlen0 hx hr hm hlen h1 h63 hbytes h
end
theorem Ow.made_at {w : World} {base g : Nat} {e : TypeId} {sz : Nat} (h : w.heap[g]? = some (.cells #[] e (0, 0))) (hb : base ≤ g) : Ow w base e sz (.slice (some ⟨g, 0, none⟩) 0 0) [] :=
  ⟨by simp, by simp, .inr ⟨g, 0, #[], rfl, hb, h, Nat.le_refl _, by simp [maxLen], by simp, by simp⟩⟩
theorem Rd.one_at {w : World} {g sz : Nat} {t : TypeId} (x : List Value) (h : w.heap[g]? = some (.cells x.toArray t (0, 0))) : Rd w (g + 1) sz (some ⟨g, 0, none⟩) 1 [x] := by
  refine ⟨rfl, fun _ => ⟨_, 0, rfl, Nat.lt_succ_self _, fun k y hy j u hu => ?_⟩⟩
  obtain rfl : k = 0 := by have := (List.getElem?_eq_some_iff.1 hy).1; simp at this; omega
  simp only [List.getElem?_cons_zero, Option.some.injEq] at hy
  subst hy
  rw [blk_cell h]
  simpa using hu
theorem heap9 {w : World} {g : Nat} {t : TypeId} {a0 a1 a2 a3 a4 a5 a6 a7 a8 : Value} (h : w.heap[g]? = some (.cells #[a0, a1, a2, a3, a4, a5, a6, a7, a8] t (0, 0))) (x0 x1 x2 x3 x4 x5 x6 x7 x8 : Value) :
    (((((((((w.setCell ⟨g, 0, none⟩ x0).setCell ⟨g, 1, none⟩ x1).setCell ⟨g, 2, none⟩ x2).setCell ⟨g, 3, none⟩ x3).setCell ⟨g, 4, none⟩ x4).setCell ⟨g, 5, none⟩ x5).setCell ⟨g, 6, none⟩ x6).setCell ⟨g, 7, none⟩ x7).setCell ⟨g, 8, none⟩ x8).heap[g]? = some (.cells #[x0, x1, x2, x3, x4, x5, x6, x7, x8] t (0, 0)) := by
  rw [blk_set (blk_set (blk_set (blk_set (blk_set (blk_set (blk_set (blk_set (blk_set h 0 x0) 1 x1) 2 x2) 3 x3) 4 x4) 5 x5) 6 x6) 7 x7) 8 x8]
  simp
end Go.Proofs.YtffnpfponnhddaaGreat
namespace Go.Proofs.YtffnpfponnhddaaGreat
open Go.RowKit

section
variable {P : Program}
theorem run_copy_rowK (w : World) (dT sT ty elem : TypeId) (k m g o dLen dCap : Nat) (a : Addr) (sLen sCap : Nat) (cur : Array Value) (t : TypeId) (cs : List Value)
    (hu : P.underlying dT = some (.slice elem)) (hs : (P.info? elem).map (·.size) = some k)
    (hg : w.heap[g]? = some (.cells cur t (0, 0))) (hm : Nat.min sLen dLen = m) (hn : m * k = cs.length)
    (hsrc : ∀ j v, cs[j]? = some v → w.cell? (a.add j) = some v) (hfit : o + cs.length ≤ cur.size) (h1 : ∀ v ∈ cs, v.oneCell' = true) :
    (Builtin.copy_ #[dT, sT] ty #[.slice (some ⟨g, o, none⟩) dLen dCap, .slice (some a) sLen sCap]).run P w =
      .ok (goInt m) (w.setRow g (cur.toList.take o ++ cs ++ cur.toList.drop (o + cs.length)).toArray) := by
  have hl := run_loadCells_list (P := P) w a cs hsrc
  have hst := run_storeCells_at P g o t cs 0 cur w hg (by simpa using hfit) h1
  cases hq : P.info? elem with
  | none => simp [hq] at hs
  | some i =>
    have hi : i.size = k := by simpa [hq] using hs
    simp [Builtin.copy_, run_underlying hu, Builtin.lenOf, Builtin.firstCells, sizeOf, typeInfo, hq, hi, hm, hn, hl, hst]
theorem grown_setRow {w : World} {g : Nat} (cs : Array Value) : w.grownBy (w.setRow g cs) (some g) :=
  ⟨rfl, rfl, rfl, by simp [World.setRow], fun k _ hk => setRow_other w g k cs (fun e => hk (by rw [e]))⟩
theorem gr_drew {w w' : World} {row : Option Nat} (h : w.drew.grownBy w' row) : w.grownBy w' row := ⟨h.os, h.tape, h.output, h.size, h.block⟩
theorem gr_trans {a b c : World} {row : Option Nat} (h : a.grownBy b row) (k : b.grownBy c row) : a.grownBy c row :=
  ⟨k.os.trans h.os, k.tape.trans h.tape, k.output.trans h.output, Nat.le_trans h.size k.size, fun i hi hne => (k.block i (Nat.lt_of_lt_of_le hi h.size) hne).trans (h.block i hi hne)⟩
theorem gr_new {a b c : World} {row : Option Nat} {q : Nat} (h : a.grownBy b row) (k : b.grownBy c (some q)) (hq : a.heap.size ≤ q) : a.grownBy c row :=
  ⟨k.os.trans h.os, k.tape.trans h.tape, k.output.trans h.output, Nat.le_trans h.size k.size, fun i hi hne => (k.block i (Nat.lt_of_lt_of_le hi h.size) (fun e => by injection e with e; omega)).trans (h.block i hi hne)⟩
theorem wp_copy_spliceK {w : World} {o : Oper} {a : Act} {K : Act → World → Prop} {Q : Exit → Act → World → Prop} (d s : Operand) (dT sT : TypeId)
    (ho : o.op = .call { callee := .builtin .copy, args := #[d, s], argTypes := #[dT, sT] }) (elem : TypeId) (hu : P.underlying dT = some (.slice elem)) (k m : Nat) (hsz : (P.info? elem).map (·.size) = some k)
    (g off dLen dCap : Nat) (ad : Addr) (sLen sCap : Nat) (hd : a.eval d = .slice (some ⟨g, off, none⟩) dLen dCap) (hs : a.eval s = .slice (some ad) sLen sCap)
    (cur : List Value) (t : TypeId) (hg : w.heap[g]? = some (.cells cur.toArray t (0, 0))) (cs : List Value) (hm : Nat.min sLen dLen = m) (hn : m * k = cs.length)
    (hsrc : ∀ j v, cs[j]? = some v → w.cell? (ad.add j) = some v) (hfit : off + cs.length ≤ cur.length) (h1 : ∀ v ∈ cs, v.oneCell' = true)
    (h : ∀ w', Hid (w'.heap[g]? = some (.cells (splice cur off cs).toArray t (0, 0))) → w.grownBy w' (some g) → K (a.put o.dst (goInt m)) w') : o.wp P a w K Q := by
  have hrun := run_copy_rowK (P := P) w dT sT o.type elem k m g off dLen dCap ad sLen sCap cur.toArray t cs hu hsz hg hm hn hsrc (by simpa using hfit) h1
  unfold Oper.wp
  simp [execOp, ho, resolve, invoke, builtin, hd, hs, hrun, Result.andThen]
  exact h _ (show _ = _ by simpa [splice] using setRow_heap w g _ _ t _ hg) (grown_setRow _)
theorem wpList_copy_spliceK {w : World} {ops : Array Oper} {rest : List Oper} {o : Oper} {a : Act} {Q : Exit → Act → World → Prop} (hgd : o.guard = none) (d s : Operand) (dT sT : TypeId)
    (ho : o.op = .call { callee := .builtin .copy, args := #[d, s], argTypes := #[dT, sT] }) (elem : TypeId) (hu : P.underlying dT = some (.slice elem)) (k m : Nat) (hsz : (P.info? elem).map (·.size) = some k)
    (g off dLen dCap : Nat) (ad : Addr) (sLen sCap : Nat) (hd : a.eval d = .slice (some ⟨g, off, none⟩) dLen dCap) (hs : a.eval s = .slice (some ad) sLen sCap)
    (cur : List Value) (t : TypeId) (hg : w.heap[g]? = some (.cells cur.toArray t (0, 0))) (cs : List Value) (hm : Nat.min sLen dLen = m) (hn : m * k = cs.length)
    (hsrc : ∀ j v, cs[j]? = some v → w.cell? (ad.add j) = some v) (hfit : off + cs.length ≤ cur.length) (h1 : ∀ v ∈ cs, v.oneCell' = true)
    (h : ∀ w', Hid (w'.heap[g]? = some (.cells (splice cur off cs).toArray t (0, 0))) → w.grownBy w' (some g) → wpList P ops Q rest (a.put o.dst (goInt m)) w') : wpList P ops Q (o :: rest) a w :=
  wpList_plain hgd fun _ hK => wp_copy_spliceK d s dT sT ho elem hu k m hsz g off dLen dCap ad sLen sCap hd hs cur t hg cs hm hn hsrc hfit h1 (fun w' h2 h3 => hK _ _ (h w' h2 h3))
theorem step_copy_spliceK {w : World} {ops : Array Oper} {o : Oper} {a : Act} {K : Act → World → Prop} {Q : Exit → Act → World → Prop} {R : Prop} (hgd : o.guard = none) (d s : Operand) (dT sT : TypeId)
    (ho : o.op = .call { callee := .builtin .copy, args := #[d, s], argTypes := #[dT, sT] }) (elem : TypeId) (hu : P.underlying dT = some (.slice elem)) (k m : Nat) (hsz : (P.info? elem).map (·.size) = some k)
    (g off dLen dCap : Nat) (ad : Addr) (sLen sCap : Nat) (hd : a.eval d = .slice (some ⟨g, off, none⟩) dLen dCap) (hs : a.eval s = .slice (some ad) sLen sCap)
    (cur : List Value) (t : TypeId) (hg : w.heap[g]? = some (.cells cur.toArray t (0, 0))) (cs : List Value) (hm : Nat.min sLen dLen = m) (hn : m * k = cs.length)
    (hsrc : ∀ j v, cs[j]? = some v → w.cell? (ad.add j) = some v) (hfit : off + cs.length ≤ cur.length) (h1 : ∀ v ∈ cs, v.oneCell' = true)
    (h : ∀ w', Hid (w'.heap[g]? = some (.cells (splice cur off cs).toArray t (0, 0))) → w.grownBy w' (some g) → K (a.put o.dst (goInt m)) w') :
    if Region.wanted o (yielded ops a.tmps) = true then Oper.wp P o a w K Q else R := by
  have hw : Region.wanted o (yielded ops a.tmps) = true := by simp [Region.wanted, hgd]
  rw [if_pos hw]
  exact wp_copy_spliceK d s dT sT ho elem hu k m hsz g off dLen dCap ad sLen sCap hd hs cur t hg cs hm hn hsrc hfit h1 h
end

theorem splice_take {α : Type} (L : List α) (o : Nat) (cs : List α) (h : o ≤ L.length) : (splice L o cs).take o = L.take o := by
  unfold splice
  rw [List.take_append_of_le_length (by rw [List.length_take]; omega), List.take_take, Nat.min_self]
/-- First what stood from i on, k places further; then the new element's k cells. -/
theorem splice_room {α : Type} (L A X2 : List α) (i k : Nat) (hA : A.length = k) (hL : i + k + X2.length ≤ L.length) :
    (splice (splice L (i + k) X2) i A).take (i + k + X2.length) = L.take i ++ (A ++ X2) := by
  have hl := length_splice L (i + k) X2 hL
  unfold splice at hl ⊢
  rw [hA]
  have e1 : (L.take (i + k) ++ (X2 ++ L.drop (i + k + X2.length))).take i = L.take i := by
    rw [List.take_append_of_le_length (by rw [List.length_take]; omega), List.take_take, Nat.min_eq_left (by omega)]
  have e2 : (L.take (i + k) ++ (X2 ++ L.drop (i + k + X2.length))).drop (i + k) = X2 ++ L.drop (i + k + X2.length) := List.drop_left' (by rw [List.length_take]; omega)
  rw [e1, e2, show L.take i ++ (A ++ (X2 ++ L.drop (i + k + X2.length))) = (L.take i ++ (A ++ X2)) ++ L.drop (i + k + X2.length) by simp]
  exact List.take_left' (by simp [hA]; omega)
/-- First the new element's k cells; then what stood from i on. -/
theorem splice_new {α : Type} (L A X2 : List α) (i k : Nat) (hA : A.length = k) (hL : i + k + X2.length ≤ L.length) :
    (splice (splice L i A) (i + k) X2).take (i + k + X2.length) = L.take i ++ (A ++ X2) := by
  have hl := length_splice L i A (by omega)
  unfold splice at hl ⊢
  rw [hA] at hl ⊢
  have e1 : (L.take i ++ (A ++ L.drop (i + k))).take (i + k) = L.take i ++ A := by
    rw [← List.append_assoc]
    exact List.take_left' (by simp [hA]; omega)
  rw [e1, show L.take i ++ A ++ (X2 ++ (L.take i ++ (A ++ L.drop (i + k))).drop (i + k + X2.length)) = (L.take i ++ (A ++ X2)) ++ (L.take i ++ (A ++ L.drop (i + k))).drop (i + k + X2.length) by simp]
  exact List.take_left' (by simp [hA]; omega)
theorem flat_split {α : Type} {sz : Nat} {xs : List (List α)} (hl : ∀ x ∈ xs, x.length = sz) {p : Nat} (hp : p ≤ xs.length) :
    (xs.take p).flatten = xs.flatten.take (p * sz) ∧ (xs.drop p).flatten = xs.flatten.drop (p * sz) ∧ (xs.take p).flatten.length = p * sz ∧ (xs.drop p).flatten.length = (xs.length - p) * sz := by
  have h1 : xs.flatten = (xs.take p).flatten ++ (xs.drop p).flatten := by rw [← List.flatten_append, List.take_append_drop]
  have h2 : (xs.take p).flatten.length = p * sz := by rw [flat_len (fun x hx => hl x (List.mem_of_mem_take hx)), List.length_take, Nat.min_eq_left hp]
  have h3 : (xs.drop p).flatten.length = (xs.length - p) * sz := by rw [flat_len (fun x hx => hl x (List.mem_of_mem_drop hx)), List.length_drop]
  refine ⟨?_, ?_, h2, h3⟩
  · rw [h1, ← h2]; exact (List.take_left' rfl).symm
  · rw [h1, ← h2]; exact (List.drop_left' rfl).symm
end Go.Proofs.YtffnpfponnhddaaGreat
