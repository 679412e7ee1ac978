/- The statement OrsetWins, walked. -/
import Derived.Test.YtadldndmmobpdaaOuK
import Derived.Test.YtadldndmmobpdaaOtS
namespace Go.Proofs.Ytadldndmmobpdaa
open Go.RowKit

theorem dropO_sub (xs : List Am) (gs l : List Tm) : (∀ a ∈ (dropO xs gs l).1.1, a ∈ xs) ∧ (∀ t ∈ (dropO xs gs l).1.2, t ∈ l ∨ t ∈ gs) ∧ (dropO xs gs l).1.1.length ≤ xs.length ∧ (dropO xs gs l).1.2.length ≤ gs.length + l.length := dropK_sub (key := Prod.fst) (ok1 := fun a : Am => elemB a.2) xs gs l
theorem putO_sub (xs : List Am) (gs : List Tm) (a0 : Am) : (∀ a ∈ (putO xs gs a0).1.1, a = a0 ∨ a ∈ xs) ∧ (∀ t ∈ (putO xs gs a0).1.2, t ∈ gs) ∧ (putO xs gs a0).1.1.length ≤ xs.length + 1 ∧ (putO xs gs a0).1.2.length ≤ gs.length := putK_sub (key := Prod.fst) (ok1 := fun a : Am => elemB a.2) xs gs a0
/-- A set whose additions and names are as they may be, in memory. -/
structure OkS (X : List Am × List Tm) (p q : Nat) : Prop where
  wx : ∀ a ∈ X.1, a.wf
  wg : ∀ t ∈ X.2, t.wf
  wl : ∀ a ∈ X.1, a.2.length ≤ maxLen
  lx : X.1.length ≤ p
  lg : X.2.length ≤ q
theorem OkS.drop {xs : List Am} {gs l : List Tm} {p q r : Nat} (h : OkS (xs, gs) p q) (hl : ∀ t ∈ l, t.wf) (hr : l.length ≤ r) : OkS (dropO xs gs l).1 p (q + r) := by
  obtain ⟨h1, h2, h3, h4⟩ := dropO_sub xs gs l
  have k1 := h.lx
  have k2 := h.lg
  dsimp only at k1 k2
  exact ⟨fun a ha => h.wx a (h1 a ha), fun t ht => (h2 t ht).elim (hl t) (h.wg t), fun a ha => h.wl a (h1 a ha), by omega, by omega⟩
theorem OkS.put {xs : List Am} {gs : List Tm} {a0 : Am} {p q : Nat} (h : OkS (xs, gs) p q) (ha : a0.wf) (hl : a0.2.length ≤ maxLen) : OkS (putO xs gs a0).1 (p + 1) q := by
  obtain ⟨h1, h2, h3, h4⟩ := putO_sub xs gs a0
  have k1 := h.lx
  have k2 := h.lg
  dsimp only at k1 k2
  exact ⟨fun a hm => (h1 a hm).elim (fun e => e ▸ ha) (h.wx a), fun t ht => h.wg t (h2 t ht), fun a hm => (h1 a hm).elim (fun e => e ▸ hl) (h.wl a), by omega, by omega⟩
section
variable {X : List Am × List Tm} {p q : Nat}
theorem OkS.has (h : OkS X p q) (hp : p ≤ 100000) (hq : q ≤ 100000) (e : List UInt8) (A : Option Addr) (n c : Nat) (B : Option Addr) (m d : Nat) (w : World) (hA : RdA w w.heap.size A n X.1) (hB : RdT w w.heap.size B m X.2) :
    Calls Try.prog 20 #[.agg #[.slice A n c, .slice B m d], .string (bs e)] w fun r w' => r = .returned (.bool (hasO X.1 X.2 e)) ∧ Below w.heap.size w w' :=
  ohas_any A n c X.1 B m d X.2 e w hA hB (by have := hA.len; have := h.lx; omega) (by have := hB.len; have := h.lg; omega) h.wx h.wg h.wl
theorem OkS.putC (h : OkS X p q) (hp : p ≤ 100000) (hq : q ≤ 100000) (a : Am) (ha : a.wf) (hl : a.2.length ≤ maxLen) (A : Option Addr) (n c : Nat) (B : Option Addr) (m d : Nat) (w : World) (hA : RdA w w.heap.size A n X.1) (hB : RdT w w.heap.size B m X.2) :
    Calls Try.prog 38 #[.agg #[.slice A n c, .slice B m d], .agg #[.int .i64 a.1.1.1, .int .u32 a.1.1.2, .int .i64 a.1.2, .string (bs a.2)]] w (PostO w (putO X.1 X.2 a).1 (putO X.1 X.2 a).2) :=
  oput_any A n c X.1 B m d X.2 a w hA hB (by have := hA.len; have := h.lx; omega) (by have := hB.len; have := h.lg; omega) h.wx h.wg h.wl ha hl
theorem OkS.dropC (h : OkS X p q) (hp : p ≤ 100000) (hq : q ≤ 100000) (l : List Tm) (hlw : ∀ t ∈ l, t.wf) (hll : l.length ≤ 100000) (A : Option Addr) (n c : Nat) (B : Option Addr) (m d : Nat) (C : Option Addr) (k f : Nat) (w : World) (hA : RdA w w.heap.size A n X.1) (hB : RdT w w.heap.size B m X.2) (hC : RdT w w.heap.size C k l) :
    Calls Try.prog 40 #[.agg #[.slice A n c, .slice B m d], .slice C k f] w (PostO w (dropO X.1 X.2 l).1 (dropO X.1 X.2 l).2) :=
  odrop_any A n c X.1 B m d X.2 C k f l w hA hB hC (by have := hA.len; have := h.lx; omega) (by have := hB.len; have := h.lg; omega) (by have := hC.len; omega) h.wx h.wg hlw h.wl
theorem OkS.fromC (h : OkS X p q) (hp : p ≤ 100000) (hq : q ≤ 100000) (A : Option Addr) (n c : Nat) (B : Option Addr) (m d : Nat) (w : World) (hA : RdA w w.heap.size A n X.1) (hB : RdT w w.heap.size B m X.2) :
    Calls Try.prog 17 #[.agg #[.slice A n c, .slice B m d]] w fun e w' => ∃ A' c' B' d', e = .returned (.agg #[.slice A' n c', .slice B' m d']) ∧ RdA w' w'.heap.size A' n X.1 ∧ RdT w' w'.heap.size B' m X.2 ∧ Below w.heap.size w w' :=
  (ofrom_any A n c X.1 B m d X.2 w hA hB (by have := hA.len; have := h.lx; omega) (by have := hB.len; have := h.lg; omega)).mono (by rintro e w' ⟨A', c', B', d', rfl, o, p, hb⟩; exact ⟨A', c', B', d', rfl, o.rd.1, p.rd.1, hb⟩)
end
end Go.Proofs.Ytadldndmmobpdaa
