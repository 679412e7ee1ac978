/- A list of acts on maps, opened (rows within rows). A Go map from tags to puts that a call makes. -/
import Derived.Test.YtadldndmmobpdaaM22
import Derived.Test.YtadldndmmobpdaaOpM
import Derived.Maps.Own
import Derived.Maps.OwnSet
namespace Go.Proofs.Ytadldndmmobpdaa
open Go.ChangeShapes Go.WideShapes Go.ChangeAt Go.RowKit

/-- An act on maps, as it lies in memory. -/
structure AcM where
  a : Pm
  C : Option Addr
  k : Nat
  f : Nat
  l : List Tm
deriving Inhabited
def AcM.enc (u : AcM) : List Value := [.int .i64 u.a.1.1.1, .int .u32 u.a.1.1.2, .int .i64 u.a.1.2, .string (bs u.a.2.1), .int .i64 u.a.2.2.1, .int .u32 u.a.2.2.2.1, .int .i64 u.a.2.2.2.2, .slice u.C u.k u.f]
theorem AcM.len {xs : List AcM} : ∀ x ∈ xs.map AcM.enc, x.length = 8 := by
  intro x hx; obtain ⟨t, _, rfl⟩ := List.mem_map.1 hx; rfl
theorem AcM.one {xs : List AcM} : ∀ x ∈ xs.map AcM.enc, ∀ u ∈ x, u.oneCell' = true := by
  intro x hx u hu; obtain ⟨t, _, rfl⟩ := List.mem_map.1 hx
  simp only [AcM.enc, List.mem_cons, List.not_mem_nil, or_false] at hu
  rcases hu with rfl | rfl | rfl | rfl | rfl | rfl | rfl | rfl <;> rfl
/-- The act's tags can be read, and all of it is as it may be. -/
structure AcM.Ok (w : World) (B : Nat) (u : AcM) : Prop where
  rd : RdT w B u.C u.k u.l
  fit : ∀ t ∈ u.l, t.fit
  tf : u.a.1.fit
  aw : u.a.wf
  el : u.a.2.1.length ≤ maxLen
  kf : u.k ≤ u.f
  fm : u.f ≤ maxLen
section
variable {H : Type} {enc : TypeId × Value → H} {w : World} {base : Nat} {spare : Nat → Bool} {held : Bool}
theorem reads_putF {cs : List Value} (hl : cs.length = 7) (h : Reads enc Try.prog w base spare held 94 cs) : ∃ p : Pm, cs = p.enc ∧ (p.wf ∧ p.2.1.length ≤ maxLen ∧ p.1.fit) := by
  obtain ⟨a, b, c, d, e, f, g, rfl⟩ := list7 hl
  obtain ⟨t, ht, hw⟩ := reads_tmF (cs := [a, b, c]) rfl (reads_field 0 0 3 Try.underlying94 rfl rfl rfl (by kernel_rfl) h)
  obtain ⟨z, rfl, hzl⟩ := reads_string Try.underlying9 (reads_field 1 3 1 Try.underlying94 rfl rfl rfl (by kernel_rfl) h)
  obtain ⟨v, rfl, hv1, hv2⟩ := reads_i64 Try.underlying2 (reads_field 2 4 1 Try.underlying94 rfl rfl rfl (by kernel_rfl) h)
  obtain ⟨s, hs, hsw⟩ := reads_sm (cs := [f, g]) rfl (reads_field 3 5 2 Try.underlying94 rfl rfl rfl (by kernel_rfl) h)
  simp only [Tm.enc, List.cons.injEq] at ht hs
  obtain ⟨rfl, rfl, rfl, _⟩ := ht
  obtain ⟨rfl, rfl, _⟩ := hs
  exact ⟨(t, (z.data.toList, (v, s))), by unfold Pm.enc; rw [bs_of], ⟨hw.1, hsw, hv1, hv2⟩, by rw [Array.length_toList]; exact hzl, hw⟩
set_option maxRecDepth 100000 in
theorem reads_actm {cs : List Value} (hl : cs.length = 8) (h : Reads enc Try.prog w base spare held 108 cs) : ∃ a : AcM, cs = a.enc ∧ a.Ok w w.heap.size := by
  obtain ⟨a, b, c, d, e, f, g, i, rfl⟩ := list8 hl
  obtain ⟨p, hp, hpw, hpl, hpf⟩ := reads_putF (cs := [a, b, c, d, e, f, g]) rfl (reads_field 0 0 7 Try.underlying108 rfl rfl rfl (by kernel_rfl) h)
  obtain ⟨C, k, f', ts, rfl, hR, hQ, h1, h2⟩ := reads_slice Tm.enc Tm.fit Try.underlying23 (by kernel_rfl) (by decide) (fun cs hl h => reads_tmF hl h) (reads_field 1 7 1 Try.underlying108 rfl rfl rfl (by kernel_rfl) h)
  simp only [Pm.enc, List.cons.injEq] at hp
  obtain ⟨rfl, rfl, rfl, rfl, rfl, rfl, rfl, _⟩ := hp
  exact ⟨⟨p, C, k, f', ts⟩, rfl, hR, hQ, hpf, hpw, hpl, h1, h2⟩
set_option maxRecDepth 100000 in
theorem open_actms {r : Reach} {b0 : Nat} {v : Value} {d : DataW H} {p : List MemPlace} (hv : Value.okWide Try.prog w r b0 104 v) (h : DataW.Trod enc Try.prog w base spare held 104 v d p) :
    ∃ A n c, ∃ xs : List AcM, v = .slice A n c ∧ Rd w w.heap.size 8 A n (xs.map AcM.enc) ∧ (∀ x ∈ xs, x.Ok w w.heap.size) ∧ n ≤ c ∧ c ≤ maxLen := by
  obtain ⟨a, len, cap, rfl⟩ := okWide_slice Try.underlying104 hv
  obtain ⟨A, n, c, xs, h1, h2, h3, h4, h5⟩ := reads_slice AcM.enc (fun a => a.Ok w w.heap.size) Try.underlying104 (by kernel_rfl) (by decide) (fun cs hl h => reads_actm hl h) (reads_of h)
  exact ⟨A, n, c, xs, h1, h2, h3, h4, h5⟩
end
end Go.Proofs.Ytadldndmmobpdaa
namespace Go.Proofs.Ytadldndmmobpdaa
open Go.RowKit Go.Maps

def rdVal (v : Value) : Option (DataW Value × List MemPlace) := some (.held v, [])
def pmV (p : Pm) : Value := .agg #[.int .i64 p.1.1.1, .int .u32 p.1.1.2, .int .i64 p.1.2, .string (bs p.2.1), .int .i64 p.2.2.1, .int .u32 p.2.2.2.1, .int .i64 p.2.2.2.2]
def zeroPm : Pm := (((0, 0), 0), ([], (0, (0, 0))))
/-- Block b holds a map of at most n entries that reads as M. -/
def MapP (w : World) (b n : Nat) (M : List UInt8 → Pm) : Prop :=
  ∃ D : DataW Value, w.ownsMap Try.prog 79 rdVal b n D ∧ ∀ k, D.atKey (.string k) (.held (pmV zeroPm)) = .held (pmV (M k))
theorem zeroPutV (w : World) : (zeroValue 94).run Try.prog w = .ok (pmV zeroPm) w := by kernel_rfl
theorem MapP.made (w : World) : MapP (w.alloc (.map #[] 0)) w.heap.size 0 (fun _ => zeroPm) :=
  ⟨.map [], World.ownsMap_made w _ _ _, fun _ => rfl⟩
theorem MapP.lt {w : World} {b n : Nat} {M : List UInt8 → Pm} (h : MapP w b n M) : b < w.heap.size := by
  obtain ⟨D, h1, _⟩ := h; exact h1.lt
theorem MapP.kept {w w' : World} {b n : Nat} {M : List UInt8 → Pm} {row : Option Nat} (h : MapP w b n M) (hg : w.grownBy w' row) (hne : some b ≠ row) : MapP w' b n M := by
  obtain ⟨D, h1, h2⟩ := h; exact ⟨D, h1.kept hg hne, h2⟩
theorem MapP.below {w w' : World} {b n : Nat} {M : List UInt8 → Pm} (h : MapP w b n M) (hb : Below w.heap.size w w') : MapP w' b n M := h.kept (gr_below hb none) (by simp)
theorem MapP.mono {w : World} {b n n' : Nat} {M : List UInt8 → Pm} (h : MapP w b n M) (hn : n ≤ n') : MapP w b n' M := by
  obtain ⟨D, h1, h2⟩ := h; exact ⟨D, h1.mono hn, h2⟩
set_option maxRecDepth 100000 in
theorem MapP.look {w : World} {b n : Nat} {M : List UInt8 → Pm} (h : MapP w b n M) {t : Tm} (ht : t.fit) :
    (Instr.lookup 106 (.map (some b)) (.agg #[.int .i64 t.1.1, .int .u32 t.1.2, .int .i64 t.2]) false).run Try.prog w = .ok (.agg #[.int .i64 (M (kT t)).1.1.1, .int .u32 (M (kT t)).1.1.2, .int .i64 (M (kT t)).1.2, .string (bs (M (kT t)).2.1), .int .i64 (M (kT t)).2.2.1, .int .u32 (M (kT t)).2.2.2.1, .int .i64 (M (kT t)).2.2.2.2]) w := by
  obtain ⟨D, h1, h2⟩ := h
  obtain ⟨v, ps, hrun, hv⟩ := h1.lookup (zd := .held (pmV zeroPm)) (zp := []) tagLaw Try.underlying106 (zeroPutV w) rfl (tagKey t ht.2.1 ht.2.2.1 ht.2.2.2)
  have h3 := h2 (kT t)
  unfold rdVal at hv
  injection hv with hv
  injection hv with hv _
  have h5 : (DataW.held v : DataW Value) = .held (pmV (M (kT t))) := hv.trans h3
  injection h5 with h5
  rw [hrun, h5]
  rfl
set_option maxRecDepth 100000 in
theorem MapP.upd {w : World} {b n : Nat} {M : List UInt8 → Pm} (h : MapP w b n M) (hn : n < maxLen) {t : Tm} (ht : t.fit) (e : Pm) :
    ∃ w', (Instr.mapUpdate 106 (.map (some b)) (.agg #[.int .i64 t.1.1, .int .u32 t.1.2, .int .i64 t.2]) (.agg #[.int .i64 e.1.1.1, .int .u32 e.1.1.2, .int .i64 e.1.2, .string (bs e.2.1), .int .i64 e.2.2.1, .int .u32 e.2.2.2.1, .int .i64 e.2.2.2.2])).run Try.prog w = .ok () w' ∧ MapP w' b (n + 1) (fun k => if k = kT t then e else M k) ∧ w.grownBy w' (some b) := by
  obtain ⟨D, h1, h2⟩ := h
  obtain ⟨w', hrun, ho, hg⟩ := h1.update (val := pmV e) (d := .held (pmV e)) (ps := []) tagLaw Try.underlying106 hn (tagKey t ht.2.1 ht.2.2.1 ht.2.2.2) rfl
  refine ⟨w', hrun, ⟨_, ho, fun k => ?_⟩, hg⟩
  show _ = DataW.held (pmV (if k = kT t then e else M k))
  by_cases hk : k = kT t
  · rw [if_pos hk, hk]
    exact atKey_put_same h1.isMap (by trivial) _ _
  · rw [if_neg hk]
    rw [← h2 k]
    exact atKey_put_other (fun h => hk (by injection h)) _ _
end Go.Proofs.Ytadldndmmobpdaa
