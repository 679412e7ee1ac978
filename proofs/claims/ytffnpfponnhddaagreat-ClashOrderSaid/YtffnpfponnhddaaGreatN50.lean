/- What is wrong with a vector (both). What an argument reads as, opened field by field: structs of structs, arrays, slices of structs. Arguments of the statements on names, opened: a list of names, a vector, a name. Arguments of the statements on cuts, opened. Arguments of the statements: a text. Arguments of the statements on sets of additions, opened. -/
import Derived.Test.YtffnpfponnhddaaGreatN05
import Derived.Test.YtffnpfponnhddaaGreatPl
import Derived.ProofKit
import Derived.OpenShut
import Derived.Below
import Derived.ChangeSame
import Derived.Deep.Slices
import Derived.Test.YtffnpfponnhddaaGreatGa
import Derived.Test.YtffnpfponnhddaaGreatN07
import Derived.Test.YtffnpfponnhddaaGreatRows
import Derived.Test.YtffnpfponnhddaaGreatN08
namespace Go.Proofs.YtffnpfponnhddaaGreat
open Go.RowKit

end Go.Proofs.YtffnpfponnhddaaGreat
namespace Go.Proofs.YtffnpfponnhddaaGreat
open Go.ChangeShapes Go.WideShapes Go.RowKit Go.Deep

section
variable {H : Type} {enc : TypeId × Value → H} {P : Program} {w : World} {base : Nat} {spare : Nat → Bool} {held : Bool}
/-- These cells read as something of the type. -/
def Reads (enc : TypeId × Value → H) (P : Program) (w : World) (base : Nat) (spare : Nat → Bool) (held : Bool) (t : TypeId) (cs : List Value) : Prop := ∃ n x, DataW.trod enc P w base spare held n t cs = some x
theorem reads_of {t : TypeId} {v : Value} {d : DataW H} {p : List MemPlace} (h : DataW.Trod enc P w base spare held t v d p) : Reads enc P w base spare held t v.cells.toList := by
  obtain ⟨n, h⟩ := h; exact ⟨n, _, h⟩
theorem reads_field {t t' : TypeId} {fs : Array Field} {f : Field} {cs : List Value} (j o k : Nat) (ht : P.underlying t = some (.struct fs)) (hf : fs[j]? = some f) (ho : f.offset = o) (hy : f.type = t') (hk : P.cellsOf t' = k)
    (h : Reads enc P w base spare held t cs) : Reads enc P w base spare held t' ((cs.drop o).take k) := by
  obtain ⟨n, x, h⟩ := h
  obtain ⟨xs, m, _, _, _, hl, hg⟩ := DataW.trod_struct ht h
  have hj : j < xs.length := by have := (Array.getElem?_eq_some_iff.1 hf).1; omega
  have := hg j f hf
  rw [ho, hy, hk, List.getElem?_eq_getElem hj] at this
  exact ⟨_, _, this⟩
theorem reads_elem {t e : TypeId} {m : Nat} {cs : List Value} (i o k : Nat) (ht : P.underlying t = some (.array m e)) (hi : i < m) (hk : P.cellsOf e = k) (ho : i * k = o)
    (h : Reads enc P w base spare held t cs) : Reads enc P w base spare held e ((cs.drop o).take k) := by
  obtain ⟨n, x, h⟩ := h
  obtain ⟨xs, q, _, _, _, hl, hg⟩ := DataW.trod_array ht h
  have hj : i < xs.length := by omega
  have := hg i hi
  rw [hk, ho, List.getElem?_eq_getElem hj] at this
  exact ⟨_, _, this⟩
theorem reads_int {t : TypeId} {k : IntKind} {v : Value} (ht : P.underlying t = some (.int k)) (h : Reads enc P w base spare held t [v]) : ∃ z : Int, v = .int k z := by
  obtain ⟨n, x, h⟩ := h
  obtain ⟨z, hz, _⟩ := DataW.trod_int ht h
  exact ⟨z, by simpa using hz⟩
theorem reads_u32 {t : TypeId} {v : Value} (ht : P.underlying t = some (.int .u32)) (h : Reads enc P w base spare held t [v]) : ∃ z : Int, v = .int .u32 z ∧ 0 ≤ z ∧ z < 4294967296 := by
  obtain ⟨n, x, h⟩ := h
  obtain ⟨z, hz, _, hw⟩ := DataW.trod_int ht h
  refine ⟨z, by simpa using hz, ?_⟩
  have h1 : IntKind.u32.min = 0 := rfl
  have h2 : IntKind.u32.max = 4294967295 := rfl
  simp only [Lit.wf, Bool.and_eq_true, decide_eq_true_eq, h1, h2] at hw
  omega
theorem reads_i64 {t : TypeId} {v : Value} (ht : P.underlying t = some (.int .i64)) (h : Reads enc P w base spare held t [v]) : ∃ z : Int, v = .int .i64 z ∧ -9223372036854775808 ≤ z ∧ z ≤ 9223372036854775807 := by
  obtain ⟨n, x, h⟩ := h
  obtain ⟨z, hz, _, hw⟩ := DataW.trod_int ht h
  refine ⟨z, by simpa using hz, ?_⟩
  have h1 : IntKind.i64.min = -9223372036854775808 := rfl
  have h2 : IntKind.i64.max = 9223372036854775807 := rfl
  simp only [Lit.wf, Bool.and_eq_true, decide_eq_true_eq, h1, h2] at hw
  omega
theorem okWide_array {t e : TypeId} {m : Nat} {r : Reach} {b0 : Nat} {v : Value} (ht : P.underlying t = some (.array m e)) (h : Value.okWide P w r b0 t v) : ∃ cs, v = .agg cs ∧ cs.size = P.cellsOf t := by
  simp only [Value.okWide, ht] at h
  obtain ⟨cs, h1, h2, _⟩ := h
  exact ⟨cs, h1, h2⟩
theorem reads_bool {t : TypeId} {v : Value} (ht : P.underlying t = some .bool) (h : Reads enc P w base spare held t [v]) : ∃ z : Bool, v = .bool z := by
  obtain ⟨n, x, h⟩ := h
  obtain ⟨z, hz, _⟩ := DataW.trod_bool ht h
  exact ⟨z, by simpa using hz⟩
theorem reads_string {t : TypeId} {v : Value} (ht : P.underlying t = some .string) (h : Reads enc P w base spare held t [v]) : ∃ z : ByteArray, v = .string z ∧ z.size ≤ maxLen := by
  obtain ⟨n, x, h⟩ := h
  obtain ⟨z, hz, _, hl⟩ := DataW.trod_string ht h
  exact ⟨z, by simpa using hz, hl⟩
theorem cell_none {w : World} {a : Addr} {v : Value} (h : w.cell? a = some v) : a.spot = none ∧ a.block < w.heap.size := by
  unfold World.cell? at h
  split at h
  · rename_i hb
    refine ⟨?_, (Array.getElem?_eq_some_iff.1 hb).1⟩
    split at h
    · cases h
    · rename_i hs; simpa using hs
  · cases h
/-- A slice, opened: every element is one of the model's. -/
theorem reads_slice {α : Type} [Inhabited α] (mk : α → List Value) (Q : α → Prop) {t e : TypeId} {sz : Nat} {v : Value} (ht : P.underlying t = some (.slice e)) (hC : P.cellsOf e = sz) (hz : 0 < sz)
    (hE : ∀ cs, cs.length = sz → Reads enc P w base spare held e cs → ∃ p, cs = mk p ∧ Q p) (h : Reads enc P w base spare held t [v]) :
    ∃ (A : Option Addr) (l c : Nat) (ps : List α), v = .slice A l c ∧ Rd w w.heap.size sz A l (ps.map mk) ∧ (∀ p ∈ ps, Q p) ∧ l ≤ c ∧ c ≤ maxLen := by
  obtain ⟨n, x, h⟩ := h
  rcases open_slice ht h with ⟨hcs, _⟩ | ⟨a, len, cap, m, n, D, Pl, hcs, hb, hl, hm, hmm, hx, hi⟩
  · exact ⟨none, 0, 0, [], by simpa using hcs, Rd.nil_, by simp, Nat.le_refl _, Nat.zero_le _⟩
  · have hle : len ≤ m := by rw [hmm]; split <;> omega
    obtain ⟨f, hf⟩ := choose_lt (n := len) (p := fun i (p : α) => w.cells? base (a.add (i * sz)) sz = some (mk p) ∧ (mk p).length = sz ∧ Q p) (fun i hi' => by
      obtain ⟨cs', h1, h2⟩ := hi i (by omega)
      rw [hC] at h1
      obtain ⟨_, hlen, _⟩ := World.cells?_some h1
      obtain ⟨p, rfl, hq⟩ := hE cs' hlen ⟨_, _, h2⟩
      exact ⟨p, h1, hlen, hq⟩)
    refine ⟨some a, len, cap, (List.range len).map f, by simpa using hcs, ⟨by simp, fun h0 => ?_⟩, ?_, hl, hm⟩
    · have hc0 : ∃ u, w.cell? a = some u := by
        obtain ⟨h1, h2, _⟩ := hf 0 h0
        obtain ⟨_, _, hat⟩ := World.cells?_some h1
        have h3 := hat 0 hz
        rw [List.getElem?_eq_getElem (by omega)] at h3
        exact ⟨_, by simpa [Addr.add] using h3⟩
      obtain ⟨u, hu⟩ := hc0
      obtain ⟨hs, hlt⟩ := cell_none hu
      obtain ⟨b, o, s⟩ := a
      simp only at hs
      subst hs
      refine ⟨b, o, rfl, hlt, fun k x hk j u hj => ?_⟩
      simp only [List.map_map, List.getElem?_map] at hk
      have hkl : k < len := by
        rcases Nat.lt_or_ge k len with h' | h'
        · exact h'
        · simp [List.getElem?_eq_none (show (List.range len).length ≤ k by simpa using h')] at hk
      rw [List.getElem?_eq_getElem (by simpa using hkl)] at hk
      simp only [List.getElem_range, Option.map_some, Function.comp, Option.some.injEq] at hk
      subst hk
      obtain ⟨h1, h2, _⟩ := hf k hkl
      obtain ⟨_, _, hat⟩ := World.cells?_some h1
      have hjl : j < sz := by have := (List.getElem?_eq_some_iff.1 hj).1; omega
      have h3 := hat j hjl
      rw [add_add, hj] at h3
      rw [← h3]
      unfold Addr.add
      by_cases h0' : k * sz + j = 0
      · rw [if_pos h0', Nat.add_assoc, h0', Nat.add_zero]
      · rw [if_neg h0', Nat.add_assoc]
    · intro p hp
      obtain ⟨i, hi', rfl⟩ := List.mem_map.1 hp
      exact (hf i (by simpa using hi')).2.2
end

section
variable {H : Type} {enc : TypeId × Value → H} {P : Program} {w : World} {base : Nat} {spare : Nat → Bool} {held : Bool}
theorem shut_bool {t : TypeId} (ht : P.underlying t = some .bool) {c : Bool} : DataW.Trod enc P w base spare held t (.bool c) (.lit (.bool c)) [] := ⟨1, by simp [DataW.trod, Value.cells, ht]⟩
theorem okWide_bool_mk {t : TypeId} (ht : P.underlying t = some .bool) {c : Bool} {r : Reach} {b0 : Nat} : Value.okWide P w r b0 t (.bool c) := by simp [Value.okWide, ht, Cell.okWide, Cell.ok]
end

theorem list2 {l : List Value} (h : l.length = 2) : ∃ a b, l = [a, b] := by
  match l, h with
  | [a, b], _ => exact ⟨a, b, rfl⟩
theorem list8 {l : List Value} (h : l.length = 8) : ∃ c0 c1 c2 c3 c4 c5 c6 c7, l = [c0, c1, c2, c3, c4, c5, c6, c7] := by
  match l, h with
  | [c0, c1, c2, c3, c4, c5, c6, c7], _ => exact ⟨_, _, _, _, _, _, _, _, rfl⟩
theorem list3 {l : List Value} (h : l.length = 3) : ∃ a b c, l = [a, b, c] := by
  match l, h with
  | [a, b, c], _ => exact ⟨a, b, c, rfl⟩
theorem list10 {l : List Value} (h : l.length = 10) : ∃ c0 c1 c2 c3 c4 c5 c6 c7 c8 c9, l = [c0, c1, c2, c3, c4, c5, c6, c7, c8, c9] := by
  match l, h with
  | [c0, c1, c2, c3, c4, c5, c6, c7, c8, c9], _ => exact ⟨_, _, _, _, _, _, _, _, _, _, rfl⟩
theorem list12 {l : List Value} (h : l.length = 12) : ∃ c0 c1 c2 c3 c4 c5 c6 c7 c8 c9 c10 c11, l = [c0, c1, c2, c3, c4, c5, c6, c7, c8, c9, c10, c11] := by
  match l, h with
  | [c0, c1, c2, c3, c4, c5, c6, c7, c8, c9, c10, c11], _ => exact ⟨_, _, _, _, _, _, _, _, _, _, _, _, rfl⟩

section
variable {H : Type} {enc : TypeId × Value → H} {P : Program}
theorem post_of_below {f : Func} {s : ChangeSpec} {apart fresh handsOn again : Bool} {W W' : World} {args : Array Value} {v : Value} {ds gs : List (DataW H)} {before pa pv : List MemPlace}
    (hW : DataW.Whole enc P f.params.toList s.vars apart W args.toList ds gs before)
    (hres : ∀ (b : Nat) (sp : Nat → Bool) (hd : Bool), DataW.TrodAll enc P W' b sp hd f.resultTypes.toList (v.resultList f.resultTypes.size) (s.fn H (ds ++ gs)).results [])
    (hargs : ∀ sp : Nat → Bool, (∀ p ∈ before, sp p.block = true) → DataW.TrodAll enc P W' 0 sp true f.params.toList args.toList (s.fn H (ds ++ gs)).args pa)
    (hvars : ∀ sp : Nat → Bool, (∀ p ∈ before, sp p.block = true) → DataW.TrodVars enc P W' sp s.vars (s.fn H (ds ++ gs)).vars pv)
    (hps : before = pa ++ pv) (hb : Below W.heap.size W W')
    (hok : ∀ (j : Nat) (t : TypeId) (r : Value), f.resultTypes[j]? = some t → (v.resultList f.resultTypes.size)[j]? = some r → Value.okWide P W' .any 0 t r) :
    s.post enc P f apart fresh handsOn again W args v W' := by
  have hlt : ∀ p ∈ before, p.block < W.heap.size := fun p hp => hW.lt p hp
  have hold : ∀ p ∈ before, (fun b => decide (b < W.heap.size)) p.block = true := fun p hp => by simpa using hlt p hp
  refine ⟨ds, gs, before, [], pa, pv, hW, hres _ _ _, hargs _ hold, hvars _ hold, World.keptBut_mono (fun p hp => ⟨hp, ?_⟩) (hb.frame (· ∈ before)), fun _ => ?_⟩
  · rw [hps, List.mem_append] at hp
    exact Or.inr hp
  · obtain ⟨_, _, _, _, _, hz, hn⟩ := hW
    refine ⟨hok, _, _, ([] ++ pa) ++ pv, ⟨[] ++ pa, pv, trodAll_append (hargs _ (fun _ _ => rfl)) (hres _ _ _), hvars _ (fun _ _ => rfl), rfl, ?_, ?_⟩, ?_⟩
    · intro b off hp
      have hin : MemPlace.cell b off ∈ before := by rw [hps]; simpa using hp
      rw [hb.frozen (hlt _ hin)]
      exact hz b off hin
    · intro ha
      have := hn ha
      rw [hps] at this
      simpa using this
    · intro p hp _
      rw [hps]
      simpa using hp
/-- Arguments of any number, read again where all old memory stands. -/
theorem trodAll_stays {sp : Nat → Bool} {W W' : World} (hl : laidOutB P = true) (hsame : Below W.heap.size W W') :
    ∀ {ts : List TypeId} {vs : List Value} {ds : List (DataW H)} {ps : List MemPlace}, (∀ t ∈ ts, P.readableRec t = true ∧ t < P.types.size) → (∀ p ∈ ps, p.block < W.heap.size) → (∀ p ∈ ps, sp p.block = true) →
      DataW.TrodAll enc P W 0 (fun _ => true) true ts vs ds ps → DataW.TrodAll enc P W' 0 sp true ts vs ds ps
  | [], [], [], _, _, _, _, h => h
  | t :: ts, v :: vs, d :: ds, ps, ht, hlt, hs, h => by
    obtain ⟨p, q, h1, h2, rfl⟩ := h
    refine ⟨p, q, WideElems.Trod_stays hl (ht t (by simp)).1 (ht t (by simp)).2 h1 (fun x hx => hsame.same (hlt x (by simp [hx]))) (fun x hx => hs x (by simp [hx])), ?_, rfl⟩
    exact trodAll_stays hl hsame (fun t' h' => ht t' (by simp [h'])) (fun x hx => hlt x (by simp [hx])) (fun x hx => hs x (by simp [hx])) h2
  | [], [], _ :: _, _, _, _, _, h => h.elim
  | [], _ :: _, _, _, _, _, _, h => h.elim
  | _ :: _, [], _, _, _, _, _, h => h.elim
  | _ :: _, _ :: _, [], _, _, _, _, h => h.elim
end
end Go.Proofs.YtffnpfponnhddaaGreat
namespace Go.Proofs.YtffnpfponnhddaaGreat
open Go.ChangeShapes Go.WideShapes Go.ChangeAt Go.RowKit

theorem own_ok : ownKnob Tryz.prog.godebug = none := by kernel_rfl
theorem laid_ok : laidOutB Tryz.prog = true := by kernel_rfl
section
variable {H : Type} {enc : TypeId × Value → H} {w : World} {base : Nat} {spare : Nat → Bool} {held : Bool}
theorem reads_id {cs : List Value} (hl : cs.length = 2) (h : Reads enc Tryz.prog w base spare held 43 cs) : ∃ x : Im, cs = x.enc ∧ x.wf := by
  obtain ⟨a, b, rfl⟩ := list2 hl
  obtain ⟨x, rfl⟩ := reads_int Tryz.underlying3 (reads_field 0 0 1 Tryz.underlying43 rfl rfl rfl (by kernel_rfl) h)
  obtain ⟨y, rfl, h0, h1⟩ := reads_u32 Tryz.underlying22 (reads_field 1 1 1 Tryz.underlying43 rfl rfl rfl (by kernel_rfl) h)
  exact ⟨(x, y), rfl, h0, h1⟩
theorem reads_vec {cs : List Value} (hl : cs.length = 8) (h : Reads enc Tryz.prog w base spare held 80 cs) : ∃ v : Vm, cs = [.int .u32 v.d0, .int .u32 v.d1, .int .u32 v.d2, .int .u32 v.d3, .int .u32 v.d4, .int .u32 v.d5, .int .u32 v.d6, .int .u32 v.d7] ∧ v.wf := by
  obtain ⟨c0, c1, c2, c3, c4, c5, c6, c7, rfl⟩ := list8 hl
  obtain ⟨y0, rfl, h0⟩ := reads_u32 Tryz.underlying22 (reads_elem 0 0 1 Tryz.underlying80 (by decide) (by kernel_rfl) rfl h)
  obtain ⟨y1, rfl, h1⟩ := reads_u32 Tryz.underlying22 (reads_elem 1 1 1 Tryz.underlying80 (by decide) (by kernel_rfl) rfl h)
  obtain ⟨y2, rfl, h2⟩ := reads_u32 Tryz.underlying22 (reads_elem 2 2 1 Tryz.underlying80 (by decide) (by kernel_rfl) rfl h)
  obtain ⟨y3, rfl, h3⟩ := reads_u32 Tryz.underlying22 (reads_elem 3 3 1 Tryz.underlying80 (by decide) (by kernel_rfl) rfl h)
  obtain ⟨y4, rfl, h4⟩ := reads_u32 Tryz.underlying22 (reads_elem 4 4 1 Tryz.underlying80 (by decide) (by kernel_rfl) rfl h)
  obtain ⟨y5, rfl, h5⟩ := reads_u32 Tryz.underlying22 (reads_elem 5 5 1 Tryz.underlying80 (by decide) (by kernel_rfl) rfl h)
  obtain ⟨y6, rfl, h6⟩ := reads_u32 Tryz.underlying22 (reads_elem 6 6 1 Tryz.underlying80 (by decide) (by kernel_rfl) rfl h)
  obtain ⟨y7, rfl, h7⟩ := reads_u32 Tryz.underlying22 (reads_elem 7 7 1 Tryz.underlying80 (by decide) (by kernel_rfl) rfl h)
  exact ⟨⟨y0, y1, y2, y3, y4, y5, y6, y7⟩, rfl, h0, h1, h2, h3, h4, h5, h6, h7⟩
set_option maxRecDepth 100000 in
theorem open_id {r : Reach} {b0 : Nat} {v : Value} {d : DataW H} {p : List MemPlace} (hv : Value.okWide Tryz.prog w r b0 43 v) (h : DataW.Trod enc Tryz.prog w base spare held 43 v d p) : ∃ x : Im, v = .agg #[.int .i64 x.1, .int .u32 x.2] ∧ x.wf := by
  obtain ⟨cs, rfl, hsz⟩ := okWide_struct Tryz.underlying43 hv
  obtain ⟨x, hx, hw⟩ := reads_id (cs := cs.toList) (by rw [Array.length_toList, hsz]; kernel_rfl) (reads_of h)
  exact ⟨x, by rw [show cs = x.enc.toArray by rw [← hx]]; rfl, hw⟩
set_option maxRecDepth 100000 in
theorem open_vec {r : Reach} {b0 : Nat} {v : Value} {d : DataW H} {p : List MemPlace} (hv : Value.okWide Tryz.prog w r b0 80 v) (h : DataW.Trod enc Tryz.prog w base spare held 80 v d p) : ∃ x : Vm, v = .agg #[.int .u32 x.d0, .int .u32 x.d1, .int .u32 x.d2, .int .u32 x.d3, .int .u32 x.d4, .int .u32 x.d5, .int .u32 x.d6, .int .u32 x.d7] ∧ x.wf := by
  obtain ⟨cs, rfl, hsz⟩ := okWide_array Tryz.underlying80 hv
  obtain ⟨x, hx, hw⟩ := reads_vec (cs := cs.toList) (by rw [Array.length_toList, hsz]; kernel_rfl) (reads_of h)
  exact ⟨x, by rw [show cs = [.int .u32 x.d0, .int .u32 x.d1, .int .u32 x.d2, .int .u32 x.d3, .int .u32 x.d4, .int .u32 x.d5, .int .u32 x.d6, .int .u32 x.d7].toArray by rw [← hx]], hw⟩
end
end Go.Proofs.YtffnpfponnhddaaGreat
namespace Go.Proofs.YtffnpfponnhddaaGreat
open Go.ChangeShapes Go.WideShapes Go.ChangeAt Go.RowKit

theorem list9 {l : List Value} (h : l.length = 9) : ∃ c0 c1 c2 c3 c4 c5 c6 c7 c8, l = [c0, c1, c2, c3, c4, c5, c6, c7, c8] := by
  match l, h with
  | [c0, c1, c2, c3, c4, c5, c6, c7, c8], _ => exact ⟨_, _, _, _, _, _, _, _, _, rfl⟩
section
variable {H : Type} {enc : TypeId × Value → H} {w : World} {base : Nat} {spare : Nat → Bool} {held : Bool}
end
end Go.Proofs.YtffnpfponnhddaaGreat
namespace Go.Proofs.YtffnpfponnhddaaGreat
open Go.ChangeShapes Go.WideShapes Go.ChangeAt Go.RowKit

set_option maxRecDepth 100000 in
theorem open_str {H : Type} {enc : TypeId × Value → H} {w : World} {base : Nat} {spare : Nat → Bool} {held : Bool} {r : Reach} {b0 : Nat} {v : Value} {d : DataW H} {p : List MemPlace} (hv : Value.okWide Tryz.prog w r b0 9 v) (h : DataW.Trod enc Tryz.prog w base spare held 9 v d p) : ∃ l : List UInt8, v = .string (bs l) ∧ l.length ≤ maxLen := by
  obtain ⟨s, rfl⟩ : ∃ s, v = .string s := by
    unfold Value.okWide at hv
    simp only [Tryz.underlying9] at hv
    cases v <;> simp_all [Cell.okWide, Cell.ok]
  obtain ⟨z, hz, hzl⟩ := reads_string Tryz.underlying9 (by simpa [Value.cells] using reads_of h)
  injection hz with hz
  subst hz
  exact ⟨s.data.toList, by rw [bs_of], by rw [Array.length_toList]; exact hzl⟩
end Go.Proofs.YtffnpfponnhddaaGreat
namespace Go.Proofs.YtffnpfponnhddaaGreat
open Go.ChangeShapes Go.WideShapes Go.ChangeAt Go.RowKit

theorem list4 {l : List Value} (h : l.length = 4) : ∃ a b c d, l = [a, b, c, d] := by
  match l, h with
  | [a, b, c, d], _ => exact ⟨a, b, c, d, rfl⟩
section
variable {H : Type} {enc : TypeId × Value → H} {w : World} {base : Nat} {spare : Nat → Bool} {held : Bool}
theorem reads_tm {cs : List Value} (hl : cs.length = 3) (h : Reads enc Tryz.prog w base spare held 45 cs) : ∃ t : Tm, cs = t.enc ∧ t.wf := by
  obtain ⟨a, b, c, rfl⟩ := list3 hl
  obtain ⟨x, hx, hw⟩ := reads_id (cs := [a, b]) rfl (reads_field 0 0 2 Tryz.underlying45 rfl rfl rfl (by kernel_rfl) h)
  obtain ⟨z, rfl⟩ := reads_int Tryz.underlying3 (reads_field 1 2 1 Tryz.underlying45 rfl rfl rfl (by kernel_rfl) h)
  simp only [Im.enc, List.cons.injEq] at hx
  obtain ⟨rfl, rfl, _⟩ := hx
  exact ⟨(x, z), rfl, hw⟩
theorem reads_add {cs : List Value} (hl : cs.length = 4) (h : Reads enc Tryz.prog w base spare held 52 cs) : ∃ a : Am, cs = a.enc ∧ (a.wf ∧ a.2.length ≤ maxLen) := by
  obtain ⟨a, b, c, d, rfl⟩ := list4 hl
  obtain ⟨t, ht, hw⟩ := reads_tm (cs := [a, b, c]) rfl (reads_field 0 0 3 Tryz.underlying52 rfl rfl rfl (by kernel_rfl) h)
  obtain ⟨z, rfl, hzl⟩ := reads_string Tryz.underlying9 (reads_field 1 3 1 Tryz.underlying52 rfl rfl rfl (by kernel_rfl) h)
  simp only [Tm.enc, List.cons.injEq] at ht
  obtain ⟨rfl, rfl, rfl, _⟩ := ht
  exact ⟨(t, z.data.toList), by unfold Am.enc; rw [bs_of], hw, by rw [Array.length_toList]; exact hzl⟩
set_option maxRecDepth 100000 in
theorem open_oset {r : Reach} {b0 : Nat} {v : Value} {d : DataW H} {p : List MemPlace} (hv : Value.okWide Tryz.prog w r b0 32 v) (h : DataW.Trod enc Tryz.prog w base spare held 32 v d p) :
    ∃ (A : Option Addr) (n c : Nat) (xs : List Am) (B : Option Addr) (m d : Nat) (gs : List Tm), v = .agg #[.slice A n c, .slice B m d] ∧ RdA w w.heap.size A n xs ∧ (∀ x ∈ xs, x.wf ∧ x.2.length ≤ maxLen) ∧ RdT w w.heap.size B m gs ∧ (∀ x ∈ gs, x.wf) ∧ n ≤ c ∧ c ≤ maxLen ∧ m ≤ d ∧ d ≤ maxLen := by
  obtain ⟨cs, rfl, hsz⟩ := okWide_struct Tryz.underlying32 hv
  have hr := reads_of h
  obtain ⟨c0, c1, hcs⟩ := list2 (l := cs.toList) (by rw [Array.length_toList, hsz]; kernel_rfl)
  have hr : Reads enc Tryz.prog w base spare held 32 cs.toList := hr
  rw [hcs] at hr
  obtain ⟨A, n, c, xs, h1, h2, h3, h4, h5⟩ := reads_slice Am.enc (fun a => a.wf ∧ a.2.length ≤ maxLen) (v := c0) Tryz.underlying29 (by kernel_rfl) (by decide) (fun cs hl h => reads_add hl h) (reads_field 0 0 1 Tryz.underlying32 rfl rfl rfl (by kernel_rfl) hr)
  obtain ⟨B, m, d', gs, k1, k2, k3, k4, k5⟩ := reads_slice Tm.enc Tm.wf (v := c1) Tryz.underlying30 (by kernel_rfl) (by decide) (fun cs hl h => reads_tm hl h) (reads_field 1 1 1 Tryz.underlying32 rfl rfl rfl (by kernel_rfl) hr)
  have e : cs = [c0, c1].toArray := by rw [← hcs]
  subst h1; subst k1
  exact ⟨A, n, c, xs, B, m, d', gs, by rw [e], h2, h3, k2, k3, h4, h5, k4, k5⟩
set_option maxRecDepth 100000 in
theorem open_tags {r : Reach} {b0 : Nat} {v : Value} {d : DataW H} {p : List MemPlace} (hv : Value.okWide Tryz.prog w r b0 30 v) (h : DataW.Trod enc Tryz.prog w base spare held 30 v d p) :
    ∃ A n c xs, v = .slice A n c ∧ RdT w w.heap.size A n xs ∧ (∀ x ∈ xs, x.wf) ∧ n ≤ c ∧ c ≤ maxLen := by
  obtain ⟨a, len, cap, rfl⟩ := okWide_slice Tryz.underlying30 hv
  obtain ⟨A, n, c, xs, h1, h2, h3, h4, h5⟩ := reads_slice Tm.enc Tm.wf Tryz.underlying30 (by kernel_rfl) (by decide) (fun cs hl h => reads_tm hl h) (reads_of h)
  exact ⟨A, n, c, xs, h1, h2, h3, h4, h5⟩
end
end Go.Proofs.YtffnpfponnhddaaGreat
