/- Arguments that are lists of lists of numbers, and lists of truth values, opened; general openers. -/
import Derived.ProofKit
import Derived.OpenShut
import Derived.Below
import Derived.ChangeSame
import Derived.Deep.Slices
import Derived.Deep.Matrix
import Derived.SizedLaws
import Derived.Test.YtebpghpeeedgcaaNk
namespace Go.Proofs.Ytebpghpeeedgcaa
open Go.ChangeShapes Go.WideShapes Go.RowKit Go.Deep

section
variable {H : Type} {enc : TypeId × Value → H} {P : Program} {w : World} {base : Nat} {spare : Nat → Bool} {held : Bool}
/-- These cells read as something of the type. -/
def Reads (enc : TypeId × Value → H) (P : Program) (w : World) (base : Nat) (spare : Nat → Bool) (held : Bool) (t : TypeId) (cs : List Value) : Prop := ∃ n x, DataW.trod enc P w base spare held n t cs = some x
theorem reads_of {t : TypeId} {v : Value} {d : DataW H} {p : List MemPlace} (h : DataW.Trod enc P w base spare held t v d p) : Reads enc P w base spare held t v.cells.toList := by
  obtain ⟨n, h⟩ := h; exact ⟨n, _, h⟩
theorem reads_field {t t' : TypeId} {fs : Array Field} {f : Field} {cs : List Value} (j o k : Nat) (ht : P.underlying t = some (.struct fs)) (hf : fs[j]? = some f) (ho : f.offset = o) (hy : f.type = t') (hk : P.cellsOf t' = k)
    (h : Reads enc P w base spare held t cs) : Reads enc P w base spare held t' ((cs.drop o).take k) := by
  obtain ⟨n, x, h⟩ := h
  obtain ⟨xs, m, _, _, _, hl, hg⟩ := DataW.trod_struct ht h
  have hj : j < xs.length := by have := (Array.getElem?_eq_some_iff.1 hf).1; omega
  have := hg j f hf
  rw [ho, hy, hk, List.getElem?_eq_getElem hj] at this
  exact ⟨_, _, this⟩
theorem reads_elem {t e : TypeId} {m : Nat} {cs : List Value} (i o k : Nat) (ht : P.underlying t = some (.array m e)) (hi : i < m) (hk : P.cellsOf e = k) (ho : i * k = o)
    (h : Reads enc P w base spare held t cs) : Reads enc P w base spare held e ((cs.drop o).take k) := by
  obtain ⟨n, x, h⟩ := h
  obtain ⟨xs, q, _, _, _, hl, hg⟩ := DataW.trod_array ht h
  have hj : i < xs.length := by omega
  have := hg i hi
  rw [hk, ho, List.getElem?_eq_getElem hj] at this
  exact ⟨_, _, this⟩
theorem reads_int {t : TypeId} {k : IntKind} {v : Value} (ht : P.underlying t = some (.int k)) (h : Reads enc P w base spare held t [v]) : ∃ z : Int, v = .int k z := by
  obtain ⟨n, x, h⟩ := h
  obtain ⟨z, hz, _⟩ := DataW.trod_int ht h
  exact ⟨z, by simpa using hz⟩
theorem reads_u32 {t : TypeId} {v : Value} (ht : P.underlying t = some (.int .u32)) (h : Reads enc P w base spare held t [v]) : ∃ z : Int, v = .int .u32 z ∧ 0 ≤ z ∧ z < 4294967296 := by
  obtain ⟨n, x, h⟩ := h
  obtain ⟨z, hz, _, hw⟩ := DataW.trod_int ht h
  refine ⟨z, by simpa using hz, ?_⟩
  have h1 : IntKind.u32.min = 0 := rfl
  have h2 : IntKind.u32.max = 4294967295 := rfl
  simp only [Lit.wf, Bool.and_eq_true, decide_eq_true_eq, h1, h2] at hw
  omega
theorem reads_i64 {t : TypeId} {v : Value} (ht : P.underlying t = some (.int .i64)) (h : Reads enc P w base spare held t [v]) : ∃ z : Int, v = .int .i64 z ∧ -9223372036854775808 ≤ z ∧ z ≤ 9223372036854775807 := by
  obtain ⟨n, x, h⟩ := h
  obtain ⟨z, hz, _, hw⟩ := DataW.trod_int ht h
  refine ⟨z, by simpa using hz, ?_⟩
  have h1 : IntKind.i64.min = -9223372036854775808 := rfl
  have h2 : IntKind.i64.max = 9223372036854775807 := rfl
  simp only [Lit.wf, Bool.and_eq_true, decide_eq_true_eq, h1, h2] at hw
  omega
theorem okWide_array {t e : TypeId} {m : Nat} {r : Reach} {b0 : Nat} {v : Value} (ht : P.underlying t = some (.array m e)) (h : Value.okWide P w r b0 t v) : ∃ cs, v = .agg cs ∧ cs.size = P.cellsOf t := by
  simp only [Value.okWide, ht] at h
  obtain ⟨cs, h1, h2, _⟩ := h
  exact ⟨cs, h1, h2⟩
theorem reads_bool {t : TypeId} {v : Value} (ht : P.underlying t = some .bool) (h : Reads enc P w base spare held t [v]) : ∃ z : Bool, v = .bool z := by
  obtain ⟨n, x, h⟩ := h
  obtain ⟨z, hz, _⟩ := DataW.trod_bool ht h
  exact ⟨z, by simpa using hz⟩
theorem reads_string {t : TypeId} {v : Value} (ht : P.underlying t = some .string) (h : Reads enc P w base spare held t [v]) : ∃ z : ByteArray, v = .string z ∧ z.size ≤ maxLen := by
  obtain ⟨n, x, h⟩ := h
  obtain ⟨z, hz, _, hl⟩ := DataW.trod_string ht h
  exact ⟨z, by simpa using hz, hl⟩
theorem cell_none {w : World} {a : Addr} {v : Value} (h : w.cell? a = some v) : a.spot = none ∧ a.block < w.heap.size := by
  unfold World.cell? at h
  split at h
  · rename_i hb
    refine ⟨?_, (Array.getElem?_eq_some_iff.1 hb).1⟩
    split at h
    · cases h
    · rename_i hs; simpa using hs
  · cases h
/-- A slice, opened: every element is one of the model's. -/
theorem reads_slice {α : Type} [Inhabited α] (mk : α → List Value) (Q : α → Prop) {t e : TypeId} {sz : Nat} {v : Value} (ht : P.underlying t = some (.slice e)) (hC : P.cellsOf e = sz) (hz : 0 < sz)
    (hE : ∀ cs, cs.length = sz → Reads enc P w base spare held e cs → ∃ p, cs = mk p ∧ Q p) (h : Reads enc P w base spare held t [v]) :
    ∃ (A : Option Addr) (l c : Nat) (ps : List α), v = .slice A l c ∧ Rd w w.heap.size sz A l (ps.map mk) ∧ (∀ p ∈ ps, Q p) ∧ l ≤ c ∧ c ≤ maxLen := by
  obtain ⟨n, x, h⟩ := h
  rcases open_slice ht h with ⟨hcs, _⟩ | ⟨a, len, cap, m, n, D, Pl, hcs, hb, hl, hm, hmm, hx, hi⟩
  · exact ⟨none, 0, 0, [], by simpa using hcs, Rd.nil_, by simp, Nat.le_refl _, Nat.zero_le _⟩
  · have hle : len ≤ m := by rw [hmm]; split <;> omega
    obtain ⟨f, hf⟩ := choose_lt (n := len) (p := fun i (p : α) => w.cells? base (a.add (i * sz)) sz = some (mk p) ∧ (mk p).length = sz ∧ Q p) (fun i hi' => by
      obtain ⟨cs', h1, h2⟩ := hi i (by omega)
      rw [hC] at h1
      obtain ⟨_, hlen, _⟩ := World.cells?_some h1
      obtain ⟨p, rfl, hq⟩ := hE cs' hlen ⟨_, _, h2⟩
      exact ⟨p, h1, hlen, hq⟩)
    refine ⟨some a, len, cap, (List.range len).map f, by simpa using hcs, ⟨by simp, fun h0 => ?_⟩, ?_, hl, hm⟩
    · have hc0 : ∃ u, w.cell? a = some u := by
        obtain ⟨h1, h2, _⟩ := hf 0 h0
        obtain ⟨_, _, hat⟩ := World.cells?_some h1
        have h3 := hat 0 hz
        rw [List.getElem?_eq_getElem (by omega)] at h3
        exact ⟨_, by simpa [Addr.add] using h3⟩
      obtain ⟨u, hu⟩ := hc0
      obtain ⟨hs, hlt⟩ := cell_none hu
      obtain ⟨b, o, s⟩ := a
      simp only at hs
      subst hs
      refine ⟨b, o, rfl, hlt, fun k x hk j u hj => ?_⟩
      simp only [List.map_map, List.getElem?_map] at hk
      have hkl : k < len := by
        rcases Nat.lt_or_ge k len with h' | h'
        · exact h'
        · simp [List.getElem?_eq_none (show (List.range len).length ≤ k by simpa using h')] at hk
      rw [List.getElem?_eq_getElem (by simpa using hkl)] at hk
      simp only [List.getElem_range, Option.map_some, Function.comp, Option.some.injEq] at hk
      subst hk
      obtain ⟨h1, h2, _⟩ := hf k hkl
      obtain ⟨_, _, hat⟩ := World.cells?_some h1
      have hjl : j < sz := by have := (List.getElem?_eq_some_iff.1 hj).1; omega
      have h3 := hat j hjl
      rw [add_add, hj] at h3
      rw [← h3]
      unfold Addr.add
      by_cases h0' : k * sz + j = 0
      · rw [if_pos h0', Nat.add_assoc, h0', Nat.add_zero]
      · rw [if_neg h0', Nat.add_assoc]
    · intro p hp
      obtain ⟨i, hi', rfl⟩ := List.mem_map.1 hp
      exact (hf i (by simpa using hi')).2.2
end

section
variable {H : Type} {enc : TypeId × Value → H} {P : Program} {w : World} {base : Nat} {spare : Nat → Bool} {held : Bool}
theorem shut_bool {t : TypeId} (ht : P.underlying t = some .bool) {c : Bool} : DataW.Trod enc P w base spare held t (.bool c) (.lit (.bool c)) [] := ⟨1, by simp [DataW.trod, Value.cells, ht]⟩
theorem okWide_bool_mk {t : TypeId} (ht : P.underlying t = some .bool) {c : Bool} {r : Reach} {b0 : Nat} : Value.okWide P w r b0 t (.bool c) := by simp [Value.okWide, ht, Cell.okWide, Cell.ok]
end

theorem list2 {l : List Value} (h : l.length = 2) : ∃ a b, l = [a, b] := by
  match l, h with
  | [a, b], _ => exact ⟨a, b, rfl⟩
theorem list8 {l : List Value} (h : l.length = 8) : ∃ c0 c1 c2 c3 c4 c5 c6 c7, l = [c0, c1, c2, c3, c4, c5, c6, c7] := by
  match l, h with
  | [c0, c1, c2, c3, c4, c5, c6, c7], _ => exact ⟨_, _, _, _, _, _, _, _, rfl⟩
theorem list3 {l : List Value} (h : l.length = 3) : ∃ a b c, l = [a, b, c] := by
  match l, h with
  | [a, b, c], _ => exact ⟨a, b, c, rfl⟩
theorem list10 {l : List Value} (h : l.length = 10) : ∃ c0 c1 c2 c3 c4 c5 c6 c7 c8 c9, l = [c0, c1, c2, c3, c4, c5, c6, c7, c8, c9] := by
  match l, h with
  | [c0, c1, c2, c3, c4, c5, c6, c7, c8, c9], _ => exact ⟨_, _, _, _, _, _, _, _, _, _, rfl⟩
theorem list12 {l : List Value} (h : l.length = 12) : ∃ c0 c1 c2 c3 c4 c5 c6 c7 c8 c9 c10 c11, l = [c0, c1, c2, c3, c4, c5, c6, c7, c8, c9, c10, c11] := by
  match l, h with
  | [c0, c1, c2, c3, c4, c5, c6, c7, c8, c9, c10, c11], _ => exact ⟨_, _, _, _, _, _, _, _, _, _, _, _, rfl⟩

section
variable {H : Type} {enc : TypeId × Value → H} {P : Program}
theorem post_of_below {f : Func} {s : ChangeSpec} {apart fresh handsOn again : Bool} {W W' : World} {args : Array Value} {v : Value} {ds gs : List (DataW H)} {before pa pv : List MemPlace}
    (hW : DataW.Whole enc P f.params.toList s.vars apart W args.toList ds gs before)
    (hres : ∀ (b : Nat) (sp : Nat → Bool) (hd : Bool), DataW.TrodAll enc P W' b sp hd f.resultTypes.toList (v.resultList f.resultTypes.size) (s.fn H (ds ++ gs)).results [])
    (hargs : ∀ sp : Nat → Bool, (∀ p ∈ before, sp p.block = true) → DataW.TrodAll enc P W' 0 sp true f.params.toList args.toList (s.fn H (ds ++ gs)).args pa)
    (hvars : ∀ sp : Nat → Bool, (∀ p ∈ before, sp p.block = true) → DataW.TrodVars enc P W' sp s.vars (s.fn H (ds ++ gs)).vars pv)
    (hps : before = pa ++ pv) (hb : Below W.heap.size W W')
    (hok : ∀ (j : Nat) (t : TypeId) (r : Value), f.resultTypes[j]? = some t → (v.resultList f.resultTypes.size)[j]? = some r → Value.okWide P W' .any 0 t r) :
    s.post enc P f apart fresh handsOn again W args v W' := by
  have hlt : ∀ p ∈ before, p.block < W.heap.size := fun p hp => hW.lt p hp
  have hold : ∀ p ∈ before, (fun b => decide (b < W.heap.size)) p.block = true := fun p hp => by simpa using hlt p hp
  refine ⟨ds, gs, before, [], pa, pv, hW, hres _ _ _, hargs _ hold, hvars _ hold, World.keptBut_mono (fun p hp => ⟨hp, ?_⟩) (hb.frame (· ∈ before)), fun _ => ?_⟩
  · rw [hps, List.mem_append] at hp
    exact Or.inr hp
  · obtain ⟨_, _, _, _, _, hz, hn⟩ := hW
    refine ⟨hok, _, _, ([] ++ pa) ++ pv, ⟨[] ++ pa, pv, trodAll_append (hargs _ (fun _ _ => rfl)) (hres _ _ _), hvars _ (fun _ _ => rfl), rfl, ?_, ?_⟩, ?_⟩
    · intro b off hp
      have hin : MemPlace.cell b off ∈ before := by rw [hps]; simpa using hp
      rw [hb.frozen (hlt _ hin)]
      exact hz b off hin
    · intro ha
      have := hn ha
      rw [hps] at this
      simpa using this
    · intro p hp _
      rw [hps]
      simpa using hp
/-- Arguments of any number, read again where all old memory stands. -/
theorem trodAll_stays {sp : Nat → Bool} {W W' : World} (hl : laidOutB P = true) (hsame : Below W.heap.size W W') :
    ∀ {ts : List TypeId} {vs : List Value} {ds : List (DataW H)} {ps : List MemPlace}, (∀ t ∈ ts, P.readableRec t = true ∧ t < P.types.size) → (∀ p ∈ ps, p.block < W.heap.size) → (∀ p ∈ ps, sp p.block = true) →
      DataW.TrodAll enc P W 0 (fun _ => true) true ts vs ds ps → DataW.TrodAll enc P W' 0 sp true ts vs ds ps
  | [], [], [], _, _, _, _, h => h
  | t :: ts, v :: vs, d :: ds, ps, ht, hlt, hs, h => by
    obtain ⟨p, q, h1, h2, rfl⟩ := h
    refine ⟨p, q, WideElems.Trod_stays hl (ht t (by simp)).1 (ht t (by simp)).2 h1 (fun x hx => hsame.same (hlt x (by simp [hx]))) (fun x hx => hs x (by simp [hx])), ?_, rfl⟩
    exact trodAll_stays hl hsame (fun t' h' => ht t' (by simp [h'])) (fun x hx => hlt x (by simp [hx])) (fun x hx => hs x (by simp [hx])) h2
  | [], [], _ :: _, _, _, _, _, h => h.elim
  | [], _ :: _, _, _, _, _, _, h => h.elim
  | _ :: _, [], _, _, _, _, _, h => h.elim
  | _ :: _, _ :: _, [], _, _, _, _, h => h.elim
end
end Go.Proofs.Ytebpghpeeedgcaa
namespace Go.Proofs.Ytebpghpeeedgcaa
open Go.ChangeShapes Go.WideShapes Go.ChangeAt Go.RowKit Go.Deep

theorem own_ok : ownKnob Try.prog.godebug = none := by kernel_rfl
theorem laid_ok : laidOutB Try.prog = true := by kernel_rfl
theorem bytes_int : Try.prog.bytesOf 3 = 8 := by kernel_rfl
theorem cells_int : Try.prog.cellsOf 3 = 1 := by kernel_rfl
theorem cells_ints : Try.prog.cellsOf 31 = 1 := by kernel_rfl
theorem cells_bool : Try.prog.cellsOf 4 = 1 := by kernel_rfl
theorem weightsAll_in {H : Type} {P : Program} {e : TypeId} : ∀ {l : List (DataW H)} {d : DataW H}, d ∈ l → ∀ n ∈ d.weights P e, n ∈ DataW.weightsAll P e l
  | d' :: r, d, hd, n, hn => by
    simp only [DataW.weightsAll, List.mem_append]
    rcases List.mem_cons.1 hd with rfl | h
    · exact Or.inl hn
    · exact Or.inr (weightsAll_in h n hn)
theorem sized_in {H : Type} {P : Program} {ts : List TypeId} {ds : List (DataW H)} (h : (DataW.weightsEach P ts ds).all (· ≤ reachBytes) = true) {j : Nat} {t e q : TypeId} {elems spare e' sp' : List (DataW H)}
    (ht : ts[j]? = some t) (hd : ds[j]? = some (.slice elems spare)) (hu : P.underlying t = some (.slice e)) (hu2 : P.underlying e = some (.slice q)) (hx : DataW.slice e' sp' ∈ elems) : (e'.length + sp'.length) * P.bytesOf q ≤ reachBytes := by
  refine of_decide_eq_true (List.all_eq_true.1 h _ (DataW.weights_mem_each ht hd _ ?_))
  simp only [DataW.weights, hu, List.mem_cons, List.mem_append]
  exact Or.inr (Or.inl (weightsAll_in hx _ (by simp [DataW.weights, hu2])))
section
variable {H : Type} {enc : TypeId × Value → H} {w : World} {base : Nat} {held : Bool}
theorem addr_addN (b o k : Nat) : (⟨b, o, none⟩ : Addr).add k = ⟨b, o + k, none⟩ := by
  unfold Addr.add
  split
  · rename_i h; subst h; rfl
  · rfl
/-- A list of lists of numbers, opened. -/
theorem open_grid {r : Reach} {b0 : Nat} {v : Value} {d : DataW H} {p : List MemPlace} (hv : Value.okWide Try.prog w r b0 22 v) (h : DataW.Trod enc Try.prog w base (fun _ => true) held 22 v d p)
    {ts : List TypeId} {ds : List (DataW H)} (hsz : (DataW.weightsEach Try.prog ts ds).all (· ≤ reachBytes) = true) {j : Nat} (htj : ts[j]? = some 22) (hdj : ds[j]? = some d) :
    ∃ A n c rs, v = .slice A n c ∧ RdG w w.heap.size A n rs ∧ n ≤ maxLen ∧ ∀ x ∈ rs, x.l ≤ 1000000000000000 := by
  obtain ⟨a0, len0, cap0, rfl⟩ := okWide_slice Try.underlying22 hv
  obtain ⟨fuel, hf⟩ := h
  rcases open_int_rows Try.underlying22 Try.underlying31 Try.underlying3 cells_ints cells_int hf with ⟨hcs, _⟩ | ⟨a, len, cap, A, L, C, Z, hcs, hb, hl, hm, hx, hrow⟩
  · have e : Value.slice a0 len0 cap0 = .slice none 0 0 := by simpa [Value.cells] using hcs
    exact ⟨none, 0, 0, [], e, RdG.nil_, Nat.zero_le _, by simp⟩
  · have e : Value.slice a0 len0 cap0 = .slice (some a) len cap := by simpa [Value.cells] using hcs
    injection hx with hx1 hx2
    refine ⟨some a, len, cap, (List.range len).map fun i => (⟨A i, L i, C i, (Z i).take (L i)⟩ : Rw), e, ⟨⟨by simp, fun h0 => ?_⟩, fun x hx => ?_⟩, Nat.le_trans hl hm, fun x hx => ?_⟩
    · obtain ⟨hs, hlt⟩ := cell_none (by have := (hrow 0 (by omega)).1; rw [show a.add 0 = a by simp [Addr.add]] at this; exact this)
      obtain ⟨b, o, s⟩ := a
      simp only at hs
      subst hs
      refine ⟨b, o, rfl, hlt, fun k x hk j' u hj => ?_⟩
      rw [List.map_map, List.getElem?_map] at hk
      have hkl : k < len := by
        rcases Nat.lt_or_ge k len with h' | h'
        · exact h'
        · rw [List.getElem?_eq_none (by simpa using h')] at hk; cases hk
      rw [List.getElem?_range hkl] at hk
      simp only [Option.map_some, Function.comp, Option.some.injEq] at hk
      subst hk
      have h1 := (hrow k (by omega)).1
      rw [addr_addN] at h1
      have hj0 : j' = 0 := by
        have := (List.getElem?_eq_some_iff.1 hj).1
        simp [Rw.enc] at this
        exact this
      subst hj0
      have hu : u = .slice (A k) (L k) (C k) := by simpa [Rw.enc] using hj.symm
      rw [hu, Nat.mul_one, Nat.add_zero]; exact h1
    · obtain ⟨i, hi, rfl⟩ := List.mem_map.1 hx
      have hil := List.mem_range.1 hi
      obtain ⟨_, h2, h3, h4, _, h6, h7⟩ := hrow i (by omega)
      refine ⟨by simp; omega, fun h0 => ?_⟩
      dsimp only at h0
      cases hA : A i with
      | none => rw [h6 hA] at h2; omega
      | some a' =>
        obtain ⟨_, h8⟩ := h7 a' hA
        obtain ⟨hs, hlt⟩ := cell_none (by have := h8 0 (by omega); rw [show a'.add 0 = a' by simp [Addr.add]] at this; exact this)
        obtain ⟨b, o, s⟩ := a'
        simp only at hs
        subst hs
        refine ⟨b, o, by simp, hlt, fun k x hk j' u hj => ?_⟩
        rw [List.getElem?_map] at hk
        obtain ⟨y, hy, rfl⟩ := Option.map_eq_some_iff.1 hk
        dsimp only at hy
        have hkl : k < L i := by
          have := (List.getElem?_eq_some_iff.1 hy).1
          rw [List.length_take] at this
          omega
        rw [List.getElem?_take_of_lt hkl] at hy
        have h9 := h8 k (by omega)
        rw [addr_addN, List.getD_eq_getElem?_getD, hy] at h9
        have hj0 : j' = 0 := by
          have := (List.getElem?_eq_some_iff.1 hj).1
          simp [eI] at this
          exact this
        subst hj0
        have hu : u = .int .i64 y := by simpa [eI] using hj.symm
        rw [hu, Nat.mul_one, Nat.add_zero]; exact h9
    · obtain ⟨i, hi, rfl⟩ := List.mem_map.1 hx
      have hil := List.mem_range.1 hi
      obtain ⟨_, h2, _, h4, _, h6, _⟩ := hrow i (by omega)
      dsimp only
      cases hA : A i with
      | none => rw [h6 hA] at h2; omega
      | some a' =>
        have hm2 : (DataW.slice (lits .i64 ((Z i).take (L i))) (lits .i64 ((Z i).drop (L i))) : DataW H) ∈ (List.range len).map fun q => intRow .i64 (A q) (L q) (Z q) :=
          List.mem_map.2 ⟨i, hi, by simp [intRow, hA]⟩
        have h8 := sized_in hsz htj (by rw [hdj, hx1]) Try.underlying22 Try.underlying31 hm2
        rw [bytes_int] at h8
        simp only [lits, List.length_map, List.length_take, List.length_drop, reachBytes] at h8
        omega
theorem open_flags {spare : Nat → Bool} {r : Reach} {b0 : Nat} {v : Value} {d : DataW H} {p : List MemPlace} (hv : Value.okWide Try.prog w r b0 23 v) (h : DataW.Trod enc Try.prog w base spare held 23 v d p) :
    ∃ (A : Option Addr) (n c : Nat) (xs : List Bool), v = .slice A n c ∧ Rd w w.heap.size 1 A n (xs.map eB) ∧ n ≤ maxLen := by
  obtain ⟨a, len, cap, rfl⟩ := okWide_slice Try.underlying23 hv
  obtain ⟨A, n, c, xs, h1, h2, _, h4, h5⟩ := reads_slice eB (fun _ => True) Try.underlying23 cells_bool (by decide) (fun cs hl h => by
    obtain ⟨x, rfl⟩ : ∃ x, cs = [x] := by
      match cs, hl with
      | [x], _ => exact ⟨x, rfl⟩
    obtain ⟨z, rfl⟩ := reads_bool Try.underlying4 h
    exact ⟨z, rfl, trivial⟩) (reads_of h)
  exact ⟨A, n, c, xs, h1, h2, Nat.le_trans h4 h5⟩
end
end Go.Proofs.Ytebpghpeeedgcaa
