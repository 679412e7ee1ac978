/- Items of maps (the program's): all fields with their values, in the fields' order. -/
import Derived.Test.YtadldndmmobpdaaOpI
import Derived.Maps.RangeWalk
import Derived.Maps.OwnOps
namespace Go.Proofs.Ytadldndmmobpdaa
open Go.RowKit Go.Maps

/-- A put, in a box of its own (the walk's simp does not part it). -/
structure PBox where
  p : Pm
/-- How a put reads, in a Go map. -/
def rdPut : Value → Option (DataW Pm × List MemPlace)
  | .agg cs => match cs.toList with
    | [.int .i64 a, .int .u32 b, .int .i64 c, .string s, .int .i64 d, .int .u32 e, .int .i64 f] => some (.held (((a, b), c), (s.data.toList, (d, (e, f)))), [])
    | _ => none
  | _ => none
theorem rdPut_mk (p : Pm) : rdPut (.agg #[.int .i64 p.1.1.1, .int .u32 p.1.1.2, .int .i64 p.1.2, .string (bs p.2.1), .int .i64 p.2.2.1, .int .u32 p.2.2.2.1, .int .i64 p.2.2.2.2]) = some (.held p, []) := rfl
theorem rdPut_inv {v : Value} {z : DataW Pm × List MemPlace} (h : rdPut v = some z) : ∃ p : Pm, v = .agg #[.int .i64 p.1.1.1, .int .u32 p.1.1.2, .int .i64 p.1.2, .string (bs p.2.1), .int .i64 p.2.2.1, .int .u32 p.2.2.2.1, .int .i64 p.2.2.2.2] ∧ z = (.held p, []) := by
  unfold rdPut at h
  split at h
  · rename_i cs
    split at h
    · rename_i a b c s d e f hcs
      injection h with h
      subst h
      refine ⟨(((a, b), c), (s.data.toList, (d, (e, f)))), ?_, rfl⟩
      have hc : cs = [.int .i64 a, .int .u32 b, .int .i64 c, .string s, .int .i64 d, .int .u32 e, .int .i64 f].toArray := by rw [← hcs]
      rw [hc]
      dsimp only
      rw [bs_of]
    · cases h
  · cases h
theorem strLaw : Keyed Try.prog 9 := string_keyed Try.underlying9
theorem zeroPut (w : World) : (zeroValue 96).run Try.prog w = .ok (.agg #[.int .i64 zeroP.1.1.1, .int .u32 zeroP.1.1.2, .int .i64 zeroP.1.2, .string (bs zeroP.2.1), .int .i64 zeroP.2.2.1, .int .u32 zeroP.2.2.2.1, .int .i64 zeroP.2.2.2.2]) w := by kernel_rfl
theorem strKey {f : List UInt8} (h : f.length ≤ maxLen) : keyOf Try.prog 9 (.string (bs f)) = some (.string f) := by
  have := WideMaps.keyOf_string_mk (P := Try.prog) Try.underlying9 (s := bs f) (by rw [bs_size]; exact h)
  exact this
theorem strKey_inv {key : Value} {kl : Lit} (h : keyOf Try.prog 9 key = some kl) : ∃ f : List UInt8, key = .string (bs f) ∧ kl = .string f := by
  cases key <;> simp [keyOf, Try.underlying9, mapKey] at h
  rename_i s
  exact ⟨s.data.toList, by rw [bs_of], h.2.symm⟩
section
variable {P : Program} (w : World) {ops : Array Oper} {rest : List Oper} {o : Oper} {a : Act} {Q : Exit → Act → World → Prop}
theorem wpList_look_put (hg : o.guard = none) (m x : Operand) (t : TypeId) (hop : o.op = Op.lookup t m x true)
    (k e : TypeId) (K : Keyed P k) (ht : P.underlying t = some (.map k e)) (hz : (zeroValue e).run P w = .ok (.agg #[.int .i64 zeroP.1.1.1, .int .u32 zeroP.1.1.2, .int .i64 zeroP.1.2, .string (bs zeroP.2.1), .int .i64 zeroP.2.2.1, .int .u32 zeroP.2.2.2.1, .int .i64 zeroP.2.2.2.2]) w) (b n : Nat) (D : DataW Pm)
    (hm : a.eval m = .map (some b)) (hown : w.ownsMap P k rdPut b n D) (key : Value) (kl : Lit) (hx : a.eval x = key) (hkey : keyOf P k key = some kl)
    (hK : ∀ q : Pm, D.atKey kl (.held zeroP) = .held q → wpList P ops Q rest (a.put o.dst (.tuple #[.agg #[.int .i64 q.1.1.1, .int .u32 q.1.1.2, .int .i64 q.1.2, .string (bs q.2.1), .int .i64 q.2.2.1, .int .u32 q.2.2.2.1, .int .i64 q.2.2.2.2], .bool (Maps.has D kl)])) w) :
    wpList P ops Q (o :: rest) a w :=
  wpList_lookup_own_ok w hg m x t hop k e K ht rdPut hz (.held zeroP) [] (rdPut_mk zeroP) b n D hm hown key kl hx hkey (fun v ps hv => by
    obtain ⟨q, rfl, hq⟩ := rdPut_inv hv
    exact hK q (congrArg Prod.fst hq))
end
/-- The last put of a field among the first k. -/
def accL (xs : List Pm) (f : List UInt8) (k : Nat) : Option Pm := maxL ((xs.take k).filter fun p => decide (p.2.1 = f))
theorem accL_in {xs : List Pm} {f : List UInt8} {k : Nat} {u : Pm} (hu : xs[k]? = some u) (hf : u.2.1 = f) : accL xs f (k + 1) = stepL (accL xs f k) u := by
  unfold accL maxL
  rw [filter_takeG hu, if_pos (by simpa using hf), List.foldl_append]; rfl
theorem accL_out {xs : List Pm} {f : List UInt8} {k : Nat} {u : Pm} (hu : xs[k]? = some u) (hf : ¬ u.2.1 = f) : accL xs f (k + 1) = accL xs f k := by
  unfold accL
  rw [filter_takeG hu, if_neg (by simpa using hf), List.append_nil]
theorem accL_some {xs : List Pm} {f : List UInt8} {k : Nat} : (accL xs f k).isSome = true ↔ ∃ u ∈ xs.take k, u.2.1 = f := by
  have h : ∀ l : List Pm, ∀ o : Option Pm, (l.foldl stepL o).isSome = (o.isSome || !l.isEmpty) := by
    intro l
    induction l with
    | nil => intro o; simp
    | cons x l ih =>
      intro o
      rw [List.foldl_cons, ih]
      cases o <;> simp [stepL]
  unfold accL maxL
  rw [h]
  simp only [Option.isSome_none, Bool.false_or, Bool.not_eq_true', List.isEmpty_eq_false_iff_exists_mem, List.mem_filter, decide_eq_true_eq]
/-- What the Go map holds behind k rounds. -/
def MapAt (xs : List Pm) (k : Nat) (D : DataW Pm) : Prop := ∀ f, Maps.has D (.string f) = (accL xs f k).isSome ∧ D.atKey (.string f) (.held zeroP) = .held ((accL xs f k).getD zeroP)
theorem mapAt_zero (xs : List Pm) : MapAt xs 0 (.map []) := fun f => ⟨by simp [Maps.has, accL, maxL], by simp [accL, maxL, DataW.atKey]⟩
theorem mapAt_put {xs : List Pm} {k : Nat} {u : Pm} {D : DataW Pm} (h : MapAt xs k D) (hD : IsMap D) (hu : xs[k]? = some u) (hs : accL xs u.2.1 (k + 1) = some u) : MapAt xs (k + 1) (D.put (.string u.2.1) (.held u)) := fun f => by
  by_cases hf : u.2.1 = f
  · subst hf
    rw [hs]
    exact ⟨has_put_same hD (show WideAt.IsKeyLit (.string u.2.1) from trivial) _, atKey_put_same hD (show WideAt.IsKeyLit (.string u.2.1) from trivial) _ _⟩
  · rw [accL_out hu hf]
    have hne : (Lit.string f) ≠ .string u.2.1 := fun e => hf (by injection e with e; exact e.symm)
    exact ⟨(has_put_other hne _).trans (h f).1, (atKey_put_other hne _ _).trans (h f).2⟩
theorem mapAt_stay {xs : List Pm} {k : Nat} {u : Pm} {D : DataW Pm} (h : MapAt xs k D) (hu : xs[k]? = some u) (hs : accL xs u.2.1 (k + 1) = accL xs u.2.1 k) : MapAt xs (k + 1) D := fun f => by
  by_cases hf : u.2.1 = f
  · subst hf
    rw [hs]; exact h _
  · rw [accL_out hu hf]; exact h f
theorem ordI_swap (a b : Int) : ordI b a = -ordI a b := by unfold ordI; (repeat' split) <;> omega
theorem cmpS_swap (x y : Sm) : cmpS y x = -cmpS x y := by
  unfold cmpS
  rw [ordI_swap x.1 y.1, ordI_swap x.2 y.2]
  (repeat' split) <;> omega
theorem cmpL_swap (x y : Pm) : cmpL y x = -cmpL x y := by
  unfold cmpL
  rw [cmpS_swap x.2.2.2 y.2.2.2, cmpT_swap x.1 y.1]
  (repeat' split) <;> omega
theorem Ow.kept_row {w w' : World} {base sz r : Nat} {e : TypeId} {v : Value} {xs : List (List Value)} (h : Ow w base e sz v xs) (hr : r < base) (hg : w.grownBy w' (some r)) : Ow w' base e sz v xs := by
  refine ⟨h.1, h.2.kept hg ?_⟩
  rcases h.2.2 with ⟨rfl, _⟩ | ⟨g, cap, cur, rfl, hb, hh, _⟩
  · exact .inl rfl
  · refine .inr ?_
    simp only [Value.ownBlock, ne_eq, Option.some.injEq]
    omega
theorem infoItm : (Try.prog.info? 136).map (fun i => (i.zero, i.size, i.bytes)) = some (some (.agg #[.string ⟨#[]⟩, .int .i64 0]), 2, 24) := by kernel_rfl
theorem eItm : ElemInfo Try.prog 72 136 2 24 := by
  obtain ⟨i, hi, h0, h1, h2⟩ := info_parts infoItm
  exact ⟨Try.underlying72, ⟨i, _, hi, h0, h1, h2, rfl⟩, by decide⟩
end Go.Proofs.Ytadldndmmobpdaa
