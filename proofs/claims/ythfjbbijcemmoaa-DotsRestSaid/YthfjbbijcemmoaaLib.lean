/- General lemmas of these proofs (no program in sight): comparing arrays of integers; facts on worlds that only grow. -/
import Derived.WalkKit
import Derived.WalkSpells
import Derived.WalkLawsBesides
import Derived.Laws.StructEq
import Derived.Lib.Hide
import Derived.ChangeKeysEq
namespace Go.Proofs.Ythfjbbijcemmoaa
open Go.RowKit

section
variable {P : Program}

theorem run_eqItems_ints (d : Nat) {e : TypeId} {k : IntKind} (he : P.underlying e = some (.int k)) (xs ys : List Int) (w : World) :
    ∀ is : List Nat, (∀ i ∈ is, i < xs.length ∧ i < ys.length) →
    (Op.eqItems (d + 1) e 1 (xs.map (Value.int k)).toArray (ys.map (Value.int k)).toArray is).run P w = .ok (is.all fun i => xs[i]? == ys[i]?) w := by
  have hp : P.plainKey e = true := by simp [Program.plainKey, he]
  intro is
  induction is with
  | nil => intro _; simp [Op.eqItems]
  | cons i is ih =>
    intro h
    have h0 := h i (by simp)
    have ih' := ih (fun j hj => h j (by simp [hj]))
    have hx : (xs.map (Value.int k)).toArray[i * 1]? = some (.int k (xs[i]'h0.1)) := by simp [h0.1]
    have hy : (ys.map (Value.int k)).toArray[i * 1]? = some (.int k (ys[i]'h0.2)) := by simp [h0.2]
    simp only [Op.eqItems, Sem.run_bind, run_part_plain w hp hx, run_part_plain w hp hy, Result.andThen_ok, run_equalIn_int w d e k k _ _ he]
    by_cases hxy : xs[i]'h0.1 = ys[i]'h0.2
    · simp [hxy, ih', h0.1, h0.2]
    · simp [hxy, h0.1, h0.2]

theorem range_all_beq (xs ys : List Int) (h : xs.length = ys.length) : ((List.range xs.length).all fun i => xs[i]? == ys[i]?) = (xs == ys) := by
  rw [Bool.eq_iff_iff]
  simp only [List.all_eq_true, List.mem_range, beq_iff_eq]
  constructor
  · intro hh
    apply List.ext_getElem?
    intro i
    by_cases hi : i < xs.length
    · exact hh i hi
    · rw [List.getElem?_eq_none (by omega), List.getElem?_eq_none (by omega)]
  · rintro rfl i _
    rfl

/-- '==' between two arrays of integers. -/
theorem run_eql_ints {t e : TypeId} {n : Nat} {i : TypeInfo} {k : IntKind} (hu : P.underlying t = some (.array n e)) (hi : P.info? e = some i) (hs : P.cellsOf e = 1)
    (he : P.underlying e = some (.int k)) (xs ys : List Int) (hx : xs.length = n) (hy : ys.length = n) (w : World) :
    (binOp .eql t (.agg (xs.map (Value.int k)).toArray) (.agg (ys.map (Value.int k)).toArray)).run P w = .ok (.bool (xs == ys)) w := by
  rw [run_eql_struct, show (10000 : Nat) = 9998 + 1 + 1 from rfl, run_equalIn_array w _ _ _ hu hi, hs, run_eqItems_ints 9998 he xs ys w _ (by intro j hj; have := List.mem_range.1 hj; omega)]
  have := range_all_beq xs ys (by omega)
  rw [hx] at this
  rw [this]
  rfl
theorem run_neq_ints {t e : TypeId} {n : Nat} {i : TypeInfo} {k : IntKind} (hu : P.underlying t = some (.array n e)) (hi : P.info? e = some i) (hs : P.cellsOf e = 1)
    (he : P.underlying e = some (.int k)) (xs ys : List Int) (hx : xs.length = n) (hy : ys.length = n) (w : World) :
    (binOp .neq t (.agg (xs.map (Value.int k)).toArray) (.agg (ys.map (Value.int k)).toArray)).run P w = .ok (.bool (!(xs == ys))) w := by
  rw [run_neq_struct, show (10000 : Nat) = 9998 + 1 + 1 from rfl, run_equalIn_array w _ _ _ hu hi, hs, run_eqItems_ints 9998 he xs ys w _ (by intro j hj; have := List.mem_range.1 hj; omega)]
  have := range_all_beq xs ys (by omega)
  rw [hx] at this
  rw [this]
  rfl
end

/-- Below B nothing has turned: as two rules for the walk. -/
theorem bcell {B : Nat} {W w1 : World} (hb : Below B W w1) : (∀ b o, b < B → w1.cell? ⟨b, o, none⟩ = W.cell? ⟨b, o, none⟩) ∧ (∀ b o, b < B → w1.frozen? ⟨b, o, none⟩ = W.frozen? ⟨b, o, none⟩) :=
  ⟨fun b o h => hb.cell (p := ⟨b, o, none⟩) h, fun b o h => hb.frozen (p := ⟨b, o, none⟩) h⟩

/-- What a region that only grows the world keeps: old blocks, and so old cells. -/
theorem kp_drew (W : World) : Below W.heap.size W W.drew ∧ ∀ b o, b < W.heap.size → W.drew.cell? ⟨b, o, none⟩ = W.cell? ⟨b, o, none⟩ := ⟨(Below.refl _ _).drew, fun _ _ _ => rfl⟩
theorem kp_step {W w w1 : World} (h : Below W.heap.size W w ∧ ∀ b o, b < W.heap.size → w.cell? ⟨b, o, none⟩ = W.cell? ⟨b, o, none⟩) (hb : Below w.heap.size w w1) :
    Below W.heap.size W w1 ∧ ∀ b o, b < W.heap.size → w1.cell? ⟨b, o, none⟩ = W.cell? ⟨b, o, none⟩ :=
  have h1 := h.1.trans (hb.mono h.1.size)
  ⟨h1, fun b o hlt => h1.cell (p := ⟨b, o, none⟩) hlt⟩

theorem kp_alloc {W w : World} (h : Below W.heap.size W w ∧ ∀ b o, b < W.heap.size → w.cell? ⟨b, o, none⟩ = W.cell? ⟨b, o, none⟩) (x : Obj) :
    Below W.heap.size W (w.alloc x) ∧ ∀ b o, b < W.heap.size → (w.alloc x).cell? ⟨b, o, none⟩ = W.cell? ⟨b, o, none⟩ :=
  have h1 := h.1.alloc h.1.size x
  ⟨h1, fun b o hlt => h1.cell (p := ⟨b, o, none⟩) hlt⟩

end Go.Proofs.Ythfjbbijcemmoaa
