/- Tags as the keys of a Go map. -/
import Derived.Test.YtadldndmmobpdaaM20
import Derived.DeepKeys4
namespace Go.Proofs.Ytadldndmmobpdaa
open Go.RowKit Go.Maps

theorem laidOut_all : laidOutB Try.prog = true := by kernel_rfl
theorem tagRow : (79 : TypeId) < Try.prog.types.size := of_decide_eq_true (by kernel_rfl)
theorem tagWide : (match Try.prog.underlying 79 with | some (.array _ _) | some (.struct _) => true | _ => false) = true := by rw [Try.underlying79]
set_option maxRecDepth 100000 in
theorem tagLaw : Keyed Try.prog 79 := Keyed.of_law (deep_law_laid laidOut_all (m := 3) (by omega) tagRow (by kernel_rfl) tagWide)
theorem tagFmt {x y z : Value} : (Value.agg #[x, y, z]).formed Try.prog 79 = true := by
  have hc : Try.prog.cellsOf 79 = 3 := by kernel_rfl
  simp [Value.formed, Try.underlying79, hc]
theorem keyLits_int {P : Program} {q : IntKind} {n : Int} {t : TypeId} (d : Nat) (hu : P.underlying t = some (.int q)) (h : (Lit.int q n).wf = true) : P.keyLits (d + 1) t [.int q n] = some [.int q n] := by
  simp [Program.keyLits, hu, h]
theorem keyLits_struct {P : Program} {fs : Array Field} {t : TypeId} {cs : List Value} (d : Nat) (hu : P.underlying t = some (.struct fs)) (hc : cs.length = P.cellsOf t) (hn : fs.all (·.name != "_") = true) : P.keyLits (d + 1) t cs = (fs.toList.mapM fun f => P.keyLits d f.type ((cs.drop f.offset).take (P.cellsOf f.type))).map List.flatten := by
  simp [Program.keyLits, hu, hc, hn]
set_option maxRecDepth 100000 in
theorem tagKey (t : Tm) (h1 : (Lit.int .i64 t.1.1).wf = true) (h2 : (Lit.int .u32 t.1.2).wf = true) (h3 : (Lit.int .i64 t.2).wf = true) : keyOf Try.prog 79 (.agg #[.int .i64 t.1.1, .int .u32 t.1.2, .int .i64 t.2]) = some (.string (keyBytes [.int .i64 t.1.1, .int .u32 t.1.2, .int .i64 t.2])) := by
  have hk : Try.prog.keyType 79 = true := by kernel_rfl
  have hl : Try.prog.keyLits (Try.prog.types.size + 1) 79 [.int .i64 t.1.1, .int .u32 t.1.2, .int .i64 t.2] = some [.int .i64 t.1.1, .int .u32 t.1.2, .int .i64 t.2] := by
    obtain ⟨d, hd⟩ : ∃ d, Try.prog.types.size = d + 3 := ⟨Try.prog.types.size - 3, by have : 3 ≤ Try.prog.types.size := of_decide_eq_true (by kernel_rfl); omega⟩
    have hc : Try.prog.cellsOf 79 = 3 := by kernel_rfl
    have hi : Try.prog.cellsOf 77 = 2 := by kernel_rfl
    have ho : Try.prog.cellsOf 3 = 1 := by kernel_rfl
    have hu : Try.prog.cellsOf 26 = 1 := by kernel_rfl
    have e1 : Try.prog.keyLits (d + 2) 3 [.int .i64 t.1.1] = some [.int .i64 t.1.1] := keyLits_int (d + 1) Try.underlying3 h1
    have e2 : Try.prog.keyLits (d + 2) 26 [.int .u32 t.1.2] = some [.int .u32 t.1.2] := keyLits_int (d + 1) Try.underlying26 h2
    have e3 : Try.prog.keyLits (d + 3) 3 [.int .i64 t.2] = some [.int .i64 t.2] := keyLits_int (d + 2) Try.underlying3 h3
    have hid : Try.prog.keyLits (d + 3) 77 [.int .i64 t.1.1, .int .u32 t.1.2] = some [.int .i64 t.1.1, .int .u32 t.1.2] := by
      rw [keyLits_struct (d + 2) Try.underlying77 (by rw [hi]; rfl) (by kernel_rfl)]
      simp [ho, hu, e1, e2]
    rw [hd, keyLits_struct _ Try.underlying79 (by rw [hc]; rfl) (by kernel_rfl)]
    simp [ho, hi, hid, e3]
  unfold keyOf
  rw [Try.underlying79]
  dsimp only
  rw [hk, tagFmt]
  simp only [Value.cells]
  rw [hl]
  rfl
end Go.Proofs.Ytadldndmmobpdaa
