/- What the small functions of package clash and its reference answer: each contract holds for every argument, in every world. -/
import Derived.Test.YtgjiaipheohmoaaRows
import Derived.Test.YtgjiaipheohmoaaLib
namespace Go.Proofs.Ytgjiaipheohmoaa
open Go.RowKit

/-- The kind of objects of an act. -/
def kindOf (a : Int) : Int := if a = 1 then 1 else if a = 2 then 2 else if a = 3 ∨ a = 4 then 3 else if a = 5 ∨ a = 6 then 4 else 0
/-- Do two acts clash? 's': their names are the same. -/
def opsB (a b : Int) (s : Bool) : Bool := decide (a = 1 ∧ b = 1) || (s && decide ((a = 3 ∧ b = 4) ∨ (a = 4 ∧ b = 3) ∨ (a = 5 ∧ b = 5) ∨ (a = 5 ∧ b = 6) ∨ (a = 6 ∧ b = 5)))
theorem opsB_comm (a b : Int) (s : Bool) : opsB a b s = opsB b a s := by
  rw [Bool.eq_iff_iff]; cases s <;> simp only [opsB, Bool.true_and, Bool.false_and, Bool.or_false, Bool.or_eq_true, decide_eq_true_eq] <;> omega
theorem opsB_ref (a b : Int) (s : Bool) : opsB a b s = if kindOf a = 0 ∨ kindOf a ≠ kindOf b then false else if kindOf a = 1 then true else if kindOf a = 2 ∨ s = false then false else (a != b || a == 5) := by
  have ha : a = 1 ∨ a = 2 ∨ a = 3 ∨ a = 4 ∨ a = 5 ∨ a = 6 ∨ (a ≠ 1 ∧ a ≠ 2 ∧ a ≠ 3 ∧ a ≠ 4 ∧ a ≠ 5 ∧ a ≠ 6) := by omega
  have hb : b = 1 ∨ b = 2 ∨ b = 3 ∨ b = 4 ∨ b = 5 ∨ b = 6 ∨ (b ≠ 1 ∧ b ≠ 2 ∧ b ≠ 3 ∧ b ≠ 4 ∧ b ≠ 5 ∧ b ≠ 6) := by omega
  rcases ha with rfl | rfl | rfl | rfl | rfl | rfl | ha <;> rcases hb with rfl | rfl | rfl | rfl | rfl | rfl | hb <;> cases s <;> simp [opsB, kindOf, *]

theorem guard77 : Try.prog.eqGuardType Try.prog.depth 77 = false := by kernel_rfl
theorem info3 : (Try.prog.info? 3).isSome = true := by kernel_rfl
theorem cells3 : Try.prog.cellsOf 3 = 1 := by kernel_rfl
theorem eq77 (w : World) (x y u v : Int) : (binOp .eql 77 (.agg #[.int .i64 x, .int .i64 y]) (.agg #[.int .i64 u, .int .i64 v])).run Try.prog w = .ok (.bool (x == u && y == v)) w := by
  obtain ⟨i, hi⟩ := Option.isSome_iff_exists.1 info3
  have h := run_eql_ints Try.underlying77 hi cells3 Try.underlying3 [x, y] [u, v] rfl rfl w
  simpa using h

set_option maxHeartbeats 400000 in
theorem kind_any (a : Int) (w : World) :
    Calls Try.prog 18 #[.int .i64 a] w fun e w' => e = .returned (.int .i64 (kindOf a)) ∧ w = w' := by
  go_enter Try.func18, Try.ntmps18
  go_wp2
  all_goals (go_ret; refine ⟨?_, rfl⟩; simp_all [kindOf])

theorem op_any (a v : Int) (s : ByteArray) (w : World) :
    Calls Try.prog 10 #[.agg #[.int .i64 a, .string s, .int .i64 v]] w fun e w' => e = .returned (.agg #[.int .i64 a, .string s, .int .i64 v]) ∧ Below w.heap.size w w' := by
  go_enter Try.func10, Try.ntmps10
  go_wp2
  exact bodyPost_ret (v := .agg #[.int .i64 a, .string s, .int .i64 v]) (by simp [results, Try.results10, go_sem]) rfl ⟨rfl, ((Below.refl _ _).alloc (Nat.le_refl _) _).alloc (by simp) _⟩

theorem cop_any (a v o s n t ao : Int) (nm : ByteArray) (A : Option Addr) (l c : Nat) (w : World) :
    Calls Try.prog 17 #[.agg #[.int .i64 a, .string nm, .int .i64 v, .int .i64 o, .int .u32 s, .int .i64 n, .int .u32 t, .int .i64 ao, .slice A l c]] w
      fun e w' => e = .returned (.agg #[.int .i64 a, .string nm, .int .i64 v]) ∧ Below w.heap.size w w' := by
  go_enter Try.func17, Try.ntmps17
  go_wp2
  exact bodyPost_ret (v := .agg #[.int .i64 a, .string nm, .int .i64 v]) (by simp [results, Try.results17, go_sem]) rfl ⟨rfl, ((Below.refl _ _).alloc (Nat.le_refl _) _).alloc (by simp) _⟩

theorem ret_bool {a b : Bool} (h : a = b) : Ending.returned (.bool a) = .returned (.bool b) := by rw [h]

set_option maxHeartbeats 1000000 in
theorem ops_any (a v b u : Int) (s t : ByteArray) (w : World) :
    Calls Try.prog 9 #[.agg #[.int .i64 a, .string s, .int .i64 v], .agg #[.int .i64 b, .string t, .int .i64 u]] w
      fun e w' => e = .returned (.bool (opsB a b (s.toList == t.toList))) ∧ Below w.heap.size w w' := by
  have hg := guard77
  have he := eq77
  have hts : (t.toList == s.toList) = (s.toList == t.toList) := by rw [Bool.eq_iff_iff, beq_iff_eq, beq_iff_eq]; exact eq_comm
  generalize hz : (s.toList == t.toList) = z at *
  by_cases hab : b < a
  all_goals
    go_enter Try.func9, Try.ntmps9
    go_wp2
    all_goals
      go_ret
      refine ⟨ret_bool ?_, ?_⟩
  all_goals first
    | (exact ((Below.refl _ _).alloc (Nat.le_refl _) _).alloc (by simp) _)
    | (simp only [beq_iff_eq, beq_eq_false_iff_ne] at *; cases z <;> simp [opsB] <;> omega)
end Go.Proofs.Ytgjiaipheohmoaa
