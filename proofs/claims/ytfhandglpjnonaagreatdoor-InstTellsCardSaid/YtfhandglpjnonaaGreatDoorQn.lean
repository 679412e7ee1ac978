/- inst.Check: what is wrong with a message. -/
import Derived.Test.YtfhandglpjnonaaGreatDoorQm
import Derived.Deep.QuietTactic
import Derived.BigQuiet
namespace Go.Proofs.YtfhandglpjnonaaGreatDoor
open Go.RowKit

def rangeBad (m : Mm) : Bool := !membP m.fr || !membP m.dst || decide (1048576 < m.ep) || decide (m.st < 0) || decide (4 < m.st)
def keptM (m : Mm) : Mm := onlyM (hB m.kd) (hS m.kd) (hV m.kd m.st) (hC m.kd m.st) (hA m.kd m.st) m
/-- What is wrong with a message. -/
def msgErr (m : Mm) : Int := if m.kd < 1 then 5 else if 8 < m.kd then 5 else if rangeBad m = true then 2 else if fieldsE m ≠ 0 then fieldsE m else if sameMm (keptM m) m = true then 0 else 3
theorem zCm_ok (w : World) (B : Nat) : zCm.Ok w B := ⟨RdE.nil_, Rd.nil_, Nat.zero_le _, Nat.zero_le _, by simp [zCm]⟩
theorem onlyM_ok {hb hs hv hc ha : Bool} {m : Mm} {w : World} {B : Nat} (h : m.c.Ok w B) : (onlyM hb hs hv hc ha m).c.Ok w B := by
  cases hc with
  | true => exact h
  | false => exact zCm_ok w B
theorem yields_row {P : Program} {ops : Array Oper} {C : World → Prop} {oi : Oper} {a : Act} {ty : TypeId} {x : Operand} (hw : Region.wanted oi (yielded ops a.tmps) = true) (ho : oi.op = .load ty x) (g : Nat) (hx : a.eval x = .pointer (some ⟨g, 0, none⟩))
    (t : TypeId) (cs : Array Value) (fr : Nat × Nat) (d : TypeDesc) (hg : ∀ w, C w → w.heap[g]? = some (.cells cs t fr)) (hu : P.underlying ty = some d) (hd : (match d with | .struct _ | .array _ _ => true | _ => false) = true) (hi : (P.info? ty).map (·.size) = some cs.size) :
    YieldsIf P ops C oi (.agg cs) a := Or.inl ⟨hw, fun w hC => by
  unfold execOp
  simp only [ho, hx, Instr.loadAt, Instr.sureAddr, Sem.run_bind, Sem.run_pure, Result.andThen_ok, run_loadVar_row w g t ty cs fr d (hg w hC) hu hd hi]⟩
end Go.Proofs.YtfhandglpjnonaaGreatDoor
