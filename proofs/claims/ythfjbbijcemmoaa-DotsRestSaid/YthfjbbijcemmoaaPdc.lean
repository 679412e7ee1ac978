/- The plain law of vectors: one name more, many names more. -/
import Derived.Test.YthfjbbijcemmoaaPda
namespace Go.Proofs.Ythfjbbijcemmoaa

/-- What a machine's vector can be. -/
def Vm.wf (v : Vm) : Prop := (0 ≤ v.d0 ∧ v.d0 < 4294967296) ∧ (0 ≤ v.d1 ∧ v.d1 < 4294967296) ∧ (0 ≤ v.d2 ∧ v.d2 < 4294967296) ∧ (0 ≤ v.d3 ∧ v.d3 < 4294967296) ∧ (0 ≤ v.d4 ∧ v.d4 < 4294967296) ∧ (0 ≤ v.d5 ∧ v.d5 < 4294967296) ∧ (0 ≤ v.d6 ∧ v.d6 < 4294967296) ∧ (0 ≤ v.d7 ∧ v.d7 < 4294967296)
theorem zV_wf : zV.wf := by unfold zV Vm.wf; decide
theorem Vm.set_wf {v : Vm} (h : v.wf) (o s : Int) (h0 : 0 ≤ s) (h1 : s < 4294967296) : (v.set o s).wf := by
  obtain ⟨a0, a1, a2, a3, a4, a5, a6, a7⟩ := h
  unfold Vm.wf Vm.set
  refine ⟨?_, ?_, ?_, ?_, ?_, ?_, ?_, ?_⟩ <;> (dsimp only; split <;> first | exact ⟨h0, h1⟩ | assumption)
theorem takeErr_zero {v : Vm} {x : Im} : takeErr v x = 0 ↔ vchk v = true ∧ chk x = true ∧ hasV v x = false ∧ x.2 ≤ v.get x.1 + 1 := by
  unfold takeErr
  cases vchk v <;> cases chk x <;> cases hasV v x <;> simp <;> (first | omega | skip)
theorem chk_bounds {x : Im} (h : chk x = true) : 0 ≤ x.1 ∧ x.1 < 8 ∧ 1 ≤ x.2 ∧ x.2 ≤ 1048576 := by
  simpa [chk] using h
theorem vchk_set {v : Vm} {o s : Int} (h : vchk v = true) (hs : s ≤ 1048576) : vchk (v.set o s) = true := by
  unfold vchk at *
  rw [decide_eq_true_eq] at *
  obtain ⟨a0, a1, a2, a3, a4, a5, a6, a7⟩ := h
  unfold Vm.set
  refine ⟨?_, ?_, ?_, ?_, ?_, ?_, ?_, ?_⟩ <;> (dsimp only; split <;> assumption)
theorem takeV_wf {v : Vm} {x : Im} (h : v.wf) : (takeV v x).wf := by
  unfold takeV
  split
  · rename_i h0
    obtain ⟨_, hc, _, _⟩ := takeErr_zero.1 h0
    obtain ⟨_, _, h1, h2⟩ := chk_bounds hc
    exact Vm.set_wf h _ _ (by omega) (by omega)
  · exact zV_wf
/-- One step of a fold. -/
def stepV (v : Vm) (x : Im) : Vm := if takeErr v x = 0 then takeV v x else v
theorem foldV_eq (v : Vm) (xs : List Im) : foldV v xs = xs.foldl stepV v := rfl
theorem stepV_wf {v : Vm} {x : Im} (h : v.wf) : (stepV v x).wf := by
  unfold stepV; split
  · exact takeV_wf h
  · exact h
theorem stepV_chk {v : Vm} {x : Im} (h : vchk v = true) : vchk (stepV v x) = true := by
  unfold stepV; split
  · rename_i h0
    obtain ⟨_, hc, _, _⟩ := takeErr_zero.1 h0
    unfold takeV
    rw [if_pos h0]
    exact vchk_set h (chk_bounds hc).2.2.2
  · exact h
theorem foldV_wf : ∀ (xs : List Im) {v : Vm}, v.wf → (foldV v xs).wf
  | [], _, h => h
  | x :: xs, _, h => foldV_wf xs (stepV_wf (x := x) h)
theorem foldV_chk : ∀ (xs : List Im) {v : Vm}, vchk v = true → vchk (foldV v xs) = true
  | [], _, h => h
  | x :: xs, _, h => foldV_chk xs (stepV_chk (x := x) h)
theorem foldV_take {v : Vm} {xs : List Im} {k : Nat} {x : Im} (h : xs[k]? = some x) : foldV v (xs.take (k + 1)) = stepV (foldV v (xs.take k)) x := by
  rw [List.take_add_one, h, foldV_eq, foldV_eq, List.foldl_append]; rfl
end Go.Proofs.Ythfjbbijcemmoaa
