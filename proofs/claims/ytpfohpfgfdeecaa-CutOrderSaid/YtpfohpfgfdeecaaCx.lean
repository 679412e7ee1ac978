/- The document's Same and Check of cuts. The document's Check of cuts. -/
import Derived.Test.YtpfohpfgfdeecaaCtB
import Derived.Test.YtpfohpfgfdeecaaDb
import Derived.Test.YtpfohpfgfdeecaaPl
namespace Go.Proofs.Ytpfohpfgfdeecaa
open Go.RowKit

end Go.Proofs.Ytpfohpfgfdeecaa
namespace Go.Proofs.Ytpfohpfgfdeecaa
open Go.RowKit

theorem cutErr_ok {v : Vm} {xs : List Im} (h : cutErr v xs = 0) : vchk v = true ∧ lerr xs = 0 := by
  unfold cutErr at h
  by_cases hf : foldErr v xs = 0
  · unfold foldErr at hf
    cases hv : vchk v with
    | false => rw [hv, if_pos rfl] at hf; omega
    | true => rw [hv, if_neg (by decide)] at hf; exact ⟨rfl, hf⟩
  · rw [if_pos hf] at h
    exact absurd h hf
theorem cutErr_ref (v : Vm) (xs : List Im) (hv : vchk v = true) (hl : lerr xs = 0) : cutErr v xs = if eqV (rcV v xs) v && decide (rcD v xs = xs) then 0 else 3 := by
  obtain ⟨h1, h2, h3⟩ := lerr_zero.1 hl
  have hm : makeI xs = xs := makeI_of h3 (fun _ => Iff.rfl)
  have he : makeErr xs = 0 := makeErr_zero.2 ⟨by omega, h2, by rw [hm]; exact h1⟩
  have hc : rcErr v xs = 0 := by unfold rcErr; rw [hv, if_neg (by decide), he]
  have hf : foldErr v xs = 0 := by unfold foldErr; rw [hv, if_neg (by decide), hl]
  have hV : rcV v xs = foldV v xs := by unfold rcV; rw [hc, if_neg (by decide), hm]
  have hD : rcD v xs = foldRest v xs := by unfold rcD; rw [hc, if_neg (by decide), hm]
  have hR : foldRest v xs = xs.filter fun x => !hasV (foldV v xs) x := by
    unfold foldRest
    rw [hf, if_neg (by decide)]
    unfold beyondI
    rw [hl, if_neg (by decide)]
  have hq : ((foldRest v xs).length == xs.length) = decide (foldRest v xs = xs) := by
    rw [hR, Bool.eq_iff_iff, beq_iff_eq, decide_eq_true_iff, List.length_filter_eq_length_iff, List.filter_eq_self]
  unfold cutErr
  rw [hf, if_neg (by decide), hV, hD, hq]

end Go.Proofs.Ytpfohpfgfdeecaa
