/- The statement InstTells, walked. -/
import Derived.Test.YtfhandglpjnonaaGreatDoorN27
namespace Go.Proofs.YtfhandglpjnonaaGreatDoor
open Go.RowKit
structure Cm.Raw (w : World) (c : Cm) : Prop where
 ok : c.Ok w w.heap.size
 p : ∀ p ∈ c.ps, p.e.wf ∧ p.key.length ≤ maxLen ∧ p.e.name.length ≤ maxLen
 x : c.x.wf
 v : c.v.wf
 u : c.u.wf
theorem Cm.Raw.sml {w : World} {c : Cm} (h : c.Raw w) (hg : grC c = false) : c.Sml w := by
 unfold grC at hg
 rw [Bool.or_eq_false_iff] at hg
 obtain ⟨h1, h2⟩ := fgr15_no h.ok.rdE hg.1
 have h3 := h.ok.rdE.len
 have h4 := h.ok.rdM.1
 have h5 : ¬ 30 < c.m := by simpa using hg.2
 refine ⟨h.ok, ⟨?_, ?_, h2, ?_, h.x, h.v, h.u⟩⟩
 ·
  simp [Cm.val]; omega
 ·
  simp [Cm.val]; simp at h4; omega
 ·
  intro p hp
  obtain ⟨q, hq, rfl⟩ := List.mem_map.1 hp
  exact (h.p q hq).1
end Go.Proofs.YtfhandglpjnonaaGreatDoor
