/- Interests' bytes, both: Write. Interests of a reader, both: Read. -/
import Derived.Test.YtpolplmniaoikaaGreatDoorN40
import Derived.Test.YtpolplmniaoikaaGreatDoorN30
import Derived.Test.YtpolplmniaoikaaGreatDoorRsV
namespace Go.Proofs.YtpolplmniaoikaaGreatDoor
open Go.RowKit

/-- Interests' bytes; the first k texts' part of them. -/
def writeW (xs : List (List UInt8)) : List UInt8 := if chkW xs ≠ 0 then [] else numB xs.length ++ (xs.map textB).flatten
def partW (xs : List (List UInt8)) (n k : Nat) : List UInt8 := numB n ++ ((xs.take k).map textB).flatten
theorem chkW_len {xs : List (List UInt8)} (h : chkW xs = 0) : xs.length ≤ 16 ∧ ∀ x ∈ xs, x.length ≤ 24 := by
  have := chkN_zero.1 (chkW_zero.1 h).1
  exact ⟨this.1, this.2.1⟩
theorem flatX_len : ∀ (xs : List (List UInt8)), (∀ x ∈ xs, x.length ≤ 24) → ((xs.map textB).flatten).length ≤ 33 * xs.length
  | [], _ => by simp
  | x :: xs, h => by
    have h1 := flatX_len xs (fun y hy => h y (by simp [hy]))
    have h3 := h x (by simp)
    have h2 := textB_len (e := x) (by omega)
    simp only [List.map_cons, List.flatten_cons, List.length_append, List.length_cons]
    omega
theorem writeW_len (xs : List (List UInt8)) : (writeW xs).length ≤ 1000 := by
  unfold writeW
  split
  · simp
  · rename_i h
    obtain ⟨h1, h2⟩ := chkW_len (Classical.not_not.1 h)
    have h3 := flatX_len xs h2
    have h4 := numB_len xs.length (by omega)
    rw [List.length_append]; omega
end Go.Proofs.YtpolplmniaoikaaGreatDoor
namespace Go.Proofs.YtpolplmniaoikaaGreatDoor
open Go.RowKit

/-- So many texts of a reader. -/
def readTs : Nat → Rs → List (List UInt8) × Rs
  | 0, S => ([], S)
  | n + 1, S => ((readTs n S).1 ++ [(textS 24 (readTs n S).2).1], (textS 24 (readTs n S).2).2)
/-- The next interests of a reader. -/
def readW (S : Rs) : List (List UInt8) × Rs :=
  let p := intS 16 S
  let q := readTs p.1 p.2
  let T := failS q.2 (chkW q.1)
  if T.fe ≠ 0 then ([], T) else (q.1, T)
theorem readTs_len (S : Rs) : ∀ n, (readTs n S).1.length = n
  | 0 => rfl
  | n + 1 => by simp [readTs, readTs_len S n]
theorem readTs_wf {S : Rs} (h : S.wf) : ∀ n, (readTs n S).2.wf ∧ ∀ x ∈ (readTs n S).1, x.length ≤ 24
  | 0 => ⟨h, by simp [readTs]⟩
  | n + 1 => by
    obtain ⟨h1, h2⟩ := readTs_wf h n
    refine ⟨textS_wf 24 h1, fun x hx => ?_⟩
    rcases List.mem_append.1 hx with hx | hx
    · exact h2 x hx
    · rw [List.mem_singleton.1 hx]; exact textS_len 24 _
theorem readW_wf {S : Rs} (h : S.wf) : (readW S).2.wf := by
  have h1 := (readTs_wf (Rs.wf_next h (fun v => if 16 < v then 2 else 0)) (intS 16 S).1).1
  unfold readW
  dsimp only
  split
  · exact Rs.wf_fail h1 _
  · exact Rs.wf_fail h1 _
theorem readW_len (S : Rs) : (readW S).1.length ≤ 16 := by
  have h := intS_le 16 S
  unfold readW
  dsimp only
  split
  · simp
  · rw [readTs_len]; exact h
/-- The variable's block is no reader's. -/
theorem VarM.neP {w : World} {B : Nat} {S : Rs} (hv : VarM w) (h : RdrP w B S) : B ≠ 1 := by
  rintro rfl
  obtain ⟨m, hm⟩ := hv
  obtain ⟨ev, hb, _⟩ := h
  have := blk_cell hb 0
  simp at this
  rw [hm] at this
  cases this
theorem VarM.neD {w : World} {B : Nat} {S : Rs} (hv : VarM w) (h : RdrD w B S) : B ≠ 1 := by
  rintro rfl
  obtain ⟨m, hm⟩ := hv
  unfold RdrD at h
  have := blk_cell h 0
  simp at this
  rw [hm] at this
  cases this
theorem VarM.grown {w w' : World} {B : Nat} (hv : VarM w) (hg : w.grownBy w' (some B)) (hne : B ≠ 1) : VarM w' := by
  have hlt := hv.lt
  obtain ⟨m, hm⟩ := hv
  refine ⟨m, ?_⟩
  have hb := hg.block _ hlt (fun e => hne (Option.some.inj e).symm)
  unfold World.cell? at hm ⊢
  dsimp only at hm ⊢
  rw [hb]
  exact hm

end Go.Proofs.YtpolplmniaoikaaGreatDoor
