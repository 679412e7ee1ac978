/- Plain words on effects' and transactions' bytes. -/
import Derived.Test.YtpolplmniaoikaaDoorM46
import Derived.Test.YtpolplmniaoikaaDoorN34
namespace Go.Proofs.YtpolplmniaoikaaDoor
open Go.RowKit

theorem errE_zero {e : Ef} (h : errE e = 0) : 1 ≤ e.act ∧ e.act ≤ 6 ∧ e.name.length ≤ 12 ∧ e.tags.length ≤ 4096 := by
  unfold errE at h
  have h1 : errOp e.act e.name e.val = 0 := Classical.byContradiction fun hn => by rw [if_pos hn] at h; exact hn h
  rw [if_neg (by simp [h1])] at h
  split at h
  · cases h
  split at h
  · cases h
  rename_i h4
  unfold errOp at h1
  split at h1
  · cases h1
  rename_i hk
  split at h1
  · cases h1
  rename_i h2
  have hk1 : 1 ≤ e.act ∧ e.act ≤ 6 := by
    unfold kindA at hk
    repeat' split at hk
    all_goals omega
  refine ⟨hk1.1, hk1.2, ?_, by omega⟩
  simp only [Bool.or_eq_true, Bool.and_eq_true, Bool.not_eq_true', not_or, not_and] at h2
  cases hf : fNm e.act with
  | true =>
    have h5 := h2.1.1 hf
    simp [elemB] at h5
    omega
  | false =>
    have h5 := h2.1.2 hf
    simp at h5
    rw [h5]; simp
/-- Tags' bytes behind others: the first k of them. -/
def partG (hd : List UInt8) (ts : List Tm) (k : Nat) : List UInt8 := hd ++ numB ts.length ++ ((ts.take k).map writeT).flatten
theorem partG_succ (hd : List UInt8) {ts : List Tm} {k : Nat} {t : Tm} (h : ts[k]? = some t) : partG hd ts k ++ writeT t = partG hd ts (k + 1) := by
  unfold partG; rw [List.take_add_one, h]; simp
theorem partG_len (hd : List UInt8) (ts : List Tm) (k : Nat) (h : ts.length ≤ 4096) : (partG hd ts k).length ≤ hd.length + 9 + 27 * 4096 := by
  have h1 := numB_len ts.length (by omega)
  have h2 := flatT_len (ts.take k)
  have h3 := List.length_take_le k ts
  have h4 : (ts.take k).length ≤ 4096 := by rw [List.length_take]; omega
  unfold partG; simp only [List.length_append]; omega
/-- An effect's first bytes, and all of them. -/
def headE (e : Ef) : List UInt8 := numB e.act.toNat ++ textB e.name ++ writeZ e.val ++ writeT e.tag
def writeE (e : Ef) : List UInt8 :=
  if errE e ≠ 0 then [] else if fAt e.act = true then headE e ++ writeS e.st else if fTg e.act = true then partG (headE e) e.tags e.tags.length else headE e
theorem headE_len {e : Ef} (h : errE e = 0) (hw : e.wf) : (headE e).length ≤ 66 := by
  obtain ⟨h1, h2, h3, _⟩ := errE_zero h
  have a1 := numB_len e.act.toNat (by omega)
  have a2 := textB_len (e := e.name) (by omega)
  have a3 := numB_len (zig e.val) (zig_lt hw.2.2.1.1 hw.2.2.1.2)
  have a4 := writeT_len e.tag
  unfold headE writeZ; simp only [List.length_append]; omega
theorem writeE_len (e : Ef) (hw : e.wf) : (writeE e).length ≤ 120000 := by
  unfold writeE
  split
  · simp
  rename_i h
  have h := Classical.not_not.1 h
  have h1 := headE_len h hw
  split
  · have := writeS_len e.st hw.2.1
    rw [List.length_append]; omega
  split
  · have := partG_len (headE e) e.tags e.tags.length (errE_zero h).2.2.2
    omega
  · omega
/-- A transaction's bytes: the first k parts' part of them, behind others. -/
def partX (hd : List UInt8) (ps : List Pv) (k : Nat) : List UInt8 := hd ++ ((ps.take k).map fun p => textB p.1 ++ writeE p.2).flatten
def headX (x : Im) (v : Vm) (t : Bool) (n : Nat) : List UInt8 := writeI x ++ writeV v ++ numB (if t then 1 else 0) ++ numB n
def writeX (x : Im) (v : Vm) (t : Bool) (ps : List Pv) : List UInt8 := if txErr x v ps ≠ 0 then [] else partX (headX x v t ps.length) ps ps.length
theorem partX_succ (hd : List UInt8) {ps : List Pv} {k : Nat} {p : Pv} (h : ps[k]? = some p) : partX hd ps k ++ (textB p.1 ++ writeE p.2) = partX hd ps (k + 1) := by
  unfold partX; rw [List.take_add_one, h]; simp
theorem headX_len (x : Im) {v : Vm} (hv : v.wf) (t : Bool) (n : Nat) (hn : n ≤ 16) : (headX x v t n).length ≤ 200 := by
  have h1 := writeI_len x
  have h2 := partV_len hv (longV v)
  have h3 := longV_le v
  have h4 := numB_len (if t then 1 else 0) (by split <;> omega)
  have h5 := numB_len n (by omega)
  unfold headX writeV; simp only [List.length_append]; omega
/-- Parts where nothing is wrong: their keys are short, nothing is wrong with their effects. -/
theorem partsErr_zero {x : Im} : ∀ {ps : List Pv} {l : Int}, partsErr x l ps = 0 → ∀ p ∈ ps, keyE p.1 = 0 ∧ errE p.2 = 0
  | [], _, _, p, hp => by cases hp
  | q :: r, l, h, p, hp => by
    rw [partsErr] at h
    have h0 : partErr x l q = 0 := Classical.byContradiction fun hn => by rw [if_pos hn] at h; exact hn h
    rw [if_neg (by simp [h0])] at h
    rcases List.mem_cons.1 hp with rfl | hp
    · unfold partErr at h0
      have h1 : keyE p.1 = 0 := Classical.byContradiction fun hn => by rw [if_pos hn] at h0; exact hn h0
      rw [if_neg (by simp [h1])] at h0
      exact ⟨h1, Classical.byContradiction fun hn => by rw [if_pos hn] at h0; exact hn h0⟩
    · exact partsErr_zero h p hp
theorem txErr_zero {x : Im} {v : Vm} {ps : List Pv} (h : txErr x v ps = 0) : ps.length ≤ 16 ∧ ∀ p ∈ ps, keyE p.1 = 0 ∧ errE p.2 = 0 := by
  unfold txErr at h
  split at h
  · cases h
  split at h
  · cases h
  split at h
  · cases h
  exact ⟨by omega, partsErr_zero h⟩
theorem partX_len (hd : List UInt8) (ps : List Pv) (k : Nat) (hn : ps.length ≤ 16) (hl : ∀ p ∈ ps, p.1.length ≤ 1000) (hw : ∀ p ∈ ps, p.2.wf) : (partX hd ps k).length ≤ hd.length + 122000 * 16 := by
  have h2 := flatB_len (f := fun p : Pv => textB p.1 ++ writeE p.2) (b := 122000) (ps.take k) (fun p hp => by
    have hm := List.mem_of_mem_take hp
    have h3 := hl p hm
    have h4 := textB_len (e := p.1) (by omega)
    have h5 := writeE_len p.2 (hw p hm)
    rw [List.length_append]; omega)
  have h4 : (ps.take k).length ≤ 16 := by rw [List.length_take]; omega
  have h6 : 122000 * (ps.take k).length ≤ 122000 * 16 := Nat.mul_le_mul_left _ h4
  unfold partX; rw [List.length_append]; omega
/-- The next effect of a reader. -/
def zeroE : Ef := ⟨0, [], 0, ((0, 0), 0), (0, 0), []⟩
theorem zeroE_wf : zeroE.wf := ⟨⟨by decide, by decide⟩, ⟨by decide, by decide⟩, ⟨by decide, by decide⟩, (fun _ h => nomatch h), by decide, by decide⟩
def rawE (S : Rs) : Ef × Rs :=
  let a := intS 6 S
  let f := textS 12 a.2
  let v := readZ f.2
  let g := readT v.2
  let s := if fAt (a.1 : Int) = true then readSt' g.2 else ((0, 0), g.2)
  let q := if fTg (a.1 : Int) = true then readN readT (intS 4096 s.2).1 (intS 4096 s.2).2 else ([], s.2)
  (⟨(a.1 : Int), f.1, v.1, g.1, s.1, q.1⟩, q.2)
def readE (S : Rs) : Ef × Rs :=
  let r := rawE S
  let T := failS r.2 (errE r.1)
  if T.fe ≠ 0 then (zeroE, T) else (r.1, T)
theorem readZ_in (S : Rs) : -9223372036854775808 ≤ (readZ S).1 ∧ (readZ S).1 ≤ 9223372036854775807 := by
  have h := numS_lt S
  unfold readZ
  dsimp only
  split <;> omega
theorem rawE_wf {S : Rs} (h : S.wf) : (rawE S).2.wf ∧ (rawE S).1.wf ∧ (rawE S).1.name.length ≤ 12 ∧ (rawE S).1.tags.length ≤ 4096 := by
  have h1 : (intS 6 S).2.wf := Rs.wf_next h _
  have hle := intS_le 6 S
  have h2 := textS_wf 12 h1
  have h3 : (readZ (textS 12 (intS 6 S).2).2).2.wf := Rs.wf_next h2 _
  have h4 := readT_wf h3
  have hs : (if fAt ((intS 6 S).1 : Int) = true then readSt' (readT (readZ (textS 12 (intS 6 S).2).2).2).2 else ((0, 0), (readT (readZ (textS 12 (intS 6 S).2).2).2).2)).2.wf ∧ Sm.wf (if fAt ((intS 6 S).1 : Int) = true then readSt' (readT (readZ (textS 12 (intS 6 S).2).2).2).2 else ((0, 0), (readT (readZ (textS 12 (intS 6 S).2).2).2).2)).1 := by
    split
    · exact readSt'_wf h4.1
    · exact ⟨h4.1, show Sm.wf (0, 0) from ⟨by decide, by decide⟩⟩
  unfold rawE
  dsimp only
  generalize (if fAt ((intS 6 S).1 : Int) = true then readSt' (readT (readZ (textS 12 (intS 6 S).2).2).2).2 else ((0, 0), (readT (readZ (textS 12 (intS 6 S).2).2).2).2)) = s at hs
  have h5 : (intS 4096 s.2).2.wf := Rs.wf_next hs.1 _
  have hl5 := intS_le 4096 s.2
  have h6 := readN_wf (f := readT) (P := Tm.wf) (fun S h => readT_wf h) (intS 4096 s.2).1 h5
  refine ⟨?_, ⟨h4.2, hs.2, readZ_in _, ?_, by dsimp only; omega, by dsimp only; omega⟩, textS_len 12 _, ?_⟩
  · split
    · exact h6.1
    · exact hs.1
  · dsimp only
    split
    · exact h6.2.2
    · simp
  · split
    · exact Nat.le_trans h6.2.1 hl5
    · simp
theorem readE_wf {S : Rs} (h : S.wf) : (readE S).2.wf ∧ (readE S).1.wf ∧ (readE S).1.name.length ≤ 12 ∧ (readE S).1.tags.length ≤ 4096 := by
  obtain ⟨h1, h2, h3, h4⟩ := rawE_wf h
  have h5 := Rs.wf_fail h1 (errE (rawE S).1)
  unfold readE
  dsimp only
  split
  · exact ⟨h5, zeroE_wf, Nat.zero_le _, Nat.zero_le _⟩
  · exact ⟨h5, h2, h3, h4⟩
/-- So many parts of a reader; the next transaction of one. -/
def readQ (S : Rs) : Pv × Rs := (((textS 24 S).1, (readE (textS 24 S).2).1), (readE (textS 24 S).2).2)
def readQs : Nat → Rs → List Pv × Rs
  | 0, S => ([], S)
  | n + 1, S => ((readQs n S).1 ++ [(readQ (readQs n S).2).1], (readQ (readQs n S).2).2)
def rawX (S : Rs) : (Im × Vm × Bool × List Pv) × Rs :=
  let x := readI S
  let v := readV x.2
  let t := intS 1 v.2
  let n := intS 16 t.2
  let q := readQs n.1 n.2
  ((x.1, v.1, decide (t.1 = 1), q.1), q.2)
def zeroV : Vm := ⟨0, 0, 0, 0, 0, 0, 0, 0⟩
def readX (S : Rs) : (Im × Vm × Bool × List Pv) × Rs :=
  let r := rawX S
  let T := failS r.2 (txErr r.1.1 r.1.2.1 r.1.2.2.2)
  if T.fe ≠ 0 then (((0, 0), zeroV, false, []), T) else (r.1, T)
theorem readQs_len (S : Rs) : ∀ n, (readQs n S).1.length = n
  | 0 => rfl
  | n + 1 => by simp [readQs, readQs_len S n]
def Pv.Good (p : Pv) : Prop := p.1.length ≤ 24 ∧ p.2.wf ∧ p.2.name.length ≤ 12 ∧ p.2.tags.length ≤ 4096
theorem readQ_wf {S : Rs} (h : S.wf) : (readQ S).2.wf ∧ (readQ S).1.Good := by
  have h1 := readE_wf (textS_wf 24 h)
  exact ⟨h1.1, textS_len 24 S, h1.2⟩
theorem readQs_wf {S : Rs} (h : S.wf) : ∀ n, (readQs n S).2.wf ∧ ∀ p ∈ (readQs n S).1, p.Good
  | 0 => ⟨h, by simp [readQs]⟩
  | n + 1 => by
    obtain ⟨h1, h2⟩ := readQs_wf h n
    refine ⟨(readQ_wf h1).1, fun p hp => ?_⟩
    rcases List.mem_append.1 hp with hp | hp
    · exact h2 p hp
    · rw [List.mem_singleton.1 hp]; exact (readQ_wf h1).2
end Go.Proofs.YtpolplmniaoikaaDoor
