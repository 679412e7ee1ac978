/- The document's reader: Fail, Num, Int. The document's reader: Int. Plain words on effects' and transactions' bytes. Plain words on commands' and messages' bytes. Numbers' and ballots' bytes: inst.num, the document's; ballot.Write, the document's. -/
import Derived.Test.YtfhandglpjnonaaGreatDoorM16
import Derived.BigRegion
import Derived.Test.YtfhandglpjnonaaGreatDoorM46
import Derived.Test.YtfhandglpjnonaaGreatDoorVrC
import Derived.Test.YtfhandglpjnonaaGreatDoorN27
namespace Go.Proofs.YtfhandglpjnonaaGreatDoor
open Go.RowKit
theorem numS_eq {S : Rs} {v n : Nat} {e : Int} (h0 : S.fe = 0) (hr : numR (S.l.drop S.a) = (v, n, e)) :
 numS S = if e ≠ 0 then (0, failS S e) else (v, { S with a := S.a + n }) := by
 unfold numS
 rw [nextS_eq h0 hr]
 by_cases he : e = 0
 ·
  simp [he]
 ·
  simp [he]
theorem numS_lt (S : Rs) : (numS S).1 < 18446744073709551616 := by
 by_cases h0 : S.fe = 0
 ·
  obtain ⟨v, n, e, hr⟩ : ∃ v n e, numR (S.l.drop S.a) = (v, n, e) := ⟨_, _, _, rfl⟩
  have := numR_some hr
  rw [numS_eq h0 hr]
  by_cases he : e = 0
  ·
   subst he; simpa using (this.2 rfl).2.2.2
  ·
   simp [he]
 ·
  unfold numS
  rw [nextS_bad h0]; show 0 < 18446744073709551616; decide
theorem errE_zero {e : Ef} (h : errE e = 0) : 1 ≤ e.act ∧ e.act ≤ 6 ∧ e.name.length ≤ 12 ∧ e.tags.length ≤ 4096 := by
 unfold errE at h
 have h1 : errOp e.act e.name e.val = 0 := Classical.byContradiction fun hn => by rw [if_pos hn] at h; exact hn h
 rw [if_neg (by simp [h1])] at h
 split at h
 ·
  cases h
 split at h
 ·
  cases h
 rename_i h4
 unfold errOp at h1
 split at h1
 ·
  cases h1
 rename_i hk
 split at h1
 ·
  cases h1
 rename_i h2
 have hk1 : 1 ≤ e.act ∧ e.act ≤ 6 := by
  unfold kindA at hk
  repeat' split at hk
  all_goals omega
 refine ⟨hk1.1, hk1.2, ?_, by omega⟩
 simp only [Bool.or_eq_true, Bool.and_eq_true, Bool.not_eq_true', not_or, not_and] at h2
 cases hf : fNm e.act with
 | true =>
  have h5 := h2.1.1 hf
  simp [elemB] at h5
  omega
 | false =>
  have h5 := h2.1.2 hf
  simp at h5
  rw [h5]; simp
def partG (hd : List UInt8) (ts : List Tm) (k : Nat) : List UInt8 := hd ++ numB ts.length ++ ((ts.take k).map writeT).flatten
theorem partG_succ (hd : List UInt8) {ts : List Tm} {k : Nat} {t : Tm} (h : ts[k]? = some t) : partG hd ts k ++ writeT t = partG hd ts (k + 1) := by
 unfold partG; rw [List.take_add_one, h]; simp
theorem partG_len (hd : List UInt8) (ts : List Tm) (k : Nat) (h : ts.length ≤ 4096) : (partG hd ts k).length ≤ hd.length + 9 + 27 * 4096 := by
 have h1 := jN ts.length (by omega)
 have h2 := flatT_len (ts.take k)
 have h3 := List.length_take_le k ts
 have h4 : (ts.take k).length ≤ 4096 := by rw [List.length_take]; omega
 unfold partG; simp only [List.length_append]; omega
def headE (e : Ef) : List UInt8 := numB e.act.toNat ++ textB e.name ++ writeZ e.val ++ writeT e.tag
def writeE (e : Ef) : List UInt8 :=
 if errE e ≠ 0 then [] else if fAt e.act = true then headE e ++ writeS e.st else if fTg e.act = true then partG (headE e) e.tags e.tags.length else headE e
theorem headE_len {e : Ef} (h : errE e = 0) (hw : e.wf) : (headE e).length ≤ 66 := by
 obtain ⟨h1, h2, h3, _⟩ := errE_zero h
 have a1 := jN e.act.toNat (by omega)
 have a2 := textB_len (e := e.name) (by omega)
 have a3 := jN (zig e.val) (zig_lt hw.2.2.1.1 hw.2.2.1.2)
 have a4 := writeT_len e.tag
 unfold headE writeZ; simp only [List.length_append]; omega
theorem writeE_len (e : Ef) (hw : e.wf) : (writeE e).length ≤ 120000 := by
 unfold writeE
 split
 ·
  simp
 rename_i h
 have h := Classical.not_not.1 h
 have h1 := headE_len h hw
 split
 ·
  have := writeS_len e.st hw.2.1
  rw [List.length_append]; omega
 split
 ·
  have := partG_len (headE e) e.tags e.tags.length (errE_zero h).2.2.2
  omega
 ·
  omega
def partX (hd : List UInt8) (ps : List Pv) (k : Nat) : List UInt8 := hd ++ ((ps.take k).map fun p => textB p.1 ++ writeE p.2).flatten
def headX (x : Im) (v : Vm) (t : Bool) (n : Nat) : List UInt8 := writeI x ++ writeV v ++ numB (if t then 1 else 0) ++ numB n
def writeX (x : Im) (v : Vm) (t : Bool) (ps : List Pv) : List UInt8 := if txErr x v ps ≠ 0 then [] else partX (headX x v t ps.length) ps ps.length
theorem partX_succ (hd : List UInt8) {ps : List Pv} {k : Nat} {p : Pv} (h : ps[k]? = some p) : partX hd ps k ++ (textB p.1 ++ writeE p.2) = partX hd ps (k + 1) := by
 unfold partX; rw [List.take_add_one, h]; simp
theorem headX_len (x : Im) {v : Vm} (hv : v.wf) (t : Bool) (n : Nat) (hn : n ≤ 16) : (headX x v t n).length ≤ 200 := by
 have h1 := writeI_len x
 have h2 := partV_len hv (longV v)
 have h3 := longV_le v
 have h4 := jN (if t then 1 else 0) (by split <;> omega)
 have h5 := jN n (by omega)
 unfold headX writeV; simp only [List.length_append]; omega
theorem partsErr_zero {x : Im} : ∀ {ps : List Pv} {l : Int}, partsErr x l ps = 0 → ∀ p ∈ ps, keyE p.1 = 0 ∧ errE p.2 = 0
 | [], _, _, p, hp => by cases hp
 | q :: r, l, h, p, hp => by
  rw [partsErr] at h
  have h0 : partErr x l q = 0 := Classical.byContradiction fun hn => by rw [if_pos hn] at h; exact hn h
  rw [if_neg (by simp [h0])] at h
  rcases List.mem_cons.1 hp with rfl | hp
  ·
   unfold partErr at h0
   have h1 : keyE p.1 = 0 := Classical.byContradiction fun hn => by rw [if_pos hn] at h0; exact hn h0
   rw [if_neg (by simp [h1])] at h0
   exact ⟨h1, Classical.byContradiction fun hn => by rw [if_pos hn] at h0; exact hn h0⟩
  ·
   exact partsErr_zero h p hp
theorem txErr_zero {x : Im} {v : Vm} {ps : List Pv} (h : txErr x v ps = 0) : ps.length ≤ 16 ∧ ∀ p ∈ ps, keyE p.1 = 0 ∧ errE p.2 = 0 := by
 unfold txErr at h
 split at h
 ·
  cases h
 split at h
 ·
  cases h
 split at h
 ·
  cases h
 exact ⟨by omega, partsErr_zero h⟩
theorem partX_len (hd : List UInt8) (ps : List Pv) (k : Nat) (hn : ps.length ≤ 16) (hl : ∀ p ∈ ps, p.1.length ≤ 1000) (hw : ∀ p ∈ ps, p.2.wf) : (partX hd ps k).length ≤ hd.length + 122000 * 16 := by
 have h2 := flatB_len (f := fun p : Pv => textB p.1 ++ writeE p.2) (b := 122000) (ps.take k) (fun p hp => by
  have hm := List.mem_of_mem_take hp
  have h3 := hl p hm
  have h4 := textB_len (e := p.1) (by omega)
  have h5 := writeE_len p.2 (hw p hm)
  rw [List.length_append]; omega)
 have h4 : (ps.take k).length ≤ 16 := by rw [List.length_take]; omega
 have h6 : 122000 * (ps.take k).length ≤ 122000 * 16 := Nat.mul_le_mul_left _ h4
 unfold partX; rw [List.length_append]; omega
def zeroE : Ef := ⟨0, [], 0, ((0, 0), 0), (0, 0), []⟩
theorem zeroE_wf : zeroE.wf := ⟨⟨by decide, by decide⟩, ⟨by decide, by decide⟩, ⟨by decide, by decide⟩, (fun _ h => nomatch h), by decide, by decide⟩
def rawE (S : Rs) : Ef × Rs :=
 let a := intS 6 S
 let f := textS 12 a.2
 let v := readZ f.2
 let g := readT v.2
 let s := if fAt (a.1 : Int) = true then readSt' g.2 else ((0, 0), g.2)
 let q := if fTg (a.1 : Int) = true then readN readT (intS 4096 s.2).1 (intS 4096 s.2).2 else ([], s.2)
 (⟨(a.1 : Int), f.1, v.1, g.1, s.1, q.1⟩, q.2)
def readE (S : Rs) : Ef × Rs :=
 let r := rawE S
 let T := failS r.2 (errE r.1)
 if T.fe ≠ 0 then (zeroE, T) else (r.1, T)
theorem readZ_in (S : Rs) : -9223372036854775808 ≤ (readZ S).1 ∧ (readZ S).1 ≤ 9223372036854775807 := by
 have h := numS_lt S
 unfold readZ
 dsimp only
 split <;> omega
theorem rawE_wf {S : Rs} (h : S.wf) : (rawE S).2.wf ∧ (rawE S).1.wf ∧ (rawE S).1.name.length ≤ 12 ∧ (rawE S).1.tags.length ≤ 4096 := by
 have h1 : (intS 6 S).2.wf := Rs.wf_next h _
 have hle := yA 6 S
 have h2 := textS_wf 12 h1
 have h3 : (readZ (textS 12 (intS 6 S).2).2).2.wf := Rs.wf_next h2 _
 have h4 := readT_wf h3
 have hs : (if fAt ((intS 6 S).1 : Int) = true then readSt' (readT (readZ (textS 12 (intS 6 S).2).2).2).2 else ((0, 0), (readT (readZ (textS 12 (intS 6 S).2).2).2).2)).2.wf ∧ Sm.wf (if fAt ((intS 6 S).1 : Int) = true then readSt' (readT (readZ (textS 12 (intS 6 S).2).2).2).2 else ((0, 0), (readT (readZ (textS 12 (intS 6 S).2).2).2).2)).1 := by
  split
  ·
   exact readSt'_wf h4.1
  ·
   exact ⟨h4.1, show Sm.wf (0, 0) from ⟨by decide, by decide⟩⟩
 unfold rawE
 dsimp only
 generalize (if fAt ((intS 6 S).1 : Int) = true then readSt' (readT (readZ (textS 12 (intS 6 S).2).2).2).2 else ((0, 0), (readT (readZ (textS 12 (intS 6 S).2).2).2).2)) = s at hs
 have h5 : (intS 4096 s.2).2.wf := Rs.wf_next hs.1 _
 have hl5 := yA 4096 s.2
 have h6 := readN_wf (f := readT) (P := Tm.wf) (fun S h => readT_wf h) (intS 4096 s.2).1 h5
 refine ⟨?_, ⟨h4.2, hs.2, readZ_in _, ?_, by dsimp only; omega, by dsimp only; omega⟩, textS_len 12 _, ?_⟩
 ·
  split
  ·
   exact h6.1
  ·
   exact hs.1
 ·
  dsimp only
  split
  ·
   exact h6.2.2
  ·
   simp
 ·
  split
  ·
   exact Nat.le_trans h6.2.1 hl5
  ·
   simp
theorem readE_wf {S : Rs} (h : S.wf) : (readE S).2.wf ∧ (readE S).1.wf ∧ (readE S).1.name.length ≤ 12 ∧ (readE S).1.tags.length ≤ 4096 := by
 obtain ⟨h1, h2, h3, h4⟩ := rawE_wf h
 have h5 := Rs.wf_fail h1 (errE (rawE S).1)
 unfold readE
 dsimp only
 split
 ·
  exact ⟨h5, zeroE_wf, Nat.zero_le _, Nat.zero_le _⟩
 ·
  exact ⟨h5, h2, h3, h4⟩
def readQ (S : Rs) : Pv × Rs := (((textS 24 S).1, (readE (textS 24 S).2).1), (readE (textS 24 S).2).2)
def readQs : Nat → Rs → List Pv × Rs
 | 0, S => ([], S)
 | n + 1, S => ((readQs n S).1 ++ [(readQ (readQs n S).2).1], (readQ (readQs n S).2).2)
def rawX (S : Rs) : (Im × Vm × Bool × List Pv) × Rs :=
 let x := readI S
 let v := readV x.2
 let t := intS 1 v.2
 let n := intS 16 t.2
 let q := readQs n.1 n.2
 ((x.1, v.1, decide (t.1 = 1), q.1), q.2)
def zeroV : Vm := ⟨0, 0, 0, 0, 0, 0, 0, 0⟩
def readX (S : Rs) : (Im × Vm × Bool × List Pv) × Rs :=
 let r := rawX S
 let T := failS r.2 (txErr r.1.1 r.1.2.1 r.1.2.2.2)
 if T.fe ≠ 0 then (((0, 0), zeroV, false, []), T) else (r.1, T)
theorem readQs_len (S : Rs) : ∀ n, (readQs n S).1.length = n
 | 0 => rfl
 | n + 1 => by simp [readQs, readQs_len S n]
def Pv.Good (p : Pv) : Prop := p.1.length ≤ 24 ∧ p.2.wf ∧ p.2.name.length ≤ 12 ∧ p.2.tags.length ≤ 4096
theorem readQ_wf {S : Rs} (h : S.wf) : (readQ S).2.wf ∧ (readQ S).1.Good := by
 have h1 := readE_wf (textS_wf 24 h)
 exact ⟨h1.1, textS_len 24 S, h1.2⟩
theorem readQs_wf {S : Rs} (h : S.wf) : ∀ n, (readQs n S).2.wf ∧ ∀ p ∈ (readQs n S).1, p.Good
 | 0 => ⟨h, by simp [readQs]⟩
 | n + 1 => by
  obtain ⟨h1, h2⟩ := readQs_wf h n
  refine ⟨(readQ_wf h1).1, fun p hp => ?_⟩
  rcases List.mem_append.1 hp with hp | hp
  ·
   exact h2 p hp
  ·
   rw [List.mem_singleton.1 hp]; exact (readQ_wf h1).2
theorem readX_wfI {S : Rs} (h : S.wf) : (readX S).2.wf ∧ ((readX S).1.1.wf ∧ (readX S).1.2.1.wf) ∧ (readX S).1.2.2.2.length ≤ 16 ∧ ∀ p ∈ (readX S).1.2.2.2, p.Good := by
 have h1 := readI_wf h
 have h2 := readV_wf h1.1
 have h3 : (intS 1 (readV (readI S).2).2).2.wf := Rs.wf_next h2.1 _
 have h4 : (intS 16 (intS 1 (readV (readI S).2).2).2).2.wf := Rs.wf_next h3 _
 have h5 := readQs_wf h4 (intS 16 (intS 1 (readV (readI S).2).2).2).1
 have h6 := yA 16 (intS 1 (readV (readI S).2).2).2
 have h7 := readQs_len (intS 16 (intS 1 (readV (readI S).2).2).2).2 (intS 16 (intS 1 (readV (readI S).2).2).2).1
 unfold readX
 dsimp only
 split
 ·
  exact ⟨Rs.wf_fail h5.1 _, ⟨show Im.wf (0, 0) from ⟨by decide, by decide⟩, show Vm.wf zeroV by simp [zeroV, Vm.wf]⟩, Nat.zero_le _, fun p hp => nomatch hp⟩
 ·
  exact ⟨Rs.wf_fail h5.1 _, ⟨h1.2, h2.2⟩, by show List.length (readQs _ _).1 ≤ 16; omega, h5.2⟩
def writeBal (b : Int × Int) : List UInt8 := if balE b.1 b.2 ≠ 0 then [] else numB b.1.toNat ++ numB b.2.toNat
def writeZs (l : List Int) : List UInt8 := (l.map fun z => numB z.toNat).flatten
def wC (c : Cv) : List UInt8 :=
 if c.kind = 1 then numB 1 ++ (writeX c.t.id c.t.deps c.t.thin c.t.parts ++ numB c.snap.toNat)
 else if c.kind = 2 then numB 2 ++ numB c.who.toNat
 else if c.kind = 3 then (numB 3 ++ numB c.mem.length ++ writeZs c.mem) ++ (writeV c.since ++ numB c.snap.toNat)
 else numB 0
def mH (m : MgV) : List UInt8 := numB m.kd.toNat ++ numB m.fr.toNat ++ numB m.dst.toNat ++ numB m.ep.toNat ++ writeI m.i
def mB (m : MgV) : List UInt8 := mH m ++ (if hB m.kd = true then writeBal m.b else [])
def mS (m : MgV) : List UInt8 := mB m ++ (if hS m.kd = true then numB m.st.toNat else [])
def mV (m : MgV) : List UInt8 := mS m ++ (if hV m.kd m.st = true then writeBal m.vv else [])
def mC (m : MgV) : List UInt8 := mV m ++ (if hC m.kd m.st = true then wC m.c else [])
def wM (m : MgV) : List UInt8 := mC m ++ (if hA m.kd m.st = true then numB m.an.toNat ++ writeV m.av else [])
def zeroCv : Cv := ⟨0, zeroT, 0, 0, [], zeroQ⟩
def zMv : MgV := ⟨0, 0, 0, 0, (0, 0), (0, 0), 0, (0, 0), zeroCv, 0, zeroQ⟩
def Cv.toM (c : Cv) : Cm := ⟨c.kind, c.t.id, c.t.deps, c.t.thin, none, 0, 0, c.t.parts.map fun p => ⟨p.1, p.2, none, 0, 0⟩, c.snap, c.who, none, 0, 0, c.mem, c.since⟩
theorem Cv.toM_val (c : Cv) : c.toM.val = c := by
 obtain ⟨k, ⟨i, d, t, ps⟩, s, h, m, u⟩ := c
 simp [Cv.toM, Cm.val, Function.comp_def, Pe.core]
def MgV.toM (m : MgV) : Mm := ⟨m.kd, m.fr, m.dst, m.ep, m.i, m.b, m.st, m.vv, m.c.toM, m.an, m.av⟩
theorem MgV.toM_val (m : MgV) : m.toM.val = m := by
 unfold MgV.toM Mm.val
 dsimp only
 rw [Cv.toM_val]
def msgErrV (m : MgV) : Int := msgErr m.toM
theorem msgErr_eq (m : Mm) : msgErr m = msgErrV m.val := msgErr_val (by rw [MgV.toM_val])
def readBal (S : Rs) : (Int × Int) × Rs :=
 let p := intS 1048576 S
 let q := intS 7 p.2
 let T := failS q.2 (balE (p.1 : Int) (q.1 : Int))
 if T.fe ≠ 0 then ((0, 0), T) else (((p.1 : Int), (q.1 : Int)), T)
def readZs : Nat → Rs → List Int × Rs
 | 0, S => ([], S)
 | n + 1, S => ((readZs n S).1 ++ [((intS 7 (readZs n S).2).1 : Int)], (intS 7 (readZs n S).2).2)
theorem readZs_len (S : Rs) : ∀ n, (readZs n S).1.length = n
 | 0 => rfl
 | n + 1 => by simp [readZs, readZs_len S n]
def rdDo (S : Rs) : Cv × Rs :=
 let x := readX S
 let s := intS 1048576 x.2
 (⟨1, ⟨x.1.1, x.1.2.1, x.1.2.2.1, x.1.2.2.2⟩, (s.1 : Int), 0, [], zeroQ⟩, s.2)
def rdLead (S : Rs) : Cv × Rs := (⟨2, zeroT, 0, ((intS 7 S).1 : Int), [], zeroQ⟩, (intS 7 S).2)
def rdSeal (S : Rs) : Cv × Rs :=
 let n := intS 5 S
 let l := readZs n.1 n.2
 let v := readV l.2
 let s := intS 1048576 v.2
 (⟨3, zeroT, (s.1 : Int), 0, l.1, v.1⟩, s.2)
def readCv (S : Rs) : Cv × Rs :=
 let k := intS 3 S
 if k.1 = 1 then rdDo k.2 else if k.1 = 2 then rdLead k.2 else if k.1 = 3 then rdSeal k.2 else (zeroCv, k.2)
def rdH (S : Rs) : (Nat × Nat × Nat × Nat × Im) × Rs :=
 let k := intS 8 S
 let f := intS 7 k.2
 let d := intS 7 f.2
 let e := intS 1048576 d.2
 let i := readI e.2
 ((k.1, f.1, d.1, e.1, i.1), i.2)
def rdB (t : Bool) (S : Rs) : (Int × Int) × Rs := if t = true then readBal S else ((0, 0), S)
def rdS (t : Bool) (S : Rs) : Nat × Rs := if t = true then intS 4 S else (0, S)
def rdC (t : Bool) (S : Rs) : Cv × Rs := if t = true then readCv S else (zeroCv, S)
def rdA (t : Bool) (S : Rs) : (Nat × Vm) × Rs := if t = true then (((intS 1048576 S).1, (readV (intS 1048576 S).2).1), (readV (intS 1048576 S).2).2) else ((0, zeroQ), S)
def readMv (S : Rs) : MgV × Rs :=
 let h := rdH S
 let b := rdB (hB (h.1.1 : Int)) h.2
 let s := rdS (hS (h.1.1 : Int)) b.2
 let v := rdB (hV (h.1.1 : Int) (s.1 : Int)) s.2
 let c := rdC (hC (h.1.1 : Int) (s.1 : Int)) v.2
 let a := rdA (hA (h.1.1 : Int) (s.1 : Int)) c.2
 (⟨h.1.1, h.1.2.1, h.1.2.2.1, h.1.2.2.2.1, h.1.2.2.2.2, b.1, s.1, v.1, c.1, a.1.1, a.1.2⟩, a.2)
def endS (S : Rs) : Rs := if S.a < S.l.length then failS S 6 else S
def readWM (S : Rs) : MgV × Rs :=
 let r := readMv S
 let T := failS (endS r.2) (msgErrV r.1)
 if T.fe ≠ 0 then (zMv, T) else (r.1, T)
theorem intS_wf {S : Rs} (m : Nat) (h : S.wf) : (intS m S).2.wf := Rs.wf_next h _
theorem readBal_wf {S : Rs} (h : S.wf) : (readBal S).2.wf ∧ 0 ≤ (readBal S).1.1 := by
 have h1 := intS_wf 7 (intS_wf 1048576 h)
 unfold readBal
 dsimp only
 split
 ·
  exact ⟨Rs.wf_fail h1 _, Int.le_refl _⟩
 ·
  exact ⟨Rs.wf_fail h1 _, Int.natCast_nonneg _⟩
theorem readZs_wf {S : Rs} (h : S.wf) : ∀ n, (readZs n S).2.wf
 | 0 => h
 | n + 1 => intS_wf 7 (readZs_wf h n)
theorem zeroCv_sml : zeroCv.Sml := ⟨by decide, by decide, fun p hp => (nomatch hp), fun p hp => (nomatch hp), ⟨by decide, by decide⟩, by simp [zeroCv, zeroT, Vm.wf], by simp [zeroCv, zeroQ, Vm.wf]⟩
structure Cv.Rd (c : Cv) : Prop where
 l : c.t.parts.length ≤ 16
 m : c.mem.length ≤ 5
 g : ∀ p ∈ c.t.parts, p.Good
 x : c.t.id.wf
 v : c.t.deps.wf
 u : c.since.wf
theorem zeroT_rd : zeroT.id.wf ∧ zeroT.deps.wf := ⟨⟨by decide, by decide⟩, by simp [zeroT, Vm.wf]⟩
theorem zeroQ_wf : zeroQ.wf := by simp [zeroQ, Vm.wf]
theorem zeroCv_rd : zeroCv.Rd := ⟨by decide, by decide, fun p hp => (nomatch hp), zeroT_rd.1, zeroT_rd.2, zeroQ_wf⟩
theorem rdDo_wf {S : Rs} (h : S.wf) : (rdDo S).2.wf ∧ (rdDo S).1.Rd := by
 obtain ⟨h1, ⟨h2, h3⟩, h4, h5⟩ := readX_wfI h
 exact ⟨intS_wf _ h1, ⟨h4, Nat.zero_le _, h5, h2, h3, zeroQ_wf⟩⟩
theorem rdLead_wf {S : Rs} (h : S.wf) : (rdLead S).2.wf ∧ (rdLead S).1.Rd := ⟨intS_wf _ h, ⟨Nat.zero_le _, Nat.zero_le _, fun _p hp => (nomatch hp), zeroT_rd.1, zeroT_rd.2, zeroQ_wf⟩⟩
theorem rdSeal_wf {S : Rs} (h : S.wf) : (rdSeal S).2.wf ∧ (rdSeal S).1.Rd := by
 have h1 := yA 5 S
 have h2 := readZs_wf (intS_wf 5 h) (intS 5 S).1
 have h3 := readV_wf h2
 have h4 := readZs_len (intS 5 S).2 (intS 5 S).1
 exact ⟨intS_wf _ h3.1, ⟨Nat.zero_le _, by show List.length (readZs _ _).1 ≤ 5; omega, fun p hp => (nomatch hp), zeroT_rd.1, zeroT_rd.2, h3.2⟩⟩
theorem readCv_wf {S : Rs} (h : S.wf) : (readCv S).2.wf ∧ (readCv S).1.Rd := by
 have h1 := intS_wf 3 h
 unfold readCv
 dsimp only
 split
 ·
  exact rdDo_wf h1
 split
 ·
  exact rdLead_wf h1
 split
 ·
  exact rdSeal_wf h1
 ·
  exact ⟨h1, zeroCv_rd⟩
theorem numZ_any (k : Nat) (hk : k ≤ 9223372036854775807) (w : World) : Calls Tryz.prog 49 #[.int .i64 (k : Int)] w fun e w' => e = .returned (.string (bs (numB k))) ∧ Below w.heap.size w w' := by
 have hwr : IntKind.u64.wrap (k : Int) = k := IntWalk.u64_in _ (by omega)
 have cN := jH (fun w' => num_any k (by omega) w')
 go_enter Tryz.func49, Tryz.ntmps49
 go_wp2_with fail
 refine (cN.out _).mono ?_
 rintro e w1 ⟨rfl, hb1⟩
 go_wp2
 go_ret
 exact ⟨rfl, hb1⟩
theorem balE_zero {a b : Int} (h : balE a b = 0) : a ≤ 1048576 ∧ 0 ≤ b ∧ b ≤ 7 ∧ (a = 0 → b = 0) := by
 unfold balE at h
 by_cases h1 : 1048576 < a
 ·
  simp [h1] at h
 by_cases h2 : b < 0
 ·
  simp [h1, h2] at h
 by_cases h3 : 7 < b
 ·
  simp [h1, h2, h3] at h
 by_cases h4 : a = 0 ∧ b ≠ 0
 ·
  simp [h2, h3, h4] at h
 exact ⟨by omega, by omega, by omega, fun ha => Classical.byContradiction fun hb => h4 ⟨ha, hb⟩⟩
theorem writeBal_len (b : Int × Int) : (writeBal b).length ≤ 18 := by
 unfold writeBal
 split
 ·
  simp
 ·
  rename_i h
  have h1 := balE_zero (Classical.not_not.1 h)
  have a1 := jN b.1.toNat (by omega)
  have a2 := jN b.2.toNat (by omega)
  rw [List.length_append]; omega
set_option maxRecDepth 100000 in
set_option maxHeartbeats 4000000 in
theorem balw_any (a b : Int) (ha : 0 ≤ a) (w : World) : Calls Tryz.prog 51 #[.agg #[.int .u32 a, .int .i64 b]] w fun e w' => e = .returned (.string (bs (writeBal (a, b)))) ∧ Below w.heap.size w w' := by
 have hb0 : Below w.heap.size w (w.alloc (.cells #[.int .u32 a, .int .i64 b] 42)) := (Below.refl _ w).alloc (Nat.le_refl _) _
 have hbA : (w.alloc (.cells #[.int .u32 a, .int .i64 b] 42)).heap[w.heap.size]? = some (.cells #[.int .u32 a, .int .i64 b] 42 (0, 0)) := jT _ _ rfl
 generalize hW : (w.alloc (.cells #[.int .u32 a, .int .i64 b] 42)) = W at hb0 hbA
 have hz0 := hb0.size
 have hlt := jB hbA
 have p0 := jA hbA 0
 have p1 := jA hbA 1
 simp at p0 p1
 have cK := jH (bchk_any a b W)
 generalize hr : writeBal (a, b) = q
 unfold writeBal at hr
 dsimp only at hr
 by_cases hE : balE a b = 0
 case neg =>
  rw [if_pos hE] at hr
  subst hr
  generalize balE a b = e0 at cK hE
  have hd : (e0 != 0) = true := by simpa using hE
  clear hbA
  go_enter Tryz.func51, Tryz.ntmps51
  go_wp2_with fail
  refine cK.out.mono ?_
  rintro e w1 ⟨rfl, hb1⟩
  have hG := hb0.trans (hb1.mono hz0)
  clear p0 p1
  go_wp2
  go_ret
  exact ⟨rfl, hG⟩
 rw [if_neg (by simp [hE])] at hr
 obtain ⟨h1, h2, h3, -⟩ := balE_zero hE
 rw [hE] at cK
 obtain ⟨k, rfl⟩ := Int.eq_ofNat_of_zero_le ha
 obtain ⟨j, rfl⟩ := Int.eq_ofNat_of_zero_le h2
 have hk : k ≤ 1048576 := by omega
 have hj : j ≤ 7 := by omega
 have hT : Hid (bs (numB k) ++ bs (numB j) = bs q) := jH (by rw [jM, ← hr]; simp)
 have wk : IntKind.u64.wrap (k : Int) = k := IntWalk.u64_in _ (by omega)
 have wj : IntKind.u64.wrap (j : Int) = j := IntWalk.u64_in _ (by omega)
 have a1 := jN k (by omega)
 have a2 := jN j (by omega)
 have hs1 : ¬ 9223372036854775807 < (bs (numB k)).size + (bs (numB j)).size := by rw [jG, jG]; omega
 have cN := jH (fun w' => num_any k (by omega) w')
 have cM := jH (fun w' => num_any j (by omega) w')
 have hbAH := jH hbA
 clear hE h1 h2 h3 ha hr a1 a2 hbA
 go_enter Tryz.func51, Tryz.ntmps51
 go_wp2_with fail
 refine cK.out.mono ?_
 rintro e w1 ⟨rfl, hb1⟩
 have hG1 := hb0.trans (hb1.mono hz0)
 have hbA1 := jD hbAH.out hb1
 have hlt1 := jB hbA1
 clear p0 p1 hlt
 have p0 := jA hbA1 0
 have p1 := jA hbA1 1
 simp at p0 p1
 clear hbA1
 go_upto_region 3 with (fail)
 refine jW (fun w' => KQ w1.heap.size w1 w') (fun _ => True) 99 (by kernel_rfl) (kq (Below.refl _ _).drew) trivial ?_
 intro hcl
 have hC : KQ w1.heap.size w1 w1.drew := kq (Below.refl _ _).drew
 have hE := trivial
 (refine mT 0 ?_ rfl hcl hC hE ?_ ?_; rotate_left; (· (intro w hSw; (try dsimp only at hSw); go_simp; (try with_reducible rfl))); clear hcl; intro hcl; (try simp only [Act.put, List.getElem_toArray, List.getElem_cons_zero, List.setIfInBounds_toArray, List.set_cons_zero, List.set_cons_succ]))
 (refine mT 1 ?_ rfl hcl hC hE ?_ ?_; rotate_left; (· (intro w hSw; (try dsimp only at hSw); go_simp; (try with_reducible rfl))); clear hcl; intro hcl; (try simp only [Act.put, nA, nB, nC, nD, nE, nF]))
 (refine mT 2 ?_ rfl hcl hC hE ?_ ?_; rotate_left; (· (intro w hSw; (try dsimp only at hSw); go_simp; (try with_reducible rfl))); clear hcl; intro hcl; (try simp only [Act.put, nA, nB, nC, nD, nE, nF]))
 (refine mT 4 ?_ rfl hcl hC hE ?_ ?_; rotate_left; (· (intro w hSw; (try dsimp only at hSw); go_simp; (try with_reducible rfl))); clear hcl; intro hcl; (try simp only [Act.put, nA, nB, nC, nD, nE, nF]))
 (refine mT 5 ?_ rfl hcl hC hE ?_ ?_; rotate_left; (· (intro w hSw; (try dsimp only at hSw); go_simp; (try with_reducible rfl))); clear hcl; intro hcl; (try simp only [Act.put, nA, nB, nC, nD, nE, nF]))
 (refine mT 6 ?_ rfl hcl hC hE ?_ ?_; rotate_left; (· (intro w hSw; (try dsimp only at hSw); go_simp; (try with_reducible rfl))); clear hcl; intro hcl; (try simp only [Act.put, nA, nB, nC, nD, nE, nF]))
 refine jK (i := 3) rfl (by kernel_rfl) hcl (fun K hK => ?_)
 go_simp
 refine (cN.out _).mono ?_
 rintro r v1 ⟨rfl, hv1⟩
 have hC' := jP hC (Nat.le_refl _) hv1
 refine hK.out _ _ hC' trivial ?_
 clear hK K
 clear hcl
 intro hcl
 (try simp only [Act.put, nA, nB, nC, nD, nE, nF])
 clear hC
 have hC := hC'
 clear hC'
 refine jK (i := 7) rfl (by kernel_rfl) hcl (fun K hK => ?_)
 go_simp
 refine (cM.out _).mono ?_
 rintro r v2 ⟨rfl, hv2⟩
 have hC' := jP hC (Nat.le_refl _) hv2
 refine hK.out _ _ hC' trivial ?_
 clear hK K
 clear hcl
 intro hcl
 (try simp only [Act.put, nA, nB, nC, nD, nE, nF])
 clear hC
 have hC := hC'
 clear hC'
 (refine mT 8 ?_ rfl hcl hC hE ?_ ?_; rotate_left; (· (intro w hSw; (try dsimp only at hSw); go_simp; (try with_reducible rfl))); clear hcl; intro hcl; (try simp only [Act.put, nA, nB, nC, nD, nE, nF]))
 (refine mT 9 ?_ rfl hcl hC hE ?_ ?_; rotate_left; (· (intro w hSw; (try dsimp only at hSw); go_simp; (try with_reducible rfl))); clear hcl; intro hcl; (try simp only [Act.put, nA, nB, nC, nD, nE, nF]))
 refine wpM_done (by kernel_rfl) ?_
 clear hcl
 try simp only [Act.put, nA, nB, nC, nD, nE, nF]
 rw [hT.out]
 have hG := hG1.trans (hC.1.mono hG1.size)
 go_wp2
 go_ret
 exact ⟨rfl, hG⟩
end Go.Proofs.YtfhandglpjnonaaGreatDoor
