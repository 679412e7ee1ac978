/- Plain words on what is read and what is the same. The plain law of Read and Write of messages: what is written is read, what is read is written, what is cut off is none. -/
import Derived.Test.YtfhandglpjnonaaGreatDoorN43
import Derived.Test.YtfhandglpjnonaaGreatDoorQK
import Derived.Test.YtfhandglpjnonaaGreatDoorN36
import Derived.Test.YtfhandglpjnonaaGreatDoorN35
namespace Go.Proofs.YtfhandglpjnonaaGreatDoor
open Go.RowKit
theorem sameAll_val {m n : Mm} (h : m.val = n.val) : sameAll m n = true := by
 obtain ⟨kd, fr, dst, ep, i, b, st, vv, c, an, av⟩ := m
 obtain ⟨kd', fr', dst', ep', i', b', st', vv', c', an', av'⟩ := n
 simp only [Mm.val, MgV.mk.injEq] at h
 obtain ⟨rfl, rfl, rfl, rfl, rfl, rfl, rfl, rfl, hc, rfl, rfl⟩ := h
 have h1 : sameCv c.val c'.val = true := sameCv_iff.2 hc
 have h2 : eqV av av = true := eqV_iff.2 rfl
 simp [sameAll, h1, h2]
theorem wMsg_val {m n : Mm} (h : n.val = m.val) : wMsg n = wMsg m := by
 unfold wMsg
 rw [msgErr_val h, h]
theorem Mm.Nn.val {m n : Mm} (h : m.Nn) (hv : n.val = m.val) : n.Nn := by
 have e1 : n.ep = m.ep := congrArg MgV.ep hv
 have e2 : n.b = m.b := congrArg MgV.b hv
 have e3 : n.vv = m.vv := congrArg MgV.vv hv
 have e4 : n.an = m.an := congrArg MgV.an hv
 exact ⟨by rw [e1]; exact h.ep, by rw [e2]; exact h.b, by rw [e3]; exact h.vv, by rw [e4]; exact h.an⟩
theorem Cm.OwT.ok {t : TypeId} {w : World} {base : Nat} {c : Cm} (h : c.OwT t w base) : c.Ok w w.heap.size :=
 ⟨h.e.rd, h.i.rd.1, h.e.max, Nat.le_trans h.i.rd.2.2.1 h.i.rd.2.2.2, fun p hp => Nat.le_trans (h.e.2 p hp).rd.2.2.1 (h.e.2 p hp).rd.2.2.2⟩
structure MgV.Rd (m : MgV) : Prop where
 c : m.c.Rd
 i : m.i.wf
 av : m.av.wf
 ep : 0 ≤ m.ep
 b : 0 ≤ m.b.1
 vv : 0 ≤ m.vv.1
 an : 0 ≤ m.an
theorem rdB_wf {S : Rs} (h : S.wf) (t : Bool) : (rdB t S).2.wf ∧ 0 ≤ (rdB t S).1.1 := by cases t with
 | true => exact readBal_wf h
 | false => exact ⟨h, Int.le_refl _⟩
theorem readMv_wf {S : Rs} (h : S.wf) : (readMv S).2.wf ∧ (readMv S).1.Rd := by
 have h1 : (rdH S).2.wf ∧ (rdH S).1.2.2.2.2.wf := readI_wf (intS_wf 1048576 (intS_wf 7 (intS_wf 7 (intS_wf 8 h))))
 unfold readMv
 dsimp only
 generalize rdH S = H at *
 obtain ⟨⟨k, f, d, e, i⟩, S1⟩ := H
 dsimp only at *
 have h2 := rdB_wf h1.1 (hB (k : Int))
 generalize rdB (hB (k : Int)) S1 = p at *
 obtain ⟨b, S2⟩ := p
 dsimp only at *
 have h3 : (rdS (hS (k : Int)) S2).2.wf := by
  cases hS (k : Int) with
  | true => exact intS_wf 4 h2.1
  | false => exact h2.1
 generalize rdS (hS (k : Int)) S2 = p at *
 obtain ⟨s, S3⟩ := p
 dsimp only at *
 have h4 := rdB_wf h3 (hV (k : Int) (s : Int))
 generalize rdB (hV (k : Int) (s : Int)) S3 = p at *
 obtain ⟨v, S4⟩ := p
 dsimp only at *
 have h5 : (rdC (hC (k : Int) (s : Int)) S4).2.wf ∧ (rdC (hC (k : Int) (s : Int)) S4).1.Rd := by
  cases hC (k : Int) (s : Int) with
  | true => exact readCv_wf h4.1
  | false => exact ⟨h4.1, zeroCv_rd⟩
 generalize rdC (hC (k : Int) (s : Int)) S4 = p at *
 obtain ⟨c, S5⟩ := p
 dsimp only at *
 have h6 : (rdA (hA (k : Int) (s : Int)) S5).2.wf ∧ (rdA (hA (k : Int) (s : Int)) S5).1.2.wf := by
  cases hA (k : Int) (s : Int) with
  | true => exact readV_wf (intS_wf 1048576 h5.1)
  | false => exact ⟨h5.1, zeroQ_wf⟩
 generalize rdA (hA (k : Int) (s : Int)) S5 = p at *
 obtain ⟨⟨n, u⟩, S6⟩ := p
 dsimp only at *
 exact ⟨h6.1, ⟨h5.2, h1.2, h6.2, Int.natCast_nonneg _, h2.2, h4.2, Int.natCast_nonneg _⟩⟩
theorem zMv_rd : zMv.Rd := ⟨zeroCv_rd, ⟨by decide, by decide⟩, zeroQ_wf, Int.le_refl _, Int.le_refl _, Int.le_refl _, Int.le_refl _⟩
theorem readWM_wf {S : Rs} (h : S.wf) : (readWM S).2.wf ∧ (readWM S).1.Rd := by
 obtain ⟨h1, h2⟩ := readMv_wf h
 have h3 := Rs.wf_fail (endS_wf h1) (msgErrV (readMv S).1)
 unfold readWM
 dsimp only
 split
 ·
  exact ⟨h3, zMv_rd⟩
 ·
  exact ⟨h3, h2⟩
theorem Mm.sml_of {t : TypeId} {w : World} {base : Nat} {n : Mm} {v : MgV} (h : n.c.OwT t w base) (hv : n.val = v) (hr : v.Rd) : n.Nn ∧ n.c.k ≤ 16 := by
 subst hv
 refine ⟨⟨hr.ep, hr.b, hr.vv, hr.an⟩, ?_⟩
 have h1 := hr.c.l
 have h2 := h.e.len
 have h3 : n.val.c.t.parts.length = n.c.ps.length := by simp [Mm.val, Cm.val]
 omega
structure MgV.Bk (v : MgV) : Prop where
 ep : 0 ≤ v.ep
 b : 0 ≤ v.b.1
 vv : 0 ≤ v.vv.1
 an : 0 ≤ v.an
 av : v.av.wf
 t : v.c.t.deps.wf
 u : v.c.since.wf
 p : ∀ p ∈ v.c.t.parts, p.2.wf
theorem MgV.Rd.bk {v : MgV} (h : v.Rd) : v.Bk := ⟨h.ep, h.b, h.vv, h.an, h.av, h.c.v, h.c.u, fun p hp => (h.c.g p hp).2.1⟩
theorem Mm.bk {m : Mm} (hN : m.Nn) (hav : m.av.wf) (hs : m.c.val.Sml) : m.val.Bk := ⟨hN.ep, hN.b, hN.vv, hN.an, hav, hs.v, hs.u, hs.wf⟩
theorem readMv_backV {v : MgV} (h : msgErrV v = 0) (hb : v.Bk) (pre more : List UInt8) : readMv (stR pre (wM v ++ more)) = (v, stR (pre ++ wM v) more) := by
 have h1 := readMv_back (m := v.toM) h ⟨hb.ep, hb.b, hb.vv, hb.an⟩ hb.av (by rw [show v.toM.c.val = v.c from Cv.toM_val v.c]; exact ⟨hb.t, hb.u, hb.p⟩) pre more
 rw [MgV.toM_val] at h1
 exact h1
theorem readWM_ok {v : MgV} (h : msgErrV v = 0) (hb : v.Bk) : readWM ⟨wM v, 0, 0, 0⟩ = (v, ⟨wM v, (wM v).length, 0, 0⟩) := by
 have h1 := readMv_backV h hb [] []
 rw [List.append_nil, show stR [] (wM v) = ⟨wM v, 0, 0, 0⟩ from rfl] at h1
 have h2 : stR ([] ++ wM v) [] = ⟨wM v, (wM v).length, 0, 0⟩ := by simp [stR]
 have h3 : endS ⟨wM v, (wM v).length, 0, 0⟩ = ⟨wM v, (wM v).length, 0, 0⟩ := by unfold endS; rw [if_neg (Nat.lt_irrefl _)]
 unfold readWM
 dsimp only
 rw [h1, h2]
 dsimp only
 rw [h3, h, failS_z]
 exact if_neg (fun h => h rfl)
theorem readWM_more {v : MgV} (h : msgErrV v = 0) (hb : v.Bk) (c : UInt8) (r : List UInt8) : (readWM ⟨wM v ++ c :: r, 0, 0, 0⟩).2 = ⟨wM v ++ c :: r, (wM v).length, ((wM v).length : Int), 6⟩ := by
 have h1 := readMv_backV h hb [] (c :: r)
 rw [show stR [] (wM v ++ c :: r) = ⟨wM v ++ c :: r, 0, 0, 0⟩ from rfl] at h1
 have h2 : stR ([] ++ wM v) (c :: r) = ⟨wM v ++ c :: r, (wM v).length, 0, 0⟩ := by simp [stR]
 have h3 : endS ⟨wM v ++ c :: r, (wM v).length, 0, 0⟩ = ⟨wM v ++ c :: r, (wM v).length, ((wM v).length : Int), 6⟩ := by
  unfold endS
  rw [if_pos (by simp)]
  rfl
 unfold readWM
 dsimp only
 rw [h1, h2]
 dsimp only
 rw [h3, h, failS_z]
 rfl
theorem readWM_fe {S : Rs} (h : (readWM S).2.fe = 0) : (readMv S).2.fe = 0 ∧ ¬ (readMv S).2.a < (readMv S).2.l.length ∧ msgErrV (readMv S).1 = 0 ∧ (readWM S).1 = (readMv S).1 := by
 have h' : (failS (endS (readMv S).2) (msgErrV (readMv S).1)).fe = 0 := by
  unfold readWM at h
  dsimp only at h
  split at h
  ·
   exact h
  ·
   exact h
 obtain ⟨e1, e2, e3⟩ := failS_zero h'
 have e4 : (readMv S).2.fe = 0 ∧ ¬ (readMv S).2.a < (readMv S).2.l.length := by
  unfold endS at e1
  split at e1
  ·
   obtain ⟨-, g, -⟩ := failS_zero e1
   exact absurd g (by decide)
  ·
   rename_i g
   exact ⟨e1, g⟩
 refine ⟨e4.1, e4.2, e2, ?_⟩
 unfold readWM
 dsimp only
 rw [if_neg (fun g => g h')]
theorem readWM_bad {S : Rs} (h : (readWM S).2.fe ≠ 0) : (readWM S).1 = zMv := by
 unfold readWM at h ⊢
 dsimp only at h ⊢
 split
 ·
  rfl
 ·
  rename_i g
  rw [if_neg g] at h
  exact absurd (Classical.not_not.1 g) h
theorem startS_wf {l : List UInt8} (h : l.length ≤ 4000000) : (⟨l, 0, 0, 0⟩ : Rs).wf := ⟨Nat.zero_le _, by show l.length ≤ _; omega, Int.le_refl _, by show (0 : Int) ≤ _; decide, fun _ => rfl⟩
theorem readWM_fw {l : List UInt8} (hl : l.length ≤ 4000000) (h : (readWM ⟨l, 0, 0, 0⟩).2.fe = 0) : msgErrV (readWM ⟨l, 0, 0, 0⟩).1 = 0 ∧ wM (readWM ⟨l, 0, 0, 0⟩).1 = l := by
 obtain ⟨h1, h2, h3, h4⟩ := readWM_fe h
 obtain ⟨a1, a2, a3, a4⟩ := readMv_fw _ (startS_wf hl) h1
 rw [h4]
 refine ⟨h3, ?_⟩
 have hd : (readMv ⟨l, 0, 0, 0⟩).2.l.drop (readMv ⟨l, 0, 0, 0⟩).2.a = [] := List.drop_of_length_le (by omega)
 rw [hd, List.append_nil] at a4
 exact a4.symm
theorem readWM_cut {v : MgV} (h : msgErrV v = 0) (hb : v.Bk) (hl : (wM v).length ≤ 4000000) {k : Nat} (hk : k < (wM v).length) : (readWM ⟨(wM v).take k, 0, 0, 0⟩).2.fe ≠ 0 := by
 intro hfe
 have hl' : ((wM v).take k).length ≤ 4000000 := by rw [List.length_take]; omega
 obtain ⟨g1, g2⟩ := readWM_fw hl' hfe
 have hr := (readWM_wf (startS_wf hl')).2
 have b1 := readMv_backV g1 hr.bk [] ((wM v).drop k)
 rw [g2, List.take_append_drop] at b1
 have b2 := readMv_backV h hb [] []
 rw [List.append_nil, b1] at b2
 have b3 := congrArg (fun x : MgV × Rs => x.2.a) b2
 simp [stR] at b3
 omega
theorem wM_lenV (v : MgV) (hk : v.kd ≤ 8) (hf : v.fr ≤ 7) (hd : v.dst ≤ 7) (he : v.ep ≤ 1048576) (hs : v.st ≤ 4) (hn : v.an ≤ 1048576) (hcl : (wC v.c).length ≤ 3000100) (hav : v.av.wf) : (wM v).length ≤ 3000500 := by
 have aV := writeVq_len hav
 have a1 := jN v.kd.toNat (by omega)
 have a2 := jN v.fr.toNat (by omega)
 have a3 := jN v.dst.toNat (by omega)
 have a4 := jN v.ep.toNat (by omega)
 have a5 := writeI_len v.i
 have a6 := writeBal_len v.b
 have a7 := writeBal_len v.vv
 have a8 := jN v.st.toNat (by omega)
 have a9 := jN v.an.toNat (by omega)
 unfold wM mC mV mS mB mH
 generalize hB v.kd = f1
 generalize hS v.kd = f2
 generalize hV v.kd v.st = f3
 generalize hC v.kd v.st = f4
 generalize hA v.kd v.st = f5
 cases f1 <;> cases f2 <;> cases f3 <;> cases f4 <;> cases f5 <;> (simp only [Bool.false_eq_true, ↓reduceIte, List.length_append, List.length_nil]; omega)
theorem wM_len {w : World} {m : Mm} (h : msgErr m = 0) (hSm : m.Wri w) (_ : m.Nn) : (wM m.val).length ≤ 3000500 := by
 have hok := msgErr_zero h
 have hcl := wC_len hok.c hSm.c.v
 obtain ⟨hk0, hk1, ⟨hf0, hf1⟩, ⟨hd0, hd1⟩, he1, ⟨hs0, hs1⟩, hi, hb, hv, hn1, ha, hc0, -⟩ := hok
 exact wM_lenV m.val hk1 hf1 hd1 he1 hs1 hn1 hcl hSm.av
end Go.Proofs.YtfhandglpjnonaaGreatDoor
