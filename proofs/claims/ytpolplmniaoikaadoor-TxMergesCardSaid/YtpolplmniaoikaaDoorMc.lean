/- The plain law of effects' and transactions' bytes: what is written is read as it was, whatever follows. -/
import Derived.Test.YtpolplmniaoikaaDoorFw
import Derived.Test.YtpolplmniaoikaaDoorN40
namespace Go.Proofs.YtpolplmniaoikaaDoor

theorem failS_ok {S : Rs} : failS S 0 = S := by unfold failS; rw [if_neg (fun h => h.2 rfl)]
theorem readT_back {t : Tm} (h : chkT t = true) (pre more : List UInt8) : readT (stR pre (writeT t ++ more)) = (t, stR (pre ++ writeT t) more) := by
  have hc := h
  simp [chkT] at hc
  unfold writeT
  rw [if_pos h]
  unfold readT
  rw [List.append_assoc, readI_back hc.1]
  dsimp only
  rw [intS_back (by omega) (by decide)]
  dsimp only
  rw [if_neg (by simp [stR]), List.append_assoc, show ((t.2.toNat : Nat) : Int) = t.2 from by omega]
theorem textS_back {e : List UInt8} {m : Nat} (he : e.length ≤ m) (hm : m < 18446744073709551616) (pre more : List UInt8) : textS m (stR pre (textB e ++ more)) = (e, stR (pre ++ textB e) more) := by
  unfold textB textS
  rw [List.append_assoc, intS_back he hm]
  dsimp only
  rw [if_neg (by simp [stR])]
  have h1 : (stR (pre ++ numB e.length) (e ++ more)).l.drop (stR (pre ++ numB e.length) (e ++ more)).a = e ++ more := stR_drop _ _
  have h2 := stR_move (pre ++ numB e.length) e more
  rw [if_neg (by simp [stR]; omega), h1, h2]
  simp
theorem numS_back {v : Nat} (hv : v < 18446744073709551616) (pre more : List UInt8) : numS (stR pre (numB v ++ more)) = (v, stR (pre ++ numB v) more) := nextS_back hv rfl pre more
theorem readZ_back {v : Int} (h1 : -9223372036854775808 ≤ v) (h2 : v ≤ 9223372036854775807) (pre more : List UInt8) : readZ (stR pre (writeZ v ++ more)) = (v, stR (pre ++ writeZ v) more) := by
  unfold writeZ readZ
  rw [numS_back (zig_lt h1 h2)]
  dsimp only
  have hz : (if zig v % 2 = 1 then -((zig v / 2 : Nat) : Int) - 1 else ((zig v / 2 : Nat) : Int)) = v := by
    unfold zig
    split <;> split <;> omega
  rw [hz]
theorem readSt_back {s : Sm} (h : chkS s = true) (hw : s.wf) (pre more : List UInt8) : readSt' (stR pre (writeS s ++ more)) = (s, stR (pre ++ writeS s) more) := by
  have hc := h
  simp [chkS] at hc
  have h0 : 0 ≤ s.1 := hw.1
  unfold writeS
  rw [if_pos h]
  unfold readSt'
  rw [List.append_assoc, intS_back (by omega) (by decide)]
  dsimp only
  rw [intS_back (by omega) (by decide)]
  dsimp only
  rw [if_neg (by simp [stR]), List.append_assoc, show ((s.1.toNat : Nat) : Int) = s.1 from by omega, show ((s.2.toNat : Nat) : Int) = s.2 from by omega]
theorem readTs_back : ∀ (ts : List Tm), (∀ t ∈ ts, chkT t = true) → ∀ (pre more : List UInt8), readN readT ts.length (stR pre ((ts.map writeT).flatten ++ more)) = (ts, stR (pre ++ (ts.map writeT).flatten) more)
  | [], _, pre, more => by simp [readN]
  | t :: ts, h, pre, more => by
    have h1 := readT_back (h t (by simp)) pre ((ts.map writeT).flatten ++ more)
    have h2 := readTs_back ts (fun u hu => h u (by simp [hu])) (pre ++ writeT t) more
    have e : ((t :: ts).map writeT).flatten = writeT t ++ (ts.map writeT).flatten := by simp
    rw [e, List.append_assoc, List.length_cons, readN_more rfl h1, h2, List.append_assoc]
theorem errE_parts {e : Ef} (h : errE e = 0) : chkT e.tag = true ∧ (∀ t ∈ e.tags, chkT t = true) ∧ (fAt e.act = true → chkS e.st = true) ∧ (fAt e.act = false → e.st = (0, 0)) ∧ (fTg e.act = false → e.tags = []) := by
  unfold errE at h
  have h1 : errOp e.act e.name e.val = 0 := Classical.byContradiction fun hn => by rw [if_pos hn] at h; exact hn h
  rw [if_neg (by simp [h1])] at h
  split at h
  · cases h
  rename_i h2
  split at h
  · cases h
  split at h
  · cases h
  rename_i h4
  simp only [Bool.or_eq_true, Bool.not_eq_true', List.any_eq_true, not_or, Bool.not_eq_false, not_exists, not_and] at h2
  simp only [fieldE, Bool.or_eq_true, Bool.and_eq_true, Bool.not_eq_true', Bool.and_eq_false_iff, decide_eq_true_eq, decide_eq_false_iff_not, not_or, not_and] at h4
  obtain ⟨⟨h5, h6⟩, h7⟩ := h4
  refine ⟨h2.1, h2.2, fun ha => ?_, fun ha => ?_, fun ha => ?_⟩
  · have h8 := h5 ha
    have h9 : chkS e.st = true ∧ 0 < e.st.1 := by simpa using h8
    exact h9.1
  · have h8 := h6 ha
    have h9 : e.st.1 = 0 ∧ e.st.2 = 0 := by
      by_cases a0 : e.st.1 = 0
      · by_cases b0 : e.st.2 = 0
        · exact ⟨a0, b0⟩
        · simp [b0] at h8
      · simp [a0] at h8
    exact Prod.ext h9.1 h9.2
  · have h8 := h7 ha
    exact List.eq_nil_of_length_eq_zero (by omega)
theorem rawE_back {e : Ef} (h : errE e = 0) (hw : e.wf) (pre more : List UInt8) : rawE (stR pre (writeE e ++ more)) = (e, stR (pre ++ writeE e) more) := by
  obtain ⟨h1, h2, h3, h4⟩ := errE_zero h
  obtain ⟨g1, g2, g3, g4, g5⟩ := errE_parts h
  have hact : ((e.act.toNat : Nat) : Int) = e.act := by omega
  have hd : ∀ m2, rawE (stR pre (headE e ++ m2)) = (let S := stR (pre ++ headE e) m2
      let s := if fAt e.act = true then readSt' S else ((0, 0), S)
      let q := if fTg e.act = true then readN readT (intS 4096 s.2).1 (intS 4096 s.2).2 else ([], s.2)
      (⟨e.act, e.name, e.val, e.tag, s.1, q.1⟩, q.2)) := by
    intro m2
    unfold rawE headE
    rw [List.append_assoc, List.append_assoc, List.append_assoc, intS_back (by omega) (by decide)]
    dsimp only
    rw [textS_back h3 (by decide)]
    dsimp only
    rw [readZ_back hw.2.2.1.1 hw.2.2.1.2]
    dsimp only
    rw [readT_back g1]
    dsimp only
    rw [hact]
    simp only [List.append_assoc]
  unfold writeE
  rw [if_neg (by simp [h])]
  by_cases ha : fAt e.act = true
  · rw [if_pos ha, List.append_assoc, hd]
    dsimp only
    rw [if_pos ha, readSt_back (g3 ha) hw.2.1, fAt_fTg ha]
    dsimp only
    rw [if_neg (by decide), List.append_assoc]
    have h5 := g5 (fAt_fTg ha)
    obtain ⟨a, b, c, d, s, t⟩ := e
    dsimp only at h5 ⊢
    rw [h5]
  · rw [if_neg ha]
    have hst := g4 (by simpa using ha)
    by_cases hb : fTg e.act = true
    · rw [if_pos hb]
      unfold partG
      rw [List.take_of_length_le (Nat.le_refl _), List.append_assoc, List.append_assoc, hd]
      dsimp only
      rw [if_neg ha]
      dsimp only
      rw [if_pos hb, intS_back h4 (by decide)]
      dsimp only
      rw [readTs_back _ g2]
      dsimp only
      obtain ⟨a, b, c, d, s, t⟩ := e
      dsimp only at hst ⊢
      rw [hst]
      simp only [List.append_assoc]
    · rw [if_neg hb, hd]
      dsimp only
      rw [if_neg ha, if_neg hb]
      have h5 := g5 (by simpa using hb)
      obtain ⟨a, b, c, d, s, t⟩ := e
      dsimp only at h5 hst ⊢
      rw [h5, hst]
theorem readE_back {e : Ef} (h : errE e = 0) (hw : e.wf) (pre more : List UInt8) : readE (stR pre (writeE e ++ more)) = (e, stR (pre ++ writeE e) more) := by
  unfold readE
  rw [rawE_back h hw]
  dsimp only
  rw [h, failS_ok, if_neg (by simp [stR])]
theorem keyE_len {s : List UInt8} (h : keyE s = 0) : s.length ≤ 24 := by
  unfold keyE at h
  split at h
  · cases h
  · omega
theorem readQs_back : ∀ (n : Nat) (ps : List Pv), ps.length = n → (∀ p ∈ ps, keyE p.1 = 0 ∧ errE p.2 = 0 ∧ p.2.wf) → ∀ (pre more : List UInt8),
    readQs n (stR pre ((ps.map fun p => textB p.1 ++ writeE p.2).flatten ++ more)) = (ps, stR (pre ++ (ps.map fun p => textB p.1 ++ writeE p.2).flatten) more)
  | 0, ps, hl, _, pre, more => by
    obtain rfl := List.eq_nil_of_length_eq_zero hl
    simp [readQs]
  | n + 1, ps, hl, hc, pre, more => by
    obtain ⟨ys, y, rfl⟩ : ∃ ys y, ps = ys ++ [y] := ⟨ps.dropLast, ps.getLast (by rintro rfl; simp at hl), (List.dropLast_concat_getLast _).symm⟩
    have h1 := readQs_back n ys (by simpa using hl) (fun x hx => hc x (by simp [hx])) pre ((textB y.1 ++ writeE y.2) ++ more)
    have e : ((ys ++ [y]).map fun p => textB p.1 ++ writeE p.2).flatten = (ys.map fun p => textB p.1 ++ writeE p.2).flatten ++ (textB y.1 ++ writeE y.2) := by simp
    obtain ⟨k1, k2, k3⟩ := hc y (by simp)
    rw [e, List.append_assoc]
    unfold readQs
    rw [h1]
    dsimp only
    unfold readQ
    rw [List.append_assoc, textS_back (keyE_len k1) (by decide)]
    dsimp only
    rw [readE_back k2 k3]
    simp only [List.append_assoc]
theorem txErr_head {x : Im} {v : Vm} {ps : List Pv} (h : txErr x v ps = 0) : chk x = true ∧ vchk v = true ∧ partsErr x (-1) ps = 0 := by
  unfold txErr at h
  split at h
  · cases h
  rename_i h1
  split at h
  · cases h
  split at h
  · cases h
  simp only [Bool.not_eq_false, Bool.and_eq_true] at h1
  exact ⟨h1.1, h1.2, h⟩
/-- A transaction's bytes are read as it, whatever stands ahead and follows. -/
theorem readX_back {x : Im} {v : Vm} {t : Bool} {ps : List Pv} (h : txErr x v ps = 0) (hv : v.wf) (hp : ∀ p ∈ ps, p.2.wf) (pre more : List UInt8) :
    readX (stR pre (writeX x v t ps ++ more)) = ((x, v, t, ps), stR (pre ++ writeX x v t ps) more) := by
  obtain ⟨h1, h2, _⟩ := txErr_head h
  obtain ⟨h3, h4⟩ := txErr_zero h
  have hr : rawX (stR pre (writeX x v t ps ++ more)) = ((x, v, t, ps), stR (pre ++ writeX x v t ps) more) := by
    unfold writeX rawX partX headX
    rw [if_neg (by simp [h]), List.take_of_length_le (Nat.le_refl _), List.append_assoc, List.append_assoc, List.append_assoc, List.append_assoc, readI_back h1]
    dsimp only
    rw [readV_back h2 hv]
    dsimp only
    rw [intS_back (by split <;> omega) (by decide)]
    dsimp only
    rw [intS_back h3 (by decide)]
    dsimp only
    rw [readQs_back _ ps rfl (fun p hm => ⟨(h4 p hm).1, (h4 p hm).2, hp p hm⟩)]
    dsimp only
    have ht : decide ((if t = true then 1 else 0) = 1) = t := by cases t <;> rfl
    rw [ht]
    simp only [List.append_assoc]
  unfold readX
  rw [hr]
  dsimp only
  rw [h, failS_ok, if_neg (by simp [stR])]
/-- The numbers of a right transaction's parts rise. -/
theorem partsErr_rise {x : Im} : ∀ {ps : List Pv} {l : Int}, partsErr x l ps = 0 → (∀ p ∈ ps, l < p.2.tag.2) ∧ ps.Pairwise (fun p q => p.2.tag.2 < q.2.tag.2)
  | [], _, _ => ⟨(fun p hp => nomatch hp), List.Pairwise.nil⟩
  | q :: r, l, h => by
    rw [partsErr] at h
    have h0 : partErr x l q = 0 := Classical.byContradiction fun hn => by rw [if_pos hn] at h; exact hn h
    rw [if_neg (by simp [h0])] at h
    obtain ⟨h1, h2⟩ := partsErr_rise h
    have h3 : l < q.2.tag.2 := by
      unfold partErr at h0
      split at h0
      · rename_i hh; exact absurd h0 hh
      split at h0
      · rename_i hh; exact absurd h0 hh
      split at h0
      · cases h0
      split at h0
      · cases h0
      rename_i h5
      simp only [Bool.or_eq_true, decide_eq_true_eq, not_or] at h5
      omega
    refine ⟨fun p hp => ?_, List.pairwise_cons.2 ⟨h1, h2⟩⟩
    rcases List.mem_cons.1 hp with rfl | hp
    · exact h3
    · exact Int.lt_trans h3 (h1 p hp)
/-- Some of a right transaction's parts are right too. -/
theorem partsErr_filter {x : Im} (t : Pv → Bool) : ∀ {ps : List Pv} {l : Int}, partsErr x l ps = 0 → ∀ {k : Int}, k ≤ l → partsErr x k (ps.filter t) = 0
  | [], _, _, _, _ => rfl
  | q :: r, l, h, k, hk => by
    have h' := h
    rw [partsErr] at h
    have h0 : partErr x l q = 0 := Classical.byContradiction fun hn => by rw [if_pos hn] at h; exact hn h
    rw [if_neg (by simp [h0])] at h
    have h3 := (partsErr_rise h').1 q (by simp)
    have hq : partErr x k q = 0 := by
      unfold partErr at h0 ⊢
      split at h0
      · rename_i hh; exact absurd h0 hh
      rename_i e1
      split at h0
      · rename_i hh; exact absurd h0 hh
      rename_i e2
      split at h0
      · cases h0
      rename_i e3
      split at h0
      · cases h0
      rename_i e4
      have a1 : decide (q.2.tag.2 ≤ l) = false := decide_eq_false (by omega)
      have a2 : decide (q.2.tag.2 ≤ k) = false := decide_eq_false (by omega)
      rw [a1] at e4
      rw [if_neg e1, if_neg e2, if_neg e3, a2, if_neg e4]
    rw [List.filter_cons]
    split
    · rw [partsErr, if_neg (by simp [hq])]
      exact partsErr_filter t h (Int.le_refl _)
    · exact partsErr_filter t h (by omega)
theorem txErr_filter {x : Im} {v : Vm} {ps : List Pv} (t : Pv → Bool) (h : txErr x v ps = 0) : txErr x v (ps.filter t) = 0 := by
  have h1 := (txErr_head h).2.2
  unfold txErr at h ⊢
  split at h
  · cases h
  rename_i e1
  split at h
  · cases h
  rename_i e2
  split at h
  · cases h
  rename_i e3
  have := List.length_filter_le t ps
  rw [if_neg e1, if_neg e2, if_neg (by omega)]
  exact partsErr_filter t h1 (Int.le_refl _)
end Go.Proofs.YtpolplmniaoikaaDoor
