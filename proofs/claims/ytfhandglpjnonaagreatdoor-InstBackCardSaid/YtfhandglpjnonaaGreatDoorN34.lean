/- The plain law of readers: what is written is read as it was, whatever follows. Plain laws: a vector read behind what was written. The plain law of effects' and transactions' bytes: what is written is read as it was, whatever follows. -/
import Derived.Test.YtfhandglpjnonaaGreatDoorM17
import Derived.Test.YtfhandglpjnonaaGreatDoorN03
import Derived.Test.YtfhandglpjnonaaGreatDoorVrC
import Derived.Test.YtfhandglpjnonaaGreatDoorN29
namespace Go.Proofs.YtfhandglpjnonaaGreatDoor
def stR (pre post : List UInt8) : Rs := ⟨pre ++ post, pre.length, 0, 0⟩
theorem stR_drop (pre post : List UInt8) : (stR pre post).l.drop (stR pre post).a = post := by simp [stR]
theorem stR_move (pre b post : List UInt8) : ({ stR pre (b ++ post) with a := (stR pre (b ++ post)).a + b.length } : Rs) = stR (pre ++ b) post := by simp [stR]
theorem beD_head {v : Nat} (h : v ≠ 0) : ∃ c r, beD v = c :: r ∧ c ≠ 0 := by
 induction v using Nat.strongRecOn with
 | _ v ih =>
  rw [beD_pos h]
  by_cases h1 : v / 256 = 0
  ·
   rw [h1, beD_zero]
   refine ⟨_, [], rfl, ?_⟩
   intro h2
   have h3 := congrArg UInt8.toNat h2
   simp at h3
   omega
  ·
   obtain ⟨c, r, hc, hn⟩ := ih (v / 256) (by omega) h1
   rw [hc]
   exact ⟨c, r ++ [UInt8.ofNat (v % 256)], rfl, hn⟩
theorem numR_numB {v : Nat} (hv : v < 18446744073709551616) (more : List UInt8) : numR (numB v ++ more) = (v, (numB v).length, 0) := by
 have hl : (beD v).length ≤ 8 := beD_len 8 v (by simpa using hv)
 unfold numB
 rw [List.cons_append]
 unfold numR
 have hk : (UInt8.ofNat (beD v).length).toNat = (beD v).length := by simp; omega
 simp only [hk]
 rw [if_neg (by omega), if_neg (by rw [List.length_append]; omega), if_neg]
 ·
  rw [List.take_append_of_le_length (Nat.le_refl _), List.take_of_length_le (Nat.le_refl _), beV_beD, List.length_cons, Nat.add_comm]
 ·
  rintro ⟨h1, h2⟩
  have hv0 : v ≠ 0 := by rintro rfl; rw [beD_zero] at h1; simp at h1
  obtain ⟨c, r, hc, hn⟩ := beD_head hv0
  rw [hc] at h2
  simp at h2
  exact hn h2
theorem nextS_back {v : Nat} (hv : v < 18446744073709551616) {right : Nat → Int} (hr : right v = 0) (pre more : List UInt8) : nextS right (stR pre (numB v ++ more)) = (v, stR (pre ++ numB v) more) := by
 rw [nextS_eq (S := stR pre (numB v ++ more)) rfl (by rw [stR_drop, numR_numB hv]), if_pos rfl, if_neg (by simp [hr]), stR_move]
theorem intS_back {v m : Nat} (hv : v ≤ m) (hm : m < 18446744073709551616) (pre more : List UInt8) : intS m (stR pre (numB v ++ more)) = (v, stR (pre ++ numB v) more) := by
 unfold intS
 exact nextS_back (by omega) (if_neg (by omega)) pre more
theorem readI_back {x : Im} (h : chk x = true) (pre more : List UInt8) : readI (stR pre (writeI x ++ more)) = (x, stR (pre ++ writeI x) more) := by
 have hc := h
 simp [chk] at hc
 unfold writeI
 rw [if_pos h]
 unfold readI
 rw [List.append_assoc, intS_back (by omega) (by decide)]
 dsimp only
 rw [intS_back (by omega) (by decide)]
 dsimp only
 rw [if_neg (by omega), List.append_assoc, show ((x.1.toNat : Nat) : Int) = x.1 from by omega, show ((x.2.toNat : Nat) : Int) = x.2 from by omega]
end Go.Proofs.YtfhandglpjnonaaGreatDoor
namespace Go.Proofs.YtfhandglpjnonaaGreatDoor
theorem vecx {a b : Vm} (h : ∀ o : Int, 0 ≤ o → o < 8 → a.get o = b.get o) : a = b := by
 obtain ⟨a0, a1, a2, a3, a4, a5, a6, a7⟩ := a
 obtain ⟨b0, b1, b2, b3, b4, b5, b6, b7⟩ := b
 have h0 := h 0 (by decide) (by decide)
 have h1 := h 1 (by decide) (by decide)
 have h2 := h 2 (by decide) (by decide)
 have h3 := h 3 (by decide) (by decide)
 have h4 := h 4 (by decide) (by decide)
 have h5 := h 5 (by decide) (by decide)
 have h6 := h 6 (by decide) (by decide)
 have h7 := h 7 (by decide) (by decide)
 simp [Vm.get] at h0 h1 h2 h3 h4 h5 h6 h7
 simp [h0, h1, h2, h3, h4, h5, h6, h7]
theorem getnn {v : Vm} (h : v.wf) (o : Int) : 0 ≤ v.get o := by
 unfold Vm.wf at h
 unfold Vm.get
 (repeat' split) <;> omega
def preV (v : Vm) : Nat → Vm
 | 0 => zV
 | k + 1 => (preV v k).set (k : Int) (v.get (k : Int))
theorem preV_get (v : Vm) : ∀ (k : Nat), k ≤ 8 → ∀ o : Int, 0 ≤ o → o < 8 → (preV v k).get o = if o < k then v.get o else 0
 | 0, _, o, h0, h1 => by
  rw [if_neg (by omega)]
  obtain rfl | rfl | rfl | rfl | rfl | rfl | rfl | rfl : o = 0 ∨ o = 1 ∨ o = 2 ∨ o = 3 ∨ o = 4 ∨ o = 5 ∨ o = 6 ∨ o = 7 := by omega
  all_goals rfl
 | k + 1, hk, o, h0, h1 => by
  show ((preV v k).set (k : Int) (v.get (k : Int))).get o = _
  rw [get_set (by omega) (by omega) h0 h1, preV_get v k (by omega) o h0 h1]
  by_cases h : (k : Int) = o
  ·
   rw [if_pos h, if_pos (by omega), h]
  ·
   rw [if_neg h]
   by_cases h2 : o < k
   ·
    rw [if_pos h2, if_pos (by omega)]
   ·
    rw [if_neg h2, if_neg (by omega)]
theorem longV_zero {v : Vm} {o : Int} (h0 : 0 ≤ o) (h8 : o < 8) (h : (longV v : Int) ≤ o) : v.get o = 0 := by
 obtain rfl | rfl | rfl | rfl | rfl | rfl | rfl | rfl : o = 0 ∨ o = 1 ∨ o = 2 ∨ o = 3 ∨ o = 4 ∨ o = 5 ∨ o = 6 ∨ o = 7 := by omega
 ·
  show v.d0 = 0
  revert h
  unfold longV
  (repeat' split) <;> intro h <;> omega
 ·
  show v.d1 = 0
  revert h
  unfold longV
  (repeat' split) <;> intro h <;> omega
 ·
  show v.d2 = 0
  revert h
  unfold longV
  (repeat' split) <;> intro h <;> omega
 ·
  show v.d3 = 0
  revert h
  unfold longV
  (repeat' split) <;> intro h <;> omega
 ·
  show v.d4 = 0
  revert h
  unfold longV
  (repeat' split) <;> intro h <;> omega
 ·
  show v.d5 = 0
  revert h
  unfold longV
  (repeat' split) <;> intro h <;> omega
 ·
  show v.d6 = 0
  revert h
  unfold longV
  (repeat' split) <;> intro h <;> omega
 ·
  show v.d7 = 0
  revert h
  unfold longV
  (repeat' split) <;> intro h <;> omega
theorem longV_last {v : Vm} (h : 0 < longV v) : v.get ((longV v : Int) - 1) ≠ 0 := by
 by_cases h7 : v.d7 ≠ 0
 ·
  have e : longV v = 8 := by unfold longV; rw [if_pos h7]
  rw [e]; exact h7
 by_cases h6 : v.d6 ≠ 0
 ·
  have e : longV v = 7 := by unfold longV; rw [if_neg h7, if_pos h6]
  rw [e]; exact h6
 by_cases h5 : v.d5 ≠ 0
 ·
  have e : longV v = 6 := by unfold longV; rw [if_neg h7, if_neg h6, if_pos h5]
  rw [e]; exact h5
 by_cases h4 : v.d4 ≠ 0
 ·
  have e : longV v = 5 := by unfold longV; rw [if_neg h7, if_neg h6, if_neg h5, if_pos h4]
  rw [e]; exact h4
 by_cases h3 : v.d3 ≠ 0
 ·
  have e : longV v = 4 := by unfold longV; rw [if_neg h7, if_neg h6, if_neg h5, if_neg h4, if_pos h3]
  rw [e]; exact h3
 by_cases h2 : v.d2 ≠ 0
 ·
  have e : longV v = 3 := by unfold longV; rw [if_neg h7, if_neg h6, if_neg h5, if_neg h4, if_neg h3, if_pos h2]
  rw [e]; exact h2
 by_cases h1 : v.d1 ≠ 0
 ·
  have e : longV v = 2 := by unfold longV; rw [if_neg h7, if_neg h6, if_neg h5, if_neg h4, if_neg h3, if_neg h2, if_pos h1]
  rw [e]; exact h1
 by_cases h0 : v.d0 ≠ 0
 ·
  have e : longV v = 1 := by unfold longV; rw [if_neg h7, if_neg h6, if_neg h5, if_neg h4, if_neg h3, if_neg h2, if_neg h1, if_pos h0]
  rw [e]; exact h0
 exfalso
 have e : longV v = 0 := by unfold longV; rw [if_neg h7, if_neg h6, if_neg h5, if_neg h4, if_neg h3, if_neg h2, if_neg h1, if_neg h0]
 omega
theorem preV_long (v : Vm) : preV v (longV v) = v := vecx fun o h0 h8 => by
 rw [preV_get v _ (longV_le v) o h0 h8]
 by_cases h : o < longV v
 ·
  rw [if_pos h]
 ·
  rw [if_neg h, longV_zero h0 h8 (by omega)]
theorem readVs_back {v : Vm} (hv : vchk v = true) (hw : v.wf) : ∀ (k : Nat), k ≤ 8 → ∀ (pre more : List UInt8),
 jL k (stR pre (((List.range k).map fun (i : Nat) => numB (v.get (i : Int)).toNat).flatten ++ more)) = (preV v k, stR (pre ++ ((List.range k).map fun (i : Nat) => numB (v.get (i : Int)).toNat).flatten) more)
 | 0, _, pre, more => by simp [jL, preV]
 | k + 1, hk, pre, more => by
  have e : ((List.range (k + 1)).map fun (i : Nat) => numB (v.get (i : Int)).toNat).flatten = ((List.range k).map fun (i : Nat) => numB (v.get (i : Int)).toNat).flatten ++ numB (v.get (k : Int)).toNat := by
   rw [List.range_succ]; simp
  have h1 := getnn hw (k : Int)
  have h2 := vchk_get hv (k : Int)
  rw [e, List.append_assoc]
  unfold jL
  rw [readVs_back hv hw k (by omega) pre (numB (v.get (k : Int)).toNat ++ more)]
  dsimp only
  rw [intS_back (m := 1048576) (by omega) (by decide)]
  dsimp only
  rw [show (((v.get (k : Int)).toNat : Nat) : Int) = v.get (k : Int) by omega, List.append_assoc]
  rfl
theorem readV_back {v : Vm} (hv : vchk v = true) (hw : v.wf) (pre more : List UInt8) : readV (stR pre (writeV v ++ more)) = (v, stR (pre ++ writeV v) more) := by
 have hL := longV_le v
 unfold writeV partV
 unfold readV
 rw [List.append_assoc, intS_back (m := 8) hL (by decide)]
 dsimp only
 rw [readVs_back hv hw _ hL]
 dsimp only
 have hc : ¬ (0 < longV v ∧ v.get ((longV v : Int) - 1) = 0) := fun h => longV_last h.1 h.2
 rw [preV_long]
 simp only [if_neg hc]
 rw [if_neg (by simp [stR]), List.append_assoc]
end Go.Proofs.YtfhandglpjnonaaGreatDoor
namespace Go.Proofs.YtfhandglpjnonaaGreatDoor
theorem failS_ok {S : Rs} : failS S 0 = S := by unfold failS; rw [if_neg (fun h => h.2 rfl)]
theorem readT_back {t : Tm} (h : chkT t = true) (pre more : List UInt8) : readT (stR pre (writeT t ++ more)) = (t, stR (pre ++ writeT t) more) := by
 have hc := h
 simp [chkT] at hc
 unfold writeT
 rw [if_pos h]
 unfold readT
 rw [List.append_assoc, readI_back hc.1]
 dsimp only
 rw [intS_back (by omega) (by decide)]
 dsimp only
 rw [if_neg (by simp [stR]), List.append_assoc, show ((t.2.toNat : Nat) : Int) = t.2 from by omega]
theorem textS_back {e : List UInt8} {m : Nat} (he : e.length ≤ m) (hm : m < 18446744073709551616) (pre more : List UInt8) : textS m (stR pre (textB e ++ more)) = (e, stR (pre ++ textB e) more) := by
 unfold textB textS
 rw [List.append_assoc, intS_back he hm]
 dsimp only
 rw [if_neg (by simp [stR])]
 have h1 : (stR (pre ++ numB e.length) (e ++ more)).l.drop (stR (pre ++ numB e.length) (e ++ more)).a = e ++ more := stR_drop _ _
 have h2 := stR_move (pre ++ numB e.length) e more
 rw [if_neg (by simp [stR]; omega), h1, h2]
 simp
theorem numS_back {v : Nat} (hv : v < 18446744073709551616) (pre more : List UInt8) : numS (stR pre (numB v ++ more)) = (v, stR (pre ++ numB v) more) := nextS_back hv rfl pre more
theorem readZ_back {v : Int} (h1 : -9223372036854775808 ≤ v) (h2 : v ≤ 9223372036854775807) (pre more : List UInt8) : readZ (stR pre (writeZ v ++ more)) = (v, stR (pre ++ writeZ v) more) := by
 unfold writeZ readZ
 rw [numS_back (zig_lt h1 h2)]
 dsimp only
 have hz : (if zig v % 2 = 1 then -((zig v / 2 : Nat) : Int) - 1 else ((zig v / 2 : Nat) : Int)) = v := by
  unfold zig
  split <;> split <;> omega
 rw [hz]
theorem readSt_back {s : Sm} (h : chkS s = true) (hw : s.wf) (pre more : List UInt8) : readSt' (stR pre (writeS s ++ more)) = (s, stR (pre ++ writeS s) more) := by
 have hc := h
 simp [chkS] at hc
 have h0 : 0 ≤ s.1 := hw.1
 unfold writeS
 rw [if_pos h]
 unfold readSt'
 rw [List.append_assoc, intS_back (by omega) (by decide)]
 dsimp only
 rw [intS_back (by omega) (by decide)]
 dsimp only
 rw [if_neg (by simp [stR]), List.append_assoc, show ((s.1.toNat : Nat) : Int) = s.1 from by omega, show ((s.2.toNat : Nat) : Int) = s.2 from by omega]
theorem readTs_back : ∀ (ts : List Tm), (∀ t ∈ ts, chkT t = true) → ∀ (pre more : List UInt8), readN readT ts.length (stR pre ((ts.map writeT).flatten ++ more)) = (ts, stR (pre ++ (ts.map writeT).flatten) more)
 | [], _, pre, more => by simp [readN]
 | t :: ts, h, pre, more => by
  have h1 := readT_back (h t (by simp)) pre ((ts.map writeT).flatten ++ more)
  have h2 := readTs_back ts (fun u hu => h u (by simp [hu])) (pre ++ writeT t) more
  have e : ((t :: ts).map writeT).flatten = writeT t ++ (ts.map writeT).flatten := by simp
  rw [e, List.append_assoc, List.length_cons, readN_more rfl h1, h2, List.append_assoc]
theorem errE_parts {e : Ef} (h : errE e = 0) : chkT e.tag = true ∧ (∀ t ∈ e.tags, chkT t = true) ∧ (fAt e.act = true → chkS e.st = true) ∧ (fAt e.act = false → e.st = (0, 0)) ∧ (fTg e.act = false → e.tags = []) := by
 unfold errE at h
 have h1 : errOp e.act e.name e.val = 0 := Classical.byContradiction fun hn => by rw [if_pos hn] at h; exact hn h
 rw [if_neg (by simp [h1])] at h
 split at h
 ·
  cases h
 rename_i h2
 split at h
 ·
  cases h
 split at h
 ·
  cases h
 rename_i h4
 simp only [Bool.or_eq_true, Bool.not_eq_true', List.any_eq_true, not_or, Bool.not_eq_false, not_exists, not_and] at h2
 simp only [fieldE, Bool.or_eq_true, Bool.and_eq_true, Bool.not_eq_true', Bool.and_eq_false_iff, decide_eq_true_eq, decide_eq_false_iff_not, not_or, not_and] at h4
 obtain ⟨⟨h5, h6⟩, h7⟩ := h4
 refine ⟨h2.1, h2.2, fun ha => ?_, fun ha => ?_, fun ha => ?_⟩
 ·
  have h8 := h5 ha
  have h9 : chkS e.st = true ∧ 0 < e.st.1 := by simpa using h8
  exact h9.1
 ·
  have h8 := h6 ha
  have h9 : e.st.1 = 0 ∧ e.st.2 = 0 := by
   by_cases a0 : e.st.1 = 0
   ·
    by_cases b0 : e.st.2 = 0
    ·
     exact ⟨a0, b0⟩
    ·
     simp [b0] at h8
   ·
    simp [a0] at h8
  exact Prod.ext h9.1 h9.2
 ·
  have h8 := h7 ha
  exact List.eq_nil_of_length_eq_zero (by omega)
theorem rawE_back {e : Ef} (h : errE e = 0) (hw : e.wf) (pre more : List UInt8) : rawE (stR pre (writeE e ++ more)) = (e, stR (pre ++ writeE e) more) := by
 obtain ⟨h1, h2, h3, h4⟩ := errE_zero h
 obtain ⟨g1, g2, g3, g4, g5⟩ := errE_parts h
 have hact : ((e.act.toNat : Nat) : Int) = e.act := by omega
 have hd : ∀ m2, rawE (stR pre (headE e ++ m2)) = (let S := stR (pre ++ headE e) m2
  let s := if fAt e.act = true then readSt' S else ((0, 0), S)
  let q := if fTg e.act = true then readN readT (intS 4096 s.2).1 (intS 4096 s.2).2 else ([], s.2)
  (⟨e.act, e.name, e.val, e.tag, s.1, q.1⟩, q.2)) := by
  intro m2
  unfold rawE headE
  rw [List.append_assoc, List.append_assoc, List.append_assoc, intS_back (by omega) (by decide)]
  dsimp only
  rw [textS_back h3 (by decide)]
  dsimp only
  rw [readZ_back hw.2.2.1.1 hw.2.2.1.2]
  dsimp only
  rw [readT_back g1]
  dsimp only
  rw [hact]
  simp only [List.append_assoc]
 unfold writeE
 rw [if_neg (by simp [h])]
 by_cases ha : fAt e.act = true
 ·
  rw [if_pos ha, List.append_assoc, hd]
  dsimp only
  rw [if_pos ha, readSt_back (g3 ha) hw.2.1, fAt_fTg ha]
  dsimp only
  rw [if_neg (by decide), List.append_assoc]
  have h5 := g5 (fAt_fTg ha)
  obtain ⟨a, b, c, d, s, t⟩ := e
  dsimp only at h5 ⊢
  rw [h5]
 ·
  rw [if_neg ha]
  have hst := g4 (by simpa using ha)
  by_cases hb : fTg e.act = true
  ·
   rw [if_pos hb]
   unfold partG
   rw [List.take_of_length_le (Nat.le_refl _), List.append_assoc, List.append_assoc, hd]
   dsimp only
   rw [if_neg ha]
   dsimp only
   rw [if_pos hb, intS_back h4 (by decide)]
   dsimp only
   rw [readTs_back _ g2]
   dsimp only
   obtain ⟨a, b, c, d, s, t⟩ := e
   dsimp only at hst ⊢
   rw [hst]
   simp only [List.append_assoc]
  ·
   rw [if_neg hb, hd]
   dsimp only
   rw [if_neg ha, if_neg hb]
   have h5 := g5 (by simpa using hb)
   obtain ⟨a, b, c, d, s, t⟩ := e
   dsimp only at h5 hst ⊢
   rw [h5, hst]
theorem readE_back {e : Ef} (h : errE e = 0) (hw : e.wf) (pre more : List UInt8) : readE (stR pre (writeE e ++ more)) = (e, stR (pre ++ writeE e) more) := by
 unfold readE
 rw [rawE_back h hw]
 dsimp only
 rw [h, failS_ok, if_neg (by simp [stR])]
theorem keyE_len {s : List UInt8} (h : keyE s = 0) : s.length ≤ 24 := by
 unfold keyE at h
 split at h
 ·
  cases h
 ·
  omega
theorem readQs_back : ∀ (n : Nat) (ps : List Pv), ps.length = n → (∀ p ∈ ps, keyE p.1 = 0 ∧ errE p.2 = 0 ∧ p.2.wf) → ∀ (pre more : List UInt8),
 readQs n (stR pre ((ps.map fun p => textB p.1 ++ writeE p.2).flatten ++ more)) = (ps, stR (pre ++ (ps.map fun p => textB p.1 ++ writeE p.2).flatten) more)
 | 0, ps, hl, _, pre, more => by
  obtain rfl := List.eq_nil_of_length_eq_zero hl
  simp [readQs]
 | n + 1, ps, hl, hc, pre, more => by
  obtain ⟨ys, y, rfl⟩ : ∃ ys y, ps = ys ++ [y] := ⟨ps.dropLast, ps.getLast (by rintro rfl; simp at hl), (List.dropLast_concat_getLast _).symm⟩
  have h1 := readQs_back n ys (by simpa using hl) (fun x hx => hc x (by simp [hx])) pre ((textB y.1 ++ writeE y.2) ++ more)
  have e : ((ys ++ [y]).map fun p => textB p.1 ++ writeE p.2).flatten = (ys.map fun p => textB p.1 ++ writeE p.2).flatten ++ (textB y.1 ++ writeE y.2) := by simp
  obtain ⟨k1, k2, k3⟩ := hc y (by simp)
  rw [e, List.append_assoc]
  unfold readQs
  rw [h1]
  dsimp only
  unfold readQ
  rw [List.append_assoc, textS_back (keyE_len k1) (by decide)]
  dsimp only
  rw [readE_back k2 k3]
  simp only [List.append_assoc]
theorem txErr_head {x : Im} {v : Vm} {ps : List Pv} (h : txErr x v ps = 0) : chk x = true ∧ vchk v = true ∧ partsErr x (-1) ps = 0 := by
 unfold txErr at h
 split at h
 ·
  cases h
 rename_i h1
 split at h
 ·
  cases h
 split at h
 ·
  cases h
 simp only [Bool.not_eq_false, Bool.and_eq_true] at h1
 exact ⟨h1.1, h1.2, h⟩
theorem readX_back {x : Im} {v : Vm} {t : Bool} {ps : List Pv} (h : txErr x v ps = 0) (hv : v.wf) (hp : ∀ p ∈ ps, p.2.wf) (pre more : List UInt8) :
 readX (stR pre (writeX x v t ps ++ more)) = ((x, v, t, ps), stR (pre ++ writeX x v t ps) more) := by
 obtain ⟨h1, h2, _⟩ := txErr_head h
 obtain ⟨h3, h4⟩ := txErr_zero h
 have hr : rawX (stR pre (writeX x v t ps ++ more)) = ((x, v, t, ps), stR (pre ++ writeX x v t ps) more) := by
  unfold writeX rawX partX headX
  rw [if_neg (by simp [h]), List.take_of_length_le (Nat.le_refl _), List.append_assoc, List.append_assoc, List.append_assoc, List.append_assoc, readI_back h1]
  dsimp only
  rw [readV_back h2 hv]
  dsimp only
  rw [intS_back (by split <;> omega) (by decide)]
  dsimp only
  rw [intS_back h3 (by decide)]
  dsimp only
  rw [readQs_back _ ps rfl (fun p hm => ⟨(h4 p hm).1, (h4 p hm).2, hp p hm⟩)]
  dsimp only
  have ht : decide ((if t = true then 1 else 0) = 1) = t := by cases t <;> rfl
  rw [ht]
  simp only [List.append_assoc]
 unfold readX
 rw [hr]
 dsimp only
 rw [h, failS_ok, if_neg (by simp [stR])]
end Go.Proofs.YtfhandglpjnonaaGreatDoor
