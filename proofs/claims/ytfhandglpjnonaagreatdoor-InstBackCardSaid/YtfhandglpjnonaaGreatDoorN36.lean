/- The plain law of readers, forward: vectors, effects, transactions, commands, messages. The document's Write of messages. The program's reader: New, At, Left. The document's Read of names: the next name that a reader has. The document's Read of sets: the next set that a reader has. The readers' texts and tags, both. -/
import Derived.Test.YtfhandglpjnonaaGreatDoorN35
import Derived.Test.YtfhandglpjnonaaGreatDoorQw
import Derived.Test.YtfhandglpjnonaaGreatDoorM17
import Derived.BigRegion
import Derived.Test.YtfhandglpjnonaaGreatDoorN29
import Derived.Test.YtfhandglpjnonaaGreatDoorN06
set_option maxRecDepth 100000
set_option maxHeartbeats 16000000
namespace Go.Proofs.YtfhandglpjnonaaGreatDoor
open Go.RowKit
theorem readVs_get : ∀ (n : Nat) (S : Rs), n ≤ 8 → ∀ i : Nat, n ≤ i → i < 8 → (jL n S).1.get (i : Int) = 0
 | 0, S, _, i, _, hi => by
  show zV.get _ = 0
  unfold Vm.get zV
  (repeat' split) <;> rfl
 | n + 1, S, hn, i, h1, h2 => by
  show ((jL n S).1.set (n : Int) _).get (i : Int) = 0
  rw [get_set (by omega) (by omega) (by omega) (by omega), if_neg (by omega)]
  exact readVs_get n S (by omega) i (by omega) h2
theorem readVs_fw : ∀ (n : Nat) (S : Rs), n ≤ 8 → Fw S (jL n S).2 (((List.range n).map fun (i : Nat) => numB ((jL n S).1.get (i : Int)).toNat).flatten)
 | 0, S, _ => Fw.refl S
 | n + 1, S, hn => by
  have h1 := (readVs_fw n S (by omega)).trans (intS_fw 1048576 (jL n S).2)
  have e : ((List.range (n + 1)).map fun (i : Nat) => numB ((jL (n + 1) S).1.get (i : Int)).toNat).flatten = ((List.range n).map fun (i : Nat) => numB ((jL n S).1.get (i : Int)).toNat).flatten ++ numB (intS 1048576 (jL n S).2).1 := by
   rw [List.range_succ, List.map_append, List.flatten_append]
   congr 1
   ·
    congr 1
    refine List.map_congr_left fun i hi => ?_
    have hi' := List.mem_range.1 hi
    show numB (((jL n S).1.set (n : Int) _).get (i : Int)).toNat = _
    rw [get_set (by omega) (by omega) (by omega) (by omega), if_neg (by omega)]
   ·
    show [numB (((jL n S).1.set (n : Int) _).get (n : Int)).toNat].flatten = _
    rw [get_set (by omega) (by omega) (by omega) (by omega), if_pos rfl]
    simp
  rw [e]
  exact h1
theorem readV_fw (S : Rs) : Fw S (readV S).2 (writeV (readV S).1) := fun hf => by
 have h8 := yA 8 S
 have hb := (intS_fw 8 S).trans (readVs_fw (intS 8 S).1 (intS 8 S).2 h8)
 have hg := readVs_get (intS 8 S).1 (intS 8 S).2 h8
 unfold readV at hf ⊢
 dsimp only at hf ⊢
 by_cases hc : 0 < (intS 8 S).1 ∧ (jL (intS 8 S).1 (intS 8 S).2).1.get (((intS 8 S).1 : Int) - 1) = 0
 ·
  rw [if_pos hc] at hf
  by_cases h3 : (failS (jL (intS 8 S).1 (intS 8 S).2).2 3).fe = 0
  ·
   exact absurd (failS_zero h3).2.1 (by decide)
  ·
   rw [if_pos h3] at hf; exact absurd hf h3
 ·
  rw [if_neg hc] at hf ⊢
  by_cases h3 : (jL (intS 8 S).1 (intS 8 S).2).2.fe = 0
  ·
   rw [if_neg (by simp [h3])] at hf ⊢
   have hL : longV (jL (intS 8 S).1 (intS 8 S).2).1 = (intS 8 S).1 := longV_of h8 hg (by
    rcases Nat.eq_zero_or_pos (intS 8 S).1 with h0 | h0
    ·
     exact .inl h0
    ·
     exact .inr fun h => hc ⟨h0, h⟩)
   unfold writeV partV
   rw [hL]
   exact hb hf
  ·
   rw [if_pos h3] at hf; exact absurd hf h3
theorem readE_fw (S : Rs) (hS : S.wf) : Fw S (readE S).2 (writeE (readE S).1) := fun hf => by
 unfold readE at hf ⊢
 dsimp only at hf ⊢
 by_cases hT : (failS (rawE S).2 (errE (rawE S).1)).fe = 0
 ·
  rw [if_neg (by simp [hT])] at hf ⊢
  obtain ⟨h1, h2, h3⟩ := failS_zero hT
  rw [h3]
  unfold writeE
  rw [if_neg (by simp [h2])]
  have a1 := intS_fw 6 S
  have a2 := textS_fw 12 (intS 6 S).2 (intS_wf 6 hS)
  have a3 := readZ_fw (textS 12 (intS 6 S).2).2
  have a4 := readT_fw (readZ (textS 12 (intS 6 S).2).2).2
  have hH := ((a1.trans a2).trans a3).trans a4
  have eH : headE (rawE S).1 = numB (intS 6 S).1 ++ textB (textS 12 (intS 6 S).2).1 ++ writeZ (readZ (textS 12 (intS 6 S).2).2).1 ++ writeT (readT (readZ (textS 12 (intS 6 S).2).2).2).1 := rfl
  have eAct : (rawE S).1.act = ((intS 6 S).1 : Int) := rfl
  rw [eAct]
  by_cases ha : fAt ((intS 6 S).1 : Int) = true
  ·
   rw [if_pos ha, eH]
   have e2 : (rawE S).2 = (readSt' (readT (readZ (textS 12 (intS 6 S).2).2).2).2).2 := by
    unfold rawE; dsimp only; rw [if_pos ha, fAt_fTg ha, if_neg (by decide)]
   have e3 : (rawE S).1.st = (readSt' (readT (readZ (textS 12 (intS 6 S).2).2).2).2).1 := by
    unfold rawE; dsimp only; rw [if_pos ha]
   rw [e2] at h1 ⊢
   rw [e3]
   exact (hH.trans (readSt'_fw _)) h1
  ·
   rw [if_neg ha]
   by_cases hg : fTg ((intS 6 S).1 : Int) = true
   ·
    rw [if_pos hg]
    have e2 : (rawE S).2 = (readN readT (intS 4096 (readT (readZ (textS 12 (intS 6 S).2).2).2).2).1 (intS 4096 (readT (readZ (textS 12 (intS 6 S).2).2).2).2).2).2 := by
     unfold rawE; dsimp only; rw [if_neg ha, if_pos hg]
    have e3 : (rawE S).1.tags = (readN readT (intS 4096 (readT (readZ (textS 12 (intS 6 S).2).2).2).2).1 (intS 4096 (readT (readZ (textS 12 (intS 6 S).2).2).2).2).2).1 := by
     unfold rawE; dsimp only; rw [if_neg ha, if_pos hg]
    rw [e2] at h1 ⊢
    obtain ⟨k1, k2⟩ := readN_fw (intS 4096 (readT (readZ (textS 12 (intS 6 S).2).2).2).2).1 (intS 4096 (readT (readZ (textS 12 (intS 6 S).2).2).2).2).2
    have k3 := k2 h1
    unfold partG
    rw [eH, e3, k3, List.take_of_length_le (Nat.le_of_eq k3)]
    exact ((hH.trans (intS_fw 4096 _)).trans k1) h1
   ·
    rw [if_neg hg, eH]
    have e2 : (rawE S).2 = (readT (readZ (textS 12 (intS 6 S).2).2).2).2 := by
     unfold rawE; dsimp only; rw [if_neg ha, if_neg hg]
    rw [e2] at h1 ⊢
    exact hH h1
 ·
  rw [if_pos hT] at hf
  exact absurd hf hT
theorem readQs_fw : ∀ (n : Nat) (S : Rs), S.wf → Fw S (readQs n S).2 ((readQs n S).1.map fun p => textB p.1 ++ writeE p.2).flatten
 | 0, S, _ => Fw.refl S
 | n + 1, S, hS => by
  have hw := (readQs_wf hS n).1
  have h1 := (readQs_fw n S hS).trans ((textS_fw 24 (readQs n S).2 hw).trans (readE_fw (textS 24 (readQs n S).2).2 (textS_wf 24 hw)))
  have e : ((readQs (n + 1) S).1.map fun p => textB p.1 ++ writeE p.2).flatten = ((readQs n S).1.map fun p => textB p.1 ++ writeE p.2).flatten ++ (textB (textS 24 (readQs n S).2).1 ++ writeE (readE (textS 24 (readQs n S).2).2).1) := by
   simp [readQs, readQ]
  rw [e]
  exact h1
theorem readX_fw (S : Rs) (hS : S.wf) : Fw S (readX S).2 (writeX (readX S).1.1 (readX S).1.2.1 (readX S).1.2.2.1 (readX S).1.2.2.2) := fun hf => by
 have w1 := readI_wf hS
 have w2 := readV_wf w1.1
 have w3 := intS_wf 1 w2.1
 have w4 := intS_wf 16 w3
 have hb := (((((readI_fw S).trans (readV_fw (readI S).2)).trans (intS_fw 1 (readV (readI S).2).2)).trans (intS_fw 16 (intS 1 (readV (readI S).2).2).2)).trans (readQs_fw (intS 16 (intS 1 (readV (readI S).2).2).2).1 (intS 16 (intS 1 (readV (readI S).2).2).2).2 w4))
 have hl := readQs_len (intS 16 (intS 1 (readV (readI S).2).2).2).2 (intS 16 (intS 1 (readV (readI S).2).2).2).1
 have h1 := yA 1 (readV (readI S).2).2
 unfold readX at hf ⊢
 dsimp only at hf ⊢
 by_cases hT : (failS (rawX S).2 (txErr (rawX S).1.1 (rawX S).1.2.1 (rawX S).1.2.2.2)).fe = 0
 ·
  rw [if_neg (by simp [hT])] at hf ⊢
  obtain ⟨k1, k2, k3⟩ := failS_zero hT
  rw [k3]
  unfold writeX
  rw [if_neg (by simp [k2])]
  unfold partX headX
  rw [List.take_of_length_le (Nat.le_refl _)]
  have e1 : (if (rawX S).1.2.2.1 = true then 1 else 0) = (intS 1 (readV (readI S).2).2).1 := by
   show (if decide ((intS 1 (readV (readI S).2).2).1 = 1) = true then 1 else 0) = _
   by_cases h : (intS 1 (readV (readI S).2).2).1 = 1
   ·
    rw [h]; rfl
   ·
    rw [decide_eq_false h]; simp; omega
  have e2 : (rawX S).1.2.2.2.length = (intS 16 (intS 1 (readV (readI S).2).2).2).1 := hl
  rw [e1, e2]
  exact hb k1
 ·
  rw [if_pos hT] at hf
  exact absurd hf hT
theorem readCv_fw (S : Rs) (hS : S.wf) : Fw S (readCv S).2 (wC (readCv S).1) := by
 have h3 := yA 3 S
 have hw := intS_wf 3 hS
 have hk := intS_fw 3 S
 unfold readCv
 dsimp only
 by_cases c1 : (intS 3 S).1 = 1
 ·
  rw [if_pos c1]
  rw [c1] at hk
  have h := hk.trans ((readX_fw (intS 3 S).2 hw).trans (intS_fw 1048576 (readX (intS 3 S).2).2))
  have e : wC (rdDo (intS 3 S).2).1 = numB 1 ++ (writeX (readX (intS 3 S).2).1.1 (readX (intS 3 S).2).1.2.1 (readX (intS 3 S).2).1.2.2.1 (readX (intS 3 S).2).1.2.2.2 ++ numB (intS 1048576 (readX (intS 3 S).2).2).1) := by
   unfold wC rdDo; dsimp only; rw [if_pos rfl]; simp
  rw [e]
  exact h
 rw [if_neg c1]
 by_cases c2 : (intS 3 S).1 = 2
 ·
  rw [if_pos c2]
  rw [c2] at hk
  have h := hk.trans (intS_fw 7 (intS 3 S).2)
  have e : wC (rdLead (intS 3 S).2).1 = numB 2 ++ numB (intS 7 (intS 3 S).2).1 := by
   unfold wC rdLead; dsimp only; rw [if_neg (by decide), if_pos rfl]; simp
  rw [e]
  exact h
 rw [if_neg c2]
 by_cases c3 : (intS 3 S).1 = 3
 ·
  rw [if_pos c3]
  rw [c3] at hk
  have h := (((hk.trans (intS_fw 5 (intS 3 S).2)).trans (readZs_fw (intS 5 (intS 3 S).2).1 (intS 5 (intS 3 S).2).2)).trans (readV_fw _)).trans (intS_fw 1048576 _)
  have hl := readZs_len (intS 5 (intS 3 S).2).2 (intS 5 (intS 3 S).2).1
  have e : wC (rdSeal (intS 3 S).2).1 = numB 3 ++ numB (intS 5 (intS 3 S).2).1 ++ writeZs (readZs (intS 5 (intS 3 S).2).1 (intS 5 (intS 3 S).2).2).1 ++ writeV (readV (readZs (intS 5 (intS 3 S).2).1 (intS 5 (intS 3 S).2).2).2).1 ++ numB (intS 1048576 (readV (readZs (intS 5 (intS 3 S).2).1 (intS 5 (intS 3 S).2).2).2).2).1 := by
   unfold wC rdSeal; dsimp only; rw [if_neg (by decide), if_neg (by decide), if_pos rfl, hl]; simp
  rw [e]
  exact h
 ·
  rw [if_neg c3]
  have c0 : (intS 3 S).1 = 0 := by omega
  rw [c0] at hk
  exact hk
theorem readMv_fw (S : Rs) (hW : S.wf) : Fw S (readMv S).2 (wM (readMv S).1) := by
 have w1 := intS_wf 8 hW
 have w2 := intS_wf 7 w1
 have w3 := intS_wf 7 w2
 have w4 := intS_wf 1048576 w3
 have w5 := (readI_wf w4).1
 have hH : Fw S (rdH S).2 (numB (rdH S).1.1 ++ numB (rdH S).1.2.1 ++ numB (rdH S).1.2.2.1 ++ numB (rdH S).1.2.2.2.1 ++ writeI (rdH S).1.2.2.2.2) :=
  ((((intS_fw 8 S).trans (intS_fw 7 _)).trans (intS_fw 7 _)).trans (intS_fw 1048576 _)).trans (readI_fw _)
 have hwH : (rdH S).2.wf := w5
 have hB' : ∀ (t : Bool) (U : Rs), Fw U (rdB t U).2 (if t = true then writeBal (rdB t U).1 else []) := fun t U => by cases t with
  | true => exact readBal_fw U
  | false => exact Fw.refl U
 have hS' : ∀ (t : Bool) (U : Rs), Fw U (rdS t U).2 (if t = true then numB (rdS t U).1 else []) := fun t U => by cases t with
  | true => exact intS_fw 4 U
  | false => exact Fw.refl U
 have hC' : ∀ (t : Bool) (U : Rs), U.wf → Fw U (rdC t U).2 (if t = true then wC (rdC t U).1 else []) := fun t U hU => by cases t with
  | true => exact readCv_fw U hU
  | false => exact Fw.refl U
 have hA' : ∀ (t : Bool) (U : Rs), Fw U (rdA t U).2 (if t = true then numB (rdA t U).1.1 ++ writeV (rdA t U).1.2 else []) := fun t U => by cases t with
  | true => exact (intS_fw 1048576 U).trans (readV_fw _)
  | false => exact Fw.refl U
 have wB : ∀ (t : Bool) (U : Rs), U.wf → (rdB t U).2.wf := fun t U hU => by cases t with
  | true => exact (readBal_wf hU).1
  | false => exact hU
 have wS : ∀ (t : Bool) (U : Rs), U.wf → (rdS t U).2.wf := fun t U hU => by cases t with
  | true => exact intS_wf 4 hU
  | false => exact hU
 have x1 := wB (hB ((rdH S).1.1 : Int)) _ hwH
 have x2 := wS (hS ((rdH S).1.1 : Int)) _ x1
 unfold readMv
 dsimp only
 have x3 := wB (hV ((rdH S).1.1 : Int) ((rdS (hS ((rdH S).1.1 : Int)) (rdB (hB ((rdH S).1.1 : Int)) (rdH S).2).2).1 : Int)) _ x2
 exact ((((hH.trans (hB' _ _)).trans (hS' _ _)).trans (hB' _ _)).trans (hC' _ _ x3)).trans (hA' _ _)
theorem pnew_any (s : ByteArray) (w : World) :
 Calls Tryz.prog 59 #[.string s] w fun e w' => e = .returned (.pointer (some ⟨w.heap.size, 0, none⟩)) ∧ w' = w.alloc (.cells #[.string s, .int .i64 0, .nilIface] 176) := by
 go_enter Tryz.func59, Tryz.ntmps59
 go_wp2
 go_ret
 exact ⟨rfl, rfl⟩
theorem ret_i64 {a b : Int} (h : a = b) : Ending.returned (.int .i64 a) = .returned (.int .i64 b) := by rw [h]
theorem pleft_any (B : Nat) (S : Rs) (w : World) (h : RdrP w B S) (hS : S.wf) :
 Calls Tryz.prog 104 #[.pointer (some ⟨B, 0, none⟩)] w fun e w' => e = .returned (.int .i64 ((S.l.length - S.a : Nat) : Int)) ∧ Below w.heap.size w w' := by
 obtain ⟨ev, hb, he⟩ := h
 have hlt := jB hb
 have q0 := jA hb 0
 have q1 := jA hb 1
 have q2 := jA hb 2
 simp at q0 q1 q2
 have hT : Hid ((((bs S.l).size : Nat) : Int) - (S.a : Int) = ((S.l.length - S.a : Nat) : Int)) := jH (by rw [jG]; have := hS.1; omega)
 have hw1 : IntKind.i64.wrap ((((bs S.l).size : Nat) : Int) - (S.a : Int)) = (((bs S.l).size : Nat) : Int) - (S.a : Int) := IntWalk.i64_in _ (by rw [jG]; have := hS.1; have := hS.2.1; omega)
 clear hb he hS
 go_enter Tryz.func104, Tryz.ntmps104
 go_wp2_with fail
 go_region
 go_wp2
 go_ret
 exact ⟨ret_i64 hT.out, (Below.refl _ _).drew⟩
theorem ret_strn {a b : ByteArray} (h : a = b) : Ending.returned (.string a) = .returned (.string b) := by rw [h]
theorem bs_mid (l : List UInt8) (a n : Nat) (_h : a + n ≤ l.length) : (bs l).extract a (a + n) = bs ((l.drop a).take n) := by
 apply ByteArray.ext
 unfold bs
 rw [ByteArray.data_extract]
 simp only [List.extract_toArray, List.extract_eq_take_drop]
 congr 3
 omega
theorem ptext_any (m B : Nat) (hm : m ≤ 1099511627776) (S : Rs) (w : World) (h : RdrP w B S) (hS : S.wf) :
 Calls Tryz.prog 133 #[.pointer (some ⟨B, 0, none⟩), .int .i64 (m : Int)] w
  fun r w' => r = .returned (.string (bs (textS m S).1)) ∧ RdrP w' B (textS m S).2 ∧ w.grownBy w' (some B) := by
 have c1 := pint_any m B hm S w h hS
 have hw1 := Rs.wf_next hS (fun v => if m < v then 2 else 0)
 have hle := yA m S
 obtain ⟨x, T, hT⟩ : ∃ x T, textS m S = (x, T) := ⟨_, _, rfl⟩
 rw [hT]
 unfold textS at hT
 dsimp only at hT
 unfold intS at c1 hle hT
 generalize nextS (fun v => if m < v then 2 else 0) S = p at *
 obtain ⟨n, S1⟩ := p
 dsimp only at *
 have hBlt := h.lt
 obtain ⟨ev0, hb0, he0⟩ := h
 have q0 := jA hb0 0
 have q1 := jA hb0 1
 have q2 := jA hb0 2
 simp at q0 q1 q2
 have c1 := jH c1
 have hTH := jH hT
 have n0 : (0 : Int) ≤ (n : Int) := by omega
 have n1 : (n : Int) ≤ 1099511627776 := by omega
 clear hT hb0 he0
 by_cases hf : S1.fe = 0
 ·
  have hTT := hTH.out
  rw [if_neg (by simp [hf])] at hTT
  by_cases hlt : S1.l.length - S1.a < n
  ·
   rw [if_pos hlt] at hTT
   obtain ⟨rfl, rfl⟩ := Prod.mk.inj hTT
   have hd : decide (((S1.l.length - S1.a : Nat) : Int) < (n : Int)) = true := decide_eq_true (by omega)
   clear hTT hTH
   have hw1H := jH hw1
   have hfH := jH hf
   go_enter Tryz.func133, Tryz.ntmps133
   go_wp2_with fail
   refine c1.out.mono ?_
   rintro e w1 ⟨rfl, hR1, hg1⟩
   have hR1k := jH hR1
   have hlt1 := hR1.lt
   clear q0 q1 q2
   obtain ⟨ev, hbz, hez⟩ := hR1
   obtain ⟨_, rfl⟩ := hez.resolve_right (fun h9 => absurd (by assumption) h9.1)
   have hltz := jB hbz
   have z0 := jA hbz 0
   have z1 := jA hbz 1
   have z2 := jA hbz 2
   simp at z0 z1 z2
   clear hbz hez
   go_wp2_with fail
   refine (pleft_any B S1 w1 hR1k.out hw1H.out).mono ?_
   rintro e w2 ⟨rfl, hb2⟩
   clear z0 z1 z2 hltz
   have hR2 := hR1k.out.below hb2
   obtain ⟨ev2, hB2, hE2⟩ := hR2
   have hlt2 := jB hB2
   have z0 := jA hB2 0
   have z1 := jA hB2 1
   have z2 := jA hB2 2
   simp at z0 z1 z2
   have hfz := jE hB2
   have hR3 : Hid (RdrP (w2.setCell ⟨B, 1, none⟩ (.int .i64 (S.a : Int))) B { S1 with a := S.a }) := jH ⟨ev2, by rw [jO hB2]; rfl, hE2.grown (gr_set (World.grownBy.refl w2 _) 1 _) (fun g cs e hh => by injection e with e; subst e; rw [hB2] at hh; injection hh with hh; injection hh with _ ht; revert ht; decide)⟩
   have hg2 : w.grownBy w2 (some B) := hg1.trans (yD hb2 _)
   clear hB2 hE2
   go_wp2_with fail
   refine (pfail_any B _ 1 _ hR3.out).mono ?_
   rintro e w3 ⟨rfl, hR4, hg4⟩
   go_wp2
   go_ret
   exact ⟨rfl, hR4, (gr_set hg2 1 _).trans hg4⟩
  ·
   rw [if_neg hlt] at hTT
   obtain ⟨rfl, rfl⟩ := Prod.mk.inj hTT
   have hd : decide (((S1.l.length - S1.a : Nat) : Int) < (n : Int)) = false := decide_eq_false (by omega)
   clear hTT hTH
   have hw1H := jH hw1
   have hal := hw1.1
   have hll := hw1.2.1
   have hsz : (bs S1.l).size = S1.l.length := jG _
   have ha0 : (0 : Int) ≤ (S1.a : Int) := by omega
   have hws : IntKind.i64.wrap ((S1.a : Int) + (n : Int)) = (S1.a : Int) + (n : Int) := IntWalk.i64_in _ (by omega)
   have hs0 : (0 : Int) ≤ (S1.a : Int) + (n : Int) := by omega
   have hs1 : (S1.a : Int) ≤ (S1.a : Int) + (n : Int) := by omega
   have hs2 : (S1.a : Int) + (n : Int) ≤ (((bs S1.l).size : Nat) : Int) := by omega
   have hs3 : ((S1.a : Int) + (n : Int)).toNat = S1.a + n := by omega
   have hs4 : (S1.a : Int) ≤ (((bs S1.l).size : Nat) : Int) := by omega
   have hX : Hid ((bs S1.l).extract S1.a (S1.a + n) = bs ((S1.l.drop S1.a).take n)) := jH (bs_mid _ _ _ (by omega))
   have hszH := jH hsz
   clear hw1 hsz
   go_enter Tryz.func133, Tryz.ntmps133
   go_wp2_with fail
   refine c1.out.mono ?_
   rintro e w1 ⟨rfl, hR1, hg1⟩
   have hR1k := jH hR1
   have hlt1 := hR1.lt
   clear q0 q1 q2
   obtain ⟨ev, hbz, hez⟩ := hR1
   obtain ⟨_, rfl⟩ := hez.resolve_right (fun h9 => absurd (by assumption) h9.1)
   have hltz := jB hbz
   have z0 := jA hbz 0
   have z1 := jA hbz 1
   have z2 := jA hbz 2
   simp at z0 z1 z2
   clear hbz hez
   go_wp2_with fail
   refine (pleft_any B S1 w1 hR1k.out hw1H.out).mono ?_
   rintro e w2 ⟨rfl, hb2⟩
   clear z0 z1 z2 hltz
   have hR2 := hR1k.out.below hb2
   obtain ⟨ev2, hB2, hE2⟩ := hR2
   have hlt2 := jB hB2
   have z0 := jA hB2 0
   have z1 := jA hB2 1
   have z2 := jA hB2 2
   simp at z0 z1 z2
   have hfz := jE hB2
   have hR3 : Hid (RdrP ((w2.drew).setCell ⟨B, 1, none⟩ (.int .i64 ((S1.a : Int) + (n : Int)))) B { S1 with a := S1.a + n }) := jH ⟨ev2, by rw [jO (heap_drew hB2)]; simp, hE2.grown ((yD (Below.refl _ _).drew (some B)).trans (gr_set (World.grownBy.refl _ _) 1 _)) (fun g cs e hh => by injection e with e; subst e; rw [hB2] at hh; injection hh with hh; injection hh with _ ht; revert ht; decide)⟩
   have hg2 : w.grownBy w2 (some B) := hg1.trans (yD hb2 _)
   have hq0 : KQ w2.heap.size w2 w2 := kq (Below.refl _ _)
   clear hB2 hE2
   go_wp2_with fail
   go_region_held3 (fun w' => KQ w2.heap.size w2 w') (first
    | with_reducible exact jP (by assumption) (by simp) (by assumption)
    | with_reducible exact yB (by assumption) (by simp) (by assumption) (by simp [Value.ownBlock])
    | ((with_reducible refine kq ?_); (repeat (first | (with_reducible exact Below.refl _ _) | (with_reducible refine Below.drew ?_) | (with_reducible refine Below.alloc ?_ (by simp) _) | (with_reducible refine Below.setCell ?_ (by simp) _) | (with_reducible exact (by assumption : KQ _ _ _).1))); done)) (first | (go_at_call 0; skip))
   go_wp2
   go_ret
   exact ⟨ret_strn hX.out, hR3.out, (hg2.trans (yD (Below.refl _ _).drew _)).trans (gr_set (World.grownBy.refl _ _) 1 _)⟩
 ·
  have hTT := hTH.out
  rw [if_pos hf] at hTT
  obtain ⟨rfl, rfl⟩ := Prod.mk.inj hTT
  clear hTT hTH
  go_enter Tryz.func133, Tryz.ntmps133
  go_wp2_with fail
  refine c1.out.mono ?_
  rintro e w1 ⟨rfl, hR1, hg1⟩
  have hR1k := jH hR1
  clear q0 q1 q2
  obtain ⟨ev, hbz, hez⟩ := hR1
  obtain ⟨hne, Fz, rfl, hFz⟩ : S1.fe ≠ 0 ∧ ∃ F, ev = .iface 125 (.pointer (some ⟨F, 0, none⟩)) ∧ _ := hez.resolve_left (fun h9 => absurd h9.1 (by assumption))
  have hltz := jB hbz
  have z0 := jA hbz 0
  have z1 := jA hbz 1
  have z2 := jA hbz 2
  simp at z0 z1 z2
  clear hbz hFz hne hez
  go_wp2
  go_ret
  exact ⟨rfl, hR1k.out, hg1⟩
end Go.Proofs.YtfhandglpjnonaaGreatDoor
