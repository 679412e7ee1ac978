/- The plain law of messages' bytes: what is written is read as it was, whatever follows. The plain law of readers, forward: what is read without a fault has the bytes that were read. The plain law of readers, forward: names, ballots, texts, numbers with a sign, tags, stamps, vectors. -/
import Derived.Test.YtfhandglpjnonaaGreatDoorQw
import Derived.Test.YtfhandglpjnonaaGreatDoorN34
namespace Go.Proofs.YtfhandglpjnonaaGreatDoor
open Go.RowKit
theorem readBal_back {b : Int × Int} (h : balE b.1 b.2 = 0) (h0 : 0 ≤ b.1) (pre more : List UInt8) : readBal (stR pre (writeBal b ++ more)) = (b, stR (pre ++ writeBal b) more) := by
 obtain ⟨h1, h2, h3, -⟩ := balE_zero h
 have e1 : ((b.1.toNat : Nat) : Int) = b.1 := by omega
 have e2 : ((b.2.toNat : Nat) : Int) = b.2 := by omega
 unfold writeBal
 rw [if_neg (by simp [h])]
 unfold readBal
 rw [List.append_assoc, intS_back (by omega) (by decide)]
 dsimp only
 rw [intS_back (by omega) (by decide)]
 dsimp only
 rw [e1, e2, h, failS_ok, if_neg (by simp [stR]), List.append_assoc]
theorem readZs_back : ∀ (n : Nat) (l : List Int), l.length = n → (∀ z ∈ l, 0 ≤ z ∧ z ≤ 7) → ∀ (pre more : List UInt8), readZs n (stR pre (writeZs l ++ more)) = (l, stR (pre ++ writeZs l) more)
 | 0, l, hl, _, pre, more => by
  obtain rfl := List.eq_nil_of_length_eq_zero hl
  simp [readZs, writeZs]
 | n + 1, l, hl, hz, pre, more => by
  obtain ⟨ys, y, rfl⟩ : ∃ ys y, l = ys ++ [y] := ⟨l.dropLast, l.getLast (by rintro rfl; simp at hl), (List.dropLast_concat_getLast _).symm⟩
  have h1 := readZs_back n ys (by simpa using hl) (fun x hx => hz x (by simp [hx])) pre (numB y.toNat ++ more)
  have hy := hz y (by simp)
  have e : writeZs (ys ++ [y]) = writeZs ys ++ numB y.toNat := by simp [writeZs]
  rw [e, List.append_assoc]
  unfold readZs
  rw [h1]
  dsimp only
  rw [intS_back (by omega) (by decide)]
  dsimp only
  rw [show ((y.toNat : Nat) : Int) = y from by omega, List.append_assoc]
theorem wC_back {c : Cv} (h : cmdErr c = 0) (hs : c.t.deps.wf) (hu : c.since.wf) (hp : ∀ p ∈ c.t.parts, p.2.wf) (pre more : List UInt8) : readCv (stR pre (wC c ++ more)) = (c, stR (pre ++ wC c) more) := by
 obtain ⟨hk, hkeep⟩ := cmdErr_zero h
 unfold wC
 rcases hk with h0 | h1 | h2 | h3
 ·
  rw [if_neg (by omega), if_neg (by omega), if_neg (by omega)]
  unfold readCv
  rw [intS_back (by decide) (by decide)]
  dsimp only
  rw [if_neg (by decide), if_neg (by decide), if_neg (by decide)]
  have e : c = zeroCv := by rw [← hkeep]; unfold keepC; rw [if_pos h0]; rfl
  rw [e]
 ·
  rw [if_pos h1.k]
  unfold readCv
  rw [List.append_assoc, intS_back (by decide) (by decide)]
  dsimp only
  rw [if_pos rfl]
  unfold rdDo
  rw [List.append_assoc, readX_back h1.t hs hp]
  dsimp only
  rw [intS_back (by have := h1.s1; have := h1.s0; omega) (by decide)]
  dsimp only
  have e1 : ((c.snap.toNat : Nat) : Int) = c.snap := by have := h1.s0; omega
  have e : c = ⟨1, c.t, c.snap, 0, [], zeroQ⟩ := by
   have h9 := hkeep
   unfold keepC at h9
   rw [if_neg (by have := h1.k; omega), if_pos h1.k] at h9
   exact h9.symm
  rw [e1]
  have e2 : (⟨1, ⟨c.t.id, c.t.deps, c.t.thin, c.t.parts⟩, c.snap, 0, [], zeroQ⟩ : Cv) = c := e.symm
  rw [e2]
  simp only [List.append_assoc]
 ·
  rw [if_neg (by omega), if_pos h2.1]
  unfold readCv
  rw [List.append_assoc, intS_back (by decide) (by decide)]
  dsimp only
  rw [if_neg (by decide), if_pos rfl]
  unfold rdLead
  rw [intS_back (by omega) (by decide)]
  dsimp only
  have e1 : ((c.who.toNat : Nat) : Int) = c.who := by omega
  have e : c = ⟨2, zeroT, 0, c.who, [], zeroQ⟩ := by
   have h9 := hkeep
   unfold keepC at h9
   rw [if_neg (by omega), if_neg (by omega), if_pos h2.1] at h9
   exact h9.symm
  rw [e1, ← e, List.append_assoc]
 ·
  have hk := h3.k
  rw [if_neg (by omega), if_neg (by omega), if_pos hk]
  unfold readCv
  rw [List.append_assoc, List.append_assoc, List.append_assoc, intS_back (by decide) (by decide)]
  dsimp only
  rw [if_neg (by decide), if_neg (by decide), if_pos rfl]
  unfold rdSeal
  rw [intS_back h3.m (by decide)]
  dsimp only
  rw [readZs_back _ c.mem rfl h3.z]
  dsimp only
  rw [List.append_assoc (writeV c.since), readV_back h3.v hu]
  dsimp only
  rw [intS_back (by have := h3.s1; have := h3.s0; omega) (by decide)]
  dsimp only
  have e1 : ((c.snap.toNat : Nat) : Int) = c.snap := by have := h3.s0; omega
  have e : c = ⟨3, zeroT, c.snap, 0, c.mem, c.since⟩ := by
   have h9 := hkeep
   unfold keepC at h9
   rw [if_neg (by omega), if_neg (by omega), if_neg (by omega)] at h9
   exact h9.symm
  rw [e1, ← e]
  simp only [List.append_assoc]
theorem kept_eq {m : Mm} (h : sameMm (keptM m) m = true) : (hB m.kd = false → m.b = (0, 0)) ∧ (hS m.kd = false → m.st = 0) ∧ (hV m.kd m.st = false → m.vv = (0, 0)) ∧ (hC m.kd m.st = false → m.c.val = zeroCv) ∧ (hA m.kd m.st = false → m.an = 0 ∧ m.av = zeroQ) := by
 unfold sameMm keptM onlyM at h
 simp only [Bool.and_eq_true, decide_eq_true_eq, eqV_iff] at h
 obtain ⟨h1, h2, h3, h4, h5, h6, h7, h8⟩ := h
 rw [sameCv_iff] at h8
 refine ⟨fun e => ?_, fun e => ?_, fun e => ?_, fun e => ?_, fun e => ⟨?_, ?_⟩⟩
 ·
  rw [e] at h1 h2; exact Prod.ext h1.symm h2.symm
 ·
  rw [e] at h3; exact h3.symm
 ·
  rw [e] at h4 h5; exact Prod.ext h4.symm h5.symm
 ·
  rw [e] at h8; exact h8.symm
 ·
  rw [e] at h6; exact h6.symm
 ·
  rw [e] at h7; exact h7.symm
theorem rdB_back {t : Bool} {b : Int × Int} (h : balE b.1 b.2 = 0) (h0 : 0 ≤ b.1) (hz : t = false → b = (0, 0)) (pre more : List UInt8) : rdB t (stR pre ((if t = true then writeBal b else []) ++ more)) = (b, stR (pre ++ (if t = true then writeBal b else [])) more) := by
 cases t with
 | true => exact readBal_back h h0 pre more
 | false => rw [hz rfl]; simp [rdB]
theorem rdS_back {t : Bool} {s : Nat} (h : s ≤ 4) (hz : t = false → s = 0) (pre more : List UInt8) : rdS t (stR pre ((if t = true then numB s else []) ++ more)) = (s, stR (pre ++ (if t = true then numB s else [])) more) := by
 cases t with
 | true => exact intS_back h (by decide) pre more
 | false => rw [hz rfl]; simp [rdS]
theorem rdC_back {t : Bool} {c : Cv} (h : cmdErr c = 0) (hs : c.t.deps.wf) (hu : c.since.wf) (hp : ∀ p ∈ c.t.parts, p.2.wf) (hz : t = false → c = zeroCv) (pre more : List UInt8) : rdC t (stR pre ((if t = true then wC c else []) ++ more)) = (c, stR (pre ++ (if t = true then wC c else [])) more) := by
 cases t with
 | true => exact wC_back h hs hu hp pre more
 | false => rw [hz rfl]; simp [rdC]
theorem rdA_back {t : Bool} {n : Nat} {v : Vm} (h : n ≤ 1048576) (hv : vchk v = true) (hw : v.wf) (hz : t = false → n = 0 ∧ v = zeroQ) (pre more : List UInt8) : rdA t (stR pre ((if t = true then numB n ++ writeV v else []) ++ more)) = ((n, v), stR (pre ++ (if t = true then numB n ++ writeV v else [])) more) := by
 cases t with
 | true =>
  unfold rdA
  rw [if_pos rfl, if_pos rfl, List.append_assoc, intS_back h (by decide)]
  dsimp only
  rw [readV_back hv hw, List.append_assoc]
 | false => obtain ⟨h1, h2⟩ := hz rfl; rw [h1, h2]; simp [rdA]
theorem readMv_back {m : Mm} (h : msgErr m = 0) (hN : m.Nn) (hav : m.av.wf) (hcv : m.c.val.t.deps.wf ∧ m.c.val.since.wf ∧ ∀ p ∈ m.c.val.t.parts, p.2.wf) (pre more : List UInt8) : readMv (stR pre (wM m.val ++ more)) = (m.val, stR (pre ++ wM m.val) more) := by
 have hok := msgErr_zero h
 obtain ⟨z1, z2, z3, z4, z5⟩ := kept_eq hok.kept
 obtain ⟨mv, hmv⟩ : ∃ x, x = m.val := ⟨_, rfl⟩
 obtain ⟨kd, fr, dst, ep, i, b, st, vv, c, an, av⟩ := m
 obtain ⟨hk0, hk1, ⟨hf0, hf1⟩, ⟨hd0, hd1⟩, he1, ⟨hs0, hs1⟩, hi, hb, hv, hn1, ha, hc0, -⟩ := hok
 obtain ⟨he0, hb10, hv10, hn0⟩ := hN
 dsimp only at *
 obtain ⟨kd, rfl⟩ := Int.eq_ofNat_of_zero_le (show 0 ≤ kd by omega)
 obtain ⟨fr, rfl⟩ := Int.eq_ofNat_of_zero_le hf0
 obtain ⟨dst, rfl⟩ := Int.eq_ofNat_of_zero_le hd0
 obtain ⟨ep, rfl⟩ := Int.eq_ofNat_of_zero_le he0
 obtain ⟨st, rfl⟩ := Int.eq_ofNat_of_zero_le hs0
 obtain ⟨an, rfl⟩ := Int.eq_ofNat_of_zero_le hn0
 have eW : wM mv = ((((((numB kd ++ numB fr ++ numB dst ++ numB ep ++ writeI i) ++ (if hB (kd : Int) = true then writeBal b else [])) ++ (if hS (kd : Int) = true then numB st else [])) ++ (if hV (kd : Int) (st : Int) = true then writeBal vv else [])) ++ (if hC (kd : Int) (st : Int) = true then wC c.val else [])) ++ (if hA (kd : Int) (st : Int) = true then numB an ++ writeV av else [])) := by rw [hmv]; rfl
 rw [← hmv, eW]
 have hH : ∀ more, rdH (stR pre ((numB kd ++ numB fr ++ numB dst ++ numB ep ++ writeI i) ++ more)) = ((kd, fr, dst, ep, i), stR (pre ++ (numB kd ++ numB fr ++ numB dst ++ numB ep ++ writeI i)) more) := by
  intro more
  unfold rdH
  rw [List.append_assoc, List.append_assoc, List.append_assoc, List.append_assoc, intS_back (by omega) (by decide)]
  dsimp only
  rw [intS_back (by omega) (by decide)]
  dsimp only
  rw [intS_back (by omega) (by decide)]
  dsimp only
  rw [intS_back (by omega) (by decide)]
  dsimp only
  rw [readI_back hi]
  simp only [List.append_assoc]
 unfold readMv
 rw [List.append_assoc, List.append_assoc, List.append_assoc, List.append_assoc, List.append_assoc, hH]
 dsimp only
 rw [rdB_back hb hb10 z1]
 dsimp only
 rw [rdS_back (by omega) (fun e => by have := z2 e; omega)]
 dsimp only
 rw [rdB_back hv hv10 z3]
 dsimp only
 rw [rdC_back hc0 hcv.1 hcv.2.1 hcv.2.2 z4]
 dsimp only
 rw [rdA_back (by omega) ha hav (fun e => by have := z5 e; exact ⟨by omega, this.2⟩)]
 dsimp only
 rw [hmv]
 simp only [List.append_assoc]
 rfl
theorem beD_beV : ∀ (n : Nat) (l : List UInt8), l.length = n → l.head? ≠ some 0 → beD (beV l) = l
 | 0, l, hl, _ => by
  obtain rfl := List.eq_nil_of_length_eq_zero hl
  show beD 0 = []
  exact beD_zero
 | n + 1, l, hl, hh => by
  obtain ⟨ys, y, rfl⟩ : ∃ ys y, l = ys ++ [y] := ⟨l.dropLast, l.getLast (by rintro rfl; simp at hl), (List.dropLast_concat_getLast _).symm⟩
  have hy := y.toNat_lt
  rw [beV_snoc]
  cases ys with
  | nil =>
   have hy0 : y.toNat ≠ 0 := fun h => hh (by
    have : y = 0 := UInt8.toNat_inj.1 (by simpa using h)
    rw [this]; rfl)
   have e : beV [] * 256 + y.toNat = y.toNat := by show 0 * 256 + y.toNat = y.toNat; omega
   rw [e, beD_pos hy0, show y.toNat / 256 = 0 by omega, beD_zero, show y.toNat % 256 = y.toNat by omega]
   simp
  | cons c r =>
   have h1 := beD_beV n (c :: r) (by simpa using hl) (by simpa using hh)
   have h2 : beV (c :: r) ≠ 0 := fun h => by rw [h, beD_zero] at h1; cases h1
   rw [beD_pos (by omega), show (beV (c :: r) * 256 + y.toNat) / 256 = beV (c :: r) by omega, h1, show (beV (c :: r) * 256 + y.toNat) % 256 = y.toNat by omega]
   simp
theorem numR_fw {l : List UInt8} {v n : Nat} (h : numR l = (v, n, 0)) : l = numB v ++ l.drop n ∧ n = (numB v).length := by
 unfold numR at h
 cases l with
 | nil => simp at h
 | cons c r =>
  simp only at h
  split at h
  ·
   simp at h
  split at h
  ·
   simp at h
  split at h
  ·
   simp at h
  rename_i h1 h2 h3
  simp only [Prod.mk.injEq, and_true] at h
  obtain ⟨rfl, rfl⟩ := h
  have hl : (r.take c.toNat).length = c.toNat := by rw [List.length_take]; omega
  have hb : beD (beV (r.take c.toNat)) = r.take c.toNat := by
   refine beD_beV _ _ rfl (fun hh => h3 ?_)
   have hc : 0 < c.toNat := by
    rcases Nat.eq_zero_or_pos c.toNat with h0 | h0
    ·
     rw [h0, List.take_zero] at hh; cases hh
    ·
     exact h0
   refine ⟨hc, ?_⟩
   rw [List.head?_take] at hh
   simpa [Nat.ne_of_gt hc] using hh
  unfold numB
  rw [hb, hl]
  refine ⟨?_, by rw [List.length_cons, hl]; omega⟩
  rw [show UInt8.ofNat c.toNat = c by simp, Nat.add_comm 1, List.drop_succ_cons, List.cons_append, List.take_append_drop]
def Fw (S T : Rs) (b : List UInt8) : Prop := T.fe = 0 → S.fe = 0 ∧ T.l = S.l ∧ T.a = S.a + b.length ∧ S.l.drop S.a = b ++ T.l.drop T.a
theorem Fw.refl (S : Rs) : Fw S S [] := fun h => ⟨h, rfl, rfl, rfl⟩
theorem Fw.trans {S T U : Rs} {b c : List UInt8} (h1 : Fw S T b) (h2 : Fw T U c) : Fw S U (b ++ c) := fun h => by
 obtain ⟨a1, a2, a3, a4⟩ := h2 h
 obtain ⟨b1, b2, b3, b4⟩ := h1 a1
 exact ⟨b1, a2.trans b2, by rw [a3, b3, List.length_append]; omega, by rw [b4, a4, List.append_assoc]⟩
theorem failS_zero {S : Rs} {e : Int} (h : (failS S e).fe = 0) : S.fe = 0 ∧ e = 0 ∧ failS S e = S := by
 unfold failS at h
 by_cases h0 : S.fe = 0 ∧ e ≠ 0
 ·
  rw [if_pos h0] at h; exact absurd h h0.2
 ·
  rw [if_neg h0] at h
  exact ⟨h, Classical.byContradiction fun hn => h0 ⟨h, hn⟩, by unfold failS; rw [if_neg h0]⟩
theorem nextS_fw (r : Nat → Int) (S : Rs) : Fw S (nextS r S).2 (numB (nextS r S).1) := fun hf => by
 by_cases h0 : S.fe = 0
 ·
  obtain ⟨v, n, e, hr⟩ : ∃ v n e, numR (S.l.drop S.a) = (v, n, e) := ⟨_, _, _, rfl⟩
  rw [nextS_eq h0 hr] at hf ⊢
  by_cases he : e = 0
  ·
   subst he
   rw [if_pos rfl] at hf ⊢
   by_cases hv : r v = 0
   ·
    rw [if_neg (by simp [hv])] at hf ⊢
    obtain ⟨h1, h2⟩ := numR_fw hr
    refine ⟨h0, rfl, by rw [← h2], ?_⟩
    show S.l.drop S.a = numB v ++ S.l.drop (S.a + n)
    rw [← List.drop_drop]
    exact h1
   ·
    rw [if_pos hv] at hf
    exact absurd (failS_zero hf).2.1 hv
  ·
   rw [if_neg he, if_pos he] at hf
   exact absurd (failS_zero hf).2.1 he
 ·
  have e : nextS r S = (0, S) := by unfold nextS; rw [if_pos h0]
  rw [e] at hf
  exact absurd hf h0
theorem intS_fw (m : Nat) (S : Rs) : Fw S (intS m S).2 (numB (intS m S).1) := nextS_fw _ S
theorem readI_fw (S : Rs) : Fw S (readI S).2 (writeI (readI S).1) := fun hf => by
 have h1 := yA 7 S
 have h2 := yA 1048576 (intS 7 S).2
 have hb := (intS_fw 7 S).trans (intS_fw 1048576 (intS 7 S).2)
 unfold readI at hf ⊢
 dsimp only at hf ⊢
 by_cases hq : (intS 1048576 (intS 7 S).2).1 = 0
 ·
  rw [if_pos hq] at hf
  exact absurd (failS_zero hf).2.1 (by decide)
 ·
  rw [if_neg hq] at hf ⊢
  have hc : chk (((intS 7 S).1 : Int), ((intS 1048576 (intS 7 S).2).1 : Int)) = true := by simp [chk]; omega
  unfold writeI
  rw [if_pos hc]
  exact hb hf
theorem readI_chk {S : Rs} (hf : (readI S).2.fe = 0) : chk (readI S).1 = true := by
 have h1 := yA 7 S
 have h2 := yA 1048576 (intS 7 S).2
 unfold readI at hf ⊢
 dsimp only at hf ⊢
 by_cases hq : (intS 1048576 (intS 7 S).2).1 = 0
 ·
  rw [if_pos hq] at hf
  exact absurd (failS_zero hf).2.1 (by decide)
 ·
  rw [if_neg hq] at hf ⊢
  simp [chk]; omega
theorem readBal_fw (S : Rs) : Fw S (readBal S).2 (writeBal (readBal S).1) := fun hf => by
 have hb := (intS_fw 1048576 S).trans (intS_fw 7 (intS 1048576 S).2)
 unfold readBal at hf ⊢
 dsimp only at hf ⊢
 by_cases hT : (failS (intS 7 (intS 1048576 S).2).2 (balE ((intS 1048576 S).1 : Int) ((intS 7 (intS 1048576 S).2).1 : Int))).fe = 0
 ·
  rw [if_neg (by simp [hT])] at hf ⊢
  obtain ⟨h1, h2, h3⟩ := failS_zero hT
  rw [h3] at hf ⊢
  unfold writeBal
  dsimp only
  rw [if_neg (by simp [h2])]
  exact hb hf
 ·
  rw [if_pos hT] at hf
  exact absurd hf hT
theorem textS_fw (m : Nat) (S : Rs) (hS : S.wf) : Fw S (textS m S).2 (textB (textS m S).1) := fun hf => by
 have hb := intS_fw m S
 have hw := intS_wf m hS
 unfold textS at hf ⊢
 dsimp only at hf ⊢
 by_cases h0 : (intS m S).2.fe = 0
 ·
  rw [if_neg (by simp [h0])] at hf ⊢
  by_cases h1 : (intS m S).2.l.length - (intS m S).2.a < (intS m S).1
  ·
   rw [if_pos h1] at hf
   exact absurd (failS_zero hf).2.1 (by decide)
  ·
   rw [if_neg h1] at hf ⊢
   obtain ⟨b1, b2, b3, b4⟩ := hb h0
   dsimp only at hf ⊢
   have hl : (((intS m S).2.l.drop (intS m S).2.a).take (intS m S).1).length = (intS m S).1 := by rw [List.length_take, List.length_drop]; omega
   refine ⟨b1, b2, ?_, ?_⟩
   ·
    unfold textB; rw [hl, List.length_append, hl, b3]; omega
   ·
    unfold textB; rw [hl, b4, List.append_assoc]
    congr 1
    rw [← List.drop_drop, List.take_append_drop]
 ·
  rw [if_pos h0] at hf
  exact absurd hf h0
theorem readZ_fw (S : Rs) : Fw S (readZ S).2 (writeZ (readZ S).1) := fun hf => by
 have hb := nextS_fw (fun _ => 0) S hf
 have e : zig (readZ S).1 = (numS S).1 := by
  unfold readZ zig
  dsimp only
  split <;> split <;> omega
 unfold writeZ
 rw [e]
 exact hb
theorem readT_fw (S : Rs) : Fw S (readT S).2 (writeT (readT S).1) := fun hf => by
 have h1 := yA 15 (readI S).2
 have hb := (readI_fw S).trans (intS_fw 15 (readI S).2)
 have hc := @readI_chk S
 have hi := intS_fw 15 (readI S).2
 unfold readT at hf ⊢
 dsimp only at hf ⊢
 by_cases h0 : (intS 15 (readI S).2).2.fe = 0
 ·
  rw [if_neg (by simp [h0])] at hf ⊢
  have hk : chkT ((readI S).1, ((intS 15 (readI S).2).1 : Int)) = true := by simp [chkT, hc (hi h0).1]; omega
  unfold writeT
  rw [if_pos hk]
  exact hb hf
 ·
  rw [if_pos h0] at hf
  exact absurd hf h0
theorem readSt'_fw (S : Rs) : Fw S (readSt' S).2 (writeS (readSt' S).1) := fun hf => by
 have h1 := yA 1048576 S
 have h2 := yA 7 (intS 1048576 S).2
 have hb := (intS_fw 1048576 S).trans (intS_fw 7 (intS 1048576 S).2)
 unfold readSt' at hf ⊢
 dsimp only at hf ⊢
 by_cases h0 : (intS 7 (intS 1048576 S).2).2.fe = 0
 ·
  rw [if_neg (by simp [h0])] at hf ⊢
  have hk : chkS (((intS 1048576 S).1 : Int), ((intS 7 (intS 1048576 S).2).1 : Int)) = true := by simp [chkS]; omega
  unfold writeS
  rw [if_pos hk]
  exact hb hf
 ·
  rw [if_pos h0] at hf
  exact absurd hf h0
theorem readN_fw : ∀ (n : Nat) (S : Rs), Fw S (readN readT n S).2 ((readN readT n S).1.map writeT).flatten ∧ ((readN readT n S).2.fe = 0 → (readN readT n S).1.length = n)
 | 0, S => ⟨Fw.refl S, fun _ => rfl⟩
 | n + 1, S => by
  by_cases h0 : S.fe = 0
  ·
   have e : readN readT (n + 1) S = ((readT S).1 :: (readN readT n (readT S).2).1, (readN readT n (readT S).2).2) := by rw [readN, if_neg (by simp [h0])]
   obtain ⟨h1, h2⟩ := readN_fw n (readT S).2
   rw [e]
   exact ⟨by rw [List.map_cons, List.flatten_cons]; exact (readT_fw S).trans h1, fun hf => by rw [List.length_cons, h2 hf]⟩
  ·
   rw [readN_bad h0]
   exact ⟨fun hf => absurd hf h0, fun hf => absurd hf h0⟩
theorem readZs_fw : ∀ (n : Nat) (S : Rs), Fw S (readZs n S).2 (writeZs (readZs n S).1)
 | 0, S => Fw.refl S
 | n + 1, S => by
  have h1 := (readZs_fw n S).trans (intS_fw 7 (readZs n S).2)
  have e : writeZs (readZs (n + 1) S).1 = writeZs (readZs n S).1 ++ numB (intS 7 (readZs n S).2).1 := by simp [readZs, writeZs]
  rw [e]
  exact h1
end Go.Proofs.YtfhandglpjnonaaGreatDoor
