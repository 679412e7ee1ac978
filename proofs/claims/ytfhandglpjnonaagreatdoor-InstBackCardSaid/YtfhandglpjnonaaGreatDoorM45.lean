/- Keys: plain words; what the library's search by runes tells of a text. obj.inPart, obj.Key and the document's: the kind of the object of a key. -/
import Derived.Test.YtfhandglpjnonaaGreatDoorN16
import Derived.Shelf.GgClosure.StringsIndexFunc
import Derived.Lib.TrimUEq
set_option maxRecDepth 100000
set_option maxHeartbeats 16000000
namespace Go.Proofs.YtfhandglpjnonaaGreatDoor
open Go.RowKit Go.Lib
def kindC (c : UInt8) : Int := if c = 114 then 1 else if c = 99 then 2 else if c = 115 then 3 else if c = 109 then 4 else 0
def fc : Nat → UInt8 → List UInt8 → UInt8
 | _, f, [] => f
 | n, f, c :: s => if okC c then fc (n + 1) (if n = 0 then c else f) s else fc 0 f s
def keyE (s : List UInt8) : Int := if 24 < s.length then 8 else if pre 0 s = true then (if kindC (fc 0 0 s) = 0 then 5 else 0) else 3
def keyK (s : List UInt8) : Int := if 24 < s.length then 0 else if pre 0 s = true then kindC (fc 0 0 s) else 0
theorem fc_part : ∀ (s : List UInt8) (n : Nat) (f : UInt8), s.all okC = true → fc n f s = if n = 0 then s.headD f else f
 | [], n, f, _ => by simp [fc]
 | c :: s, n, f, h => by
  rw [List.all_cons, Bool.and_eq_true] at h
  rw [fc, if_pos h.1, fc_part s (n + 1) _ h.2, if_neg (by omega)]
  by_cases hn : n = 0
  ·
   simp [hn]
  ·
   simp [hn]
theorem fc_slash : ∀ (u v : List UInt8) (n : Nat) (f : UInt8), u.all okC = true → fc n f (u ++ 47 :: v) = fc 0 (fc n f u) v
 | [], v, n, f, _ => by simp [fc, okC_slash]
 | c :: u, v, n, f, h => by
  rw [List.all_cons, Bool.and_eq_true] at h
  rw [List.cons_append, fc, if_pos h.1, fc_slash u v (n + 1) _ h.2, fc, if_pos h.1]
theorem splitK_last : ∀ (f : Nat) (s : List UInt8), s.length < f → pre 0 s = true → ∀ g, ∃ p l, splitK [47] 0 (countFrom [47] f s) s = l ++ [p] ∧ p ≠ [] ∧ p.headD 0 = fc 0 g s
 | 0, _, h, _, _ => by omega
 | f + 1, s, h, hp, g => by
  rw [countFrom]
  rcases index_slash s with ⟨h1, h2⟩ | ⟨u, v, rfl, h2, h3⟩
  ·
   rw [if_pos (by simp [h1]), splitK]
   rw [pre_part s 0 h2, Bool.and_eq_true, decide_eq_true_eq] at hp
   refine ⟨s, [], rfl, fun e => by rw [e] at hp; simp at hp, ?_⟩
   rw [fc_part s 0 g hp.1, if_pos rfl]
   cases s with
   | nil => simp at hp
   | cons c s => rfl
  ·
   rw [if_neg (by simp [h3]), Nat.add_comm, splitK, if_neg (by simp [h3]), h3]
   rw [pre_slash u v 0 h2, Bool.and_eq_true, Bool.and_eq_true] at hp
   have e1 : (u ++ 47 :: v).take (((u.length : Nat) : Int).toNat + 0) = u := by simp
   have e2 : (u ++ 47 :: v).drop (((u.length : Nat) : Int).toNat + [(47 : UInt8)].length) = v := by simp
   rw [e1, e2]
   obtain ⟨p, l, k1, k2, k3⟩ := splitK_last f v (by simp at h; omega) hp.2 (fc 0 g u)
   exact ⟨p, u :: l, by rw [k1]; rfl, k2, by rw [k3, fc_slash u v 0 g hp.1.1]⟩
theorem split_last (s : List UInt8) (h : pre 0 s = true) : ∃ p l, split s [47] = l ++ [p] ∧ p ≠ [] ∧ p.headD 0 = fc 0 0 s := splitK_last (s.length + 1) s (by omega) h 0
def badR (r : Nat) : Bool := decide (127 < r) || !okC (UInt8.ofNat r)
theorem decodeN_big {n b0 b1 b2 b3 : Nat} (h : ¬ b0 < 128) : 128 ≤ (decodeN n b0 b1 b2 b3).1 := by
 unfold decodeN
 rw [if_neg h]
 (repeat' split) <;> dsimp only <;> omega
theorem okC_small {c : UInt8} (h : okC c = true) : c.toNat < 128 := by
 unfold okC at h
 rw [decide_eq_true_eq] at h
 omega
theorem idx_all (s : ByteArray) : ∀ (f pos : Nat), s.size ≤ pos + f → decide (0 ≤ idxFuncFrom badR true s f pos) = !((s.data.toList.drop pos).all okC)
 | 0, pos, h => by
  rw [idxFuncFrom, List.drop_of_length_le (by rw [Array.length_toList]; exact h)]
  rfl
 | f + 1, pos, h => by
  rw [idxFuncFrom]
  by_cases hp : pos < s.size
  ·
   rw [if_pos hp]
   have hlen : pos < s.data.toList.length := by rw [Array.length_toList]; exact hp
   have hd : s.data.toList.getD pos 0 = s.data.toList[pos] := by rw [List.getD_eq_getElem?_getD, List.getElem?_eq_getElem hlen]; rfl
   rw [List.drop_eq_getElem_cons hlen, List.all_cons, decode_N, hd]
   generalize hc : s.data.toList[pos] = c
   by_cases h128 : c.toNat < 128
   ·
    have hdec : ∀ n b1 b2 b3, decodeN n c.toNat b1 b2 b3 = (c.toNat, 1) := fun n b1 b2 b3 => by unfold decodeN; rw [if_pos h128]
    rw [hdec]
    dsimp only
    have hof : UInt8.ofNat c.toNat = c := by simp
    have hb : badR c.toNat = !okC c := by unfold badR; rw [hof, decide_eq_false (by omega), Bool.false_or]
    rw [hb]
    cases ho : okC c with
    | false => simp
    | true =>
     simp only [Bool.not_true, Bool.false_eq_true, if_false, Bool.true_and]
     exact idx_all s f (pos + 1) (by omega)
   ·
    have hbig := decodeN_big (n := s.data.toList.length - pos) (b1 := (s.data.toList.getD (pos + 1) 0).toNat) (b2 := (s.data.toList.getD (pos + 2) 0).toNat) (b3 := (s.data.toList.getD (pos + 3) 0).toNat) h128
    have hb : badR (decodeN (s.data.toList.length - pos) c.toNat (s.data.toList.getD (pos + 1) 0).toNat (s.data.toList.getD (pos + 2) 0).toNat (s.data.toList.getD (pos + 3) 0).toNat).1 = true := by
     unfold badR; rw [decide_eq_true (by omega), Bool.true_or]
    rw [hb]
    have ho : okC c = false := by
     rw [Bool.eq_false_iff]; intro h; exact h128 (okC_small h)
    rw [ho]
    simp
  ·
   rw [if_neg hp, List.drop_of_length_le (by rw [baH_len]; omega)]
   rfl
end Go.Proofs.YtfhandglpjnonaaGreatDoor
namespace Go.Proofs.YtfhandglpjnonaaGreatDoor
open Go.RowKit
section
open Go.Shelf Go.Lib
def sh_lays315_ren : Go.Shelf.Ren := ⟨fun | 315 => 172 | n => n, fun | 0 => 0 | 3 => 3 | 4 => 4 | 9 => 9 | 21 => 21 | 40 => 255 | n => n, fun | n => n⟩
theorem sh_lays315 : Go.Proofs.Lays.n315 Tryz.prog sh_lays315_ren := {
 mixed := by kernel_rfl
 f315 := Tryz.func172.trans (congrArg some (by kernel_rfl))
 t0 := Tryz.underlying0
 a0 := Tryz.isAgg0
 z0 := Tryz.sizeOf0
 v0 := Tryz.zeroValue0
 t3 := Tryz.underlying3
 a3 := Tryz.isAgg3
 z3 := Tryz.sizeOf3
 v3 := Tryz.zeroValue3
 t4 := Tryz.underlying4
 a4 := Tryz.isAgg4
 z4 := Tryz.sizeOf4
 v4 := Tryz.zeroValue4
 t9 := Tryz.underlying9
 a9 := Tryz.isAgg9
 z9 := Tryz.sizeOf9
 v9 := Tryz.zeroValue9
 t21 := Tryz.underlying21
 a21 := Tryz.isAgg21
 z21 := Tryz.sizeOf21
 v21 := Tryz.zeroValue21
 t40 := Tryz.underlying255
 a40 := Tryz.isAgg255
 z40 := Tryz.sizeOf255
 v40 := Tryz.zeroValue255 }
end
theorem inpart_any (c : UInt8) (w : World) :
 Calls Tryz.prog 163 #[.int .u8 (c.toNat : Int)] w fun e w' => e = .returned (.bool (okC c)) ∧ w = w' := by
 have hc : c.toNat < 256 := c.toNat_lt
 cases ho : okC c with
 | true =>
  have hcc := (okC_iff c).1 ho
  clear ho
  by_cases ha : 97 ≤ c.toNat
  ·
   have d1 : decide ((97 : Int) ≤ (c.toNat : Int)) = true := decide_eq_true (by omega)
   have d2 : decide ((c.toNat : Int) ≤ 122) = true := decide_eq_true (by omega)
   clear hcc
   go_enter Tryz.func163, Tryz.ntmps163
   go_wp2
   go_ret
   exact ⟨rfl, rfl⟩
  ·
   have d1 : decide ((97 : Int) ≤ (c.toNat : Int)) = false := decide_eq_false (by omega)
   have d3 : decide ((48 : Int) ≤ (c.toNat : Int)) = true := decide_eq_true (by omega)
   have d4 : decide ((c.toNat : Int) ≤ 57) = true := decide_eq_true (by omega)
   clear hcc
   go_enter Tryz.func163, Tryz.ntmps163
   go_wp2
   go_ret
   exact ⟨rfl, rfl⟩
 | false =>
  have hcc := (okC_no c).1 ho
  clear ho
  by_cases ha : 97 ≤ c.toNat
  ·
   have d1 : decide ((97 : Int) ≤ (c.toNat : Int)) = true := decide_eq_true (by omega)
   have d2 : decide ((c.toNat : Int) ≤ 122) = false := decide_eq_false (by omega)
   have d3 : decide ((48 : Int) ≤ (c.toNat : Int)) = true := decide_eq_true (by omega)
   have d4 : decide ((c.toNat : Int) ≤ 57) = false := decide_eq_false (by omega)
   clear hcc
   go_enter Tryz.func163, Tryz.ntmps163
   go_wp2
   go_ret
   exact ⟨rfl, rfl⟩
  ·
   by_cases hb : 48 ≤ c.toNat
   ·
    have d1 : decide ((97 : Int) ≤ (c.toNat : Int)) = false := decide_eq_false (by omega)
    have d3 : decide ((48 : Int) ≤ (c.toNat : Int)) = true := decide_eq_true (by omega)
    have d4 : decide ((c.toNat : Int) ≤ 57) = false := decide_eq_false (by omega)
    clear hcc
    go_enter Tryz.func163, Tryz.ntmps163
    go_wp2
    go_ret
    exact ⟨rfl, rfl⟩
   ·
    have d1 : decide ((97 : Int) ≤ (c.toNat : Int)) = false := decide_eq_false (by omega)
    have d3 : decide ((48 : Int) ≤ (c.toNat : Int)) = false := decide_eq_false (by omega)
    clear hcc
    go_enter Tryz.func163, Tryz.ntmps163
    go_wp2
    go_ret
    exact ⟨rfl, rfl⟩
theorem okey1_any (r : Nat) (w : World) :
 Calls Tryz.prog 162 #[.int .i32 (r : Int)] w fun e w' => e = .returned (.bool (badR r)) ∧ w = w' := by
 by_cases h : 127 < r
 ·
  have hb : badR r = true := by unfold badR; rw [decide_eq_true h, Bool.true_or]
  rw [hb]
  have d1 : decide ((127 : Int) < (r : Int)) = true := decide_eq_true (by omega)
  clear hb
  go_enter Tryz.func162, Tryz.ntmps162
  go_wp2
  go_ret
  exact ⟨rfl, rfl⟩
 ·
  have hb : badR r = !okC (UInt8.ofNat r) := by unfold badR; rw [decide_eq_false h, Bool.false_or]
  rw [hb]
  have d1 : decide ((127 : Int) < (r : Int)) = false := decide_eq_false (by omega)
  have hc := inpart_any (UInt8.ofNat r)
  have hn : (UInt8.ofNat r).toNat = r := by simp; omega
  rw [hn] at hc
  have hwr : IntKind.u8.wrap (r : Int) = (r : Int) := IntWalk.u8_in _ (by omega)
  generalize okC (UInt8.ofNat r) = b at hc ⊢
  have hcH := jH hc
  clear hb hn hc
  go_enter Tryz.func162, Tryz.ntmps162
  go_wp2_with fail
  refine (hcH.out _).mono ?_
  rintro e w' ⟨rfl, rfl⟩
  go_wp2
  go_ret
  exact ⟨rfl, rfl⟩
theorem idxfn_any (s : ByteArray) (w : World) :
 Calls Tryz.prog 161 #[.string s, .func (.func 162) #[] #[]] w fun e w' => e = .returned (.int .i64 (Lib.idxFunc badR true s)) ∧ Below w.heap.size w w' := by
 have cI := Any.strings_indexFunc sh_lays315 162 #[] (enters_of Tryz.func162 (by kernel_rfl) rfl) badR true s w (fun W x _ => (okey1_any x W).mono fun e w' ⟨he, hw⟩ => ⟨he, 0, hw.symm⟩)
 change Calls Tryz.prog 172 _ _ _ at cI
 generalize Lib.idxFunc badR true s = r at cI
 have cI := jH cI
 go_enter Tryz.func161, Tryz.ntmps161
 go_wp2_with fail
 refine cI.out.mono ?_
 rintro e w' ⟨rfl, hb⟩
 go_wp2
 go_ret
 exact ⟨rfl, hb⟩
theorem bs_head (c : UInt8) (s : List UInt8) (h : 0 < (bs (c :: s)).size) : (bs (c :: s))[0] = c := rfl
theorem okey_any (s : List UInt8) (hs : s.length ≤ maxLen) (w : World) (hv : VarM w) :
 Calls Tryz.prog 141 #[.string (bs s)] w fun e w' => e = .returned (.tuple #[.int .i64 (keyK s), .int .i64 (keyE s)]) ∧ Below w.heap.size w w' := by
 unfold maxLen at hs
 generalize hk : keyK s = kk
 generalize he : keyE s = ke
 unfold keyK at hk
 unfold keyE at he
 have zs := jG s
 by_cases h24 : 24 < s.length
 ·
  rw [if_pos h24] at hk he
  subst hk
  subst he
  have hd : decide ((24 : Int) < (((bs s).size : Nat) : Int)) = true := decide_eq_true (by omega)
  clear zs h24
  go_enter Tryz.func141, Tryz.ntmps141
  go_wp2
  refine bodyPost_ret (v := .tuple #[.int .i64 0, .int .i64 8]) (by simp [results, Tryz.results141, go_sem]) rfl ⟨rfl, Below.refl _ _⟩
 rw [if_neg h24] at hk he
 have hd : decide ((24 : Int) < (((bs s).size : Nat) : Int)) = false := decide_eq_false (by omega)
 have hsp := splitS_any s (by omega) w hv
 have hpl := splitK_le (Lib.countFrom [47] (s.length + 1) s) s
 have hall := split_parts s
 have hnl : pre 0 s = true → ∃ p l, Lib.split s [47] = l ++ [p] ∧ p ≠ [] ∧ p.headD 0 = fc 0 0 s := split_last s
 have hpl2 : ∀ x ∈ Lib.split s [47], x.length ≤ 24 := fun x hx => Nat.le_trans (hpl x hx) (by omega)
 generalize Lib.split s [47] = qs at hsp hall hnl hpl2
 have hkH := jH hk
 have heH := jH he
 have hallH := jH hall
 have hnlH := jH hnl
 have hplH := jH hpl2
 clear hk he hpl hall hnl hpl2 h24 zs
 go_enter Tryz.func141, Tryz.ntmps141
 go_wp2_with fail
 refine hsp.mono ?_
 rintro e w1 ⟨A, n, c, rfl, hA, hn, hb1⟩
 unfold maxLen at hn
 have hlH := jH hA.len
 clear hsp
 go_wp2_with fail
 go_loopg [14] (n + 1) (fun g i wr => ∃ k : Nat, k ≤ n ∧ g = n + 1 - k ∧ i = .int .i64 (k : Int) ∧ (∀ u ∈ qs.take k, partB u = true) ∧ Below w1.heap.size w1 wr)
 case atStart => exact ⟨0, Nat.zero_le _, rfl, rfl, by simp, Below.refl _ _⟩
 case round =>
  obtain ⟨k, hk, rfl, rfl, hno, hbr⟩ := hrel
  have hz := hbr.size
  have hG := hb1.trans (hbr.mono hb1.size)
  have hAr := (hA.below hbr).more hz
  have hnoH := jH hno
  clear hno
  by_cases hlt : k < n
  ·
   obtain ⟨bA, oA, u, rfl, hbA, hq, hcp⟩ := hAr.at_ hlt
   have p0 := hcp 0 _ rfl
   rw [Nat.add_zero, Nat.mul_one] at p0
   clear hcp
   have hbA2 : bA < wr.heap.size := by omega
   have hlti : (k : Int) < (n : Int) := by omega
   have hum := List.mem_of_getElem? hq
   have hqH := jH hq
   clear hq
   by_cases h0 : u = []
   ·
    have hT : Hid (kk = 0 ∧ ke = 3) := jH (by
     have : pre 0 s = false := by rw [← hallH.out, List.all_eq_false]; exact ⟨u, hum, by rw [h0]; simp [partB]⟩
     exact ⟨by rw [← hkH.out, this]; rfl, by rw [← heH.out, this]; rfl⟩)
    subst h0
    clear hum
    rw [bs_nil] at p0
    go_wp2
    refine bodyPost_ret (v := .tuple #[.int .i64 0, .int .i64 3]) (by simp [results, Tryz.results141, go_sem]) rfl ⟨by rw [hT.out.1, hT.out.2], hG⟩
   ·
    have hne : (bs u).toList.isEmpty = false := by rw [bs_emptyH, List.isEmpty_eq_false_iff]; exact h0
    have hne2 : ((bs u).toList == []) = false := by rw [bs_emptyH, beq_eq_false_iff_ne]; exact h0
    have ci := jH (fun w' => idxfn_any (bs u) w')
    have hix : decide (0 ≤ Lib.idxFunc badR true (bs u)) = !(u.all okC) := by
     have := idx_all (bs u) (bs u).size 0 (by omega)
     rw [List.drop_zero] at this
     exact this
    generalize Lib.idxFunc badR true (bs u) = r at ci hix
    cases ho : u.all okC with
    | false =>
     rw [ho] at hix
     have hT : Hid (kk = 0 ∧ ke = 3) := jH (by
      have : pre 0 s = false := by rw [← hallH.out, List.all_eq_false]; exact ⟨u, hum, by simp [partB, ho]⟩
      exact ⟨by rw [← hkH.out, this]; rfl, by rw [← heH.out, this]; rfl⟩)
     have hix2 : decide ((0 : Int) ≤ r) = true := hix
     clear hix ho hum
     go_wp2_with fail
     refine (ci.out _).mono ?_
     rintro e w2 ⟨rfl, hb2⟩
     have hG2 := hG.trans (hb2.mono hG.size)
     go_wp2
     refine bodyPost_ret (v := .tuple #[.int .i64 0, .int .i64 3]) (by simp [results, Tryz.results141, go_sem]) rfl ⟨by rw [hT.out.1, hT.out.2], hG2⟩
    | true =>
     rw [ho] at hix
     have hpb : partB u = true := by
      unfold partB; rw [ho, show u.isEmpty = false from by rw [List.isEmpty_eq_false_iff]; exact h0]; rfl
     have hT : Hid (∀ x ∈ qs.take (k + 1), partB x = true) := jH (all_take_succ hnoH.out hqH.out hpb)
     have hix2 : decide ((0 : Int) ≤ r) = false := hix
     clear hix ho hum hpb
     go_wp2_with fail
     refine (ci.out _).mono ?_
     rintro e w2 ⟨rfl, hb2⟩
     have hG2 := hbr.trans (hb2.mono hz)
     go_wp2
     go_roundg (n + 1 - (k + 1))
     case measure => omega
     case rel => exact ⟨k + 1, by omega, rfl, by go_num, hT.out, hG2⟩
  ·
   obtain rfl : k = n := by omega
   have hnli : ¬ (k : Int) < (k : Int) := by omega
   have hpre : pre 0 s = true := by rw [← hallH.out]; exact List.all_eq_true.2 (all_take_all hnoH.out hlH.out)
   obtain ⟨p, l, hql, hp0, hph⟩ := hnlH.out hpre
   obtain ⟨m, rfl⟩ : ∃ m, k = m + 1 := ⟨l.length, by rw [← hlH.out, hql, List.length_append]; rfl⟩
   have hkk : Hid (kindC (fc 0 0 s) = kk) := jH (by have := hkH.out; rw [if_pos hpre] at this; exact this)
   have hke : Hid ((if kindC (fc 0 0 s) = 0 then 5 else 0) = ke) := jH (by have := heH.out; rw [if_pos hpre] at this; exact this)
   obtain ⟨bA, oA, u, rfl, hbA, hq, hcp⟩ := hAr.at_ (Nat.lt_succ_self m)
   have hum : u = p := by
    rw [hql] at hq
    have hml : m = l.length := by have := hlH.out; rw [hql, List.length_append] at this; simp at this; omega
    rw [hml] at hq
    simp at hq
    exact hq.symm
   subst hum
   have p0 := hcp 0 _ rfl
   rw [Nat.add_zero, Nat.mul_one] at p0
   clear hcp hq hql
   have hbA2 : bA < wr.heap.size := by omega
   obtain ⟨c0, u', rfl⟩ : ∃ c0 u', u = c0 :: u' := by cases u with | nil => exact absurd rfl hp0 | cons c u => exact ⟨c, u, rfl⟩
   have hc0 : c0 = fc 0 0 s := hph
   rw [← hc0] at hkk hke
   have hw1 : IntKind.i64.wrap (((m + 1 : Nat) : Int) - 1) = (m : Int) := by rw [IntWalk.i64_in _ (by omega)]; omega
   have hsz0 : 0 < (bs (c0 :: u')).size := by rw [jG]; simp
   have hhd := bs_head c0 u' hsz0
   clear hp0 hph hc0 hpre
   skip
   by_cases h1 : c0 = 114
   ·
    have d1 : (((c0.toNat : Int) : Int) == 114) = true := by rw [h1]; rfl
    have hT : Hid (kk = 1 ∧ ke = 0) := jH (by have h2 := hkk.out; have h3 := hke.out; rw [h1] at h2 h3; exact ⟨by simpa [kindC] using h2.symm, by simpa [kindC] using h3.symm⟩)
    go_wp2
    refine bodyPost_ret (v := .tuple #[.int .i64 1, .int .i64 0]) (by simp [results, Tryz.results141, go_sem]) rfl (by rw [hT.out.1, hT.out.2]; exact ⟨rfl, hG⟩)
   have d1 : (((c0.toNat : Int) : Int) == 114) = false := by rw [beq_eq_false_iff_ne]; intro e; exact h1 (UInt8.toNat_inj.1 (by show _ = 114; omega))
   by_cases h2 : c0 = 99
   ·
    have d2 : (((c0.toNat : Int) : Int) == 99) = true := by rw [h2]; rfl
    have hT : Hid (kk = 2 ∧ ke = 0) := jH (by have h3 := hkk.out; have h4 := hke.out; rw [h2] at h3 h4; exact ⟨by simpa [kindC] using h3.symm, by simpa [kindC] using h4.symm⟩)
    go_wp2
    refine bodyPost_ret (v := .tuple #[.int .i64 2, .int .i64 0]) (by simp [results, Tryz.results141, go_sem]) rfl (by rw [hT.out.1, hT.out.2]; exact ⟨rfl, hG⟩)
   have d2 : (((c0.toNat : Int) : Int) == 99) = false := by rw [beq_eq_false_iff_ne]; intro e; exact h2 (UInt8.toNat_inj.1 (by show _ = 99; omega))
   by_cases h3 : c0 = 115
   ·
    have d3 : (((c0.toNat : Int) : Int) == 115) = true := by rw [h3]; rfl
    have hT : Hid (kk = 3 ∧ ke = 0) := jH (by have h4 := hkk.out; have h5 := hke.out; rw [h3] at h4 h5; exact ⟨by simpa [kindC] using h4.symm, by simpa [kindC] using h5.symm⟩)
    go_wp2
    refine bodyPost_ret (v := .tuple #[.int .i64 3, .int .i64 0]) (by simp [results, Tryz.results141, go_sem]) rfl (by rw [hT.out.1, hT.out.2]; exact ⟨rfl, hG⟩)
   have d3 : (((c0.toNat : Int) : Int) == 115) = false := by rw [beq_eq_false_iff_ne]; intro e; exact h3 (UInt8.toNat_inj.1 (by show _ = 115; omega))
   by_cases h4 : c0 = 109
   ·
    have d4 : (((c0.toNat : Int) : Int) == 109) = true := by rw [h4]; rfl
    have hT : Hid (kk = 4 ∧ ke = 0) := jH (by have h5 := hkk.out; have h6 := hke.out; rw [h4] at h5 h6; exact ⟨by simpa [kindC] using h5.symm, by simpa [kindC] using h6.symm⟩)
    go_wp2
    refine bodyPost_ret (v := .tuple #[.int .i64 4, .int .i64 0]) (by simp [results, Tryz.results141, go_sem]) rfl (by rw [hT.out.1, hT.out.2]; exact ⟨rfl, hG⟩)
   have d4 : (((c0.toNat : Int) : Int) == 109) = false := by rw [beq_eq_false_iff_ne]; intro e; exact h4 (UInt8.toNat_inj.1 (by show _ = 109; omega))
   have hT : Hid (kk = 0 ∧ ke = 5) := jH (by have h5 := hkk.out; have h6 := hke.out; exact ⟨by rw [← h5]; simp [kindC, h1, h2, h3, h4], by rw [← h6]; simp [kindC, h1, h2, h3, h4]⟩)
   go_wp2
   refine bodyPost_ret (v := .tuple #[.int .i64 0, .int .i64 5]) (by simp [results, Tryz.results141, go_sem]) rfl (by rw [hT.out.1, hT.out.2]; exact ⟨rfl, hG⟩)
end Go.Proofs.YtfhandglpjnonaaGreatDoor
