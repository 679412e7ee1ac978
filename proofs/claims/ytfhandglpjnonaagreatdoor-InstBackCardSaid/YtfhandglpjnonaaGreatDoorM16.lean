/- octet.number: the number at the front of bytes. The program's reader: what it holds, Fail. The program's reader: next, Num, Int. -/
import Derived.Test.YtfhandglpjnonaaGreatDoorN02
import Derived.Laws.BitsAllLaws
import Derived.Deep.QuietTactic
import Derived.Shelf.Abstract
set_option maxRecDepth 100000
set_option maxHeartbeats 16000000
namespace Go.Proofs.YtfhandglpjnonaaGreatDoor
open Go.RowKit
theorem ba_len (s : ByteArray) : s.data.toList.length = s.size := by rw [Array.length_toList]; rfl
theorem ba_get (s : ByteArray) {i : Nat} (h : i < s.size) : s.data.toList[i]? = some s[i] := by
 rw [List.getElem?_eq_getElem (by rw [ba_len]; exact h)]
 rfl
theorem ba_ne {s : ByteArray} (h : 0 < s.size) : s.toList.isEmpty = false := by
 rw [ByteArray.toList_eq, List.isEmpty_eq_false_iff]
 intro h0
 have := ba_len s
 rw [h0] at this
 simp at this; omega
theorem or256 (v c : Nat) (hv : v < 72057594037927936) (hc : c < 256) : bits .or .u64 ((v : Int) * 256) (c : Int) = ((v * 256 + c : Nat) : Int) := by
 have h := u64_or_nat (v * 256) c (by omega) (by omega)
 rw [show ((v * 256 : Nat) : Int) = (v : Int) * 256 from by omega] at h
 rw [h]
 congr 1
 rw [show v * 256 = v <<< 8 from by rw [Nat.shiftLeft_eq], Nat.shiftLeft_add_eq_or_of_lt (by simpa using hc)]
theorem number_any (s : ByteArray) (hs : s.size ≤ 1099511627776) (w : World) :
 Calls Tryz.prog 132 #[.string s] w fun e w' => e = .returned (.tuple #[.int .u64 ((numR s.data.toList).1 : Int), .int .i64 ((numR s.data.toList).2.1 : Int), .int .i64 (numR s.data.toList).2.2]) ∧ w = w' := by
 have hl := ba_len s
 by_cases h0 : s.size = 0
 ·
  have : s = ⟨#[]⟩ := by
   rw [← bs_of s, List.eq_nil_of_length_eq_zero (hl.trans h0)]; rfl
  subst this
  clear hl
  go_enter Tryz.func132, Tryz.ntmps132
  go_wp2
  exact bodyPost_ret (v := .tuple #[.int .u64 0, .int .i64 0, .int .i64 1]) (by simp [results, Tryz.results132, go_sem]) rfl ⟨rfl, rfl⟩
 ·
  have hpos : 0 < s.size := by omega
  have hcons : s.data.toList = s[0] :: s.data.toList.tail := by
   have := ba_get s hpos
   cases hd : s.data.toList with
   | nil => rw [hd] at this; cases this
   | cons a r => rw [hd] at this; simp at this; rw [this]; rfl
  obtain ⟨v, m, er, hr⟩ : ∃ v m er, numR s.data.toList = (v, m, er) := ⟨_, _, _, rfl⟩
  rw [hr]
  rw [hcons] at hr
  simp only [numR, List.length_tail, hl] at hr
  have hne := ba_ne hpos
  have hc256 := s[0].toNat_lt
  have hpi : (0 : Int) < (s.size : Int) := by omega
  by_cases h8 : 8 < s[0].toNat
  ·
   rw [if_pos h8] at hr
   injection hr with hv hr
   injection hr with hm he
   subst hv hm he
   have h8i : decide ((9 : Int) < 1 + (s[0].toNat : Int)) = true := decide_eq_true (by omega)
   clear hcons hl h0
   go_enter Tryz.func132, Tryz.ntmps132
   go_wp2
   exact bodyPost_ret (v := .tuple #[.int .u64 0, .int .i64 0, .int .i64 3]) (by simp [results, Tryz.results132, go_sem]) rfl ⟨rfl, rfl⟩
  ·
   rw [if_neg h8] at hr
   have h8i : decide ((9 : Int) < 1 + (s[0].toNat : Int)) = false := decide_eq_false (by omega)
   by_cases h9 : s.size - 1 < s[0].toNat
   ·
    rw [if_pos h9] at hr
    injection hr with hv hr
    injection hr with hm he
    subst hv hm he
    have h9i : decide ((s.size : Int) < 1 + (s[0].toNat : Int)) = true := decide_eq_true (by omega)
    clear hcons hl h0
    go_enter Tryz.func132, Tryz.ntmps132
    go_wp2
    exact bodyPost_ret (v := .tuple #[.int .u64 0, .int .i64 0, .int .i64 1]) (by simp [results, Tryz.results132, go_sem]) rfl ⟨rfl, rfl⟩
   ·
    rw [if_neg h9] at hr
    have h9i : decide ((s.size : Int) < 1 + (s[0].toNat : Int)) = false := decide_eq_false (by omega)
    by_cases hz : 0 < s[0].toNat
    ·
     have h1 : 1 < s.size := by omega
     have hhead : s.data.toList.tail.head? = some s[1] := by
      have h2 := ba_get s h1
      rw [hcons] at h2
      rw [List.head?_eq_getElem?]
      simpa using h2
     have hzi : decide ((1 : Int) < 1 + (s[0].toNat : Int)) = true := decide_eq_true (by omega)
     by_cases hb0 : s[1] = 0
     ·
      rw [if_pos ⟨hz, by rw [hhead, hb0]⟩] at hr
      injection hr with hv hr
      injection hr with hm he
      subst hv hm he
      have hb1 : (s[1].toNat : Int) = 0 := by rw [hb0]; rfl
      have hone : (1 : Int) < (s.size : Int) := by omega
      clear hcons hl h0 hhead hb0
      go_enter Tryz.func132, Tryz.ntmps132
      go_wp2
      exact bodyPost_ret (v := .tuple #[.int .u64 0, .int .i64 0, .int .i64 3]) (by simp [results, Tryz.results132, go_sem]) rfl ⟨rfl, rfl⟩
     ·
      rw [if_neg (by rw [hhead]; rintro ⟨_, h⟩; injection h with h; exact hb0 h)] at hr
      have hb1 : ((s[1].toNat : Int) == 0) = false := by
       rw [beq_eq_false_iff_ne]; intro h
       exact hb0 (UInt8.toNat_inj.1 (by rw [show (0 : UInt8).toNat = 0 from rfl]; omega))
      have hone : (1 : Int) < (s.size : Int) := by omega
      injection hr with hv hr
      injection hr with hm he
      subst hm he
      have hget : ∀ k, k + 1 < s.size → s.data.toList.tail[k]? = s[k + 1]? := by
       intro k hk
       have h2 := ba_get s hk
       rw [hcons] at h2
       rw [getElem?_pos s (k + 1) hk]
       simpa using h2
      have hgetH := jH hget
      have hvH := jH hv
      have hc8 : s[0].toNat ≤ 8 := by omega
      have hcs : s[0].toNat + 1 ≤ s.size := by omega
      clear hget hv hcons hl h0 h8 h9
      go_enter Tryz.func132, Tryz.ntmps132
      go_wp2_with fail
      go_loopg [2, 5] 9 (fun g x i wr => ∃ (k : Nat), g = 9 - k ∧ k ≤ s[0].toNat ∧ x = .int .u64 (beV (s.data.toList.tail.take k) : Int) ∧ i = .int .i64 (k + 1 : Int) ∧ wr = w)
      case atStart => exact ⟨0, rfl, Nat.zero_le _, rfl, rfl, rfl⟩
      case round =>
       obtain ⟨k, rfl, hk, rfl, rfl, rfl⟩ := hrel
       by_cases hlt : k < s[0].toNat
       ·
        have hk1 : k + 1 < s.size := by omega
        have hki : ((k : Int) + 1) < (s.size : Int) := by omega
        have hst : beV (s.data.toList.tail.take (k + 1)) = beV (s.data.toList.tail.take k) * 256 + s[k + 1].toNat := by
         rw [List.take_add_one, hgetH.out k hk1, getElem?_pos s (k + 1) hk1]
         exact beV_snoc _ _
        have hbd : beV (s.data.toList.tail.take k) < 72057594037927936 := by
         have h1 := beV_lt (s.data.toList.tail.take k)
         have h2 : 256 ^ (s.data.toList.tail.take k).length ≤ 256 ^ 7 := Nat.pow_le_pow_right (by decide) (by rw [List.length_take]; omega)
         omega
        have hstH := jH hst
        have hor := or256 (beV (s.data.toList.tail.take k)) s[k + 1].toNat hbd (by have := s[k + 1].toNat_lt; simpa using this)
        generalize beV (s.data.toList.tail.take k) = x at hbd hor hstH
        have hwr : Hid (IntKind.u64.wrap (s[k + 1].toNat : Int) = s[k + 1].toNat) := jH (IntWalk.u64_in _ (by have := s[k + 1].toNat_lt; omega))
        have hor := jH hor
        clear hst
        go_wp2
        all_goals
         go_roundg (9 - (k + 1))
         case measure => omega
         case rel => exact ⟨k + 1, rfl, by omega, by rw [hwr.out, hor.out, hstH.out], by go_num, rfl⟩
       ·
        obtain rfl : k = s[0].toNat := by omega
        rw [hvH.out]
        go_wp2
        exact bodyPost_ret (v := .tuple #[.int .u64 (v : Int), .int .i64 (1 + (s[0].toNat : Int)), .int .i64 0]) (by simp [results, Tryz.results132, go_sem]) rfl ⟨by simp, rfl⟩
    ·
     rw [if_neg (fun h => hz h.1)] at hr
     have hzi : decide ((1 : Int) < 1 + (s[0].toNat : Int)) = false := decide_eq_false (by omega)
     injection hr with hv hr
     injection hr with hm he
     subst hm he
     have hget : ∀ k, k + 1 < s.size → s.data.toList.tail[k]? = s[k + 1]? := by
      intro k hk
      have h2 := ba_get s hk
      rw [hcons] at h2
      rw [getElem?_pos s (k + 1) hk]
      simpa using h2
     have hgetH := jH hget
     have hvH := jH hv
     have hc8 : s[0].toNat ≤ 8 := by omega
     have hcs : s[0].toNat + 1 ≤ s.size := by omega
     clear hget hv hcons hl h0 h8 h9
     go_enter Tryz.func132, Tryz.ntmps132
     go_wp2_with fail
     go_loopg [2, 5] 9 (fun g x i wr => ∃ (k : Nat), g = 9 - k ∧ k ≤ s[0].toNat ∧ x = .int .u64 (beV (s.data.toList.tail.take k) : Int) ∧ i = .int .i64 (k + 1 : Int) ∧ wr = w)
     case atStart => exact ⟨0, rfl, Nat.zero_le _, rfl, rfl, rfl⟩
     case round =>
      obtain ⟨k, rfl, hk, rfl, rfl, rfl⟩ := hrel
      by_cases hlt : k < s[0].toNat
      ·
       have hk1 : k + 1 < s.size := by omega
       have hki : ((k : Int) + 1) < (s.size : Int) := by omega
       have hst : beV (s.data.toList.tail.take (k + 1)) = beV (s.data.toList.tail.take k) * 256 + s[k + 1].toNat := by
        rw [List.take_add_one, hgetH.out k hk1, getElem?_pos s (k + 1) hk1]
        exact beV_snoc _ _
       have hbd : beV (s.data.toList.tail.take k) < 72057594037927936 := by
        have h1 := beV_lt (s.data.toList.tail.take k)
        have h2 : 256 ^ (s.data.toList.tail.take k).length ≤ 256 ^ 7 := Nat.pow_le_pow_right (by decide) (by rw [List.length_take]; omega)
        omega
       have hstH := jH hst
       have hor := or256 (beV (s.data.toList.tail.take k)) s[k + 1].toNat hbd (by have := s[k + 1].toNat_lt; simpa using this)
       generalize beV (s.data.toList.tail.take k) = x at hbd hor hstH
       have hwr : Hid (IntKind.u64.wrap (s[k + 1].toNat : Int) = s[k + 1].toNat) := jH (IntWalk.u64_in _ (by have := s[k + 1].toNat_lt; omega))
       have hor := jH hor
       clear hst
       go_wp2
       all_goals
        go_roundg (9 - (k + 1))
        case measure => omega
        case rel => exact ⟨k + 1, rfl, by omega, by rw [hwr.out, hor.out, hstH.out], by go_num, rfl⟩
      ·
       obtain rfl : k = s[0].toNat := by omega
       rw [hvH.out]
       go_wp2
       exact bodyPost_ret (v := .tuple #[.int .u64 (v : Int), .int .i64 (1 + (s[0].toNat : Int)), .int .i64 0]) (by simp [results, Tryz.results132, go_sem]) rfl ⟨by simp, rfl⟩
def ErrP (w : World) (ev : Value) (fa fe : Int) : Prop :=
 (fe = 0 ∧ ev = .nilIface) ∨ (fe ≠ 0 ∧ ∃ F, ev = .iface 125 (.pointer (some ⟨F, 0, none⟩)) ∧ w.heap[F]? = some (.cells #[.int .i64 fa, .iface 40 (.int .i64 fe)] 129 (0, 0)))
def RdrP (w : World) (B : Nat) (S : Rs) : Prop :=
 ∃ ev, w.heap[B]? = some (.cells #[.string (bs S.l), .int .i64 (S.a : Int), ev] 176 (0, 0)) ∧ ErrP w ev S.fa S.fe
theorem ErrP.mono {w w' : World} {ev : Value} {fa fe : Int} (h : ErrP w ev fa fe) (hk : ∀ (F : Nat) (cs : Array Value), w.heap[F]? = some (Obj.cells cs 129 (0, 0)) → w'.heap[F]? = w.heap[F]?) : ErrP w' ev fa fe := by
 rcases h with h | ⟨hne, F, he, hb⟩
 ·
  exact .inl h
 ·
  exact .inr ⟨hne, F, he, (hk F _ hb).trans hb⟩
theorem ErrP.below {w w' : World} {ev : Value} {fa fe : Int} (h : ErrP w ev fa fe) (hb : Below w.heap.size w w') : ErrP w' ev fa fe := ErrP.mono h fun F _ hF => hb.block F (jB hF)
theorem ErrP.grown {w w' : World} {ev : Value} {fa fe : Int} {row : Option Nat} (h : ErrP w ev fa fe) (hg : w.grownBy w' row) (hr : ∀ g cs, row = some g → w.heap[g]? ≠ some (.cells cs 129 (0, 0))) : ErrP w' ev fa fe :=
 ErrP.mono h fun F cs hF => hg.block F (jB hF) (fun e => hr F cs e.symm hF)
theorem RdrP.below {w w' : World} {B : Nat} {S : Rs} (h : RdrP w B S) (hb : Below w.heap.size w w') : RdrP w' B S := by
 obtain ⟨ev, h1, h2⟩ := h
 exact ⟨ev, jD h1 hb, h2.below hb⟩
theorem RdrP.lt {w : World} {B : Nat} {S : Rs} (h : RdrP w B S) : B < w.heap.size := by obtain ⟨_, h1, _⟩ := h; exact jB h1
theorem RdrP.grown {w w' : World} {B : Nat} {S : Rs} {row : Option Nat} (h : RdrP w B S) (hg : w.grownBy w' row)
 (hr : ∀ g cs t, row = some g → w.heap[g]? = some (.cells cs t (0, 0)) → t ≠ 129 ∧ t ≠ 176) : RdrP w' B S := by
 obtain ⟨ev, h1, h2⟩ := h
 refine ⟨ev, (hg.block B (jB h1) (fun e => (hr B _ _ e.symm h1).2 rfl)).trans h1, h2.grown hg (fun g cs e he => (hr g cs _ e he).1 rfl)⟩
theorem pfail_any (B : Nat) (S : Rs) (e : Int) (w : World) (h : RdrP w B S) :
 Calls Tryz.prog 66 #[.pointer (some ⟨B, 0, none⟩), .int .i64 e] w fun r w' => r = .returned (.tuple #[]) ∧ RdrP w' B (failS S e) ∧ w.grownBy w' (some B) := by
 obtain ⟨ev, hb, he⟩ := h
 have hlt := jB hb
 have q0 := jA hb 0
 have q1 := jA hb 1
 have q2 := jA hb 2
 have hfr := jE hb
 simp at q0 q1 q2
 generalize hS' : failS S e = S'
 unfold failS at hS'
 rcases he with ⟨h0, rfl⟩ | ⟨h0, F, rfl, hF⟩
 ·
  by_cases hez : e = 0
  ·
   subst hez
   rw [if_neg (by simp)] at hS'
   subst hS'
   have hfin : Hid (RdrP w B S) := jH ⟨_, hb, .inl ⟨h0, rfl⟩⟩
   clear hb h0
   go_enter Tryz.func66, Tryz.ntmps66
   go_wp2
   exact bodyPost_end (v := .tuple #[]) (by simp [results, Tryz.results66, go_sem]) rfl ⟨rfl, hfin.out, World.grownBy.refl _ _⟩
  ·
   rw [if_pos ⟨h0, hez⟩] at hS'
   subst hS'
   have hen : (e == 0) = false := by simpa using hez
   have hen2 : (e != 0) = true := by simpa using hez
   have hbH := jH hb
   have hezH := jH hez
   clear hb h0 hez
   go_enter Tryz.func66, Tryz.ntmps66
   go_wp2
   refine bodyPost_end (v := .tuple #[]) (by simp [results, Tryz.results66, go_sem]) rfl ⟨rfl, ⟨_, yE _ (by simpa using hlt) ?_, .inr ⟨hezH.out, w.heap.size, rfl, jT _ _ (by simp)⟩⟩, ?_⟩
   ·
    rw [jO hbH.out]; rfl
   ·
    exact (gr_set (World.grownBy.refl w _) 2 _).trans (World.grownBy_alloc _ _ _)
 ·
  rw [if_neg (fun hh => h0 hh.1)] at hS'
  subst hS'
  have hfin : Hid (RdrP w B S) := jH ⟨_, hb, .inr ⟨h0, F, rfl, hF⟩⟩
  clear hb h0 hF
  go_enter Tryz.func66, Tryz.ntmps66
  go_wp2
  exact bodyPost_end (v := .tuple #[]) (by simp [results, Tryz.results66, go_sem]) rfl ⟨rfl, hfin.out, World.grownBy.refl _ _⟩
def RightF (g : Nat) (pre : Array Value) (right : Nat → Int) : Prop :=
 ∀ v : Nat, v < 18446744073709551616 → ∀ w, Calls Tryz.prog g (pre ++ #[.int .u64 (v : Int)]) w fun e w' => e = .returned (.int .i64 (right v)) ∧ w = w'
theorem bs_drop (l : List UInt8) {a : Nat} : (bs l).extract a (bs l).size = bs (l.drop a) := by
 apply ByteArray.ext
 rw [ByteArray.data_extract, jG]
 simp [bs]
 rw [List.take_of_length_le (by simp)]
theorem Rs.wf_fail {S : Rs} (h : S.wf) (e : Int) : (failS S e).wf := by
 unfold failS
 obtain ⟨h1, h2, h3, h4, h5⟩ := h
 split
 ·
  rename_i hh
  exact ⟨h1, h2, by simp, by simp; omega, fun h => absurd h hh.2⟩
 ·
  exact ⟨h1, h2, h3, h4, h5⟩
theorem nextS_eq {S : Rs} {right : Nat → Int} {v n : Nat} {e : Int} (h0 : S.fe = 0) (hr : numR (S.l.drop S.a) = (v, n, e)) :
 nextS right S = if (if e = 0 then right v else e) ≠ 0 then (0, failS S (if e = 0 then right v else e)) else (v, { S with a := S.a + n }) := by
 unfold nextS
 rw [if_neg (by simp [h0])]
 simp only [hr]
theorem nextS_bad {S : Rs} {right : Nat → Int} (h0 : S.fe ≠ 0) : nextS right S = (0, S) := by
 unfold nextS
 rw [if_pos h0]
theorem Rs.wf_next {S : Rs} (h : S.wf) (right : Nat → Int) : (nextS right S).2.wf := by
 by_cases h0 : S.fe = 0
 ·
  obtain ⟨v, n, e, hr⟩ : ∃ v n e, numR (S.l.drop S.a) = (v, n, e) := ⟨_, _, _, rfl⟩
  have h2 := numR_some hr
  rw [nextS_eq h0 hr]
  by_cases he : e = 0
  ·
   subst he
   by_cases hz : right v = 0
   ·
    rw [if_neg (by simp [hz])]
    have h4 := (h2.2 rfl).1
    rw [List.length_drop] at h4
    obtain ⟨g1, g2, g3, g4, g5⟩ := h
    exact ⟨by simp; omega, g2, g3, g4, g5⟩
   ·
    rw [if_pos (by simpa using hz)]
    exact Rs.wf_fail h _
  ·
   rw [if_pos (by simp [he])]
   exact Rs.wf_fail h _
 ·
  rw [nextS_bad h0]; exact h
theorem yA (m : Nat) (S : Rs) : (intS m S).1 ≤ m := by
 unfold intS
 by_cases h0 : S.fe = 0
 ·
  obtain ⟨v, n, e, hr⟩ : ∃ v n e, numR (S.l.drop S.a) = (v, n, e) := ⟨_, _, _, rfl⟩
  rw [nextS_eq h0 hr]
  by_cases he : e = 0
  ·
   subst he
   by_cases hz : m < v
   ·
    rw [if_pos (by simp [hz])]; exact Nat.zero_le _
   ·
    rw [if_neg (by simp [hz])]; omega
  ·
   rw [if_pos (by simp [he])]; exact Nat.zero_le _
 ·
  rw [nextS_bad h0]; exact Nat.zero_le _
theorem next_any (g : Nat) (pre : Array Value) (right : Nat → Int) (eg : ∀ args w, (callFunc g args).run Tryz.prog w = .ok (.enter g args) w) (hg : RightF g pre right)
 (B : Nat) (S : Rs) (w : World) (h : RdrP w B S) (hS : S.wf) :
 Calls Tryz.prog 101 #[.pointer (some ⟨B, 0, none⟩), .func (.func g) pre #[]] w
  fun r w' => r = .returned (.int .u64 ((nextS right S).1 : Int)) ∧ RdrP w' B (nextS right S).2 ∧ w.grownBy w' (some B) := by
 obtain ⟨v', S', hv⟩ : ∃ v' S', nextS right S = (v', S') := ⟨_, _, rfl⟩
 rw [hv]
 have hR := h
 obtain ⟨ev, hb, he⟩ := h
 have hlt := jB hb
 have q0 := jA hb 0
 have q1 := jA hb 1
 have q2 := jA hb 2
 have hfr := jE hb
 simp at q0 q1 q2
 rcases he with ⟨h0, rfl⟩ | ⟨h0, F, rfl, hF⟩
 ·
  have hsz : (bs S.l).size = S.l.length := jG _
  have ha0 : (0 : Int) ≤ (S.a : Int) := by omega
  have ha1 : (S.a : Int) ≤ ((bs S.l).size : Int) := by have := hS.1; omega
  obtain ⟨v, n, e0, hr⟩ : ∃ v n e0, numR (S.l.drop S.a) = (v, n, e0) := ⟨_, _, _, rfl⟩
  have cN : ∀ w, Calls Tryz.prog 132 #[.string ((bs S.l).extract S.a (bs S.l).size)] w fun e w' => e = .returned (.tuple #[.int .u64 (v : Int), .int .i64 (n : Int), .int .i64 e0]) ∧ w = w' := by
   intro w
   have := number_any ((bs S.l).extract S.a (bs S.l).size) (by rw [bs_drop, jG, List.length_drop]; have := hS.2.1; omega) w
   rw [bs_drop, bs_list, hr] at this
   rw [bs_drop]
   exact this
  have hsome := numR_some hr
  rw [nextS_eq h0 hr] at hv
  have cN := jH cN
  have hgH := jH hg
  have egH := jH eg
  have hRH := jH hR
  have hbH := jH hb
  have hq0 : KQ w.heap.size w w := kq (Below.refl _ _)
  clear hR hb hg eg hsz hr
  by_cases he0 : e0 = 0
  ·
   subst he0
   rw [if_pos rfl] at hv
   have cR := hgH.out v (hsome.2 rfl).2.2.2
   have hn9 := (hsome.2 rfl).2.2.1
   have hnl := (hsome.2 rfl).1
   rw [List.length_drop] at hnl
   have han : (S.a : Int) + (n : Int) ≤ 1099511627776 := by have := hS.1; have := hS.2.1; omega
   generalize right v = er at hv cR
   have eg := egH.out
   have cR := jH cR
   clear hsome hnl hS
   by_cases her : er = 0
   ·
    subst her
    rw [if_neg (by simp)] at hv
    obtain ⟨rfl, rfl⟩ := Prod.mk.inj hv
    clear hv
    have h0H := jH h0
    clear h0
    go_enter Tryz.func101, Tryz.ntmps101
    go_wp2_with fail
    go_region_held3 (fun w' => KQ w.heap.size w w') (first
     | with_reducible exact jP (by assumption) (by simp) (by assumption)
     | with_reducible exact yB (by assumption) (by simp) (by assumption) (by simp [Value.ownBlock])
     | ((
     with_reducible refine kq ?_); (repeat (first | (with_reducible exact Below.refl _ _) | (with_reducible refine Below.drew ?_) | (with_reducible refine Below.alloc ?_ (by simp) _) | (with_reducible refine Below.setCell ?_ (by simp) _) | (with_reducible exact (by assumption : KQ _ _ _).1))); done))
     (first | (go_at_call 132; refine (cN.out _).mono ?_; rintro e w1 ⟨rfl, rfl⟩))
    go_wp2_with fail
    refine (cR.out _).mono ?_
    rintro e w1 ⟨rfl, rfl⟩
    go_wp2
    go_ret
    refine ⟨rfl, ⟨_, heap_drew ?_, .inl ⟨h0H.out, rfl⟩⟩, (gr_set (World.grownBy.refl w _) 1 _).trans (yD (Below.refl _ _).drew _)⟩
    rw [jO hbH.out]
    simp
   ·
    rw [if_pos (by simpa using her)] at hv
    obtain ⟨rfl, rfl⟩ := Prod.mk.inj hv
    have hen : (er == 0) = false := by simpa using her
    have hen2 : (er != 0) = true := by simpa using her
    clear hv her
    have h0 := jH h0
    go_enter Tryz.func101, Tryz.ntmps101
    go_wp2_with fail
    go_region_held3 (fun w' => KQ w.heap.size w w') (first
     | with_reducible exact jP (by assumption) (by simp) (by assumption)
     | with_reducible exact yB (by assumption) (by simp) (by assumption) (by simp [Value.ownBlock])
     | ((
     with_reducible refine kq ?_); (repeat (first | (with_reducible exact Below.refl _ _) | (with_reducible refine Below.drew ?_) | (with_reducible refine Below.alloc ?_ (by simp) _) | (with_reducible refine Below.setCell ?_ (by simp) _) | (with_reducible exact (by assumption : KQ _ _ _).1))); done))
     (first | (go_at_call 132; refine (cN.out _).mono ?_; rintro e w1 ⟨rfl, rfl⟩))
    go_wp2_with fail
    refine (cR.out _).mono ?_
    rintro e w1 ⟨rfl, rfl⟩
    go_wp2_with fail
    refine (pfail_any B S er _ (hRH.out.below (Below.refl _ _).drew)).mono ?_
    rintro e w1 ⟨rfl, hR1, hg1⟩
    go_wp2
    go_ret
    exact ⟨rfl, hR1, (yD (Below.refl _ _).drew _).trans hg1⟩
  ·
   rw [if_neg he0, if_pos he0] at hv
   obtain ⟨rfl, rfl⟩ := Prod.mk.inj hv
   have hen : (e0 == 0) = false := by simpa using he0
   have hen2 : (e0 != 0) = true := by simpa using he0
   clear hv he0 hsome
   have h0 := jH h0
   go_enter Tryz.func101, Tryz.ntmps101
   go_wp2_with fail
   go_region_held3 (fun w' => KQ w.heap.size w w') (first
    | with_reducible exact jP (by assumption) (by simp) (by assumption)
    | with_reducible exact yB (by assumption) (by simp) (by assumption) (by simp [Value.ownBlock])
    | ((with_reducible refine kq ?_); (repeat (first | (with_reducible exact Below.refl _ _) | (with_reducible refine Below.drew ?_) | (with_reducible refine Below.alloc ?_ (by simp) _) | (with_reducible refine Below.setCell ?_ (by simp) _) | (with_reducible exact (by assumption : KQ _ _ _).1))); done))
    (first | (go_at_call 132; refine (cN.out _).mono ?_; rintro e w1 ⟨rfl, rfl⟩))
   go_wp2_with fail
   refine (pfail_any B S e0 _ (hRH.out.below (Below.refl _ _).drew)).mono ?_
   rintro e w1 ⟨rfl, hR1, hg1⟩
   go_wp2
   go_ret
   exact ⟨rfl, hR1, (yD (Below.refl _ _).drew _).trans hg1⟩
 ·
  rw [nextS_bad h0] at hv
  obtain ⟨rfl, rfl⟩ := Prod.mk.inj hv
  have hfin : Hid (RdrP w B S) := jH hR
  clear hb h0 hF hR hv
  go_enter Tryz.func101, Tryz.ntmps101
  go_wp2
  go_ret
  exact ⟨rfl, hfin.out, World.grownBy.refl _ _⟩
theorem every_any (v : Nat) (w : World) : Calls Tryz.prog 175 #[.int .u64 (v : Int)] w fun e w' => e = .returned (.int .i64 0) ∧ w = w' := by
 go_enter Tryz.func175, Tryz.ntmps175
 go_wp2
 go_ret
 exact ⟨rfl, rfl⟩
theorem atmost_any (m v : Nat) (hm : m ≤ 1099511627776) (hv : v < 18446744073709551616) (w : World) :
 Calls Tryz.prog 102 #[.int .i64 (m : Int), .int .u64 (v : Int)] w fun e w' => e = .returned (.int .i64 (if m < v then 2 else 0)) ∧ w = w' := by
 have hm0 : (0 : Int) ≤ (m : Int) := by omega
 have hm1 : (m : Int) ≤ 1099511627776 := by omega
 have hvH := jH hv
 clear hv
 by_cases h : m < v
 ·
  rw [if_pos h]
  have hd : decide ((m : Int) < (v : Int)) = true := decide_eq_true (by omega)
  go_enter Tryz.func102, Tryz.ntmps102
  go_wp2
  go_ret
  exact ⟨rfl, rfl⟩
 ·
  rw [if_neg h]
  have hd : decide ((m : Int) < (v : Int)) = false := decide_eq_false (by omega)
  go_enter Tryz.func102, Tryz.ntmps102
  go_wp2
  go_ret
  exact ⟨rfl, rfl⟩
theorem pint_any (m B : Nat) (hm : m ≤ 1099511627776) (S : Rs) (w : World) (h : RdrP w B S) (hS : S.wf) :
 Calls Tryz.prog 60 #[.pointer (some ⟨B, 0, none⟩), .int .i64 (m : Int)] w
  fun r w' => r = .returned (.int .i64 ((intS m S).1 : Int)) ∧ RdrP w' B (intS m S).2 ∧ w.grownBy w' (some B) := by
 have hn := next_any 102 #[.int .i64 (m : Int)] (fun v => if m < v then 2 else 0) (enters_of Tryz.func102 (by kernel_rfl) rfl) (fun v hv w => atmost_any m v hm hv w) B S w h hS
 change Calls _ _ _ _ (fun r w' => r = .returned (.int .u64 ((intS m S).1 : Int)) ∧ RdrP w' B (intS m S).2 ∧ w.grownBy w' (some B)) at hn
 have hle : ((intS m S).1 : Int) ≤ 1099511627776 := by have := yA m S; omega
 have hle0 : (0 : Int) ≤ ((intS m S).1 : Int) := by omega
 generalize intS m S = r at hn hle hle0 ⊢
 obtain ⟨v, S'⟩ := r
 dsimp only at hle hle0 hn
 have hn := jH hn
 clear h hS
 go_enter Tryz.func60, Tryz.ntmps60
 go_wp2_with fail
 refine hn.out.mono ?_
 rintro e w1 ⟨rfl, hR, hg⟩
 go_wp2
 go_ret
 exact ⟨rfl, hR, hg⟩
end Go.Proofs.YtfhandglpjnonaaGreatDoor
