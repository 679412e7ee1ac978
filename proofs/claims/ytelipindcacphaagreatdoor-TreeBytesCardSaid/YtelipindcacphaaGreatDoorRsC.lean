/- The program's reader: next, Num, Int. -/
import Derived.Test.YtelipindcacphaaGreatDoorRa
import Derived.Deep.QuietTactic
import Derived.Shelf.Abstract
namespace Go.Proofs.YtelipindcacphaaGreatDoor
open Go.RowKit

/-- A function value that tells of numbers whether they are right. -/
def RightF (g : Nat) (pre : Array Value) (right : Nat → Int) : Prop :=
  ∀ v : Nat, v < 18446744073709551616 → ∀ w, Calls Tryz.prog g (pre ++ #[.int .u64 (v : Int)]) w fun e w' => e = .returned (.int .i64 (right v)) ∧ w = w'
theorem bs_drop (l : List UInt8) {a : Nat} : (bs l).extract a (bs l).size = bs (l.drop a) := by
  apply ByteArray.ext
  rw [ByteArray.data_extract, bs_size]
  simp [bs]
  rw [List.take_of_length_le (by simp)]
theorem Rs.wf_fail {S : Rs} (h : S.wf) (e : Int) : (failS S e).wf := by
  unfold failS
  obtain ⟨h1, h2, h3, h4, h5⟩ := h
  split
  · rename_i hh
    exact ⟨h1, h2, by simp, by simp; omega, fun h => absurd h hh.2⟩
  · exact ⟨h1, h2, h3, h4, h5⟩
theorem nextS_eq {S : Rs} {right : Nat → Int} {v n : Nat} {e : Int} (h0 : S.fe = 0) (hr : numR (S.l.drop S.a) = (v, n, e)) :
    nextS right S = if (if e = 0 then right v else e) ≠ 0 then (0, failS S (if e = 0 then right v else e)) else (v, { S with a := S.a + n }) := by
  unfold nextS
  rw [if_neg (by simp [h0])]
  simp only [hr]
theorem nextS_bad {S : Rs} {right : Nat → Int} (h0 : S.fe ≠ 0) : nextS right S = (0, S) := by
  unfold nextS
  rw [if_pos h0]
theorem Rs.wf_next {S : Rs} (h : S.wf) (right : Nat → Int) : (nextS right S).2.wf := by
  by_cases h0 : S.fe = 0
  · obtain ⟨v, n, e, hr⟩ : ∃ v n e, numR (S.l.drop S.a) = (v, n, e) := ⟨_, _, _, rfl⟩
    have h2 := numR_some hr
    rw [nextS_eq h0 hr]
    by_cases he : e = 0
    · subst he
      by_cases hz : right v = 0
      · rw [if_neg (by simp [hz])]
        have h4 := (h2.2 rfl).1
        rw [List.length_drop] at h4
        obtain ⟨g1, g2, g3, g4, g5⟩ := h
        exact ⟨by simp; omega, g2, g3, g4, g5⟩
      · rw [if_pos (by simpa using hz)]
        exact Rs.wf_fail h _
    · rw [if_pos (by simp [he])]
      exact Rs.wf_fail h _
  · rw [nextS_bad h0]; exact h

theorem intS_le (m : Nat) (S : Rs) : (intS m S).1 ≤ m := by
  unfold intS
  by_cases h0 : S.fe = 0
  · obtain ⟨v, n, e, hr⟩ : ∃ v n e, numR (S.l.drop S.a) = (v, n, e) := ⟨_, _, _, rfl⟩
    rw [nextS_eq h0 hr]
    by_cases he : e = 0
    · subst he
      by_cases hz : m < v
      · rw [if_pos (by simp [hz])]; exact Nat.zero_le _
      · rw [if_neg (by simp [hz])]; omega
    · rw [if_pos (by simp [he])]; exact Nat.zero_le _
  · rw [nextS_bad h0]; exact Nat.zero_le _
set_option maxRecDepth 100000 in
set_option maxHeartbeats 1000000 in
theorem next_any (g : Nat) (pre : Array Value) (right : Nat → Int) (eg : ∀ args w, (callFunc g args).run Tryz.prog w = .ok (.enter g args) w) (hg : RightF g pre right)
    (B : Nat) (S : Rs) (w : World) (h : RdrP w B S) (hS : S.wf) :
    Calls Tryz.prog 34 #[.pointer (some ⟨B, 0, none⟩), .func (.func g) pre #[]] w
      fun r w' => r = .returned (.int .u64 ((nextS right S).1 : Int)) ∧ RdrP w' B (nextS right S).2 ∧ w.grownBy w' (some B) := by
  obtain ⟨v', S', hv⟩ : ∃ v' S', nextS right S = (v', S') := ⟨_, _, rfl⟩
  rw [hv]
  have hR := h
  obtain ⟨ev, hb, he⟩ := h
  have hlt := blk_lt hb
  have q0 := blk_cell hb 0
  have q1 := blk_cell hb 1
  have q2 := blk_cell hb 2
  have hfr := blk_frozen hb
  simp at q0 q1 q2
  rcases he with ⟨h0, rfl⟩ | ⟨h0, F, rfl, hF⟩
  · have hsz : (bs S.l).size = S.l.length := bs_size _
    have ha0 : (0 : Int) ≤ (S.a : Int) := by omega
    have ha1 : (S.a : Int) ≤ ((bs S.l).size : Int) := by have := hS.1; omega
    obtain ⟨v, n, e0, hr⟩ : ∃ v n e0, numR (S.l.drop S.a) = (v, n, e0) := ⟨_, _, _, rfl⟩
    have cN : ∀ w, Calls Tryz.prog 51 #[.string ((bs S.l).extract S.a (bs S.l).size)] w fun e w' => e = .returned (.tuple #[.int .u64 (v : Int), .int .i64 (n : Int), .int .i64 e0]) ∧ w = w' := by
      intro w
      have := number_any ((bs S.l).extract S.a (bs S.l).size) (by rw [bs_drop, bs_size, List.length_drop]; have := hS.2.1; omega) w
      rw [bs_drop, bs_list, hr] at this
      rw [bs_drop]
      exact this
    have hsome := numR_some hr
    rw [nextS_eq h0 hr] at hv
    have cN := Lib.hid cN
    have hgH := Lib.hid hg
    have egH := Lib.hid eg
    have hRH := Lib.hid hR
    have hbH := Lib.hid hb
    have hq0 : KQ w.heap.size w w := kq (Below.refl _ _)
    clear hR hb hg eg hsz hr
    by_cases he0 : e0 = 0
    · subst he0
      rw [if_pos rfl] at hv
      have cR := hgH.out v (hsome.2 rfl).2.2.2
      have hn9 := (hsome.2 rfl).2.2.1
      have hnl := (hsome.2 rfl).1
      rw [List.length_drop] at hnl
      have han : (S.a : Int) + (n : Int) ≤ 1099511627776 := by have := hS.1; have := hS.2.1; omega
      generalize right v = er at hv cR
      have eg := egH.out
      have cR := Lib.hid cR
      clear hsome hnl hS
      by_cases her : er = 0
      · subst her
        rw [if_neg (by simp)] at hv
        obtain ⟨rfl, rfl⟩ := Prod.mk.inj hv
        clear hv
        have h0H := Lib.hid h0
        clear h0
        go_enter Tryz.func34, Tryz.ntmps34
        go_wp2_with fail
        go_region_held3 (fun w' => KQ w.heap.size w w') (first
      | with_reducible exact kq_call (by assumption) (by simp) (by assumption)
      | with_reducible exact kq_grown (by assumption) (by simp) (by assumption) (by simp [Value.ownBlock])
      | ((with_reducible refine kq ?_); (repeat (first | (with_reducible exact Below.refl _ _) | (with_reducible refine Below.drew ?_) | (with_reducible refine Below.alloc ?_ (by simp) _) | (with_reducible refine Below.setCell ?_ (by simp) _) | (with_reducible exact (by assumption : KQ _ _ _).1))); done))
          (first | (go_at_call 51; refine (cN.out _).mono ?_; rintro e w1 ⟨rfl, rfl⟩))
        go_wp2_with fail
        refine (cR.out _).mono ?_
        rintro e w1 ⟨rfl, rfl⟩
        go_wp2
        go_ret
        refine ⟨rfl, ⟨_, heap_drew ?_, .inl ⟨h0H.out, rfl⟩⟩, (gr_set (World.grownBy.refl w _) 1 _).trans (gr_below (Below.refl _ _).drew _)⟩
        rw [blk_set hbH.out]
        simp
      · rw [if_pos (by simpa using her)] at hv
        obtain ⟨rfl, rfl⟩ := Prod.mk.inj hv
        have hen : (er == 0) = false := by simpa using her
        have hen2 : (er != 0) = true := by simpa using her
        clear hv her
        have h0 := Lib.hid h0
        go_enter Tryz.func34, Tryz.ntmps34
        go_wp2_with fail
        go_region_held3 (fun w' => KQ w.heap.size w w') (first
      | with_reducible exact kq_call (by assumption) (by simp) (by assumption)
      | with_reducible exact kq_grown (by assumption) (by simp) (by assumption) (by simp [Value.ownBlock])
      | ((with_reducible refine kq ?_); (repeat (first | (with_reducible exact Below.refl _ _) | (with_reducible refine Below.drew ?_) | (with_reducible refine Below.alloc ?_ (by simp) _) | (with_reducible refine Below.setCell ?_ (by simp) _) | (with_reducible exact (by assumption : KQ _ _ _).1))); done))
          (first | (go_at_call 51; refine (cN.out _).mono ?_; rintro e w1 ⟨rfl, rfl⟩))
        go_wp2_with fail
        refine (cR.out _).mono ?_
        rintro e w1 ⟨rfl, rfl⟩
        go_wp2_with fail
        refine (pfail_any B S er _ (hRH.out.below (Below.refl _ _).drew)).mono ?_
        rintro e w1 ⟨rfl, hR1, hg1⟩
        go_wp2
        go_ret
        exact ⟨rfl, hR1, (gr_below (Below.refl _ _).drew _).trans hg1⟩
    · rw [if_neg he0, if_pos he0] at hv
      obtain ⟨rfl, rfl⟩ := Prod.mk.inj hv
      have hen : (e0 == 0) = false := by simpa using he0
      have hen2 : (e0 != 0) = true := by simpa using he0
      clear hv he0 hsome
      have h0 := Lib.hid h0
      go_enter Tryz.func34, Tryz.ntmps34
      go_wp2_with fail
      go_region_held3 (fun w' => KQ w.heap.size w w') (first
      | with_reducible exact kq_call (by assumption) (by simp) (by assumption)
      | with_reducible exact kq_grown (by assumption) (by simp) (by assumption) (by simp [Value.ownBlock])
      | ((with_reducible refine kq ?_); (repeat (first | (with_reducible exact Below.refl _ _) | (with_reducible refine Below.drew ?_) | (with_reducible refine Below.alloc ?_ (by simp) _) | (with_reducible refine Below.setCell ?_ (by simp) _) | (with_reducible exact (by assumption : KQ _ _ _).1))); done))
        (first | (go_at_call 51; refine (cN.out _).mono ?_; rintro e w1 ⟨rfl, rfl⟩))
      go_wp2_with fail
      refine (pfail_any B S e0 _ (hRH.out.below (Below.refl _ _).drew)).mono ?_
      rintro e w1 ⟨rfl, hR1, hg1⟩
      go_wp2
      go_ret
      exact ⟨rfl, hR1, (gr_below (Below.refl _ _).drew _).trans hg1⟩
  · rw [nextS_bad h0] at hv
    obtain ⟨rfl, rfl⟩ := Prod.mk.inj hv
    have hfin : Hid (RdrP w B S) := Lib.hid hR
    clear hb h0 hF hR hv
    go_enter Tryz.func34, Tryz.ntmps34
    go_wp2
    go_ret
    exact ⟨rfl, hfin.out, World.grownBy.refl _ _⟩

set_option maxRecDepth 100000 in
theorem atmost_any (m v : Nat) (hm : m ≤ 1099511627776) (hv : v < 18446744073709551616) (w : World) :
    Calls Tryz.prog 35 #[.int .i64 (m : Int), .int .u64 (v : Int)] w fun e w' => e = .returned (.int .i64 (if m < v then 2 else 0)) ∧ w = w' := by
  have hm0 : (0 : Int) ≤ (m : Int) := by omega
  have hm1 : (m : Int) ≤ 1099511627776 := by omega
  have hvH := Lib.hid hv
  clear hv
  by_cases h : m < v
  · rw [if_pos h]
    have hd : decide ((m : Int) < (v : Int)) = true := decide_eq_true (by omega)
    go_enter Tryz.func35, Tryz.ntmps35
    go_wp2
    go_ret
    exact ⟨rfl, rfl⟩
  · rw [if_neg h]
    have hd : decide ((m : Int) < (v : Int)) = false := decide_eq_false (by omega)
    go_enter Tryz.func35, Tryz.ntmps35
    go_wp2
    go_ret
    exact ⟨rfl, rfl⟩
set_option maxRecDepth 100000 in
theorem pint_any (m B : Nat) (hm : m ≤ 1099511627776) (S : Rs) (w : World) (h : RdrP w B S) (hS : S.wf) :
    Calls Tryz.prog 21 #[.pointer (some ⟨B, 0, none⟩), .int .i64 (m : Int)] w
      fun r w' => r = .returned (.int .i64 ((intS m S).1 : Int)) ∧ RdrP w' B (intS m S).2 ∧ w.grownBy w' (some B) := by
  have hn := next_any 35 #[.int .i64 (m : Int)] (fun v => if m < v then 2 else 0) (enters_of Tryz.func35 (by kernel_rfl) rfl) (fun v hv w => atmost_any m v hm hv w) B S w h hS
  change Calls _ _ _ _ (fun r w' => r = .returned (.int .u64 ((intS m S).1 : Int)) ∧ RdrP w' B (intS m S).2 ∧ w.grownBy w' (some B)) at hn
  have hle : ((intS m S).1 : Int) ≤ 1099511627776 := by have := intS_le m S; omega
  have hle0 : (0 : Int) ≤ ((intS m S).1 : Int) := by omega
  generalize intS m S = r at hn hle hle0 ⊢
  obtain ⟨v, S'⟩ := r
  dsimp only at hle hle0 hn
  have hn := Lib.hid hn
  clear h hS
  go_enter Tryz.func21, Tryz.ntmps21
  go_wp2_with fail
  refine hn.out.mono ?_
  rintro e w1 ⟨rfl, hR, hg⟩
  go_wp2
  go_ret
  exact ⟨rfl, hR, hg⟩
end Go.Proofs.YtelipindcacphaaGreatDoor
