/- What is wrong with an effect: the program's Check. -/
import Derived.Test.YtffnpfponnhddaaGreatFm
namespace Go.Proofs.YtffnpfponnhddaaGreat
open Go.RowKit

def fieldE (e : Ef) : Bool := (fAt e.act && !(chkS e.st && decide (0 < e.st.1))) || (!fAt e.act && !(decide (e.st.1 = 0) && decide (e.st.2 = 0))) || (!fTg e.act && decide (0 < e.tags.length))
/-- What is wrong with an effect. -/
def errE (e : Ef) : Int :=
  if errOp e.act e.name e.val ≠ 0 then errOp e.act e.name e.val else if (!chkT e.tag || e.tags.any fun t => !chkT t) = true then 2 else if 4096 < e.tags.length then 8
  else if fieldE e = true then 3 else if ascT e.tags = true then 0 else 3
theorem fAt_fTg {a : Int} (h : fAt a = true) : fTg a = false := by
  unfold fAt at h
  rw [decide_eq_true_eq] at h
  unfold fTg
  rw [decide_eq_false_iff_not]
  omega
set_option maxRecDepth 100000 in
theorem onottag_any (t : Tm) (ht : t.wf) (w : World) :
    Calls Tryz.prog 31 #[.agg #[.int .i64 t.1.1, .int .u32 t.1.2, .int .i64 t.2]] w fun e w' => e = .returned (.bool (!chkT t)) ∧ Below w.heap.size w w' := by
  have hb0 : Below w.heap.size w (w.alloc (.cells #[.int .i64 t.1.1, .int .u32 t.1.2, .int .i64 t.2] 45)) := (Below.refl _ w).alloc (Nat.le_refl _) _
  have hc := Lib.hid (pchkt_any t ht)
  generalize chkT t = b at hc
  have hcE : (errI b != 0) = !b := by cases b <;> rfl
  generalize errI b = z at hc hcE
  go_enter Tryz.func31, Tryz.ntmps31
  go_wp2_with fail
  refine (hc.out _).mono ?_
  rintro e w1 ⟨rfl, hb⟩
  have hG := hb0.trans (hb.mono hb0.size)
  go_wp2
  go_ret
  exact ⟨rfl, hG⟩
set_option maxRecDepth 100000 in
theorem otimed_any (s : Sm) (hs : s.wf) (w : World) :
    Calls Tryz.prog 32 #[.agg #[.int .u32 s.1, .int .i64 s.2]] w fun e w' => e = .returned (.bool (chkS s && decide (0 < s.1))) ∧ Below w.heap.size w w' := by
  have hb0 : Below w.heap.size w (w.alloc (.cells #[.int .u32 s.1, .int .i64 s.2] 24)) := (Below.refl _ w).alloc (Nat.le_refl _) _
  have hbx : (w.alloc (.cells #[.int .u32 s.1, .int .i64 s.2] 24)).heap[w.heap.size]? = some (.cells #[.int .u32 s.1, .int .i64 s.2] 24 (0, 0)) := heap_at _ _ rfl
  generalize hW : w.alloc (.cells #[.int .u32 s.1, .int .i64 s.2] 24) = W at hb0 hbx
  have hc := Lib.hid (plchk_any s hs)
  have hbxH := Lib.hid hbx
  have hltx := blk_lt hbx
  have q0 := blk_cell hbx 0
  have q1 := blk_cell hbx 1
  simp at q0 q1
  clear hbx
  cases hk : chkS s with
  | false =>
    rw [hk, show errI false = 2 from rfl] at hc
    rw [Bool.false_and]
    clear hk
    go_enter Tryz.func32, Tryz.ntmps32
    go_wp2_with fail
    refine (hc.out _).mono ?_
    rintro e w1 ⟨rfl, hb⟩
    have hG := hb0.trans (hb.mono hb0.size)
    go_wp2
    go_ret
    exact ⟨rfl, hG⟩
  | true =>
    rw [hk, show errI true = 0 from rfl] at hc
    rw [Bool.true_and]
    generalize hd : decide (0 < s.1) = b
    clear hk
    go_enter Tryz.func32, Tryz.ntmps32
    go_wp2_with fail
    refine (hc.out _).mono ?_
    rintro e w1 ⟨rfl, hb⟩
    have hG := hb0.trans (hb.mono hb0.size)
    have hx1 := blk_below hbxH.out hb
    clear q0 q1 hltx
    have hltx := blk_lt hx1
    have q0 := blk_cell hx1 0
    simp at q0
    clear hx1
    go_wp2
    go_ret
    exact ⟨by first | rfl | rw [hd], hG⟩
set_option maxRecDepth 100000 in
set_option maxHeartbeats 4000000 in
theorem ocheck_e_any (e : Ef) (A : Option Addr) (n c : Nat) (w : World) (hA : RdT w w.heap.size A n e.tags) (hn : n ≤ 100000) (hw : e.wf) (hl : e.name.length ≤ maxLen) :
    Calls Tryz.prog 35 #[.agg #[.int .i64 e.act, .string (bs e.name), .int .i64 e.val, .int .i64 e.tag.1.1, .int .u32 e.tag.1.2, .int .i64 e.tag.2, .int .u32 e.st.1, .int .i64 e.st.2, .slice A n c]] w fun r w' => r = .returned (.int .i64 (errE e)) ∧ Below w.heap.size w w' := by
  obtain ⟨hw1, hw2, hw3, hw4, hw5, hw6⟩ := hw
  have hb0 : Below w.heap.size w (w.alloc (.cells #[.int .i64 e.act, .string (bs e.name), .int .i64 e.val, .int .i64 e.tag.1.1, .int .u32 e.tag.1.2, .int .i64 e.tag.2, .int .u32 e.st.1, .int .i64 e.st.2, .slice A n c] 87)) := (Below.refl _ w).alloc (Nat.le_refl _) _
  have hbx : (w.alloc (.cells #[.int .i64 e.act, .string (bs e.name), .int .i64 e.val, .int .i64 e.tag.1.1, .int .u32 e.tag.1.2, .int .i64 e.tag.2, .int .u32 e.st.1, .int .i64 e.st.2, .slice A n c] 87)).heap[w.heap.size]? = some (.cells #[.int .i64 e.act, .string (bs e.name), .int .i64 e.val, .int .i64 e.tag.1.1, .int .u32 e.tag.1.2, .int .i64 e.tag.2, .int .u32 e.st.1, .int .i64 e.st.2, .slice A n c] 87 (0, 0)) := heap_at _ _ rfl
  generalize hW : w.alloc (.cells #[.int .i64 e.act, .string (bs e.name), .int .i64 e.val, .int .i64 e.tag.1.1, .int .u32 e.tag.1.2, .int .i64 e.tag.2, .int .u32 e.st.1, .int .i64 e.st.2, .slice A n c] 87) = W at hb0 hbx
  have hlen := Lib.hid (RdT.len hA)
  have hbxH := Lib.hid hbx
  have hAr := Lib.hid (fun w' (h : Below w.heap.size w w') => hA.below h)
  have cO := Lib.hid (ocheckop_any e.act e.name e.val hl)
  have cT := Lib.hid (onottag_any e.tag hw1)
  have cS := Lib.hid (otimed_any e.st hw2)
  have cF := Lib.hid (oform_any e.act)
  have hm : ∀ t ∈ e.tags, ∀ w', Below w.heap.size w w' → Calls Tryz.prog 31 (#[.agg #[.int .i64 t.1.1, .int .u32 t.1.2, .int .i64 t.2]] ++ #[]) w' fun e w'' => e = .returned (.bool (!chkT t)) ∧ Below w'.heap.size w' w'' := fun t ht w' _ => onottag_any t (hw4 t ht) w'
  have cC := Lib.hid (fun w' (h : Below w.heap.size w w') => cfT_gen 31 #[] (fun t => !chkT t) (enters_of Tryz.func31 (by kernel_rfl) rfl) w'.heap.size A n c e.tags w' ((hA.below h).more h.size) (by simp [maxLen]; omega) (fun t ht w'' hb => hm t ht w'' (h.trans (hb.mono h.size))) (Nat.le_refl _))
  have hwt := Lib.hid hw4
  generalize htg : e.tags = tg at *
  have htgH := Lib.hid htg
  (try clear q0 q1 q2 q3 q4 q5 q6 q7 q8 hltx)
  have hltx := blk_lt hbx
  have q0 := blk_cell hbx 0
  have q1 := blk_cell hbx 1
  have q2 := blk_cell hbx 2
  have q3 := blk_cell hbx 3
  have q4 := blk_cell hbx 4
  have q5 := blk_cell hbx 5
  have q6 := blk_cell hbx 6
  have q7 := blk_cell hbx 7
  have q8 := blk_cell hbx 8
  simp at q0 q1 q2 q3 q4 q5 q6 q7 q8
  generalize hr : errE e = r
  unfold errE at hr
  rw [htg] at hr
  have hfx : Hid (fieldE e = ((fAt e.act && !(chkS e.st && decide (0 < e.st.1))) || (!fAt e.act && !(decide (e.st.1 = 0) && decide (e.st.2 = 0))) || (!fTg e.act && decide (0 < tg.length)))) := Lib.hid (by unfold fieldE; rw [htg])
  have hft : Hid (fAt e.act = true → fTg e.act = false) := Lib.hid fAt_fTg
  generalize errOp e.act e.name e.val = ro at cO hr
  have hrH := Lib.hid hr
  clear hr hbx hA hm htg hw1 hw2 hw3 hw4 hw5 hw6
  by_cases h1 : ro = 0
  case neg =>
    have hT : Hid (ro = r) := Lib.hid (by have := hrH.out; rw [if_pos h1] at this; exact this)
    have h1b : (ro != 0) = true := by simpa using h1
    clear h1
    go_enter Tryz.func35, Tryz.ntmps35
    go_wp2_with fail
    refine (cO.out _).mono ?_
    rintro e' w1 ⟨rfl, hb1⟩
    have hG := hb0.trans (hb1.mono hb0.size)
    go_wp2
    go_ret
    exact ⟨ret_int hT.out, hG⟩
  subst h1
  have hr2 : Hid ((if (!chkT e.tag || tg.any fun t => !chkT t) = true then 2 else if 4096 < tg.length then 8 else if fieldE e = true then 3 else if ascT tg = true then 0 else 3) = r) := Lib.hid (by have := hrH.out; rw [if_neg (by simp)] at this; exact this)
  clear hrH
  cases hk : chkT e.tag with
  | false =>
    have hT : Hid (2 = r) := Lib.hid (by have := hr2.out; rw [hk] at this; simpa using this)
    rw [hk] at cT
    clear hk
    go_enter Tryz.func35, Tryz.ntmps35
    go_wp2_with fail
    refine (cO.out _).mono ?_
    rintro e' w1 ⟨rfl, hb1⟩
    have hG := hb0.trans (hb1.mono hb0.size)
    have hx1 := blk_below hbxH.out hb1
    (try clear q0 q1 q2 q3 q4 q5 q6 q7 q8 hltx)
    have hltx := blk_lt hx1
    have q0 := blk_cell hx1 0
    have q1 := blk_cell hx1 1
    have q2 := blk_cell hx1 2
    have q3 := blk_cell hx1 3
    have q4 := blk_cell hx1 4
    have q5 := blk_cell hx1 5
    have q6 := blk_cell hx1 6
    have q7 := blk_cell hx1 7
    have q8 := blk_cell hx1 8
    simp at q0 q1 q2 q3 q4 q5 q6 q7 q8
    clear hx1
    go_wp2_with fail
    refine (cT.out _).mono ?_
    rintro e' w2 ⟨rfl, hb2⟩
    have hG2 := hG.trans (hb2.mono hG.size)
    go_wp2
    go_ret
    exact ⟨ret_int hT.out, hG2⟩
  | true =>
  rw [hk] at cT
  cases ha : (tg.any fun t => !chkT t) with
  | true =>
    have hT : Hid (2 = r) := Lib.hid (by have := hr2.out; rw [hk, ha] at this; simpa using this)
    rw [ha] at cC
    clear hk ha
    go_enter Tryz.func35, Tryz.ntmps35
    go_wp2_with fail
    refine (cO.out _).mono ?_
    rintro e' w1 ⟨rfl, hb1⟩
    have hG := hb0.trans (hb1.mono hb0.size)
    have hx1 := blk_below hbxH.out hb1
    (try clear q0 q1 q2 q3 q4 q5 q6 q7 q8 hltx)
    have hltx := blk_lt hx1
    have q0 := blk_cell hx1 0
    have q1 := blk_cell hx1 1
    have q2 := blk_cell hx1 2
    have q3 := blk_cell hx1 3
    have q4 := blk_cell hx1 4
    have q5 := blk_cell hx1 5
    have q6 := blk_cell hx1 6
    have q7 := blk_cell hx1 7
    have q8 := blk_cell hx1 8
    simp at q0 q1 q2 q3 q4 q5 q6 q7 q8
    clear hx1
    go_wp2_with fail
    refine (cT.out _).mono ?_
    rintro e' w2 ⟨rfl, hb2⟩
    have hG2 := hG.trans (hb2.mono hG.size)
    have hx2 := blk_below hbxH.out (hb1.trans (hb2.mono hb1.size))
    (try clear q0 q1 q2 q3 q4 q5 q6 q7 q8 hltx)
    have hltx := blk_lt hx2
    have q0 := blk_cell hx2 0
    have q1 := blk_cell hx2 1
    have q2 := blk_cell hx2 2
    have q3 := blk_cell hx2 3
    have q4 := blk_cell hx2 4
    have q5 := blk_cell hx2 5
    have q6 := blk_cell hx2 6
    have q7 := blk_cell hx2 7
    have q8 := blk_cell hx2 8
    simp at q0 q1 q2 q3 q4 q5 q6 q7 q8
    clear hx2
    go_wp2_with fail
    refine (cC.out _ hG2).mono ?_
    rintro e' w3 ⟨rfl, hb3⟩
    have hG3 := hG2.trans (hb3.mono hG2.size)
    go_wp2
    go_ret
    exact ⟨ret_int hT.out, hG3⟩
  | false =>
  rw [ha] at cC
  have hr3 : Hid ((if 4096 < tg.length then 8 else if fieldE e = true then 3 else if ascT tg = true then 0 else 3) = r) := Lib.hid (by have := hr2.out; rw [hk, ha, if_neg (by simp)] at this; exact this)
  clear hr2 hk ha
  by_cases h4 : 4096 < n
  · have hT : Hid (8 = r) := Lib.hid (by have := hr3.out; rw [hlen.out, if_pos h4] at this; exact this)
    have hd4 : decide ((4096 : Int) < (n : Int)) = true := decide_eq_true (by omega)
    clear h4
    go_enter Tryz.func35, Tryz.ntmps35
    go_wp2_with fail
    refine (cO.out _).mono ?_
    rintro e' w1 ⟨rfl, hb1⟩
    have hG := hb0.trans (hb1.mono hb0.size)
    have hx1 := blk_below hbxH.out hb1
    (try clear q0 q1 q2 q3 q4 q5 q6 q7 q8 hltx)
    have hltx := blk_lt hx1
    have q0 := blk_cell hx1 0
    have q1 := blk_cell hx1 1
    have q2 := blk_cell hx1 2
    have q3 := blk_cell hx1 3
    have q4 := blk_cell hx1 4
    have q5 := blk_cell hx1 5
    have q6 := blk_cell hx1 6
    have q7 := blk_cell hx1 7
    have q8 := blk_cell hx1 8
    simp at q0 q1 q2 q3 q4 q5 q6 q7 q8
    clear hx1
    go_wp2_with fail
    refine (cT.out _).mono ?_
    rintro e' w2 ⟨rfl, hb2⟩
    have hG2 := hG.trans (hb2.mono hG.size)
    have hW2 := hb1.trans (hb2.mono hb1.size)
    have hx2 := blk_below hbxH.out hW2
    (try clear q0 q1 q2 q3 q4 q5 q6 q7 q8 hltx)
    have hltx := blk_lt hx2
    have q0 := blk_cell hx2 0
    have q1 := blk_cell hx2 1
    have q2 := blk_cell hx2 2
    have q3 := blk_cell hx2 3
    have q4 := blk_cell hx2 4
    have q5 := blk_cell hx2 5
    have q6 := blk_cell hx2 6
    have q7 := blk_cell hx2 7
    have q8 := blk_cell hx2 8
    simp at q0 q1 q2 q3 q4 q5 q6 q7 q8
    clear hx2
    go_wp2_with fail
    refine (cC.out _ hG2).mono ?_
    rintro e' w3 ⟨rfl, hb3⟩
    have hG3 := hG2.trans (hb3.mono hG2.size)
    have hW3 := hW2.trans (hb3.mono hW2.size)
    have hx3 := blk_below hbxH.out hW3
    (try clear q0 q1 q2 q3 q4 q5 q6 q7 q8 hltx)
    have hltx := blk_lt hx3
    have q0 := blk_cell hx3 0
    have q1 := blk_cell hx3 1
    have q2 := blk_cell hx3 2
    have q3 := blk_cell hx3 3
    have q4 := blk_cell hx3 4
    have q5 := blk_cell hx3 5
    have q6 := blk_cell hx3 6
    have q7 := blk_cell hx3 7
    have q8 := blk_cell hx3 8
    simp at q0 q1 q2 q3 q4 q5 q6 q7 q8
    clear hx3 hb1 hb2 hb3 hG hG2 hW2
    go_wp2
    go_ret
    exact ⟨ret_int hT.out, hG3⟩
  have hd4 : decide ((4096 : Int) < (n : Int)) = false := decide_eq_false (by omega)
  have hr4 : Hid ((if fieldE e = true then 3 else if ascT tg = true then 0 else 3) = r) := Lib.hid (by have := hr3.out; rw [hlen.out, if_neg h4] at this; exact this)
  clear hr3
  rw [hlen.out] at hfx
  cases hat : fAt e.act with
  | true =>
    have hftg := hft.out hat
    rw [hat, hftg] at cF
    rw [hat, hftg] at hfx
    cases htm : (chkS e.st && decide (0 < e.st.1)) with
    | false =>
      rw [htm] at cS
      have hT : Hid (3 = r) := Lib.hid (by have := hr4.out; rw [hfx.out, htm] at this; simpa using this)
      clear hat hftg htm h4
      go_enter Tryz.func35, Tryz.ntmps35
      go_wp2_with fail
      refine (cO.out _).mono ?_
      rintro e' w1 ⟨rfl, hb1⟩
      have hG := hb0.trans (hb1.mono hb0.size)
      have hx1 := blk_below hbxH.out hb1
      (try clear q0 q1 q2 q3 q4 q5 q6 q7 q8 hltx)
      have hltx := blk_lt hx1
      have q0 := blk_cell hx1 0
      have q1 := blk_cell hx1 1
      have q2 := blk_cell hx1 2
      have q3 := blk_cell hx1 3
      have q4 := blk_cell hx1 4
      have q5 := blk_cell hx1 5
      have q6 := blk_cell hx1 6
      have q7 := blk_cell hx1 7
      have q8 := blk_cell hx1 8
      simp at q0 q1 q2 q3 q4 q5 q6 q7 q8
      clear hx1
      go_wp2_with fail
      refine (cT.out _).mono ?_
      rintro e' w2 ⟨rfl, hb2⟩
      have hG2 := hG.trans (hb2.mono hG.size)
      have hW2 := hb1.trans (hb2.mono hb1.size)
      have hx2 := blk_below hbxH.out hW2
      (try clear q0 q1 q2 q3 q4 q5 q6 q7 q8 hltx)
      have hltx := blk_lt hx2
      have q0 := blk_cell hx2 0
      have q1 := blk_cell hx2 1
      have q2 := blk_cell hx2 2
      have q3 := blk_cell hx2 3
      have q4 := blk_cell hx2 4
      have q5 := blk_cell hx2 5
      have q6 := blk_cell hx2 6
      have q7 := blk_cell hx2 7
      have q8 := blk_cell hx2 8
      simp at q0 q1 q2 q3 q4 q5 q6 q7 q8
      clear hx2
      go_wp2_with fail
      refine (cC.out _ hG2).mono ?_
      rintro e' w3 ⟨rfl, hb3⟩
      have hG3 := hG2.trans (hb3.mono hG2.size)
      have hW3 := hW2.trans (hb3.mono hW2.size)
      have hx3 := blk_below hbxH.out hW3
      (try clear q0 q1 q2 q3 q4 q5 q6 q7 q8 hltx)
      have hltx := blk_lt hx3
      have q0 := blk_cell hx3 0
      have q1 := blk_cell hx3 1
      have q2 := blk_cell hx3 2
      have q3 := blk_cell hx3 3
      have q4 := blk_cell hx3 4
      have q5 := blk_cell hx3 5
      have q6 := blk_cell hx3 6
      have q7 := blk_cell hx3 7
      have q8 := blk_cell hx3 8
      simp at q0 q1 q2 q3 q4 q5 q6 q7 q8
      clear hx3 hb1 hb2 hb3 hG hG2 hW2
      go_wp2_with fail
      refine (cF.out _).mono ?_
      rintro e' w4 ⟨rfl, hb4⟩
      have hG4 := hG3.trans (hb4.mono hG3.size)
      have hW4 := hW3.trans (hb4.mono hW3.size)
      have hx4 := blk_below hbxH.out hW4
      (try clear q0 q1 q2 q3 q4 q5 q6 q7 q8 hltx)
      have hltx := blk_lt hx4
      have q0 := blk_cell hx4 0
      have q1 := blk_cell hx4 1
      have q2 := blk_cell hx4 2
      have q3 := blk_cell hx4 3
      have q4 := blk_cell hx4 4
      have q5 := blk_cell hx4 5
      have q6 := blk_cell hx4 6
      have q7 := blk_cell hx4 7
      have q8 := blk_cell hx4 8
      simp at q0 q1 q2 q3 q4 q5 q6 q7 q8
      clear hx4 hb4 hG3 hW3
      go_wp2_with fail
      refine (cS.out _).mono ?_
      rintro e' w5 ⟨rfl, hb5⟩
      have hG5 := (hG4.alloc hG4.size _).trans (hb5.mono (by have := hG4.size; simp; omega))
      have hW5 := (hW4.alloc hW4.size _).trans (hb5.mono (by have := hW4.size; simp; omega))
      have hx5 := blk_below hbxH.out hW5
      have ha5 := blk_below (heap_at w4 _ rfl) hb5
      have hlta := blk_lt ha5
      have a2 := blk_cell ha5 2
      have a3 := blk_cell ha5 3
      simp at a2 a3
      (try clear q0 q1 q2 q3 q4 q5 q6 q7 q8 hltx)
      have hltx := blk_lt hx5
      have q0 := blk_cell hx5 0
      have q1 := blk_cell hx5 1
      have q2 := blk_cell hx5 2
      have q3 := blk_cell hx5 3
      have q4 := blk_cell hx5 4
      have q5 := blk_cell hx5 5
      have q6 := blk_cell hx5 6
      have q7 := blk_cell hx5 7
      have q8 := blk_cell hx5 8
      simp at q0 q1 q2 q3 q4 q5 q6 q7 q8
      clear hx5 ha5 hb5 hG4 hW4
      go_wp2
      go_ret
      exact ⟨ret_int hT.out, hG5⟩
    | true =>
      rw [htm] at cS
      by_cases hn0 : n = 0
      · subst hn0
        have htg0 : tg = [] := List.eq_nil_of_length_eq_zero hlen.out
        have hT0 : Hid (0 = r) := Lib.hid (by have := hr4.out; rw [hfx.out, htm, htg0] at this; simpa [ascT] using this)
        clear hat hftg htm h4 htg0
        go_enter Tryz.func35, Tryz.ntmps35
        go_wp2_with fail
        refine (cO.out _).mono ?_
        rintro e' w1 ⟨rfl, hb1⟩
        have hG := hb0.trans (hb1.mono hb0.size)
        have hx1 := blk_below hbxH.out hb1
        (try clear q0 q1 q2 q3 q4 q5 q6 q7 q8 hltx)
        have hltx := blk_lt hx1
        have q0 := blk_cell hx1 0
        have q1 := blk_cell hx1 1
        have q2 := blk_cell hx1 2
        have q3 := blk_cell hx1 3
        have q4 := blk_cell hx1 4
        have q5 := blk_cell hx1 5
        have q6 := blk_cell hx1 6
        have q7 := blk_cell hx1 7
        have q8 := blk_cell hx1 8
        simp at q0 q1 q2 q3 q4 q5 q6 q7 q8
        clear hx1
        go_wp2_with fail
        refine (cT.out _).mono ?_
        rintro e' w2 ⟨rfl, hb2⟩
        have hG2 := hG.trans (hb2.mono hG.size)
        have hW2 := hb1.trans (hb2.mono hb1.size)
        have hx2 := blk_below hbxH.out hW2
        (try clear q0 q1 q2 q3 q4 q5 q6 q7 q8 hltx)
        have hltx := blk_lt hx2
        have q0 := blk_cell hx2 0
        have q1 := blk_cell hx2 1
        have q2 := blk_cell hx2 2
        have q3 := blk_cell hx2 3
        have q4 := blk_cell hx2 4
        have q5 := blk_cell hx2 5
        have q6 := blk_cell hx2 6
        have q7 := blk_cell hx2 7
        have q8 := blk_cell hx2 8
        simp at q0 q1 q2 q3 q4 q5 q6 q7 q8
        clear hx2
        go_wp2_with fail
        refine (cC.out _ hG2).mono ?_
        rintro e' w3 ⟨rfl, hb3⟩
        have hG3 := hG2.trans (hb3.mono hG2.size)
        have hW3 := hW2.trans (hb3.mono hW2.size)
        have hx3 := blk_below hbxH.out hW3
        (try clear q0 q1 q2 q3 q4 q5 q6 q7 q8 hltx)
        have hltx := blk_lt hx3
        have q0 := blk_cell hx3 0
        have q1 := blk_cell hx3 1
        have q2 := blk_cell hx3 2
        have q3 := blk_cell hx3 3
        have q4 := blk_cell hx3 4
        have q5 := blk_cell hx3 5
        have q6 := blk_cell hx3 6
        have q7 := blk_cell hx3 7
        have q8 := blk_cell hx3 8
        simp at q0 q1 q2 q3 q4 q5 q6 q7 q8
        clear hx3 hb1 hb2 hb3 hG hG2 hW2
        go_wp2_with fail
        refine (cF.out _).mono ?_
        rintro e' w4 ⟨rfl, hb4⟩
        have hG4 := hG3.trans (hb4.mono hG3.size)
        have hW4 := hW3.trans (hb4.mono hW3.size)
        have hx4 := blk_below hbxH.out hW4
        (try clear q0 q1 q2 q3 q4 q5 q6 q7 q8 hltx)
        have hltx := blk_lt hx4
        have q0 := blk_cell hx4 0
        have q1 := blk_cell hx4 1
        have q2 := blk_cell hx4 2
        have q3 := blk_cell hx4 3
        have q4 := blk_cell hx4 4
        have q5 := blk_cell hx4 5
        have q6 := blk_cell hx4 6
        have q7 := blk_cell hx4 7
        have q8 := blk_cell hx4 8
        simp at q0 q1 q2 q3 q4 q5 q6 q7 q8
        clear hx4 hb4 hG3 hW3
        go_wp2_with fail
        refine (cS.out _).mono ?_
        rintro e' w5 ⟨rfl, hb5⟩
        have hG5 := (hG4.alloc hG4.size _).trans (hb5.mono (by have := hG4.size; simp; omega))
        have hW5 := (hW4.alloc hW4.size _).trans (hb5.mono (by have := hW4.size; simp; omega))
        have hx5 := blk_below hbxH.out hW5
        have ha5 := blk_below (heap_at w4 _ rfl) hb5
        have hlta := blk_lt ha5
        have a2 := blk_cell ha5 2
        have a3 := blk_cell ha5 3
        simp at a2 a3
        (try clear q0 q1 q2 q3 q4 q5 q6 q7 q8 hltx)
        have hltx := blk_lt hx5
        have q0 := blk_cell hx5 0
        have q1 := blk_cell hx5 1
        have q2 := blk_cell hx5 2
        have q3 := blk_cell hx5 3
        have q4 := blk_cell hx5 4
        have q5 := blk_cell hx5 5
        have q6 := blk_cell hx5 6
        have q7 := blk_cell hx5 7
        have q8 := blk_cell hx5 8
        simp at q0 q1 q2 q3 q4 q5 q6 q7 q8
        clear hx5 ha5 hb5 hG4 hW4
        go_wp2_with fail
        go_loopg [5] 2 (fun g i wr => g = 2 ∧ i = .int .i64 1 ∧ wr = w5)
        case atStart => exact ⟨rfl, rfl, rfl⟩
        case round =>
          obtain ⟨rfl, rfl, rfl⟩ := hrel
          have hGr := hb0.trans (hW5.mono hb0.size)
          have hbxr := blk_below hbxH.out hW5
          have hltx := blk_lt hbxr
          have q5 := blk_cell hbxr 8
          simp at q5
          clear hbxr
          go_wp2
          go_ret
          exact ⟨ret_int hT0.out, hGr⟩
      · have hT : Hid (3 = r) := Lib.hid (by have := hr4.out; rw [hfx.out, htm, decide_eq_true (Nat.pos_of_ne_zero hn0)] at this; simpa using this)
        have hd0 : decide ((0 : Int) < (n : Int)) = true := decide_eq_true (by omega)
        have hd0n : decide (0 < n) = true := decide_eq_true (by omega)
        clear hat hftg htm h4 hn0
        go_enter Tryz.func35, Tryz.ntmps35
        go_wp2_with fail
        refine (cO.out _).mono ?_
        rintro e' w1 ⟨rfl, hb1⟩
        have hG := hb0.trans (hb1.mono hb0.size)
        have hx1 := blk_below hbxH.out hb1
        (try clear q0 q1 q2 q3 q4 q5 q6 q7 q8 hltx)
        have hltx := blk_lt hx1
        have q0 := blk_cell hx1 0
        have q1 := blk_cell hx1 1
        have q2 := blk_cell hx1 2
        have q3 := blk_cell hx1 3
        have q4 := blk_cell hx1 4
        have q5 := blk_cell hx1 5
        have q6 := blk_cell hx1 6
        have q7 := blk_cell hx1 7
        have q8 := blk_cell hx1 8
        simp at q0 q1 q2 q3 q4 q5 q6 q7 q8
        clear hx1
        go_wp2_with fail
        refine (cT.out _).mono ?_
        rintro e' w2 ⟨rfl, hb2⟩
        have hG2 := hG.trans (hb2.mono hG.size)
        have hW2 := hb1.trans (hb2.mono hb1.size)
        have hx2 := blk_below hbxH.out hW2
        (try clear q0 q1 q2 q3 q4 q5 q6 q7 q8 hltx)
        have hltx := blk_lt hx2
        have q0 := blk_cell hx2 0
        have q1 := blk_cell hx2 1
        have q2 := blk_cell hx2 2
        have q3 := blk_cell hx2 3
        have q4 := blk_cell hx2 4
        have q5 := blk_cell hx2 5
        have q6 := blk_cell hx2 6
        have q7 := blk_cell hx2 7
        have q8 := blk_cell hx2 8
        simp at q0 q1 q2 q3 q4 q5 q6 q7 q8
        clear hx2
        go_wp2_with fail
        refine (cC.out _ hG2).mono ?_
        rintro e' w3 ⟨rfl, hb3⟩
        have hG3 := hG2.trans (hb3.mono hG2.size)
        have hW3 := hW2.trans (hb3.mono hW2.size)
        have hx3 := blk_below hbxH.out hW3
        (try clear q0 q1 q2 q3 q4 q5 q6 q7 q8 hltx)
        have hltx := blk_lt hx3
        have q0 := blk_cell hx3 0
        have q1 := blk_cell hx3 1
        have q2 := blk_cell hx3 2
        have q3 := blk_cell hx3 3
        have q4 := blk_cell hx3 4
        have q5 := blk_cell hx3 5
        have q6 := blk_cell hx3 6
        have q7 := blk_cell hx3 7
        have q8 := blk_cell hx3 8
        simp at q0 q1 q2 q3 q4 q5 q6 q7 q8
        clear hx3 hb1 hb2 hb3 hG hG2 hW2
        go_wp2_with fail
        refine (cF.out _).mono ?_
        rintro e' w4 ⟨rfl, hb4⟩
        have hG4 := hG3.trans (hb4.mono hG3.size)
        have hW4 := hW3.trans (hb4.mono hW3.size)
        have hx4 := blk_below hbxH.out hW4
        (try clear q0 q1 q2 q3 q4 q5 q6 q7 q8 hltx)
        have hltx := blk_lt hx4
        have q0 := blk_cell hx4 0
        have q1 := blk_cell hx4 1
        have q2 := blk_cell hx4 2
        have q3 := blk_cell hx4 3
        have q4 := blk_cell hx4 4
        have q5 := blk_cell hx4 5
        have q6 := blk_cell hx4 6
        have q7 := blk_cell hx4 7
        have q8 := blk_cell hx4 8
        simp at q0 q1 q2 q3 q4 q5 q6 q7 q8
        clear hx4 hb4 hG3 hW3
        go_wp2_with fail
        refine (cS.out _).mono ?_
        rintro e' w5 ⟨rfl, hb5⟩
        have hG5 := (hG4.alloc hG4.size _).trans (hb5.mono (by have := hG4.size; simp; omega))
        have hW5 := (hW4.alloc hW4.size _).trans (hb5.mono (by have := hW4.size; simp; omega))
        have hx5 := blk_below hbxH.out hW5
        have ha5 := blk_below (heap_at w4 _ rfl) hb5
        have hlta := blk_lt ha5
        have a2 := blk_cell ha5 2
        have a3 := blk_cell ha5 3
        simp at a2 a3
        (try clear q0 q1 q2 q3 q4 q5 q6 q7 q8 hltx)
        have hltx := blk_lt hx5
        have q0 := blk_cell hx5 0
        have q1 := blk_cell hx5 1
        have q2 := blk_cell hx5 2
        have q3 := blk_cell hx5 3
        have q4 := blk_cell hx5 4
        have q5 := blk_cell hx5 5
        have q6 := blk_cell hx5 6
        have q7 := blk_cell hx5 7
        have q8 := blk_cell hx5 8
        simp at q0 q1 q2 q3 q4 q5 q6 q7 q8
        clear hx5 ha5 hb5 hG4 hW4
        go_wp2
        go_ret
        exact ⟨ret_int hT.out, hG5⟩
  | false =>
    rw [hat] at cF hfx
    by_cases hs1 : e.st.1 = 0
    case neg =>
      have hT : Hid (3 = r) := Lib.hid (by have := hr4.out; rw [hfx.out, decide_eq_false hs1] at this; simpa using this)
      have hs1b : (e.st.1 == 0) = false := by simpa using hs1
      clear hat h4 hs1
      go_enter Tryz.func35, Tryz.ntmps35
      go_wp2_with fail
      refine (cO.out _).mono ?_
      rintro e' w1 ⟨rfl, hb1⟩
      have hG := hb0.trans (hb1.mono hb0.size)
      have hx1 := blk_below hbxH.out hb1
      (try clear q0 q1 q2 q3 q4 q5 q6 q7 q8 hltx)
      have hltx := blk_lt hx1
      have q0 := blk_cell hx1 0
      have q1 := blk_cell hx1 1
      have q2 := blk_cell hx1 2
      have q3 := blk_cell hx1 3
      have q4 := blk_cell hx1 4
      have q5 := blk_cell hx1 5
      have q6 := blk_cell hx1 6
      have q7 := blk_cell hx1 7
      have q8 := blk_cell hx1 8
      simp at q0 q1 q2 q3 q4 q5 q6 q7 q8
      clear hx1
      go_wp2_with fail
      refine (cT.out _).mono ?_
      rintro e' w2 ⟨rfl, hb2⟩
      have hG2 := hG.trans (hb2.mono hG.size)
      have hW2 := hb1.trans (hb2.mono hb1.size)
      have hx2 := blk_below hbxH.out hW2
      (try clear q0 q1 q2 q3 q4 q5 q6 q7 q8 hltx)
      have hltx := blk_lt hx2
      have q0 := blk_cell hx2 0
      have q1 := blk_cell hx2 1
      have q2 := blk_cell hx2 2
      have q3 := blk_cell hx2 3
      have q4 := blk_cell hx2 4
      have q5 := blk_cell hx2 5
      have q6 := blk_cell hx2 6
      have q7 := blk_cell hx2 7
      have q8 := blk_cell hx2 8
      simp at q0 q1 q2 q3 q4 q5 q6 q7 q8
      clear hx2
      go_wp2_with fail
      refine (cC.out _ hG2).mono ?_
      rintro e' w3 ⟨rfl, hb3⟩
      have hG3 := hG2.trans (hb3.mono hG2.size)
      have hW3 := hW2.trans (hb3.mono hW2.size)
      have hx3 := blk_below hbxH.out hW3
      (try clear q0 q1 q2 q3 q4 q5 q6 q7 q8 hltx)
      have hltx := blk_lt hx3
      have q0 := blk_cell hx3 0
      have q1 := blk_cell hx3 1
      have q2 := blk_cell hx3 2
      have q3 := blk_cell hx3 3
      have q4 := blk_cell hx3 4
      have q5 := blk_cell hx3 5
      have q6 := blk_cell hx3 6
      have q7 := blk_cell hx3 7
      have q8 := blk_cell hx3 8
      simp at q0 q1 q2 q3 q4 q5 q6 q7 q8
      clear hx3 hb1 hb2 hb3 hG hG2 hW2
      go_wp2_with fail
      refine (cF.out _).mono ?_
      rintro e' w4 ⟨rfl, hb4⟩
      have hG4 := hG3.trans (hb4.mono hG3.size)
      have hW4 := hW3.trans (hb4.mono hW3.size)
      have hx4 := blk_below hbxH.out hW4
      (try clear q0 q1 q2 q3 q4 q5 q6 q7 q8 hltx)
      have hltx := blk_lt hx4
      have q0 := blk_cell hx4 0
      have q1 := blk_cell hx4 1
      have q2 := blk_cell hx4 2
      have q3 := blk_cell hx4 3
      have q4 := blk_cell hx4 4
      have q5 := blk_cell hx4 5
      have q6 := blk_cell hx4 6
      have q7 := blk_cell hx4 7
      have q8 := blk_cell hx4 8
      simp at q0 q1 q2 q3 q4 q5 q6 q7 q8
      clear hx4 hb4 hG3 hW3
      go_wp2
      go_ret
      exact ⟨ret_int hT.out, hG4.alloc hG4.size _⟩
    by_cases hs2 : e.st.2 = 0
    case neg =>
      have hT : Hid (3 = r) := Lib.hid (by have := hr4.out; rw [hfx.out, decide_eq_false hs2] at this; simpa using this)
      have hs1b : (e.st.1 == 0) = true := by simpa using hs1
      have hs2b : (e.st.2 == 0) = false := by simpa using hs2
      clear hat h4 hs1 hs2
      go_enter Tryz.func35, Tryz.ntmps35
      go_wp2_with fail
      refine (cO.out _).mono ?_
      rintro e' w1 ⟨rfl, hb1⟩
      have hG := hb0.trans (hb1.mono hb0.size)
      have hx1 := blk_below hbxH.out hb1
      (try clear q0 q1 q2 q3 q4 q5 q6 q7 q8 hltx)
      have hltx := blk_lt hx1
      have q0 := blk_cell hx1 0
      have q1 := blk_cell hx1 1
      have q2 := blk_cell hx1 2
      have q3 := blk_cell hx1 3
      have q4 := blk_cell hx1 4
      have q5 := blk_cell hx1 5
      have q6 := blk_cell hx1 6
      have q7 := blk_cell hx1 7
      have q8 := blk_cell hx1 8
      simp at q0 q1 q2 q3 q4 q5 q6 q7 q8
      clear hx1
      go_wp2_with fail
      refine (cT.out _).mono ?_
      rintro e' w2 ⟨rfl, hb2⟩
      have hG2 := hG.trans (hb2.mono hG.size)
      have hW2 := hb1.trans (hb2.mono hb1.size)
      have hx2 := blk_below hbxH.out hW2
      (try clear q0 q1 q2 q3 q4 q5 q6 q7 q8 hltx)
      have hltx := blk_lt hx2
      have q0 := blk_cell hx2 0
      have q1 := blk_cell hx2 1
      have q2 := blk_cell hx2 2
      have q3 := blk_cell hx2 3
      have q4 := blk_cell hx2 4
      have q5 := blk_cell hx2 5
      have q6 := blk_cell hx2 6
      have q7 := blk_cell hx2 7
      have q8 := blk_cell hx2 8
      simp at q0 q1 q2 q3 q4 q5 q6 q7 q8
      clear hx2
      go_wp2_with fail
      refine (cC.out _ hG2).mono ?_
      rintro e' w3 ⟨rfl, hb3⟩
      have hG3 := hG2.trans (hb3.mono hG2.size)
      have hW3 := hW2.trans (hb3.mono hW2.size)
      have hx3 := blk_below hbxH.out hW3
      (try clear q0 q1 q2 q3 q4 q5 q6 q7 q8 hltx)
      have hltx := blk_lt hx3
      have q0 := blk_cell hx3 0
      have q1 := blk_cell hx3 1
      have q2 := blk_cell hx3 2
      have q3 := blk_cell hx3 3
      have q4 := blk_cell hx3 4
      have q5 := blk_cell hx3 5
      have q6 := blk_cell hx3 6
      have q7 := blk_cell hx3 7
      have q8 := blk_cell hx3 8
      simp at q0 q1 q2 q3 q4 q5 q6 q7 q8
      clear hx3 hb1 hb2 hb3 hG hG2 hW2
      go_wp2_with fail
      refine (cF.out _).mono ?_
      rintro e' w4 ⟨rfl, hb4⟩
      have hG4 := hG3.trans (hb4.mono hG3.size)
      have hW4 := hW3.trans (hb4.mono hW3.size)
      have hx4 := blk_below hbxH.out hW4
      (try clear q0 q1 q2 q3 q4 q5 q6 q7 q8 hltx)
      have hltx := blk_lt hx4
      have q0 := blk_cell hx4 0
      have q1 := blk_cell hx4 1
      have q2 := blk_cell hx4 2
      have q3 := blk_cell hx4 3
      have q4 := blk_cell hx4 4
      have q5 := blk_cell hx4 5
      have q6 := blk_cell hx4 6
      have q7 := blk_cell hx4 7
      have q8 := blk_cell hx4 8
      simp at q0 q1 q2 q3 q4 q5 q6 q7 q8
      clear hx4 hb4 hG3 hW3
      go_wp2
      go_ret
      exact ⟨ret_int hT.out, hG4.alloc hG4.size _⟩
    have hs1b : (e.st.1 == 0) = true := by simpa using hs1
    have hs2b : (e.st.2 == 0) = true := by simpa using hs2
    cases hftg : fTg e.act with
    | true =>
      rw [hftg] at cF hfx
      have hasc : Hid ((if ascT tg = true then 0 else 3) = r) := Lib.hid (by have := hr4.out; rw [hfx.out, hs1, hs2] at this; simpa using this)
      clear hat hftg h4 hs1 hs2
      go_enter Tryz.func35, Tryz.ntmps35
      go_wp2_with fail
      refine (cO.out _).mono ?_
      rintro e' w1 ⟨rfl, hb1⟩
      have hG := hb0.trans (hb1.mono hb0.size)
      have hx1 := blk_below hbxH.out hb1
      (try clear q0 q1 q2 q3 q4 q5 q6 q7 q8 hltx)
      have hltx := blk_lt hx1
      have q0 := blk_cell hx1 0
      have q1 := blk_cell hx1 1
      have q2 := blk_cell hx1 2
      have q3 := blk_cell hx1 3
      have q4 := blk_cell hx1 4
      have q5 := blk_cell hx1 5
      have q6 := blk_cell hx1 6
      have q7 := blk_cell hx1 7
      have q8 := blk_cell hx1 8
      simp at q0 q1 q2 q3 q4 q5 q6 q7 q8
      clear hx1
      go_wp2_with fail
      refine (cT.out _).mono ?_
      rintro e' w2 ⟨rfl, hb2⟩
      have hG2 := hG.trans (hb2.mono hG.size)
      have hW2 := hb1.trans (hb2.mono hb1.size)
      have hx2 := blk_below hbxH.out hW2
      (try clear q0 q1 q2 q3 q4 q5 q6 q7 q8 hltx)
      have hltx := blk_lt hx2
      have q0 := blk_cell hx2 0
      have q1 := blk_cell hx2 1
      have q2 := blk_cell hx2 2
      have q3 := blk_cell hx2 3
      have q4 := blk_cell hx2 4
      have q5 := blk_cell hx2 5
      have q6 := blk_cell hx2 6
      have q7 := blk_cell hx2 7
      have q8 := blk_cell hx2 8
      simp at q0 q1 q2 q3 q4 q5 q6 q7 q8
      clear hx2
      go_wp2_with fail
      refine (cC.out _ hG2).mono ?_
      rintro e' w3 ⟨rfl, hb3⟩
      have hG3 := hG2.trans (hb3.mono hG2.size)
      have hW3 := hW2.trans (hb3.mono hW2.size)
      have hx3 := blk_below hbxH.out hW3
      (try clear q0 q1 q2 q3 q4 q5 q6 q7 q8 hltx)
      have hltx := blk_lt hx3
      have q0 := blk_cell hx3 0
      have q1 := blk_cell hx3 1
      have q2 := blk_cell hx3 2
      have q3 := blk_cell hx3 3
      have q4 := blk_cell hx3 4
      have q5 := blk_cell hx3 5
      have q6 := blk_cell hx3 6
      have q7 := blk_cell hx3 7
      have q8 := blk_cell hx3 8
      simp at q0 q1 q2 q3 q4 q5 q6 q7 q8
      clear hx3 hb1 hb2 hb3 hG hG2 hW2
      go_wp2_with fail
      refine (cF.out _).mono ?_
      rintro e' w4 ⟨rfl, hb4⟩
      have hG4 := hG3.trans (hb4.mono hG3.size)
      have hW4 := hW3.trans (hb4.mono hW3.size)
      have hx4 := blk_below hbxH.out hW4
      (try clear q0 q1 q2 q3 q4 q5 q6 q7 q8 hltx)
      have hltx := blk_lt hx4
      have q0 := blk_cell hx4 0
      have q1 := blk_cell hx4 1
      have q2 := blk_cell hx4 2
      have q3 := blk_cell hx4 3
      have q4 := blk_cell hx4 4
      have q5 := blk_cell hx4 5
      have q6 := blk_cell hx4 6
      have q7 := blk_cell hx4 7
      have q8 := blk_cell hx4 8
      simp at q0 q1 q2 q3 q4 q5 q6 q7 q8
      clear hx4 hb4 hG3 hW3
      have hW4a := hW4.alloc hW4.size (.cells #[.bool (fNm e.act), .bool (fVl e.act), .bool false, .bool true] 145)
      go_wp2_with fail
      go_loopg [5] (n + 1) (fun g i wr => ∃ m k : Nat, k = m + 1 ∧ m ≤ n ∧ g = n + 1 - m ∧ i = .int .i64 (k : Int) ∧ (∀ j x y, j < m → tg[j]? = some x → tg[j + 1]? = some y → cmpT x y < 0) ∧ Below W.heap.size W wr)
      case atStart => exact ⟨0, 1, rfl, Nat.zero_le _, rfl, rfl, by simp, hW4a⟩
      case round =>
        clear hW4a
        obtain ⟨m, k, hkm, hm, rfl, rfl, hno, hbr⟩ := hrel
        have hGr := hb0.trans (hbr.mono hb0.size)
        have hz := hGr.size
        have hbxr := blk_below hbxH.out hbr
        have hltx := blk_lt hbxr
        have q5 := blk_cell hbxr 8
        simp at q5
        clear hbxr
        by_cases hlt : k < n
        · have hw : IntKind.i64.wrap ((k : Int) - 1) = (m : Int) := by rw [IntWalk.i64_in _ (by omega)]; omega
          have hmn : m < n := by omega
          obtain ⟨bA, oA, x, rfl, hbA, hp, hcp⟩ := (hAr.out wr hGr).at_ hmn
          obtain ⟨bB, oB, y, he, _, hq, hcq⟩ := (hAr.out wr hGr).at_ hlt
          obtain ⟨rfl, rfl⟩ : bA = bB ∧ oA = oB := by simpa using he
          clear he
          have p0 := hcp 0 _ rfl
          have p1 := hcp 1 _ rfl
          have p2 := hcp 2 _ rfl
          have r0 := hcq 0 _ rfl
          have r1 := hcq 1 _ rfl
          have r2 := hcq 2 _ rfl
          rw [Nat.add_zero] at p0 r0
          clear hcp hcq
          have hbA2 : bA < wr.heap.size := by omega
          have hcm := fun w' => (fun _ _ w' => pcmpt_any x y w') (List.mem_of_getElem? hp) (List.mem_of_getElem? hq) w'
          have hqs : tg[m + 1]? = some y := by rw [← hkm]; exact hq
          clear hq
          have hkH := Lib.hid hkm
          clear hkm
          have hnoH := Lib.hid hno
          have hpxH := Lib.hid hp
          have hqyH := Lib.hid hqs
          clear hno hp hqs
          have hq0 : KQ wr.heap.size wr wr := kq (Below.refl _ _)
          by_cases hge : 0 ≤ cmpT x y
          · have hT : Hid (3 = r) := Lib.hid (by
              rw [← hasc.out]; symm; rw [if_neg]
              intro ha
              have := (ascT_iff _).1 ha m x y hpxH.out hqyH.out
              omega)
            generalize cmpT x y = z at hcm hge
            have hcm := Lib.hid hcm
            have hdz : decide (0 ≤ z) = true := by simpa using hge
            go_wp2
            go_region_held3 (fun w' => KQ wr.heap.size wr w') (first
      | with_reducible exact kq_call (by assumption) (by simp) (by assumption)
      | with_reducible exact kq_grown (by assumption) (by simp) (by assumption) (by simp [Value.ownBlock])
      | ((with_reducible refine kq ?_); (repeat (first | (with_reducible exact Below.refl _ _) | (with_reducible refine Below.drew ?_) | (with_reducible refine Below.alloc ?_ (by simp) _) | (with_reducible refine Below.setCell ?_ (by simp) _) | (with_reducible exact (by assumption : KQ _ _ _).1))); done))
              (first | (go_at_call 61; refine (hcm.out _).mono ?_; rintro e w2 ⟨rfl, hb2⟩))
            have hF : KQ wr.heap.size wr w2 := by with_reducible assumption
            have hG : Below w.heap.size w w2 := hGr.trans (hF.1.mono hz)
            clear hF
            go_wp2
            go_ret
            exact ⟨ret_int hT.out, hG⟩
          · have hT : Hid (∀ j x y, j < m + 1 → tg[j]? = some x → tg[j + 1]? = some y → cmpT x y < 0) := Lib.hid (fun j x' y' hj h1 h2 => by
              by_cases hjm : j < m
              · exact hnoH.out j x' y' hjm h1 h2
              · obtain rfl : j = m := by omega
                rw [hpxH.out] at h1
                rw [hqyH.out] at h2
                cases h1
                cases h2
                omega)
            generalize cmpT x y = z at hcm hge
            have hcm := Lib.hid hcm
            have hdz : decide (0 ≤ z) = false := by simpa using hge
            go_wp2
            go_region_held3 (fun w' => KQ wr.heap.size wr w') (first
      | with_reducible exact kq_call (by assumption) (by simp) (by assumption)
      | with_reducible exact kq_grown (by assumption) (by simp) (by assumption) (by simp [Value.ownBlock])
      | ((with_reducible refine kq ?_); (repeat (first | (with_reducible exact Below.refl _ _) | (with_reducible refine Below.drew ?_) | (with_reducible refine Below.alloc ?_ (by simp) _) | (with_reducible refine Below.setCell ?_ (by simp) _) | (with_reducible exact (by assumption : KQ _ _ _).1))); done))
              (first | (go_at_call 61; refine (hcm.out _).mono ?_; rintro e w2 ⟨rfl, hb2⟩))
            have hF : KQ wr.heap.size wr w2 := by with_reducible assumption
            have hG : Below W.heap.size W w2 := hbr.trans (hF.1.mono hbr.size)
            clear hF
            go_wp2
            go_roundg (n + 1 - (m + 1))
            case measure => omega
            case rel => exact ⟨m + 1, k + 1, by rw [← hkH.out], by omega, rfl, by go_num, hT.out, hG⟩
        · have hT : Hid (0 = r) := Lib.hid (by
            rw [← hasc.out]; symm
            rw [if_pos]
            rw [ascT_iff]
            intro j x y h1 h2
            exact hno j x y (by have := (List.getElem?_eq_some_iff.1 h2).1; have := hlen.out; omega) h1 h2)
          clear hno
          go_wp2
          go_ret
          exact ⟨ret_int hT.out, hGr⟩
    | false =>
      rw [hftg] at cF hfx
      by_cases hn0 : n = 0
      · subst hn0
        have htg0 : tg = [] := List.eq_nil_of_length_eq_zero hlen.out
        have hT0 : Hid (0 = r) := Lib.hid (by have := hr4.out; rw [hfx.out, hs1, hs2, htg0] at this; simpa [ascT] using this)
        clear hat hftg h4 htg0 hs1 hs2
        go_enter Tryz.func35, Tryz.ntmps35
        go_wp2_with fail
        refine (cO.out _).mono ?_
        rintro e' w1 ⟨rfl, hb1⟩
        have hG := hb0.trans (hb1.mono hb0.size)
        have hx1 := blk_below hbxH.out hb1
        (try clear q0 q1 q2 q3 q4 q5 q6 q7 q8 hltx)
        have hltx := blk_lt hx1
        have q0 := blk_cell hx1 0
        have q1 := blk_cell hx1 1
        have q2 := blk_cell hx1 2
        have q3 := blk_cell hx1 3
        have q4 := blk_cell hx1 4
        have q5 := blk_cell hx1 5
        have q6 := blk_cell hx1 6
        have q7 := blk_cell hx1 7
        have q8 := blk_cell hx1 8
        simp at q0 q1 q2 q3 q4 q5 q6 q7 q8
        clear hx1
        go_wp2_with fail
        refine (cT.out _).mono ?_
        rintro e' w2 ⟨rfl, hb2⟩
        have hG2 := hG.trans (hb2.mono hG.size)
        have hW2 := hb1.trans (hb2.mono hb1.size)
        have hx2 := blk_below hbxH.out hW2
        (try clear q0 q1 q2 q3 q4 q5 q6 q7 q8 hltx)
        have hltx := blk_lt hx2
        have q0 := blk_cell hx2 0
        have q1 := blk_cell hx2 1
        have q2 := blk_cell hx2 2
        have q3 := blk_cell hx2 3
        have q4 := blk_cell hx2 4
        have q5 := blk_cell hx2 5
        have q6 := blk_cell hx2 6
        have q7 := blk_cell hx2 7
        have q8 := blk_cell hx2 8
        simp at q0 q1 q2 q3 q4 q5 q6 q7 q8
        clear hx2
        go_wp2_with fail
        refine (cC.out _ hG2).mono ?_
        rintro e' w3 ⟨rfl, hb3⟩
        have hG3 := hG2.trans (hb3.mono hG2.size)
        have hW3 := hW2.trans (hb3.mono hW2.size)
        have hx3 := blk_below hbxH.out hW3
        (try clear q0 q1 q2 q3 q4 q5 q6 q7 q8 hltx)
        have hltx := blk_lt hx3
        have q0 := blk_cell hx3 0
        have q1 := blk_cell hx3 1
        have q2 := blk_cell hx3 2
        have q3 := blk_cell hx3 3
        have q4 := blk_cell hx3 4
        have q5 := blk_cell hx3 5
        have q6 := blk_cell hx3 6
        have q7 := blk_cell hx3 7
        have q8 := blk_cell hx3 8
        simp at q0 q1 q2 q3 q4 q5 q6 q7 q8
        clear hx3 hb1 hb2 hb3 hG hG2 hW2
        go_wp2_with fail
        refine (cF.out _).mono ?_
        rintro e' w4 ⟨rfl, hb4⟩
        have hG4 := hG3.trans (hb4.mono hG3.size)
        have hW4 := hW3.trans (hb4.mono hW3.size)
        have hx4 := blk_below hbxH.out hW4
        (try clear q0 q1 q2 q3 q4 q5 q6 q7 q8 hltx)
        have hltx := blk_lt hx4
        have q0 := blk_cell hx4 0
        have q1 := blk_cell hx4 1
        have q2 := blk_cell hx4 2
        have q3 := blk_cell hx4 3
        have q4 := blk_cell hx4 4
        have q5 := blk_cell hx4 5
        have q6 := blk_cell hx4 6
        have q7 := blk_cell hx4 7
        have q8 := blk_cell hx4 8
        simp at q0 q1 q2 q3 q4 q5 q6 q7 q8
        clear hx4 hb4 hG3 hW3
        have hW4a := hW4.alloc hW4.size (.cells #[.bool (fNm e.act), .bool (fVl e.act), .bool false, .bool false] 145)
        go_wp2_with fail
        go_loopg [5] 2 (fun g i wr => g = 2 ∧ i = .int .i64 1 ∧ wr = (w4.alloc (.cells #[.bool (fNm e.act), .bool (fVl e.act), .bool false, .bool false] 145)))
        case atStart => exact ⟨rfl, rfl, rfl⟩
        case round =>
          obtain ⟨rfl, rfl, rfl⟩ := hrel
          have hGr := hb0.trans (hW4a.mono hb0.size)
          have hbxr := blk_below hbxH.out hW4a
          have hltx := blk_lt hbxr
          have q5 := blk_cell hbxr 8
          simp at q5
          clear hbxr
          go_wp2
          go_ret
          exact ⟨ret_int hT0.out, hGr⟩
      · have hT : Hid (3 = r) := Lib.hid (by have := hr4.out; rw [hfx.out, hs1, hs2, decide_eq_true (Nat.pos_of_ne_zero hn0)] at this; simpa using this)
        have hd0 : decide ((0 : Int) < (n : Int)) = true := decide_eq_true (by omega)
        have hd0n : decide (0 < n) = true := decide_eq_true (by omega)
        clear hat hftg h4 hn0 hs1 hs2
        go_enter Tryz.func35, Tryz.ntmps35
        go_wp2_with fail
        refine (cO.out _).mono ?_
        rintro e' w1 ⟨rfl, hb1⟩
        have hG := hb0.trans (hb1.mono hb0.size)
        have hx1 := blk_below hbxH.out hb1
        (try clear q0 q1 q2 q3 q4 q5 q6 q7 q8 hltx)
        have hltx := blk_lt hx1
        have q0 := blk_cell hx1 0
        have q1 := blk_cell hx1 1
        have q2 := blk_cell hx1 2
        have q3 := blk_cell hx1 3
        have q4 := blk_cell hx1 4
        have q5 := blk_cell hx1 5
        have q6 := blk_cell hx1 6
        have q7 := blk_cell hx1 7
        have q8 := blk_cell hx1 8
        simp at q0 q1 q2 q3 q4 q5 q6 q7 q8
        clear hx1
        go_wp2_with fail
        refine (cT.out _).mono ?_
        rintro e' w2 ⟨rfl, hb2⟩
        have hG2 := hG.trans (hb2.mono hG.size)
        have hW2 := hb1.trans (hb2.mono hb1.size)
        have hx2 := blk_below hbxH.out hW2
        (try clear q0 q1 q2 q3 q4 q5 q6 q7 q8 hltx)
        have hltx := blk_lt hx2
        have q0 := blk_cell hx2 0
        have q1 := blk_cell hx2 1
        have q2 := blk_cell hx2 2
        have q3 := blk_cell hx2 3
        have q4 := blk_cell hx2 4
        have q5 := blk_cell hx2 5
        have q6 := blk_cell hx2 6
        have q7 := blk_cell hx2 7
        have q8 := blk_cell hx2 8
        simp at q0 q1 q2 q3 q4 q5 q6 q7 q8
        clear hx2
        go_wp2_with fail
        refine (cC.out _ hG2).mono ?_
        rintro e' w3 ⟨rfl, hb3⟩
        have hG3 := hG2.trans (hb3.mono hG2.size)
        have hW3 := hW2.trans (hb3.mono hW2.size)
        have hx3 := blk_below hbxH.out hW3
        (try clear q0 q1 q2 q3 q4 q5 q6 q7 q8 hltx)
        have hltx := blk_lt hx3
        have q0 := blk_cell hx3 0
        have q1 := blk_cell hx3 1
        have q2 := blk_cell hx3 2
        have q3 := blk_cell hx3 3
        have q4 := blk_cell hx3 4
        have q5 := blk_cell hx3 5
        have q6 := blk_cell hx3 6
        have q7 := blk_cell hx3 7
        have q8 := blk_cell hx3 8
        simp at q0 q1 q2 q3 q4 q5 q6 q7 q8
        clear hx3 hb1 hb2 hb3 hG hG2 hW2
        go_wp2_with fail
        refine (cF.out _).mono ?_
        rintro e' w4 ⟨rfl, hb4⟩
        have hG4 := hG3.trans (hb4.mono hG3.size)
        have hW4 := hW3.trans (hb4.mono hW3.size)
        have hx4 := blk_below hbxH.out hW4
        (try clear q0 q1 q2 q3 q4 q5 q6 q7 q8 hltx)
        have hltx := blk_lt hx4
        have q0 := blk_cell hx4 0
        have q1 := blk_cell hx4 1
        have q2 := blk_cell hx4 2
        have q3 := blk_cell hx4 3
        have q4 := blk_cell hx4 4
        have q5 := blk_cell hx4 5
        have q6 := blk_cell hx4 6
        have q7 := blk_cell hx4 7
        have q8 := blk_cell hx4 8
        simp at q0 q1 q2 q3 q4 q5 q6 q7 q8
        clear hx4 hb4 hG3 hW3
        go_wp2
        go_ret
        exact ⟨ret_int hT.out, hG4.alloc hG4.size _⟩
end Go.Proofs.YtffnpfponnhddaaGreat
