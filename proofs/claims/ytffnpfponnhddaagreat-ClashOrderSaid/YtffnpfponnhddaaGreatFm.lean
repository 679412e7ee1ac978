/- Acts: their kinds, what they ask for; what is wrong with what somebody wants to do: the program's and the document's. -/
import Derived.Test.YtffnpfponnhddaaGreatN11
namespace Go.Proofs.YtffnpfponnhddaaGreat
open Go.RowKit

def kindA (a : Int) : Int := if a = 1 then 1 else if a = 2 then 2 else if a = 3 ∨ a = 4 then 3 else if a = 5 ∨ a = 6 then 4 else 0
def fNm (a : Int) : Bool := decide (3 ≤ a ∧ a ≤ 6)
def fVl (a : Int) : Bool := decide (a = 1 ∨ a = 2 ∨ a = 5)
def fAt (a : Int) : Bool := decide (a = 1 ∨ a = 5)
def fTg (a : Int) : Bool := decide (a = 4 ∨ a = 6)
def errOp (a : Int) (nm : List UInt8) (v : Int) : Int :=
  if kindA a = 0 then 5 else if (fNm a && !elemB nm) || (!fNm a && !nm.isEmpty) || (!fVl a && decide (v ≠ 0)) then 3 else if a = 2 ∧ (v < -1073741824 ∨ 1073741824 < v) then 2 else 0
theorem act7 (a : Int) : a = 1 ∨ a = 2 ∨ a = 3 ∨ a = 4 ∨ a = 5 ∨ a = 6 ∨ (kindA a = 0 ∧ (a == 1) = false ∧ (a == 2) = false ∧ (a == 3) = false ∧ (a == 4) = false ∧ (a == 5) = false ∧ (a == 6) = false) := by
  by_cases h1 : a = 1
  · exact .inl h1
  by_cases h2 : a = 2
  · exact .inr (.inl h2)
  by_cases h3 : a = 3
  · exact .inr (.inr (.inl h3))
  by_cases h4 : a = 4
  · exact .inr (.inr (.inr (.inl h4)))
  by_cases h5 : a = 5
  · exact .inr (.inr (.inr (.inr (.inl h5))))
  by_cases h6 : a = 6
  · exact .inr (.inr (.inr (.inr (.inr (.inl h6)))))
  · refine .inr (.inr (.inr (.inr (.inr (.inr ⟨?_, ?_⟩)))))
    · unfold kindA; simp [h1, h2, h3, h4, h5, h6]
    · simp [h1, h2, h3, h4, h5, h6]
set_option maxRecDepth 100000 in
theorem okind_any (a : Int) (w : World) :
    Calls Tryz.prog 30 #[.int .i64 a] w fun e w' => e = .returned (.int .i64 (kindA a)) ∧ w = w' := by
  rcases act7 a with rfl | rfl | rfl | rfl | rfl | rfl | ⟨h0, h1, h2, h3, h4, h5, h6⟩
  · go_enter Tryz.func30, Tryz.ntmps30
    go_wp2
    go_ret
    exact ⟨rfl, rfl⟩
  · go_enter Tryz.func30, Tryz.ntmps30
    go_wp2
    go_ret
    exact ⟨rfl, rfl⟩
  · go_enter Tryz.func30, Tryz.ntmps30
    go_wp2
    go_ret
    exact ⟨rfl, rfl⟩
  · go_enter Tryz.func30, Tryz.ntmps30
    go_wp2
    go_ret
    exact ⟨rfl, rfl⟩
  · go_enter Tryz.func30, Tryz.ntmps30
    go_wp2
    go_ret
    exact ⟨rfl, rfl⟩
  · go_enter Tryz.func30, Tryz.ntmps30
    go_wp2
    go_ret
    exact ⟨rfl, rfl⟩
  · rw [h0]
    go_enter Tryz.func30, Tryz.ntmps30
    go_wp2
    go_ret
    exact ⟨rfl, rfl⟩
set_option maxRecDepth 100000 in
theorem oform_any (a : Int) (w : World) :
    Calls Tryz.prog 54 #[.int .i64 a] w fun e w' => e = .returned (.agg #[.bool (fNm a), .bool (fVl a), .bool (fAt a), .bool (fTg a)]) ∧ Below w.heap.size w w' := by
  have hbl : ∀ w : World, Below w.heap.size w ((w.alloc (.cells #[.bool false, .bool false, .bool false, .bool false] 145)).alloc (.cells #[.bool false, .bool false, .bool false, .bool false] 145)) := fun w => ((Below.refl _ w).alloc (Nat.le_refl _) _).alloc (by simp) _
  rcases act7 a with rfl | rfl | rfl | rfl | rfl | rfl | ⟨h0, h1, h2, h3, h4, h5, h6⟩
  · go_enter Tryz.func54, Tryz.ntmps54
    go_wp2
    refine bodyPost_ret (v := .agg #[.bool false, .bool true, .bool true, .bool false]) (by simp [results, Tryz.results54, go_sem]) rfl ⟨rfl, ?_⟩
    first
      | exact ((Below.refl _ w).alloc (Nat.le_refl _) _).alloc (by simp) _
      | ((repeat (first | (with_reducible refine Below.setCell ?_ (by simp) _) | (with_reducible refine Below.alloc ?_ (by first | exact Nat.le_refl _ | (simp; done) | (simp; omega)) _))); exact Below.refl _ w)
  · go_enter Tryz.func54, Tryz.ntmps54
    go_wp2
    refine bodyPost_ret (v := .agg #[.bool false, .bool true, .bool false, .bool false]) (by simp [results, Tryz.results54, go_sem]) rfl ⟨rfl, ?_⟩
    first
      | exact ((Below.refl _ w).alloc (Nat.le_refl _) _).alloc (by simp) _
      | ((repeat (first | (with_reducible refine Below.setCell ?_ (by simp) _) | (with_reducible refine Below.alloc ?_ (by first | exact Nat.le_refl _ | (simp; done) | (simp; omega)) _))); exact Below.refl _ w)
  · go_enter Tryz.func54, Tryz.ntmps54
    go_wp2
    refine bodyPost_ret (v := .agg #[.bool true, .bool false, .bool false, .bool false]) (by simp [results, Tryz.results54, go_sem]) rfl ⟨rfl, ?_⟩
    first
      | exact ((Below.refl _ w).alloc (Nat.le_refl _) _).alloc (by simp) _
      | ((repeat (first | (with_reducible refine Below.setCell ?_ (by simp) _) | (with_reducible refine Below.alloc ?_ (by first | exact Nat.le_refl _ | (simp; done) | (simp; omega)) _))); exact Below.refl _ w)
  · go_enter Tryz.func54, Tryz.ntmps54
    go_wp2
    refine bodyPost_ret (v := .agg #[.bool true, .bool false, .bool false, .bool true]) (by simp [results, Tryz.results54, go_sem]) rfl ⟨rfl, ?_⟩
    first
      | exact ((Below.refl _ w).alloc (Nat.le_refl _) _).alloc (by simp) _
      | ((repeat (first | (with_reducible refine Below.setCell ?_ (by simp) _) | (with_reducible refine Below.alloc ?_ (by first | exact Nat.le_refl _ | (simp; done) | (simp; omega)) _))); exact Below.refl _ w)
  · go_enter Tryz.func54, Tryz.ntmps54
    go_wp2
    refine bodyPost_ret (v := .agg #[.bool true, .bool true, .bool true, .bool false]) (by simp [results, Tryz.results54, go_sem]) rfl ⟨rfl, ?_⟩
    first
      | exact ((Below.refl _ w).alloc (Nat.le_refl _) _).alloc (by simp) _
      | ((repeat (first | (with_reducible refine Below.setCell ?_ (by simp) _) | (with_reducible refine Below.alloc ?_ (by first | exact Nat.le_refl _ | (simp; done) | (simp; omega)) _))); exact Below.refl _ w)
  · go_enter Tryz.func54, Tryz.ntmps54
    go_wp2
    refine bodyPost_ret (v := .agg #[.bool true, .bool false, .bool false, .bool true]) (by simp [results, Tryz.results54, go_sem]) rfl ⟨rfl, ?_⟩
    first
      | exact ((Below.refl _ w).alloc (Nat.le_refl _) _).alloc (by simp) _
      | ((repeat (first | (with_reducible refine Below.setCell ?_ (by simp) _) | (with_reducible refine Below.alloc ?_ (by first | exact Nat.le_refl _ | (simp; done) | (simp; omega)) _))); exact Below.refl _ w)
  · have hf : fNm a = false ∧ fVl a = false ∧ fAt a = false ∧ fTg a = false := by
      simp at h1 h2 h3 h4 h5 h6
      unfold kindA at h0
      refine ⟨?_, ?_, ?_, ?_⟩
      · unfold fNm; rw [decide_eq_false_iff_not]; omega
      · simp [fVl, h1, h2, h5]
      · simp [fAt, h1, h5]
      · simp [fTg, h4, h6]
    rw [hf.1, hf.2.1, hf.2.2.1, hf.2.2.2]
    go_enter Tryz.func54, Tryz.ntmps54
    go_wp2
    refine bodyPost_ret (v := .agg #[.bool false, .bool false, .bool false, .bool false]) (by simp [results, Tryz.results54, go_sem]) rfl ⟨rfl, ?_⟩
    first
      | exact ((Below.refl _ w).alloc (Nat.le_refl _) _).alloc (by simp) _
      | ((repeat (first | (with_reducible refine Below.setCell ?_ (by simp) _) | (with_reducible refine Below.alloc ?_ (by first | exact Nat.le_refl _ | (simp; done) | (simp; omega)) _))); exact Below.refl _ w)
set_option maxRecDepth 100000 in
set_option maxHeartbeats 2000000 in
theorem ocheckop_any (a : Int) (nm : List UInt8) (v : Int) (hl : nm.length ≤ maxLen) (w : World) :
    Calls Tryz.prog 29 #[.agg #[.int .i64 a, .string (bs nm), .int .i64 v]] w fun e w' => e = .returned (.int .i64 (errOp a nm v)) ∧ Below w.heap.size w w' := by
  have hb0 : Below w.heap.size w (w.alloc (.cells #[.int .i64 a, .string (bs nm), .int .i64 v] 49)) := (Below.refl _ w).alloc (Nat.le_refl _) _
  have hbx : (w.alloc (.cells #[.int .i64 a, .string (bs nm), .int .i64 v] 49)).heap[w.heap.size]? = some (.cells #[.int .i64 a, .string (bs nm), .int .i64 v] 49 (0, 0)) := heap_at _ _ rfl
  generalize hW : w.alloc (.cells #[.int .i64 a, .string (bs nm), .int .i64 v] 49) = W at hb0 hbx
  have hltx := blk_lt hbx
  have q0 := blk_cell hbx 0
  have q1 := blk_cell hbx 1
  have q2 := blk_cell hbx 2
  simp at q0 q1 q2
  have hbxH := Lib.hid hbx
  have hbe : (bs nm).toList = nm := bs_toL nm
  have cE := Lib.hid (oelem_any nm hl)
  have cK := Lib.hid (fun w => okind_any a w)
  have cF := Lib.hid (fun w => oform_any a w)
  clear hbx
  rcases act7 a with rfl | rfl | rfl | rfl | rfl | rfl | ⟨h0, h1, h2, h3, h4, h5, h6⟩
  · rw [show kindA 1 = 1 from by decide] at cK
    rw [show fNm 1 = false from by decide, show fVl 1 = true from by decide, show fAt 1 = true from by decide, show fTg 1 = false from by decide] at cF
    by_cases hn : nm = []
    case neg =>
      have hni : nm.isEmpty = false := by rw [List.isEmpty_eq_false_iff]; exact hn
      have hnb : (bs nm).toList.isEmpty = false := by rw [hbe]; exact hni
      have hT : Hid ((3 : Int) = errOp 1 nm v) := Lib.hid (by unfold errOp; simp [kindA, fNm, fVl, hni])

      go_enter Tryz.func29, Tryz.ntmps29
      go_wp2_with fail
      refine (cK.out _).mono ?_
      rintro e w1 ⟨rfl, rfl⟩
      go_wp2_with fail
      refine (cF.out _).mono ?_
      rintro e w2 ⟨rfl, hb2⟩
      have hx2 := blk_below hbxH.out hb2
      clear q0 q1 q2 hltx
      have hltx := blk_lt hx2
      have q0 := blk_cell hx2 0
      have q1 := blk_cell hx2 1
      have q2 := blk_cell hx2 2
      simp at q0 q1 q2
      clear hx2
      have hG := hb0.trans (hb2.mono hb0.size)
      have hG3 := hG.alloc hG.size (.cells #[.bool false, .bool false, .bool false, .bool false] 145)
      go_wp2
      go_ret
      refine ⟨ret_int hT.out, ?_⟩
      first
        | exact hb0
        | exact hG
        | exact hG.alloc hG.size _
    subst hn
    rw [bs_nil] at q1
    have hT : Hid ((0 : Int) = errOp 1 [] v) := Lib.hid (by unfold errOp; simp [kindA, fNm, fVl])
    go_enter Tryz.func29, Tryz.ntmps29
    go_wp2_with fail
    refine (cK.out _).mono ?_
    rintro e w1 ⟨rfl, rfl⟩
    go_wp2_with fail
    refine (cF.out _).mono ?_
    rintro e w2 ⟨rfl, hb2⟩
    have hx2 := blk_below hbxH.out hb2
    clear q0 q1 q2 hltx
    have hltx := blk_lt hx2
    have q0 := blk_cell hx2 0
    have q1 := blk_cell hx2 1
    rw [bs_nil] at q1
    have q2 := blk_cell hx2 2
    simp at q0 q1 q2
    clear hx2
    have hG := hb0.trans (hb2.mono hb0.size)
    have hG3 := hG.alloc hG.size (.cells #[.bool false, .bool false, .bool false, .bool false] 145)
    go_wp2
    go_ret
    refine ⟨ret_int hT.out, ?_⟩
    first
      | exact hb0
      | exact hG
      | exact hG.alloc hG.size _
  · rw [show kindA 2 = 2 from by decide] at cK
    rw [show fNm 2 = false from by decide, show fVl 2 = true from by decide, show fAt 2 = false from by decide, show fTg 2 = false from by decide] at cF
    by_cases hn : nm = []
    case neg =>
      have hni : nm.isEmpty = false := by rw [List.isEmpty_eq_false_iff]; exact hn
      have hnb : (bs nm).toList.isEmpty = false := by rw [hbe]; exact hni
      have hT : Hid ((3 : Int) = errOp 2 nm v) := Lib.hid (by unfold errOp; simp [kindA, fNm, fVl, hni])

      go_enter Tryz.func29, Tryz.ntmps29
      go_wp2_with fail
      refine (cK.out _).mono ?_
      rintro e w1 ⟨rfl, rfl⟩
      go_wp2_with fail
      refine (cF.out _).mono ?_
      rintro e w2 ⟨rfl, hb2⟩
      have hx2 := blk_below hbxH.out hb2
      clear q0 q1 q2 hltx
      have hltx := blk_lt hx2
      have q0 := blk_cell hx2 0
      have q1 := blk_cell hx2 1
      have q2 := blk_cell hx2 2
      simp at q0 q1 q2
      clear hx2
      have hG := hb0.trans (hb2.mono hb0.size)
      have hG3 := hG.alloc hG.size (.cells #[.bool false, .bool false, .bool false, .bool false] 145)
      go_wp2
      go_ret
      refine ⟨ret_int hT.out, ?_⟩
      first
        | exact hb0
        | exact hG
        | exact hG.alloc hG.size _
    subst hn
    rw [bs_nil] at q1
    by_cases hv1 : v < -1073741824
    · have d1 : decide (v < -1073741824) = true := decide_eq_true hv1
      have hT : Hid ((2 : Int) = errOp 2 [] v) := Lib.hid (by unfold errOp; simp [kindA, fNm, fVl, hv1])
      go_enter Tryz.func29, Tryz.ntmps29
      go_wp2_with fail
      refine (cK.out _).mono ?_
      rintro e w1 ⟨rfl, rfl⟩
      go_wp2_with fail
      refine (cF.out _).mono ?_
      rintro e w2 ⟨rfl, hb2⟩
      have hx2 := blk_below hbxH.out hb2
      clear q0 q1 q2 hltx
      have hltx := blk_lt hx2
      have q0 := blk_cell hx2 0
      have q1 := blk_cell hx2 1
      rw [bs_nil] at q1
      have q2 := blk_cell hx2 2
      simp at q0 q1 q2
      clear hx2
      have hG := hb0.trans (hb2.mono hb0.size)
      have hG3 := hG.alloc hG.size (.cells #[.bool false, .bool false, .bool false, .bool false] 145)
      go_wp2
      go_ret
      refine ⟨ret_int hT.out, ?_⟩
      first
        | exact hb0
        | exact hG
        | exact hG.alloc hG.size _
    have d1 : decide (v < -1073741824) = false := decide_eq_false hv1
    by_cases hv2 : 1073741824 < v
    · have d2 : decide (1073741824 < v) = true := decide_eq_true hv2
      have hT : Hid ((2 : Int) = errOp 2 [] v) := Lib.hid (by unfold errOp; simp [kindA, fNm, fVl, hv1, hv2])
      go_enter Tryz.func29, Tryz.ntmps29
      go_wp2_with fail
      refine (cK.out _).mono ?_
      rintro e w1 ⟨rfl, rfl⟩
      go_wp2_with fail
      refine (cF.out _).mono ?_
      rintro e w2 ⟨rfl, hb2⟩
      have hx2 := blk_below hbxH.out hb2
      clear q0 q1 q2 hltx
      have hltx := blk_lt hx2
      have q0 := blk_cell hx2 0
      have q1 := blk_cell hx2 1
      rw [bs_nil] at q1
      have q2 := blk_cell hx2 2
      simp at q0 q1 q2
      clear hx2
      have hG := hb0.trans (hb2.mono hb0.size)
      have hG3 := hG.alloc hG.size (.cells #[.bool false, .bool false, .bool false, .bool false] 145)
      go_wp2
      go_ret
      refine ⟨ret_int hT.out, ?_⟩
      first
        | exact hb0
        | exact hG
        | exact hG.alloc hG.size _
    · have d2 : decide (1073741824 < v) = false := decide_eq_false hv2
      have hT : Hid ((0 : Int) = errOp 2 [] v) := Lib.hid (by unfold errOp; simp [kindA, fNm, fVl, hv1, hv2])
      go_enter Tryz.func29, Tryz.ntmps29
      go_wp2_with fail
      refine (cK.out _).mono ?_
      rintro e w1 ⟨rfl, rfl⟩
      go_wp2_with fail
      refine (cF.out _).mono ?_
      rintro e w2 ⟨rfl, hb2⟩
      have hx2 := blk_below hbxH.out hb2
      clear q0 q1 q2 hltx
      have hltx := blk_lt hx2
      have q0 := blk_cell hx2 0
      have q1 := blk_cell hx2 1
      rw [bs_nil] at q1
      have q2 := blk_cell hx2 2
      simp at q0 q1 q2
      clear hx2
      have hG := hb0.trans (hb2.mono hb0.size)
      have hG3 := hG.alloc hG.size (.cells #[.bool false, .bool false, .bool false, .bool false] 145)
      go_wp2
      go_ret
      refine ⟨ret_int hT.out, ?_⟩
      first
        | exact hb0
        | exact hG
        | exact hG.alloc hG.size _
  · rw [show kindA 3 = 3 from by decide] at cK
    rw [show fNm 3 = true from by decide, show fVl 3 = false from by decide, show fAt 3 = false from by decide, show fTg 3 = false from by decide] at cF
    cases he : elemB nm with
    | false =>
      rw [he] at cE
      have hT : Hid ((3 : Int) = errOp 3 nm v) := Lib.hid (by unfold errOp; simp [kindA, fNm, fVl, he])
      go_enter Tryz.func29, Tryz.ntmps29
      go_wp2_with fail
      refine (cK.out _).mono ?_
      rintro e w1 ⟨rfl, rfl⟩
      go_wp2_with fail
      refine (cF.out _).mono ?_
      rintro e w2 ⟨rfl, hb2⟩
      have hx2 := blk_below hbxH.out hb2
      clear q0 q1 q2 hltx
      have hltx := blk_lt hx2
      have q0 := blk_cell hx2 0
      have q1 := blk_cell hx2 1
      have q2 := blk_cell hx2 2
      simp at q0 q1 q2
      clear hx2
      have hG := hb0.trans (hb2.mono hb0.size)
      have hG3 := hG.alloc hG.size (.cells #[.bool false, .bool false, .bool false, .bool false] 145)
      go_wp2_with fail
      refine (cE.out _).mono ?_
      rintro e w3 ⟨rfl, hw3⟩
      obtain rfl := hw3
      go_wp2
      go_ret
      refine ⟨ret_int hT.out, ?_⟩
      first
        | exact hb0
        | exact hG
        | exact hG.alloc hG.size _
    | true =>
      rw [he] at cE
      by_cases hv : v = 0
      · subst hv
        have hT : Hid ((0 : Int) = errOp 3 nm 0) := Lib.hid (by unfold errOp; simp [kindA, fNm, fVl, he])
        go_enter Tryz.func29, Tryz.ntmps29
        go_wp2_with fail
        refine (cK.out _).mono ?_
        rintro e w1 ⟨rfl, rfl⟩
        go_wp2_with fail
        refine (cF.out _).mono ?_
        rintro e w2 ⟨rfl, hb2⟩
        have hx2 := blk_below hbxH.out hb2
        clear q0 q1 q2 hltx
        have hltx := blk_lt hx2
        have q0 := blk_cell hx2 0
        have q1 := blk_cell hx2 1
        have q2 := blk_cell hx2 2
        simp at q0 q1 q2
        clear hx2
        have hG := hb0.trans (hb2.mono hb0.size)
        have hG3 := hG.alloc hG.size (.cells #[.bool false, .bool false, .bool false, .bool false] 145)
        go_wp2_with fail
        refine (cE.out _).mono ?_
        rintro e w3 ⟨rfl, hw3⟩
        obtain rfl := hw3
        go_wp2
        go_ret
        refine ⟨ret_int hT.out, ?_⟩
        first
          | exact hb0
          | exact hG
          | exact hG.alloc hG.size _
      · have hvb : (v != 0) = true := by simpa using hv
        have hT : Hid ((3 : Int) = errOp 3 nm v) := Lib.hid (by unfold errOp; simp [kindA, fNm, fVl, he, hv])
        go_enter Tryz.func29, Tryz.ntmps29
        go_wp2_with fail
        refine (cK.out _).mono ?_
        rintro e w1 ⟨rfl, rfl⟩
        go_wp2_with fail
        refine (cF.out _).mono ?_
        rintro e w2 ⟨rfl, hb2⟩
        have hx2 := blk_below hbxH.out hb2
        clear q0 q1 q2 hltx
        have hltx := blk_lt hx2
        have q0 := blk_cell hx2 0
        have q1 := blk_cell hx2 1
        have q2 := blk_cell hx2 2
        simp at q0 q1 q2
        clear hx2
        have hG := hb0.trans (hb2.mono hb0.size)
        have hG3 := hG.alloc hG.size (.cells #[.bool false, .bool false, .bool false, .bool false] 145)
        go_wp2_with fail
        refine (cE.out _).mono ?_
        rintro e w3 ⟨rfl, hw3⟩
        obtain rfl := hw3
        go_wp2
        go_ret
        refine ⟨ret_int hT.out, ?_⟩
        first
          | exact hb0
          | exact hG
          | exact hG.alloc hG.size _
  · rw [show kindA 4 = 3 from by decide] at cK
    rw [show fNm 4 = true from by decide, show fVl 4 = false from by decide, show fAt 4 = false from by decide, show fTg 4 = true from by decide] at cF
    cases he : elemB nm with
    | false =>
      rw [he] at cE
      have hT : Hid ((3 : Int) = errOp 4 nm v) := Lib.hid (by unfold errOp; simp [kindA, fNm, fVl, he])
      go_enter Tryz.func29, Tryz.ntmps29
      go_wp2_with fail
      refine (cK.out _).mono ?_
      rintro e w1 ⟨rfl, rfl⟩
      go_wp2_with fail
      refine (cF.out _).mono ?_
      rintro e w2 ⟨rfl, hb2⟩
      have hx2 := blk_below hbxH.out hb2
      clear q0 q1 q2 hltx
      have hltx := blk_lt hx2
      have q0 := blk_cell hx2 0
      have q1 := blk_cell hx2 1
      have q2 := blk_cell hx2 2
      simp at q0 q1 q2
      clear hx2
      have hG := hb0.trans (hb2.mono hb0.size)
      have hG3 := hG.alloc hG.size (.cells #[.bool false, .bool false, .bool false, .bool false] 145)
      go_wp2_with fail
      refine (cE.out _).mono ?_
      rintro e w3 ⟨rfl, hw3⟩
      obtain rfl := hw3
      go_wp2
      go_ret
      refine ⟨ret_int hT.out, ?_⟩
      first
        | exact hb0
        | exact hG
        | exact hG.alloc hG.size _
    | true =>
      rw [he] at cE
      by_cases hv : v = 0
      · subst hv
        have hT : Hid ((0 : Int) = errOp 4 nm 0) := Lib.hid (by unfold errOp; simp [kindA, fNm, fVl, he])
        go_enter Tryz.func29, Tryz.ntmps29
        go_wp2_with fail
        refine (cK.out _).mono ?_
        rintro e w1 ⟨rfl, rfl⟩
        go_wp2_with fail
        refine (cF.out _).mono ?_
        rintro e w2 ⟨rfl, hb2⟩
        have hx2 := blk_below hbxH.out hb2
        clear q0 q1 q2 hltx
        have hltx := blk_lt hx2
        have q0 := blk_cell hx2 0
        have q1 := blk_cell hx2 1
        have q2 := blk_cell hx2 2
        simp at q0 q1 q2
        clear hx2
        have hG := hb0.trans (hb2.mono hb0.size)
        have hG3 := hG.alloc hG.size (.cells #[.bool false, .bool false, .bool false, .bool false] 145)
        go_wp2_with fail
        refine (cE.out _).mono ?_
        rintro e w3 ⟨rfl, hw3⟩
        obtain rfl := hw3
        go_wp2
        go_ret
        refine ⟨ret_int hT.out, ?_⟩
        first
          | exact hb0
          | exact hG
          | exact hG.alloc hG.size _
      · have hvb : (v != 0) = true := by simpa using hv
        have hT : Hid ((3 : Int) = errOp 4 nm v) := Lib.hid (by unfold errOp; simp [kindA, fNm, fVl, he, hv])
        go_enter Tryz.func29, Tryz.ntmps29
        go_wp2_with fail
        refine (cK.out _).mono ?_
        rintro e w1 ⟨rfl, rfl⟩
        go_wp2_with fail
        refine (cF.out _).mono ?_
        rintro e w2 ⟨rfl, hb2⟩
        have hx2 := blk_below hbxH.out hb2
        clear q0 q1 q2 hltx
        have hltx := blk_lt hx2
        have q0 := blk_cell hx2 0
        have q1 := blk_cell hx2 1
        have q2 := blk_cell hx2 2
        simp at q0 q1 q2
        clear hx2
        have hG := hb0.trans (hb2.mono hb0.size)
        have hG3 := hG.alloc hG.size (.cells #[.bool false, .bool false, .bool false, .bool false] 145)
        go_wp2_with fail
        refine (cE.out _).mono ?_
        rintro e w3 ⟨rfl, hw3⟩
        obtain rfl := hw3
        go_wp2
        go_ret
        refine ⟨ret_int hT.out, ?_⟩
        first
          | exact hb0
          | exact hG
          | exact hG.alloc hG.size _
  · rw [show kindA 5 = 4 from by decide] at cK
    rw [show fNm 5 = true from by decide, show fVl 5 = true from by decide, show fAt 5 = true from by decide, show fTg 5 = false from by decide] at cF
    cases he : elemB nm with
    | false =>
      rw [he] at cE
      have hT : Hid ((3 : Int) = errOp 5 nm v) := Lib.hid (by unfold errOp; simp [kindA, fNm, fVl, he])
      go_enter Tryz.func29, Tryz.ntmps29
      go_wp2_with fail
      refine (cK.out _).mono ?_
      rintro e w1 ⟨rfl, rfl⟩
      go_wp2_with fail
      refine (cF.out _).mono ?_
      rintro e w2 ⟨rfl, hb2⟩
      have hx2 := blk_below hbxH.out hb2
      clear q0 q1 q2 hltx
      have hltx := blk_lt hx2
      have q0 := blk_cell hx2 0
      have q1 := blk_cell hx2 1
      have q2 := blk_cell hx2 2
      simp at q0 q1 q2
      clear hx2
      have hG := hb0.trans (hb2.mono hb0.size)
      have hG3 := hG.alloc hG.size (.cells #[.bool false, .bool false, .bool false, .bool false] 145)
      go_wp2_with fail
      refine (cE.out _).mono ?_
      rintro e w3 ⟨rfl, hw3⟩
      obtain rfl := hw3
      go_wp2
      go_ret
      refine ⟨ret_int hT.out, ?_⟩
      first
        | exact hb0
        | exact hG
        | exact hG.alloc hG.size _
    | true =>
      rw [he] at cE
      have hT : Hid ((0 : Int) = errOp 5 nm v) := Lib.hid (by unfold errOp; simp [kindA, fNm, fVl, he])
      go_enter Tryz.func29, Tryz.ntmps29
      go_wp2_with fail
      refine (cK.out _).mono ?_
      rintro e w1 ⟨rfl, rfl⟩
      go_wp2_with fail
      refine (cF.out _).mono ?_
      rintro e w2 ⟨rfl, hb2⟩
      have hx2 := blk_below hbxH.out hb2
      clear q0 q1 q2 hltx
      have hltx := blk_lt hx2
      have q0 := blk_cell hx2 0
      have q1 := blk_cell hx2 1
      have q2 := blk_cell hx2 2
      simp at q0 q1 q2
      clear hx2
      have hG := hb0.trans (hb2.mono hb0.size)
      have hG3 := hG.alloc hG.size (.cells #[.bool false, .bool false, .bool false, .bool false] 145)
      go_wp2_with fail
      refine (cE.out _).mono ?_
      rintro e w3 ⟨rfl, hw3⟩
      obtain rfl := hw3
      go_wp2
      go_ret
      refine ⟨ret_int hT.out, ?_⟩
      first
        | exact hb0
        | exact hG
        | exact hG.alloc hG.size _
  · rw [show kindA 6 = 4 from by decide] at cK
    rw [show fNm 6 = true from by decide, show fVl 6 = false from by decide, show fAt 6 = false from by decide, show fTg 6 = true from by decide] at cF
    cases he : elemB nm with
    | false =>
      rw [he] at cE
      have hT : Hid ((3 : Int) = errOp 6 nm v) := Lib.hid (by unfold errOp; simp [kindA, fNm, fVl, he])
      go_enter Tryz.func29, Tryz.ntmps29
      go_wp2_with fail
      refine (cK.out _).mono ?_
      rintro e w1 ⟨rfl, rfl⟩
      go_wp2_with fail
      refine (cF.out _).mono ?_
      rintro e w2 ⟨rfl, hb2⟩
      have hx2 := blk_below hbxH.out hb2
      clear q0 q1 q2 hltx
      have hltx := blk_lt hx2
      have q0 := blk_cell hx2 0
      have q1 := blk_cell hx2 1
      have q2 := blk_cell hx2 2
      simp at q0 q1 q2
      clear hx2
      have hG := hb0.trans (hb2.mono hb0.size)
      have hG3 := hG.alloc hG.size (.cells #[.bool false, .bool false, .bool false, .bool false] 145)
      go_wp2_with fail
      refine (cE.out _).mono ?_
      rintro e w3 ⟨rfl, hw3⟩
      obtain rfl := hw3
      go_wp2
      go_ret
      refine ⟨ret_int hT.out, ?_⟩
      first
        | exact hb0
        | exact hG
        | exact hG.alloc hG.size _
    | true =>
      rw [he] at cE
      by_cases hv : v = 0
      · subst hv
        have hT : Hid ((0 : Int) = errOp 6 nm 0) := Lib.hid (by unfold errOp; simp [kindA, fNm, fVl, he])
        go_enter Tryz.func29, Tryz.ntmps29
        go_wp2_with fail
        refine (cK.out _).mono ?_
        rintro e w1 ⟨rfl, rfl⟩
        go_wp2_with fail
        refine (cF.out _).mono ?_
        rintro e w2 ⟨rfl, hb2⟩
        have hx2 := blk_below hbxH.out hb2
        clear q0 q1 q2 hltx
        have hltx := blk_lt hx2
        have q0 := blk_cell hx2 0
        have q1 := blk_cell hx2 1
        have q2 := blk_cell hx2 2
        simp at q0 q1 q2
        clear hx2
        have hG := hb0.trans (hb2.mono hb0.size)
        have hG3 := hG.alloc hG.size (.cells #[.bool false, .bool false, .bool false, .bool false] 145)
        go_wp2_with fail
        refine (cE.out _).mono ?_
        rintro e w3 ⟨rfl, hw3⟩
        obtain rfl := hw3
        go_wp2
        go_ret
        refine ⟨ret_int hT.out, ?_⟩
        first
          | exact hb0
          | exact hG
          | exact hG.alloc hG.size _
      · have hvb : (v != 0) = true := by simpa using hv
        have hT : Hid ((3 : Int) = errOp 6 nm v) := Lib.hid (by unfold errOp; simp [kindA, fNm, fVl, he, hv])
        go_enter Tryz.func29, Tryz.ntmps29
        go_wp2_with fail
        refine (cK.out _).mono ?_
        rintro e w1 ⟨rfl, rfl⟩
        go_wp2_with fail
        refine (cF.out _).mono ?_
        rintro e w2 ⟨rfl, hb2⟩
        have hx2 := blk_below hbxH.out hb2
        clear q0 q1 q2 hltx
        have hltx := blk_lt hx2
        have q0 := blk_cell hx2 0
        have q1 := blk_cell hx2 1
        have q2 := blk_cell hx2 2
        simp at q0 q1 q2
        clear hx2
        have hG := hb0.trans (hb2.mono hb0.size)
        have hG3 := hG.alloc hG.size (.cells #[.bool false, .bool false, .bool false, .bool false] 145)
        go_wp2_with fail
        refine (cE.out _).mono ?_
        rintro e w3 ⟨rfl, hw3⟩
        obtain rfl := hw3
        go_wp2
        go_ret
        refine ⟨ret_int hT.out, ?_⟩
        first
          | exact hb0
          | exact hG
          | exact hG.alloc hG.size _
  · rw [h0] at cK
    have hT : Hid ((5 : Int) = errOp a nm v) := Lib.hid (by unfold errOp; rw [if_pos h0])
    go_enter Tryz.func29, Tryz.ntmps29
    go_wp2_with fail
    refine (cK.out _).mono ?_
    rintro e w1 ⟨rfl, rfl⟩
    go_wp2
    go_ret
    refine ⟨ret_int hT.out, ?_⟩
    first
      | exact hb0
      | exact hG
      | exact hG.alloc hG.size _
end Go.Proofs.YtffnpfponnhddaaGreat
