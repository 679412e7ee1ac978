/- tx.Merge: what two copies of a transaction have together. -/
import Derived.Test.YtpolplmniaoikaaDoorN22
import Derived.Test.YtpolplmniaoikaaDoorMm
import Derived.Test.YtpolplmniaoikaaDoorMb
import Derived.Test.YtpolplmniaoikaaDoorMc
import Derived.Test.YtpolplmniaoikaaDoorM41
namespace Go.Proofs.YtpolplmniaoikaaDoor
open Go.RowKit

theorem below_drX {w : World} {B : Nat} {v : World} (h : Below B v w) (n : Nat) : Below B v (w.drewN n) := h.trans ⟨rfl, rfl, rfl, Nat.le_refl _, fun _ _ => rfl⟩
instance : DecidableEq Ef := fun a b => decidable_of_iff (sameE a b = true) sameE_iff
/-- A part's number. -/
def pvN (p : Pv) : Int := p.2.tag.2
theorem samePv_dec (a b : Pv) : samePv a b = decide (a = b) := by
  rw [Bool.eq_iff_iff, samePv_iff, decide_eq_true_iff]
def zTv : Tv := ⟨(0, 0), zeroV, false, []⟩
/-- What two copies of a transaction have together, and what is wrong. -/
def mergeT (a b : Tv) : Tv × Int :=
  if txErr a.id a.deps a.parts ≠ 0 then (zTv, txErr a.id a.deps a.parts) else if txErr b.id b.deps b.parts ≠ 0 then (zTv, txErr b.id b.deps b.parts)
  else if (decide (a.id.1 = b.id.1) && decide (a.id.2 = b.id.2) && eqV a.deps b.deps) = false then (zTv, 3)
  else match mrgD pvN a.parts b.parts with
    | none => (zTv, 3)
    | some out => if 16 < out.length then (zTv, 8) else (⟨a.id, a.deps, a.thin && b.thin, out⟩, 0)
def MgR (M : Tv × Int) (w : World) (e : Ending) (w' : World) : Prop :=
  ∃ A' n' c' rs, e = .returned (.tuple #[.agg #[.int .i64 M.1.id.1, .int .u32 M.1.id.2, .int .u32 M.1.deps.d0, .int .u32 M.1.deps.d1, .int .u32 M.1.deps.d2, .int .u32 M.1.deps.d3, .int .u32 M.1.deps.d4, .int .u32 M.1.deps.d5, .int .u32 M.1.deps.d6, .int .u32 M.1.deps.d7, .bool M.1.thin, .slice A' n' c'], .int .i64 M.2]) ∧ OwE 69 w' w.heap.size A' n' c' rs ∧ rs.map Pe.core = M.1.parts ∧ Below w.heap.size w w'
theorem MgR.zero (E : Int) {w w' : World} (h : Below w.heap.size w w') : MgR (zTv, E) w (.returned (.tuple #[.agg #[.int .i64 (0, 0).1, .int .u32 (0, 0).2, .int .u32 zeroV.d0, .int .u32 zeroV.d1, .int .u32 zeroV.d2, .int .u32 zeroV.d3, .int .u32 zeroV.d4, .int .u32 zeroV.d5, .int .u32 zeroV.d6, .int .u32 zeroV.d7, .bool false, .slice none 0 0], .int .i64 E])) w' := ⟨none, 0, 0, [], rfl, OwE.nil_, rfl, h⟩
theorem MgR.full {x : Im} {v : Vm} {t : Bool} {out : List Pv} {A' : Option Addr} {n' c' : Nat} {rs : List Pe} {w w' : World} (ho : OwE 69 w' w.heap.size A' n' c' rs) (hr : rs.map Pe.core = out) (h : Below w.heap.size w w') :
    MgR (⟨x, v, t, out⟩, 0) w (.returned (.tuple #[.agg #[.int .i64 x.1, .int .u32 x.2, .int .u32 v.d0, .int .u32 v.d1, .int .u32 v.d2, .int .u32 v.d3, .int .u32 v.d4, .int .u32 v.d5, .int .u32 v.d6, .int .u32 v.d7, .bool t, .slice A' n' c'], .int .i64 0])) w' := ⟨A', n', c', rs, rfl, ho, hr, h⟩
set_option maxRecDepth 100000 in
set_option maxHeartbeats 8000000 in
theorem txmerge_any (x : Im) (v : Vm) (s : Bool) (A : Option Addr) (n c : Nat) (ps : List Pe) (y : Im) (u : Vm) (t : Bool) (B : Option Addr) (m d : Nat) (qs : List Pe) (w : World)
    (hA : RdE w w.heap.size A n ps) (hn : n ≤ maxLen) (hfA : ∀ p ∈ ps, p.Fit w) (hx : x.wf) (hvw : v.wf) (hB : RdE w w.heap.size B m qs) (hm : m ≤ maxLen) (hfB : ∀ p ∈ qs, p.Fit w) (hy : y.wf) (huw : u.wf) (hv : VarM w) (M : Tv × Int) (hM : mergeT ⟨x, v, s, ps.map Pe.core⟩ ⟨y, u, t, qs.map Pe.core⟩ = M) :
    Calls Tryd.prog 5 #[.agg #[.int .i64 x.1, .int .u32 x.2, .int .u32 v.d0, .int .u32 v.d1, .int .u32 v.d2, .int .u32 v.d3, .int .u32 v.d4, .int .u32 v.d5, .int .u32 v.d6, .int .u32 v.d7, .bool s, .slice A n c], .agg #[.int .i64 y.1, .int .u32 y.2, .int .u32 u.d0, .int .u32 u.d1, .int .u32 u.d2, .int .u32 u.d3, .int .u32 u.d4, .int .u32 u.d5, .int .u32 u.d6, .int .u32 u.d7, .bool t, .slice B m d]] w
      (fun e w' => MgR M w e w') := by
  have hb0 : Below w.heap.size w (((w.alloc (.cells #[.int .i64 x.1, .int .u32 x.2, .int .u32 v.d0, .int .u32 v.d1, .int .u32 v.d2, .int .u32 v.d3, .int .u32 v.d4, .int .u32 v.d5, .int .u32 v.d6, .int .u32 v.d7, .bool s, .slice A n c] 33)).alloc (.cells #[.int .i64 y.1, .int .u32 y.2, .int .u32 u.d0, .int .u32 u.d1, .int .u32 u.d2, .int .u32 u.d3, .int .u32 u.d4, .int .u32 u.d5, .int .u32 u.d6, .int .u32 u.d7, .bool t, .slice B m d] 33)).alloc (.cells #[.int .i64 0, .int .u32 0, .int .u32 0, .int .u32 0, .int .u32 0, .int .u32 0, .int .u32 0, .int .u32 0, .int .u32 0, .int .u32 0, .bool false, .slice none 0 0] 33)) := (((Below.refl _ w).alloc (Nat.le_refl _) _).alloc (by simp) _).alloc (by simp; omega) _
  have hba : (((w.alloc (.cells #[.int .i64 x.1, .int .u32 x.2, .int .u32 v.d0, .int .u32 v.d1, .int .u32 v.d2, .int .u32 v.d3, .int .u32 v.d4, .int .u32 v.d5, .int .u32 v.d6, .int .u32 v.d7, .bool s, .slice A n c] 33)).alloc (.cells #[.int .i64 y.1, .int .u32 y.2, .int .u32 u.d0, .int .u32 u.d1, .int .u32 u.d2, .int .u32 u.d3, .int .u32 u.d4, .int .u32 u.d5, .int .u32 u.d6, .int .u32 u.d7, .bool t, .slice B m d] 33)).alloc (.cells #[.int .i64 0, .int .u32 0, .int .u32 0, .int .u32 0, .int .u32 0, .int .u32 0, .int .u32 0, .int .u32 0, .int .u32 0, .int .u32 0, .bool false, .slice none 0 0] 33)).heap[w.heap.size]? = some (.cells #[.int .i64 x.1, .int .u32 x.2, .int .u32 v.d0, .int .u32 v.d1, .int .u32 v.d2, .int .u32 v.d3, .int .u32 v.d4, .int .u32 v.d5, .int .u32 v.d6, .int .u32 v.d7, .bool s, .slice A n c] 33 (0, 0)) := heap_old _ (by simp; omega) (heap_old _ (by simp) (heap_at _ _ rfl))
  have hbb : (((w.alloc (.cells #[.int .i64 x.1, .int .u32 x.2, .int .u32 v.d0, .int .u32 v.d1, .int .u32 v.d2, .int .u32 v.d3, .int .u32 v.d4, .int .u32 v.d5, .int .u32 v.d6, .int .u32 v.d7, .bool s, .slice A n c] 33)).alloc (.cells #[.int .i64 y.1, .int .u32 y.2, .int .u32 u.d0, .int .u32 u.d1, .int .u32 u.d2, .int .u32 u.d3, .int .u32 u.d4, .int .u32 u.d5, .int .u32 u.d6, .int .u32 u.d7, .bool t, .slice B m d] 33)).alloc (.cells #[.int .i64 0, .int .u32 0, .int .u32 0, .int .u32 0, .int .u32 0, .int .u32 0, .int .u32 0, .int .u32 0, .int .u32 0, .int .u32 0, .bool false, .slice none 0 0] 33)).heap[w.heap.size + 1]? = some (.cells #[.int .i64 y.1, .int .u32 y.2, .int .u32 u.d0, .int .u32 u.d1, .int .u32 u.d2, .int .u32 u.d3, .int .u32 u.d4, .int .u32 u.d5, .int .u32 u.d6, .int .u32 u.d7, .bool t, .slice B m d] 33 (0, 0)) := heap_old _ (by simp) (heap_at _ _ (by simp))
  have hbz : (((w.alloc (.cells #[.int .i64 x.1, .int .u32 x.2, .int .u32 v.d0, .int .u32 v.d1, .int .u32 v.d2, .int .u32 v.d3, .int .u32 v.d4, .int .u32 v.d5, .int .u32 v.d6, .int .u32 v.d7, .bool s, .slice A n c] 33)).alloc (.cells #[.int .i64 y.1, .int .u32 y.2, .int .u32 u.d0, .int .u32 u.d1, .int .u32 u.d2, .int .u32 u.d3, .int .u32 u.d4, .int .u32 u.d5, .int .u32 u.d6, .int .u32 u.d7, .bool t, .slice B m d] 33)).alloc (.cells #[.int .i64 0, .int .u32 0, .int .u32 0, .int .u32 0, .int .u32 0, .int .u32 0, .int .u32 0, .int .u32 0, .int .u32 0, .int .u32 0, .bool false, .slice none 0 0] 33)).heap[w.heap.size + 1 + 1]? = some (.cells #[.int .i64 0, .int .u32 0, .int .u32 0, .int .u32 0, .int .u32 0, .int .u32 0, .int .u32 0, .int .u32 0, .int .u32 0, .int .u32 0, .bool false, .slice none 0 0] 33 (0, 0)) := heap_at _ _ (by simp)
  generalize hWe : (((w.alloc (.cells #[.int .i64 x.1, .int .u32 x.2, .int .u32 v.d0, .int .u32 v.d1, .int .u32 v.d2, .int .u32 v.d3, .int .u32 v.d4, .int .u32 v.d5, .int .u32 v.d6, .int .u32 v.d7, .bool s, .slice A n c] 33)).alloc (.cells #[.int .i64 y.1, .int .u32 y.2, .int .u32 u.d0, .int .u32 u.d1, .int .u32 u.d2, .int .u32 u.d3, .int .u32 u.d4, .int .u32 u.d5, .int .u32 u.d6, .int .u32 u.d7, .bool t, .slice B m d] 33)).alloc (.cells #[.int .i64 0, .int .u32 0, .int .u32 0, .int .u32 0, .int .u32 0, .int .u32 0, .int .u32 0, .int .u32 0, .int .u32 0, .int .u32 0, .bool false, .slice none 0 0] 33)) = W at hb0 hba hbb hbz
  have hz0 := hb0.size
  have hlW : w.heap.size + 1 + 1 < W.heap.size := blk_lt hbz
  have hbaH := Lib.hid hba
  have hbbH := Lib.hid hbb
  have hbzH := Lib.hid hbz
  have q0 := blk_cell hba 0
  have q1 := blk_cell hba 1
  have q2 := blk_cell hba 2
  have q3 := blk_cell hba 3
  have q4 := blk_cell hba 4
  have q5 := blk_cell hba 5
  have q6 := blk_cell hba 6
  have q7 := blk_cell hba 7
  have q8 := blk_cell hba 8
  have q9 := blk_cell hba 9
  have q10 := blk_cell hba 10
  have q11 := blk_cell hba 11
  simp at q0 q1 q2 q3 q4 q5 q6 q7 q8 q9 q10 q11
  have r0 := blk_cell hbb 0
  have r1 := blk_cell hbb 1
  have r2 := blk_cell hbb 2
  have r3 := blk_cell hbb 3
  have r4 := blk_cell hbb 4
  have r5 := blk_cell hbb 5
  have r6 := blk_cell hbb 6
  have r7 := blk_cell hbb 7
  have r8 := blk_cell hbb 8
  have r9 := blk_cell hbb 9
  have r10 := blk_cell hbb 10
  have r11 := blk_cell hbb 11
  simp at r0 r1 r2 r3 r4 r5 r6 r7 r8 r9 r10 r11
  have hlta := blk_lt hba
  have hltb := blk_lt hbb
  have cA := Lib.hid (fun w' (h : Below w.heap.size w w') => txcheck_any x v s A n c ps w' ((hA.below h).more h.size) hn (fun p hp => (hfA p hp).below h) hx hvw (hv.below h hv.lt))
  have cB := Lib.hid (fun w' (h : Below w.heap.size w w') => txcheck_any y u t B m d qs w' ((hB.below h).more h.size) hm (fun p hp => (hfB p hp).below h) hy huw (hv.below h hv.lt))
  have hor := Lib.hid (fun g w hg h0 h1 => orE_any g (txErr x v (ps.map Pe.core)) (txErr y u (qs.map Pe.core)) w hg h0 h1)
  have hAr := Lib.hid (fun w' (h : Below w.heap.size w w') => hA.below h)
  have hBr := Lib.hid (fun w' (h : Below w.heap.size w w') => hB.below h)
  have hfAH := Lib.hid hfA
  have hfBH := Lib.hid hfB
  have hlA := Lib.hid hA.len
  have hlB := Lib.hid hB.len
  have hMH := Lib.hid hM
  unfold mergeT at hM
  dsimp only at hM
  generalize hea : txErr x v (ps.map Pe.core) = ea at *
  generalize heb : txErr y u (qs.map Pe.core) = eb at *
  replace hM := Lib.hid hM
  have heaH := Lib.hid hea
  have hebH := Lib.hid heb
  have hneq := neqV2 v u
  have hneqH := Lib.hid hneq
  clear hA hB hfA hfB hx hvw hy huw hv hba hbb hbz hea heb hneq
  obtain ⟨e0, he0⟩ : ∃ e0, (if ea ≠ 0 then ea else eb) = e0 := ⟨_, rfl⟩
  rw [he0] at hor
  replace he0 := Lib.hid he0
  go_enter Tryd.func5, Tryd.ntmps5
  go_wp2_with fail
  go_cut [6] (fun s6 wx => s6 = .int .i64 e0 ∧ Below W.heap.size W wx)
  case first =>
    refine wp_region_M (fun w' => KQ W.heap.size W w') (fun _ => True) 99 (by kernel_rfl) (kq (Below.refl _ _).drew) trivial ?_
    intro hcl
    have hC : KQ W.heap.size W W.drew := kq (Below.refl _ _).drew
    have hE := trivial
    (refine wpM_take (i := 0) (v := ?_) rfl (by kernel_rfl) (by kernel_rfl) (by kernel_rfl) (by decide) (fun _ _ _ h => h) hcl hC (fun _ => hE) (Or.inl ⟨by rfl, ?_⟩) ?_; rotate_left; (· (intro w hSw; (try dsimp only at hSw); go_simp; (try with_reducible rfl))); clear hcl; intro hcl; (try simp only [Act.put, List.getElem_toArray, List.getElem_cons_zero, List.setIfInBounds_toArray, List.set_cons_zero, List.set_cons_succ]))
    (refine wpM_take (i := 2) (v := ?_) rfl (by kernel_rfl) (by kernel_rfl) (by kernel_rfl) (by decide) (fun _ _ _ h => h) hcl hC (fun _ => hE) (Or.inl ⟨by rfl, ?_⟩) ?_; rotate_left; (· (intro w hSw; (try dsimp only at hSw); go_simp; (try with_reducible rfl))); clear hcl; intro hcl; (try simp only [Act.put, List.getElem_toArray, List.getElem_cons_zero, List.getElem_cons_succ, List.setIfInBounds_toArray, List.set_cons_zero, List.set_cons_succ]))
    refine wpM_only (i := 1) rfl (by kernel_rfl) hcl (fun K hK => ?_)
    go_simp
    refine (cA.out _ (hb0.trans (hC.1.mono hz0))).mono ?_
    rintro e v1 ⟨rfl, hv1⟩
    have hC' := kq_call hC (Nat.le_refl _) hv1
    refine hK.out _ _ hC' trivial ?_
    clear hK K
    clear hcl
    intro hcl
    (try simp only [Act.put, List.getElem_toArray, List.getElem_cons_zero, List.getElem_cons_succ, List.setIfInBounds_toArray, List.set_cons_zero, List.set_cons_succ])
    clear hC
    have hC := hC'
    clear hC'
    refine wpM_only (i := 3) rfl (by kernel_rfl) hcl (fun K hK => ?_)
    go_simp
    refine (cB.out _ (hb0.trans (hC.1.mono hz0))).mono ?_
    rintro e v2 ⟨rfl, hv2⟩
    have hC' := kq_call hC (Nat.le_refl _) hv2
    refine hK.out _ _ hC' trivial ?_
    clear hK K
    clear hcl
    intro hcl
    (try simp only [Act.put, List.getElem_toArray, List.getElem_cons_zero, List.getElem_cons_succ, List.setIfInBounds_toArray, List.set_cons_zero, List.set_cons_succ])
    clear hC
    have hC := hC'
    clear hC'
    refine wpM_only (i := 4) rfl (by kernel_rfl) hcl (fun K hK => ?_)
    go_simp
    have hC3 := kq_alloc hC (Nat.le_refl _) (.cells #[.int .i64 ea, .int .i64 eb] 34)
    refine hK.out _ _ hC3 trivial ?_
    clear hK K hcl hC
    intro hcl
    have hC := hC3
    (try simp only [Act.put, List.getElem_toArray, List.getElem_cons_zero, List.getElem_cons_succ, List.setIfInBounds_toArray, List.set_cons_zero, List.set_cons_succ])
    refine wpM_only (i := 5) rfl (by kernel_rfl) hcl (fun K hK => ?_)
    go_simp
    refine (hor.out _ _ (by simp) (blk_cell (heap_at _ _ (by simp)) 0) (blk_cell (heap_at _ _ (by simp)) 1)).mono ?_
    rintro e v3 ⟨rfl, rfl⟩
    refine hK.out _ _ hC trivial ?_
    clear hK K
    clear hcl
    intro hcl
    (try simp only [Act.put, List.getElem_toArray, List.getElem_cons_zero, List.getElem_cons_succ, List.setIfInBounds_toArray, List.set_cons_zero, List.set_cons_succ])
    (refine wpM_take (i := 6) (v := ?_) rfl (by kernel_rfl) (by kernel_rfl) (by kernel_rfl) (by decide) (fun _ _ _ h => h) hcl hC (fun _ => hE) (Or.inl ⟨by rfl, ?_⟩) ?_; rotate_left; (· (intro w hSw; (try dsimp only at hSw); go_simp; (try with_reducible rfl))); clear hcl; intro hcl; (try simp only [Act.put, List.getElem_toArray, List.getElem_cons_zero, List.getElem_cons_succ, List.setIfInBounds_toArray, List.set_cons_zero, List.set_cons_succ]))
    refine wpM_done (by kernel_rfl) ?_
    clear hcl
    try simp only [List.getElem_toArray, List.getElem_cons_zero, List.getElem_cons_succ, List.setIfInBounds_toArray, List.set_cons_zero, List.set_cons_succ]
    go_wp2_with fail
    go_meet
    exact ⟨rfl, hC.1⟩
  case rest =>
  obtain ⟨rfl, hGW⟩ := hcut
  by_cases hez : e0 = 0
  case neg =>
    have hT : Hid ((zTv, e0) = M) := Lib.hid (by
      have h1 := hM.out
      have h2 := he0.out
      by_cases h3 : ea = 0
      · rw [if_neg (by simpa using h3)] at h2
        subst h2
        rw [if_neg (by simpa using h3), if_pos hez] at h1
        exact h1
      · rw [if_pos h3] at h2
        subst h2
        rw [if_pos h3] at h1
        exact h1)
    clear hneqH q0 q1 q2 q3 q4 q5 q6 q7 q8 q9 q10 q11 r0 r1 r2 r3 r4 r5 r6 r7 r8 r9 r10 r11
    have hnz : (e0 != 0) = true := by simpa using hez
    have hres := blk_below hbzH.out hGW
    have z0 := blk_cell hres 0
    have z1 := blk_cell hres 1
    have z2 := blk_cell hres 2
    have z3 := blk_cell hres 3
    have z4 := blk_cell hres 4
    have z5 := blk_cell hres 5
    have z6 := blk_cell hres 6
    have z7 := blk_cell hres 7
    have z8 := blk_cell hres 8
    have z9 := blk_cell hres 9
    have z10 := blk_cell hres 10
    have z11 := blk_cell hres 11
    simp at z0 z1 z2 z3 z4 z5 z6 z7 z8 z9 z10 z11
    have hlz := blk_lt hres
    have hfz := blk_frozen hres
    clear hres
    go_wp2
    rw [← hT.out]
    refine bodyPost_ret (v := .tuple #[.agg #[.int .i64 (0, 0).1, .int .u32 (0, 0).2, .int .u32 zeroV.d0, .int .u32 zeroV.d1, .int .u32 zeroV.d2, .int .u32 zeroV.d3, .int .u32 zeroV.d4, .int .u32 zeroV.d5, .int .u32 zeroV.d6, .int .u32 zeroV.d7, .bool false, .slice none 0 0], .int .i64 (e0)]) (by simp [results, Tryd.results5, go_sem, z0, z1, z2, z3, z4, z5, z6, z7, z8, z9, z10, z11, zeroV]) rfl (MgR.zero _ ?_)
    repeat (with_reducible refine Below.setCell ?_ (by simp; omega) _)
    exact hb0.trans (hGW.mono hz0)
  subst hez
  have hea0 : ea = 0 := by
    have h2 := he0.out
    by_cases h3 : ea = 0
    · exact h3
    · rw [if_pos h3] at h2; exact h2
  have heb0 : eb = 0 := by
    have h2 := he0.out
    rw [if_neg (by simp [hea0])] at h2; exact h2
  have hM2 : Hid ((if (decide (x.1 = y.1) && decide (x.2 = y.2) && eqV v u) = false then (zTv, (3 : Int)) else match mrgD pvN (ps.map Pe.core) (qs.map Pe.core) with
    | none => (zTv, 3)
    | some out => if 16 < out.length then (zTv, 8) else (⟨x, v, s && t, out⟩, 0)) = M) := Lib.hid (by
      have h1 := hM.out
      rw [if_neg (by simp [hea0]), if_neg (by simp [heb0])] at h1
      exact h1)
  have hcA := Lib.hid (txErr_head (heaH.out.trans hea0)).2.2
  have hcB := Lib.hid (txErr_head (hebH.out.trans heb0)).2.2
  have hn16 : n ≤ 16 := by have h1 := (txErr_zero (heaH.out.trans hea0)).1; rw [List.length_map, hlA.out] at h1; exact h1
  have hm16 : m ≤ 16 := by have h1 := (txErr_zero (hebH.out.trans heb0)).1; rw [List.length_map, hlB.out] at h1; exact h1
  clear hM hMH heaH hebH he0 hea0 heb0 cA cB
  clear q0 q1 q2 q3 q4 q5 q6 q7 q8 q9 q10 q11 r0 r1 r2 r3 r4 r5 r6 r7 r8 r9 r10 r11 hlta hltb
  have hba1 := blk_below hbaH.out hGW
  have hbb1 := blk_below hbbH.out hGW
  have q0 := blk_cell hba1 0
  have q1 := blk_cell hba1 1
  have q2 := blk_cell hba1 2
  have q3 := blk_cell hba1 3
  have q4 := blk_cell hba1 4
  have q5 := blk_cell hba1 5
  have q6 := blk_cell hba1 6
  have q7 := blk_cell hba1 7
  have q8 := blk_cell hba1 8
  have q9 := blk_cell hba1 9
  have q10 := blk_cell hba1 10
  have q11 := blk_cell hba1 11
  simp at q0 q1 q2 q3 q4 q5 q6 q7 q8 q9 q10 q11
  have r0 := blk_cell hbb1 0
  have r1 := blk_cell hbb1 1
  have r2 := blk_cell hbb1 2
  have r3 := blk_cell hbb1 3
  have r4 := blk_cell hbb1 4
  have r5 := blk_cell hbb1 5
  have r6 := blk_cell hbb1 6
  have r7 := blk_cell hbb1 7
  have r8 := blk_cell hbb1 8
  have r9 := blk_cell hbb1 9
  have r10 := blk_cell hbb1 10
  have r11 := blk_cell hbb1 11
  simp at r0 r1 r2 r3 r4 r5 r6 r7 r8 r9 r10 r11
  have hlta := blk_lt hba1
  have hltb := blk_lt hbb1
  clear hba1 hbb1
  have hneq := hneqH.out
  obtain ⟨x1, x2⟩ := x
  obtain ⟨y1, y2⟩ := y
  dsimp only at *
  by_cases h1 : x1 = y1
  case neg =>
    have hT : Hid ((zTv, (3 : Int)) = M) := Lib.hid (by rw [← hM2.out, if_pos (by simp [h1])])
    have hres := blk_below hbzH.out hGW
    have z0 := blk_cell hres 0
    have z1 := blk_cell hres 1
    have z2 := blk_cell hres 2
    have z3 := blk_cell hres 3
    have z4 := blk_cell hres 4
    have z5 := blk_cell hres 5
    have z6 := blk_cell hres 6
    have z7 := blk_cell hres 7
    have z8 := blk_cell hres 8
    have z9 := blk_cell hres 9
    have z10 := blk_cell hres 10
    have z11 := blk_cell hres 11
    simp at z0 z1 z2 z3 z4 z5 z6 z7 z8 z9 z10 z11
    have hlz := blk_lt hres
    have hfz := blk_frozen hres
    clear hres
    go_wp2
    rw [← hT.out]
    refine bodyPost_ret (v := .tuple #[.agg #[.int .i64 (0, 0).1, .int .u32 (0, 0).2, .int .u32 zeroV.d0, .int .u32 zeroV.d1, .int .u32 zeroV.d2, .int .u32 zeroV.d3, .int .u32 zeroV.d4, .int .u32 zeroV.d5, .int .u32 zeroV.d6, .int .u32 zeroV.d7, .bool false, .slice none 0 0], .int .i64 (3)]) (by simp [results, Tryd.results5, go_sem, z0, z1, z2, z3, z4, z5, z6, z7, z8, z9, z10, z11, zeroV]) rfl (MgR.zero _ ?_)
    repeat (with_reducible refine Below.setCell ?_ (by simp; omega) _)
    exact hb0.trans (hGW.mono hz0)
  subst h1
  by_cases h2 : x2 = y2
  case neg =>
    have hT : Hid ((zTv, (3 : Int)) = M) := Lib.hid (by rw [← hM2.out, if_pos (by simp [h2])])
    have hres := blk_below hbzH.out hGW
    have z0 := blk_cell hres 0
    have z1 := blk_cell hres 1
    have z2 := blk_cell hres 2
    have z3 := blk_cell hres 3
    have z4 := blk_cell hres 4
    have z5 := blk_cell hres 5
    have z6 := blk_cell hres 6
    have z7 := blk_cell hres 7
    have z8 := blk_cell hres 8
    have z9 := blk_cell hres 9
    have z10 := blk_cell hres 10
    have z11 := blk_cell hres 11
    simp at z0 z1 z2 z3 z4 z5 z6 z7 z8 z9 z10 z11
    have hlz := blk_lt hres
    have hfz := blk_frozen hres
    clear hres
    go_wp2
    rw [← hT.out]
    refine bodyPost_ret (v := .tuple #[.agg #[.int .i64 (0, 0).1, .int .u32 (0, 0).2, .int .u32 zeroV.d0, .int .u32 zeroV.d1, .int .u32 zeroV.d2, .int .u32 zeroV.d3, .int .u32 zeroV.d4, .int .u32 zeroV.d5, .int .u32 zeroV.d6, .int .u32 zeroV.d7, .bool false, .slice none 0 0], .int .i64 (3)]) (by simp [results, Tryd.results5, go_sem, z0, z1, z2, z3, z4, z5, z6, z7, z8, z9, z10, z11, zeroV]) rfl (MgR.zero _ ?_)
    repeat (with_reducible refine Below.setCell ?_ (by simp; omega) _)
    exact hb0.trans (hGW.mono hz0)
  subst h2
  cases hvu : eqV v u with
  | false =>
    have hT : Hid ((zTv, (3 : Int)) = M) := Lib.hid (by rw [← hM2.out, if_pos (by simp [hvu])])
    rw [hvu] at hneq
    have hres := blk_below hbzH.out hGW
    have z0 := blk_cell hres 0
    have z1 := blk_cell hres 1
    have z2 := blk_cell hres 2
    have z3 := blk_cell hres 3
    have z4 := blk_cell hres 4
    have z5 := blk_cell hres 5
    have z6 := blk_cell hres 6
    have z7 := blk_cell hres 7
    have z8 := blk_cell hres 8
    have z9 := blk_cell hres 9
    have z10 := blk_cell hres 10
    have z11 := blk_cell hres 11
    simp at z0 z1 z2 z3 z4 z5 z6 z7 z8 z9 z10 z11
    have hlz := blk_lt hres
    have hfz := blk_frozen hres
    clear hres
    go_wp2
    rw [← hT.out]
    refine bodyPost_ret (v := .tuple #[.agg #[.int .i64 (0, 0).1, .int .u32 (0, 0).2, .int .u32 zeroV.d0, .int .u32 zeroV.d1, .int .u32 zeroV.d2, .int .u32 zeroV.d3, .int .u32 zeroV.d4, .int .u32 zeroV.d5, .int .u32 zeroV.d6, .int .u32 zeroV.d7, .bool false, .slice none 0 0], .int .i64 (3)]) (by simp [results, Tryd.results5, go_sem, z0, z1, z2, z3, z4, z5, z6, z7, z8, z9, z10, z11, zeroV]) rfl (MgR.zero _ ?_)
    repeat (with_reducible refine Below.setCell ?_ (by simp; omega) _)
    exact hb0.trans (hGW.mono hz0)
  | true =>
  have hR : Hid ((match mrgD pvN (ps.map Pe.core) (qs.map Pe.core) with
    | none => (zTv, (3 : Int))
    | some out => if 16 < out.length then (zTv, 8) else (⟨(x1, x2), v, s && t, out⟩, 0)) = M) := Lib.hid (by rw [← hM2.out, if_neg (by simp [hvu])])
  rw [hvu] at hneq
  have hGwc := hb0.trans (hGW.mono hz0)
  have hAc := hAr.out wc hGwc
  have hBc := hBr.out wc hGwc
  have cC := Lib.hid (fun Bk w' (h : Below w.heap.size w w') hb => concatX_any Bk A B n m c d ps qs w' hb ((hAr.out w' h).1.more h.size) ((hBr.out w' h).1.more h.size) (by omega) (by omega))
  clear hvu hM2 hAc hBc hneqH
  go_wp2_with fail
  refine (cC.out _ _ (hGwc.alloc hGwc.size _) (heap_at _ _ rfl)).mono ?_
  rintro e w4 ⟨A4, c4, rfl, o4, hb4⟩
  have hG4 : Below W.heap.size W w4 := (hGW.alloc hGW.size _).trans (hb4.mono (by have := hGW.size; simp; omega))
  clear q0 q1 q2 q3 q4 q5 q6 q7 q8 q9 q10 q11 r0 r1 r2 r3 r4 r5 r6 r7 r8 r9 r10 r11 hneq cC
  have hsz4 := hb4.size
  have cS := Lib.hid (stable_any _ A4 (n + m) c4 (ps ++ qs) w4 hb4.size o4 (by omega))
  go_wp2_with fail
  refine cS.out.mono ?_
  rintro e w5 ⟨rfl, ys, hyp, hys, o5, hg5⟩
  have hb5' : Below W.heap.size w4 w5 := (Below.refl _ w4).grown hg5 hG4.size (fun k e => by have h1 := (o4.block k e).1; have h2 := hGW.size; simp at h1; omega)
  have hG5 : Below W.heap.size W w5 := hG4.trans hb5'
  have hGw5 := hb0.trans (hG5.mono hz0)
  have hz5 := hG5.size
  have hmem : Hid (∀ p ∈ ys, p.Ok w w.heap.size ∧ p.l ≤ 100000) := Lib.hid (fun p hp => by
    rcases List.mem_append.1 (hyp.mem_iff.1 hp) with h | h
    · exact ⟨(hAr.out w (Below.refl _ _)).2 p h, (hfAH.out p h).l⟩
    · exact ⟨(hBr.out w (Below.refl _ _)).2 p h, (hfBH.out p h).l⟩)
  have hRR : Hid (mrgP pvN (ys.map Pe.core) = mrgD pvN (ps.map Pe.core) (qs.map Pe.core)) := Lib.hid (mrg_law _ (Nat.le_refl _) (partsErr_rise hcA.out).2 (partsErr_rise hcB.out).2 (by rw [← List.map_append]; exact hyp.map _) (List.pairwise_map.2 hys))
  have hyl : Hid (ys.length = n + m) := Lib.hid (by rw [hyp.length_eq, List.length_append, hlA.out, hlB.out])
  have hR2 : Hid ((match mrgP pvN (ys.map Pe.core) with
    | none => (zTv, (3 : Int))
    | some out => if 16 < out.length then (zTv, 8) else (⟨(x1, x2), v, s && t, out⟩, 0)) = M) := Lib.hid (by rw [hRR.out]; exact hR.out)
  have r5 := Lib.hid (fun w' (h : Below w5.heap.size w5 w') => Rd.below o5.rd.1 h)
  clear o4 hb4 hg5 cS hyp hys hcA hcB hRR hR hfAH hfBH hlA hlB hb5' hG4 hsz4 o5 hAr hBr
  have hba5 := blk_below hbaH.out hG5
  have hbb5 := blk_below hbbH.out hG5
  have q0 := blk_cell hba5 0
  have q1 := blk_cell hba5 1
  have q2 := blk_cell hba5 2
  have q3 := blk_cell hba5 3
  have q4 := blk_cell hba5 4
  have q5 := blk_cell hba5 5
  have q6 := blk_cell hba5 6
  have q7 := blk_cell hba5 7
  have q8 := blk_cell hba5 8
  have q9 := blk_cell hba5 9
  have q10 := blk_cell hba5 10
  have q11 := blk_cell hba5 11
  simp at q0 q1 q2 q3 q4 q5 q6 q7 q8 q9 q10 q11
  have r10 := blk_cell hbb5 10
  simp at r10
  have hlta := blk_lt hba5
  have hltb := blk_lt hbb5
  clear hba5 hbb5
  go_upto_region 8 with (fail)
  go_cut [8] (fun s8 wx => s8 = .pointer (some ⟨w5.heap.size, 0, none⟩) ∧ wx = w5.alloc (.cells #[.int .i64 (x1, x2).1, .int .u32 (x1, x2).2, .int .u32 v.d0, .int .u32 v.d1, .int .u32 v.d2, .int .u32 v.d3, .int .u32 v.d4, .int .u32 v.d5, .int .u32 v.d6, .int .u32 v.d7, .bool (s && t), .slice none 0 0] 33))
  case first =>
    cases s with
    | true =>
      go_wp2_with fail
      go_meet
      exact ⟨rfl, rfl⟩
    | false =>
      go_wp2_with fail
      go_meet
      exact ⟨rfl, rfl⟩
  case rest =>
  obtain ⟨rfl, hwx⟩ := hcut
  have hbo : wc.heap[w5.heap.size]? = some (.cells #[.int .i64 (x1, x2).1, .int .u32 (x1, x2).2, .int .u32 v.d0, .int .u32 v.d1, .int .u32 v.d2, .int .u32 v.d3, .int .u32 v.d4, .int .u32 v.d5, .int .u32 v.d6, .int .u32 v.d7, .bool (s && t), .slice none 0 0] 33 (0, 0)) := by rw [hwx]; exact heap_at _ _ rfl
  have hbwc : Below w5.heap.size w5 wc := by rw [hwx]; exact (Below.refl _ w5).alloc (Nat.le_refl _) _
  have hG6 : Below W.heap.size W wc := hG5.trans (hbwc.mono hz5)
  have hbRef := Below.refl w5.heap.size wc
  generalize hob : w5.heap.size = ob at *
  have hob2 : W.heap.size ≤ ob := hz5
  have hob3 : w.heap.size + 1 + 1 < ob := by omega
  clear q0 q1 q2 q3 q4 q5 q6 q7 q8 q9 q10 q11 r10 hlta hltb hwx hob hz5
  obtain ⟨N, hN⟩ : ∃ N, n + m = N := ⟨_, rfl⟩
  have hNn := Lib.hid hN
  rw [hN] at hyl
  have hN32 : N ≤ 32 := by omega
  simp only [hN] at r5 ⊢
  clear hN hn16 hm16
  go_wp2_with fail
  go_loopg [56] (N + 1) (fun gg i wr => ∃ (k n' : Nat) (A' : Option Addr) (c' : Nat) (rs : List Pe), k ≤ N ∧ gg = N + 1 - k ∧ i = .int .i64 k ∧ n' ≤ k ∧ fldP pvN (rs.map Pe.core) ((ys.map Pe.core).drop k) = mrgP pvN (ys.map Pe.core) ∧
    wr.heap[ob]? = some (.cells #[.int .i64 (x1, x2).1, .int .u32 (x1, x2).2, .int .u32 v.d0, .int .u32 v.d1, .int .u32 v.d2, .int .u32 v.d3, .int .u32 v.d4, .int .u32 v.d5, .int .u32 v.d6, .int .u32 v.d7, .bool (s && t), .slice A' n' c'] 33 (0, 0)) ∧ Ow wr (ob + 1) 69 10 (.slice A' n' c') (rs.map Pe.enc) ∧
    (∀ q ∈ rs, Ow wr w.heap.size 43 3 (.slice q.A q.l q.c) (q.e.tags.map Tm.enc)) ∧ Below ob wc wr)
  case atStart => exact ⟨0, 0, none, 0, [], Nat.zero_le _, rfl, rfl, Nat.le_refl _, fldP_nil _ _, hbo, Ow.nil_ _ _ _ _, (fun q hq => by cases hq), hbRef⟩
  case round =>
    clear hbo hbRef
    obtain ⟨k, n', A', c', rs, hk, rfl, rfl, hnk, hrs, hblk, hown, hok, hbr⟩ := hrel
    have hbow : Below ob w5 wr := hbwc.trans hbr
    have hGr : Below W.heap.size W wr := hG6.trans (hbr.mono hob2)
    have hbw : Below w.heap.size w wr := hb0.trans (hGr.mono hz0)
    have hbl := blk_lt hblk
    have hrl : rs.length = n' := by simpa using hown.rd.2.1
    have hz1 : w.heap.size < wr.heap.size := by omega
    have hfro := blk_frozen hblk
    have hrsH := Lib.hid hrs
    have hblkH := Lib.hid hblk
    have hqlH := Lib.hid hrl
    clear hrs hrl
    by_cases hlt : k < N
    · have hlti : (k : Int) < (N : Int) := by omega
      obtain ⟨bA, oA, p, hA4, hbA, hp, hcp⟩ := (r5.out wr hbow).at_ hlt
      subst hA4
      have p0 := hcp 0 _ rfl
      have p1 := hcp 1 _ rfl
      have p2 := hcp 2 _ rfl
      have p3 := hcp 3 _ rfl
      have p4 := hcp 4 _ rfl
      have p5 := hcp 5 _ rfl
      have p6 := hcp 6 _ rfl
      have p7 := hcp 7 _ rfl
      have p8 := hcp 8 _ rfl
      have p9 := hcp 9 _ rfl
      rw [Nat.add_zero] at p0
      clear hcp
      have hbA2 : bA < wr.heap.size := by omega
      have hpm := List.mem_of_getElem? hp
      have hTp : p.Ok wr wr.heap.size := ((hmem.out p hpm).1.below hbw).more (by omega)
      have hpl := (hmem.out p hpm).2
      have hdr : (ys.map Pe.core).drop k = p.core :: (ys.map Pe.core).drop (k + 1) := by
        have h1 : (ys.map Pe.core)[k]? = some p.core := by rw [List.getElem?_map, hp]; rfl
        obtain ⟨h2, h3⟩ := List.getElem?_eq_some_iff.1 h1
        rw [List.drop_eq_getElem_cons h2, h3]
      have hstep : fldP pvN (rs.map Pe.core) (p.core :: (ys.map Pe.core).drop (k + 1)) = mrgP pvN (ys.map Pe.core) := by rw [← hdr]; exact hrsH.out
      have hTpH := Lib.hid hTp
      have hstH := Lib.hid hstep
      clear hp hpm hTp hdr hstep
      obtain ⟨wb, hwb⟩ : ∃ wb, wr.alloc (.cells #[.string (bs p.key), .int .i64 p.e.act, .string (bs p.e.name), .int .i64 p.e.val, .int .i64 p.e.tag.1.1, .int .u32 p.e.tag.1.2, .int .i64 p.e.tag.2, .int .u32 p.e.st.1, .int .i64 p.e.st.2, .slice p.A p.l p.c] 69) = wb := ⟨_, rfl⟩
      have hvb : Below wr.heap.size wr wb := by rw [← hwb]; exact (Below.refl _ wr).alloc (Nat.le_refl _) _
      have hbx1 : wb.heap[wr.heap.size]? = some (.cells #[.string (bs p.key), .int .i64 p.e.act, .string (bs p.e.name), .int .i64 p.e.val, .int .i64 p.e.tag.1.1, .int .u32 p.e.tag.1.2, .int .i64 p.e.tag.2, .int .u32 p.e.st.1, .int .i64 p.e.st.2, .slice p.A p.l p.c] 69 (0, 0)) := by rw [← hwb]; exact heap_at _ _ rfl
      have hblk1 := blk_below hblkH.out hvb
      have hown1 := hown.below hvb
      have hokb : Hid (∀ q ∈ rs, Ow wb w.heap.size 43 3 (.slice q.A q.l q.c) (q.e.tags.map Tm.enc)) := Lib.hid (fun q hq => (hok q hq).below hvb)
      have hbr1 : Below ob wc wb := hbr.trans (hvb.mono (by omega))
      have hbl1 := blk_lt hblk1
      have hltx1 := blk_lt hbx1
      have o11 := blk_cell hblk1 11
      simp at o11
      have x6 := blk_cell hbx1 6
      simp at x6
      have hblH := Lib.hid hbl
      clear hblk
      rcases Nat.eq_zero_or_pos n' with hn0 | hnpos
      · have hng : ¬ (0 : Int) < (n' : Int) := by omega
        have hngd : decide (0 < n') = false := decide_eq_false (by omega)
        have hQ0 : Hid (fldP pvN (rs.map Pe.core ++ [p.core]) ((ys.map Pe.core).drop (k + 1)) = mrgP pvN (ys.map Pe.core)) := Lib.hid (by
          rw [← fldP_app pvN (fun q hq => by
            have h1 : rs = [] := List.eq_nil_of_length_eq_zero (by have := hqlH.out; omega)
            rw [h1] at hq; cases hq)]
          exact hstH.out)
        clear hn0
        go_upto_region 13 with (fail)
        go_cut [80] (fun sv wx => sv = .bool false ∧ Below wb.heap.size wb wx)
        case first =>
          go_quiet (fail)
          go_wp2
          go_meet
          exact ⟨rfl, by first | exact below_drX (Below.refl _ _) _ | exact Below.refl _ _⟩
        case rest =>
        obtain ⟨rfl, hb13⟩ := hcut
        obtain ⟨w1, hw1⟩ : ∃ w1, w1 = wc := ⟨_, rfl⟩
        obtain rfl := hw1
        have hv1 : Below wr.heap.size wr w1 := hvb.trans (hb13.mono hvb.size)
        replace hbx1 := blk_below hbx1 hb13
        replace hblk1 := blk_below hblk1 hb13
        replace hown1 := hown1.below hb13
        replace hbr1 := hbr1.trans (hb13.mono (by omega))
        have hbl1 := blk_lt hblk1
        have hltx1 := blk_lt hbx1
        clear o11 x6 hwb
        go_upto_region 16 with (fail)
        have hC0 : ∀ o, w1.drew.cell? ⟨wr.heap.size, o, none⟩ = w1.cell? ⟨wr.heap.size, o, none⟩ := fun _ => rfl
        have o0 := blk_cell hbx1 0
        have o1 := blk_cell hbx1 1
        have o2 := blk_cell hbx1 2
        have o3 := blk_cell hbx1 3
        have o4 := blk_cell hbx1 4
        have o5 := blk_cell hbx1 5
        have o6 := blk_cell hbx1 6
        have o7 := blk_cell hbx1 7
        have o8 := blk_cell hbx1 8
        have o9 := blk_cell hbx1 9
        have o11 := blk_cell hblk1 11
        simp at o0 o1 o2 o3 o4 o5 o6 o7 o8 o9 o11
        have hqle : n' + 1 ≤ 1000 := by omega
        refine wp_region_M (fun w' => ∀ o, w'.cell? ⟨wr.heap.size, o, none⟩ = w1.cell? ⟨wr.heap.size, o, none⟩) (fun w' => w'.cell? ⟨ob, 11, none⟩ = some (.slice A' n' c')) 5 (by kernel_rfl) hC0 o11 ?_
        intro hcl
        have hC := hC0
        have hE : w1.drew.cell? ⟨ob, 11, none⟩ = some (.slice A' n' c') := o11
        (refine wpM_take (i := 0) (v := ?_) rfl (by kernel_rfl) (by kernel_rfl) (by kernel_rfl) (by decide) (fun _ _ _ h => h) hcl hC (fun _ => hE) (Or.inl ⟨by rfl, ?_⟩) ?_; rotate_left; (· (intro w hSw; (try dsimp only at hSw); go_simp; (try with_reducible rfl))); clear hcl; intro hcl; (try simp only [Act.put, List.getElem_toArray, List.getElem_cons_zero, List.setIfInBounds_toArray, List.set_cons_zero, List.set_cons_succ]))
        (refine wpM_take0 (i := 1) (v := ?_) rfl rfl (by kernel_rfl) (by kernel_rfl) (by kernel_rfl) (by kernel_rfl) (by decide) (fun _ _ _ h => h) hcl hC (fun _ => hE) (Or.inl ⟨by rfl, ?_⟩) ?_; rotate_left; (· (intro w hSw; (try dsimp only at hSw); go_simp; (try with_reducible rfl))); clear hcl; intro hcl; (try simp only [Act.put, List.getElem_toArray, List.getElem_cons_zero, List.getElem_cons_succ, List.setIfInBounds_toArray, List.set_cons_zero, List.set_cons_succ]))
        (refine wpM_take (i := 2) (v := ?_) rfl (by kernel_rfl) (by kernel_rfl) (by kernel_rfl) (by decide) (fun _ _ _ h => h) hcl hC (fun _ => hE) (Or.inl ⟨by rfl, ?_⟩) ?_; rotate_left; (· (intro w hSw; (try dsimp only at hSw); go_simp; (try with_reducible rfl))); clear hcl; intro hcl; (try simp only [Act.put, List.getElem_toArray, List.getElem_cons_zero, List.getElem_cons_succ, List.setIfInBounds_toArray, List.set_cons_zero, List.set_cons_succ]))
        refine wpM_only (i := 3) rfl (by kernel_rfl) hcl (fun K hK => ?_)
        go_simp
        refine (txown_any p _ ((hTpH.out.below (hv1.trans (Below.refl _ _).drew)).more hv1.size) (by omega)).mono ?_
        rintro e w2 ⟨A1, c1, rfl, hr1, hb2⟩
        have hv2 : Below w1.heap.size w1 w2 := ((Below.refl _ w1).drew).trans hb2
        have hblk2 := blk_below hblk1 hv2
        have o11' := blk_cell hblk2 11
        simp at o11'
        have hbl2 := blk_lt hblk2
        have hC2 : ∀ o, w2.cell? ⟨wr.heap.size, o, none⟩ = w1.cell? ⟨wr.heap.size, o, none⟩ := fun o => hv2.cell (p := ⟨wr.heap.size, o, none⟩) hltx1
        refine hK.out _ _ hC2 o11' ?_
        clear hK K
        clear hcl
        intro hcl
        (try simp only [Act.put, List.getElem_toArray, List.getElem_cons_zero, List.getElem_cons_succ, List.setIfInBounds_toArray, List.set_cons_zero, List.set_cons_succ])
        clear hC hE hC0
        have hC := hC2
        have hE := o11'
        refine wpM_only (i := 4) rfl (by kernel_rfl) hcl (fun K hK => ?_)
        go_simp
        have hv3 : Below w1.heap.size w1 (w2.alloc (.cells #[.string (bs p.key), .int .i64 p.e.act, .string (bs p.e.name), .int .i64 p.e.val, .int .i64 p.e.tag.1.1, .int .u32 p.e.tag.1.2, .int .i64 p.e.tag.2, .int .u32 p.e.st.1, .int .i64 p.e.st.2, .slice A1 p.l c1] 69)) := hv2.alloc hv2.size _
        have hC3 : ∀ o, (w2.alloc (.cells #[.string (bs p.key), .int .i64 p.e.act, .string (bs p.e.name), .int .i64 p.e.val, .int .i64 p.e.tag.1.1, .int .u32 p.e.tag.1.2, .int .i64 p.e.tag.2, .int .u32 p.e.st.1, .int .i64 p.e.st.2, .slice A1 p.l c1] 69)).cell? ⟨wr.heap.size, o, none⟩ = w1.cell? ⟨wr.heap.size, o, none⟩ := fun o => hv3.cell (p := ⟨wr.heap.size, o, none⟩) hltx1
        have hblk3 := blk_below hblk1 hv3
        have hE3 := blk_cell hblk3 11
        simp at hE3
        refine hK.out _ _ hC3 hE3 ?_
        clear hK K hE hC hcl
        intro hcl
        have hC := hC3
        (try simp only [Act.put, List.setIfInBounds_toArray, List.set_cons_zero, List.set_cons_succ])
        have hown3 := hown1.below hv3
        have hlo := blk_lt hblk3
        refine wpM_last (i := 5) rfl (by kernel_rfl) hcl (by kernel_rfl) (fun K hK => ?_)
        refine step_append_rd _ rfl _ _ _ rfl ePart (base := ob + 1) (v := .slice A' n' c') (xs := rs.map Pe.enc) rfl hown3 rfl (Rd.one' [.string (bs p.key), .int .i64 p.e.act, .string (bs p.e.name), .int .i64 p.e.val, .int .i64 p.e.tag.1.1, .int .u32 p.e.tag.1.2, .int .i64 p.e.tag.2, .int .u32 p.e.st.1, .int .i64 p.e.st.2, .slice A1 p.l c1] rfl) (by simp) (by simp [Value.oneCell'])
          (by rw [List.length_map, hqlH.out]; unfold maxLen; omega) (by rw [List.length_map, hqlH.out]; omega) (by simp; omega) ?_
        intro A2 n2 c2 w4 hn2 hown4 hg4 hat4
        obtain rfl : n2 = n' + 1 := by rw [hn2, List.length_map, hqlH.out]
        clear hn2
        have hblk4 : w4.heap[ob]? = some (.cells #[.int .i64 (x1, x2).1, .int .u32 (x1, x2).2, .int .u32 v.d0, .int .u32 v.d1, .int .u32 v.d2, .int .u32 v.d3, .int .u32 v.d4, .int .u32 v.d5, .int .u32 v.d6, .int .u32 v.d7, .bool (s && t), .slice A' n' c'] 33 (0, 0)) := (hg4.block _ hlo (fun e => by have := (hown3.block _ e.symm).1; omega)).trans hblk3
        have hfr4 := blk_frozen hblk4
        have hlt4 := blk_lt hblk4
        have o114 := blk_cell hblk4 11
        simp at o114
        have hbx3 := blk_below hbx1 hv3
        have hbx4 := (hg4.block _ (blk_lt hbx3) (fun e => by have := (hown.block _ e.symm).2; omega)).trans hbx3
        have hx4 : ∀ o, w4.cell? ⟨wr.heap.size, o, none⟩ = w1.cell? ⟨wr.heap.size, o, none⟩ := fun o => (blk_cell hbx4 o).trans (blk_cell hbx1 o).symm
        have hbx5 := heap_set_ne (p := ⟨ob, 11, none⟩) (u := .slice A2 (n' + 1) c2) (show ob ≠ wr.heap.size by have := hblH.out; omega) hbx4
        have hx5 := Lib.hid (fun o => (blk_cell hbx5 o).trans (blk_cell hbx1 o).symm)
        clear hbx5
        refine hK.out _ _ hx4 ?_
        clear hK K hC hcl
        intro hcl
        have hC := hx4
        (try simp only [Act.put, List.setIfInBounds_toArray])
        (refine wpM_takeX (i := 6) (v := ?_) rfl (by kernel_rfl) (by kernel_rfl) (by kernel_rfl) (by decide) (fun _ _ _ h => h) hcl hC (by kernel_rfl) (Or.inl ⟨by rfl, ?_⟩) ?_; rotate_left; (· (intro w hSw; (try dsimp only at hSw); go_simp; (try with_reducible rfl))); clear hcl; intro hcl; (try simp only [Act.put, List.getElem_toArray, List.getElem_cons_zero, List.getElem_cons_succ, List.setIfInBounds_toArray, List.set_cons_zero, List.set_cons_succ]))
        refine wpM_last (i := 7) rfl (by kernel_rfl) hcl (by kernel_rfl) (fun K hK => ?_)
        go_simp
        refine hK.out _ _ hx5.out ?_
        clear hK K hC hcl
        intro hcl
        refine wpM_done (by kernel_rfl) ?_
        clear hcl
        have hb4 : Below ob w1 w4 := (hv3.mono (by omega)).grown hg4 (by simp; omega) (fun g e => by have := (hown3.block g e).1; omega)
        have hq : ∀ q' ∈ rs ++ [({ p with A := A1, c := c1 } : Pe)], Ow w4 w.heap.size 43 3 (.slice q'.A q'.l q'.c) (q'.e.tags.map Tm.enc) := by
          intro q' hq'
          refine Ow.other (w := w2.alloc (.cells #[.string (bs p.key), .int .i64 p.e.act, .string (bs p.e.name), .int .i64 p.e.val, .int .i64 p.e.tag.1.1, .int .u32 p.e.tag.1.2, .int .i64 p.e.tag.2, .int .u32 p.e.st.1, .int .i64 p.e.st.2, .slice A1 p.l c1] 69)) ?_ hown3 (by decide) hg4
          rcases List.mem_append.1 hq' with h1 | h1
          · exact (hok q' h1).below (hv1.trans (hv3.mono hv1.size))
          · obtain rfl := List.mem_singleton.1 h1
            exact (hr1.base (by show _ ≤ w1.heap.size; omega)).below ((Below.refl _ w2).alloc (Nat.le_refl _) _)
        have hqH := Lib.hid hq
        have hownH : Hid (Ow w4 (ob + 1) 69 10 (.slice A2 (n' + 1) c2) ((rs ++ [({ p with A := A1, c := c1 } : Pe)]).map Pe.enc)) := Lib.hid (by rw [List.map_append]; exact hown4)
        have hblkN : Hid ((w4.setCell ⟨ob, 11, none⟩ (.slice A2 (n' + 1) c2)).heap[ob]? = some (.cells #[.int .i64 (x1, x2).1, .int .u32 (x1, x2).2, .int .u32 v.d0, .int .u32 v.d1, .int .u32 v.d2, .int .u32 v.d3, .int .u32 v.d4, .int .u32 v.d5, .int .u32 v.d6, .int .u32 v.d7, .bool (s && t), .slice A2 (n' + 1) c2] 33 (0, 0))) := Lib.hid (by rw [blk_set hblk4 11]; simp)
        have hbrH := Lib.hid (hbr1.trans hb4)
        have hblk4H := Lib.hid hblk4
        clear hq hown4 hblk4 hb4 hbx4 hbx3 hx4 hg4 hown3 hv3 hv2 hr1 hblk3 hblk2 hC3 hC2 o11' hE3 hb2
        have hQ : Hid (fldP pvN ((rs ++ [({ p with A := A1, c := c1 } : Pe)]).map Pe.core) ((ys.map Pe.core).drop (k + 1)) = mrgP pvN (ys.map Pe.core)) := Lib.hid (by rw [List.map_append]; exact hQ0.out)
        go_wp2
        go_roundg (N + 1 - (k + 1))
        case measure => omega
        case rel =>
          exact ⟨k + 1, n' + 1, A2, c2, rs ++ [{ p with A := A1, c := c1 }], by omega, rfl, by go_num, by omega, hQ.out, hblkN.out, hownH.out.setCell (by simp) _, fun q hq => (hqH.out q hq).set_blk hblk4H.out (by decide) _ _, hbrH.out.setCell (by simp) _⟩
      · obtain ⟨r, rfl⟩ : ∃ r, n' = r + 1 := ⟨n' - 1, by omega⟩
        obtain ⟨q, hq⟩ : ∃ q, rs[r]? = some q := ⟨_, List.getElem?_eq_getElem (by have := hqlH.out; omega)⟩
        have hlast : (rs.map Pe.core).getLast? = some q.core := by
          rw [List.getLast?_eq_getElem?, List.length_map, hqlH.out, Nat.add_sub_cancel, List.getElem?_map, hq]; rfl
        obtain ⟨g2, hA2, _, hgl2, _, hgc2⟩ := hown1.addr (by omega)
        subst hA2
        have hcq := hgc2 r q.enc (by rw [List.getElem?_map, hq]; rfl)
        have y6 := hcq 6 _ rfl
        have hqm := List.mem_of_getElem? hq
        have hcqH := Lib.hid hcq
        have hng : (0 : Int) < ((r + 1 : Nat) : Int) := by omega
        have hngd : decide (0 < r + 1) = true := decide_eq_true (by omega)
        have hwr : IntKind.i64.wrap (((r + 1 : Nat) : Int) - 1) = ((r : Nat) : Int) := by rw [IntWalk.i64_in _ (by omega)]; omega
        have hir : r < r + 1 := Nat.lt_succ_self r
        clear hcq hgc2 hq
        by_cases heq : q.e.tag.2 = p.e.tag.2
        · have heqd : (q.e.tag.2 == p.e.tag.2) = true := by simpa using heq
          have hqo := hokb.out q hqm
          have hql : q.l ≤ maxLen := Nat.le_trans hqo.rd.2.2.1 hqo.rd.2.2.2
          have hsd := samePv_dec q.core p.core
          have cP := Lib.hid (fun w' (h : Below wb.heap.size wb w') => psame_any q p w' (hqo.below h).rd.1 ((hTpH.out.below (hvb.trans (h.mono hvb.size))).more (Nat.le_trans hvb.size h.size)) hql (by unfold maxLen; omega))
          have hlastH := Lib.hid hlast
          have heqH := Lib.hid heq
          clear hlast heq hqo
          go_upto_region 13 with (fail)
          go_cut [80] (fun sv wx => sv = .bool true ∧ Below wb.heap.size wb wx)
          case first =>
            go_quiet (fail)
            go_wp2
            go_meet
            exact ⟨rfl, by first | exact below_drX (Below.refl _ _) _ | exact Below.refl _ _⟩
          case rest =>
          obtain ⟨rfl, hb13⟩ := hcut
          obtain ⟨w1, hw1⟩ : ∃ w1, w1 = wc := ⟨_, rfl⟩
          obtain rfl := hw1
          have hv1 : Below wr.heap.size wr w1 := hvb.trans (hb13.mono hvb.size)
          replace hbx1 := blk_below hbx1 hb13
          replace hblk1 := blk_below hblk1 hb13
          replace hown1 := hown1.below hb13
          replace hbr1 := hbr1.trans (hb13.mono (by omega))
          have hbl1 := blk_lt hblk1
          have hltx1 := blk_lt hbx1
          clear o11 x6 hwb
          have hgl3 := Nat.lt_of_lt_of_le hgl2 hb13.size
          have z0 := (hb13.cell (p := ⟨g2, _, none⟩) hgl2).trans (hcqH.out 0 _ rfl)
          have z1 := (hb13.cell (p := ⟨g2, _, none⟩) hgl2).trans (hcqH.out 1 _ rfl)
          have z2 := (hb13.cell (p := ⟨g2, _, none⟩) hgl2).trans (hcqH.out 2 _ rfl)
          have z3 := (hb13.cell (p := ⟨g2, _, none⟩) hgl2).trans (hcqH.out 3 _ rfl)
          have z4 := (hb13.cell (p := ⟨g2, _, none⟩) hgl2).trans (hcqH.out 4 _ rfl)
          have z5 := (hb13.cell (p := ⟨g2, _, none⟩) hgl2).trans (hcqH.out 5 _ rfl)
          have z6 := (hb13.cell (p := ⟨g2, _, none⟩) hgl2).trans (hcqH.out 6 _ rfl)
          have z7 := (hb13.cell (p := ⟨g2, _, none⟩) hgl2).trans (hcqH.out 7 _ rfl)
          have z8 := (hb13.cell (p := ⟨g2, _, none⟩) hgl2).trans (hcqH.out 8 _ rfl)
          have z9 := (hb13.cell (p := ⟨g2, _, none⟩) hgl2).trans (hcqH.out 9 _ rfl)
          rw [Nat.add_zero] at z0
          have o0 := blk_cell hbx1 0
          have o1 := blk_cell hbx1 1
          have o2 := blk_cell hbx1 2
          have o3 := blk_cell hbx1 3
          have o4 := blk_cell hbx1 4
          have o5 := blk_cell hbx1 5
          have o6 := blk_cell hbx1 6
          have o7 := blk_cell hbx1 7
          have o8 := blk_cell hbx1 8
          have o9 := blk_cell hbx1 9
          have o11 := blk_cell hblk1 11
          simp at o0 o1 o2 o3 o4 o5 o6 o7 o8 o9 o11
          clear y6 heqd
          have hb13H := Lib.hid hb13
          have hwr2 : IntKind.i64.wrap ((r : Nat) : Int) = (r : Int) := IntWalk.i64_in _ (by omega)
          have hr0 : (0 : Int) ≤ (r : Int) := by omega
          have hr1 : (r : Int) < (r : Int) + 1 := by omega
          go_upto_region 14 with (fail)
          by_cases hsm : q.core = p.core
          · have hQ1 : Hid (fldP pvN (rs.map Pe.core) ((ys.map Pe.core).drop (k + 1)) = mrgP pvN (ys.map Pe.core)) := Lib.hid (by
              rw [← fldP_same pvN (p := p.core) (by rw [← hsm]; exact hlastH.out)]; exact hstH.out)
            rw [decide_eq_true hsm] at hsd
            rw [hsd] at cP
            clear hsd hsm
            refine wp_region_M (fun w' => KQ w1.heap.size w1 w') (fun _ => True) 99 (by kernel_rfl) (kq (Below.refl _ _).drew) trivial ?_
            intro hcl
            have hC : KQ w1.heap.size w1 w1.drew := kq (Below.refl _ _).drew
            have hE := trivial
            (refine wpM_take (i := 0) (v := ?_) rfl (by kernel_rfl) (by kernel_rfl) (by kernel_rfl) (by decide) (fun _ _ _ h => h) hcl hC (fun _ => hE) (Or.inl ⟨by rfl, ?_⟩) ?_; rotate_left; (· (intro w hSw; (try dsimp only at hSw); go_simp; (try with_reducible rfl))); clear hcl; intro hcl; (try simp only [Act.put, List.getElem_toArray, List.getElem_cons_zero, List.setIfInBounds_toArray, List.set_cons_zero, List.set_cons_succ]))
            (refine wpM_take (i := 1) (v := ?_) rfl (by kernel_rfl) (by kernel_rfl) (by kernel_rfl) (by decide) (fun _ _ _ h => h) hcl hC (fun _ => hE) (Or.inl ⟨by rfl, ?_⟩) ?_; rotate_left; (· (intro w hSw; (try dsimp only at hSw); go_simp; (try with_reducible rfl))); clear hcl; intro hcl; (try simp only [Act.put, List.getElem_toArray, List.getElem_cons_zero, List.getElem_cons_succ, List.setIfInBounds_toArray, List.set_cons_zero, List.set_cons_succ]))
            (refine wpM_take (i := 2) (v := ?_) rfl (by kernel_rfl) (by kernel_rfl) (by kernel_rfl) (by decide) (fun _ _ _ h => h) hcl hC (fun _ => hE) (Or.inl ⟨by rfl, ?_⟩) ?_; rotate_left; (· (intro w hSw; (try dsimp only at hSw); go_simp; (try with_reducible rfl))); clear hcl; intro hcl; (try simp only [Act.put, List.getElem_toArray, List.getElem_cons_zero, List.getElem_cons_succ, List.setIfInBounds_toArray, List.set_cons_zero, List.set_cons_succ]))
            (refine wpM_take (i := 3) (v := ?_) rfl (by kernel_rfl) (by kernel_rfl) (by kernel_rfl) (by decide) (fun _ _ _ h => h) hcl hC (fun _ => hE) (Or.inl ⟨by rfl, ?_⟩) ?_; rotate_left; (· (intro w hSw; (try dsimp only at hSw); go_simp; (try with_reducible rfl))); clear hcl; intro hcl; (try simp only [Act.put, List.getElem_toArray, List.getElem_cons_zero, List.getElem_cons_succ, List.setIfInBounds_toArray, List.set_cons_zero, List.set_cons_succ]))
            (refine wpM_take (i := 4) (v := ?_) rfl (by kernel_rfl) (by kernel_rfl) (by kernel_rfl) (by decide) (fun _ _ _ h => h) hcl hC (fun _ => hE) (Or.inl ⟨by rfl, ?_⟩) ?_; rotate_left; (· (intro w hSw; (try dsimp only at hSw); go_simp; (try with_reducible rfl))); clear hcl; intro hcl; (try simp only [Act.put, List.getElem_toArray, List.getElem_cons_zero, List.getElem_cons_succ, List.setIfInBounds_toArray, List.set_cons_zero, List.set_cons_succ]))
            (refine wpM_take (i := 5) (v := ?_) rfl (by kernel_rfl) (by kernel_rfl) (by kernel_rfl) (by decide) (fun _ _ _ h => h) hcl hC (fun _ => hE) (Or.inl ⟨by rfl, ?_⟩) ?_; rotate_left; (· (intro w hSw; (try dsimp only at hSw); go_simp; (try with_reducible rfl))); clear hcl; intro hcl; (try simp only [Act.put, List.getElem_toArray, List.getElem_cons_zero, List.getElem_cons_succ, List.setIfInBounds_toArray, List.set_cons_zero, List.set_cons_succ]))
            (refine wpM_take (i := 6) (v := ?_) rfl (by kernel_rfl) (by kernel_rfl) (by kernel_rfl) (by decide) (fun _ _ _ h => h) hcl hC (fun _ => hE) (Or.inl ⟨by rfl, ?_⟩) ?_; rotate_left; (· (intro w hSw; (try dsimp only at hSw); go_simp; (try with_reducible rfl))); clear hcl; intro hcl; (try simp only [Act.put, List.getElem_toArray, List.getElem_cons_zero, List.getElem_cons_succ, List.setIfInBounds_toArray, List.set_cons_zero, List.set_cons_succ]))
            refine wpM_only (i := 7) rfl (by kernel_rfl) hcl (fun K hK => ?_)
            go_simp
            refine (cP.out _ (hb13H.out.trans (hC.1.mono hb13H.out.size))).mono ?_
            rintro e v1 ⟨rfl, hv1'⟩
            have hC' := kq_call hC (Nat.le_refl _) hv1'
            refine hK.out _ _ hC' trivial ?_
            clear hK K
            clear hcl
            intro hcl
            (try simp only [Act.put, List.getElem_toArray, List.getElem_cons_zero, List.getElem_cons_succ, List.setIfInBounds_toArray, List.set_cons_zero, List.set_cons_succ])
            clear hC
            have hC := hC'
            clear hC'
            (refine wpM_take (i := 8) (v := ?_) rfl (by kernel_rfl) (by kernel_rfl) (by kernel_rfl) (by decide) (fun _ _ _ h => h) hcl hC (fun _ => hE) (Or.inl ⟨by rfl, ?_⟩) ?_; rotate_left; (· (intro w hSw; (try dsimp only at hSw); go_simp; (try with_reducible rfl))); clear hcl; intro hcl; (try simp only [Act.put, List.getElem_toArray, List.getElem_cons_zero, List.getElem_cons_succ, List.setIfInBounds_toArray, List.set_cons_zero, List.set_cons_succ]))
            refine wpM_done (by kernel_rfl) ?_
            clear hcl
            have hbv : Below wr.heap.size wr v1 := hv1.trans (hC.1.mono hv1.size)
            have hCH := Lib.hid hC
            clear hC z0 z1 z2 z3 z4 z5 z6 z7 z8 z9 o0 o1 o2 o3 o4 o5 o6 o7 o8 o9 o11
            go_wp2
            go_roundg (N + 1 - (k + 1))
            case measure => omega
            case rel =>
              exact ⟨k + 1, r + 1, _, c', rs, by omega, rfl, by go_num, by omega, hQ1.out, blk_below hblkH.out hbv, hown.below hbv, fun q hq => (hok q hq).below hbv, hbr.trans (hbv.mono (by have := hblH.out; omega))⟩
          · have hnone : mrgP pvN (ys.map Pe.core) = none := by
              rw [← hstH.out]; exact fldP_bad pvN hlastH.out heqH.out hsm
            have hT : Hid ((zTv, (3 : Int)) = M) := Lib.hid (by have h1 := hR2.out; rw [hnone] at h1; exact h1)
            rw [decide_eq_false hsm] at hsd
            rw [hsd] at cP
            clear hsd hsm hnone
            refine wp_region_M (fun w' => KQ w1.heap.size w1 w') (fun _ => True) 99 (by kernel_rfl) (kq (Below.refl _ _).drew) trivial ?_
            intro hcl
            have hC : KQ w1.heap.size w1 w1.drew := kq (Below.refl _ _).drew
            have hE := trivial
            (refine wpM_take (i := 0) (v := ?_) rfl (by kernel_rfl) (by kernel_rfl) (by kernel_rfl) (by decide) (fun _ _ _ h => h) hcl hC (fun _ => hE) (Or.inl ⟨by rfl, ?_⟩) ?_; rotate_left; (· (intro w hSw; (try dsimp only at hSw); go_simp; (try with_reducible rfl))); clear hcl; intro hcl; (try simp only [Act.put, List.getElem_toArray, List.getElem_cons_zero, List.setIfInBounds_toArray, List.set_cons_zero, List.set_cons_succ]))
            (refine wpM_take (i := 1) (v := ?_) rfl (by kernel_rfl) (by kernel_rfl) (by kernel_rfl) (by decide) (fun _ _ _ h => h) hcl hC (fun _ => hE) (Or.inl ⟨by rfl, ?_⟩) ?_; rotate_left; (· (intro w hSw; (try dsimp only at hSw); go_simp; (try with_reducible rfl))); clear hcl; intro hcl; (try simp only [Act.put, List.getElem_toArray, List.getElem_cons_zero, List.getElem_cons_succ, List.setIfInBounds_toArray, List.set_cons_zero, List.set_cons_succ]))
            (refine wpM_take (i := 2) (v := ?_) rfl (by kernel_rfl) (by kernel_rfl) (by kernel_rfl) (by decide) (fun _ _ _ h => h) hcl hC (fun _ => hE) (Or.inl ⟨by rfl, ?_⟩) ?_; rotate_left; (· (intro w hSw; (try dsimp only at hSw); go_simp; (try with_reducible rfl))); clear hcl; intro hcl; (try simp only [Act.put, List.getElem_toArray, List.getElem_cons_zero, List.getElem_cons_succ, List.setIfInBounds_toArray, List.set_cons_zero, List.set_cons_succ]))
            (refine wpM_take (i := 3) (v := ?_) rfl (by kernel_rfl) (by kernel_rfl) (by kernel_rfl) (by decide) (fun _ _ _ h => h) hcl hC (fun _ => hE) (Or.inl ⟨by rfl, ?_⟩) ?_; rotate_left; (· (intro w hSw; (try dsimp only at hSw); go_simp; (try with_reducible rfl))); clear hcl; intro hcl; (try simp only [Act.put, List.getElem_toArray, List.getElem_cons_zero, List.getElem_cons_succ, List.setIfInBounds_toArray, List.set_cons_zero, List.set_cons_succ]))
            (refine wpM_take (i := 4) (v := ?_) rfl (by kernel_rfl) (by kernel_rfl) (by kernel_rfl) (by decide) (fun _ _ _ h => h) hcl hC (fun _ => hE) (Or.inl ⟨by rfl, ?_⟩) ?_; rotate_left; (· (intro w hSw; (try dsimp only at hSw); go_simp; (try with_reducible rfl))); clear hcl; intro hcl; (try simp only [Act.put, List.getElem_toArray, List.getElem_cons_zero, List.getElem_cons_succ, List.setIfInBounds_toArray, List.set_cons_zero, List.set_cons_succ]))
            (refine wpM_take (i := 5) (v := ?_) rfl (by kernel_rfl) (by kernel_rfl) (by kernel_rfl) (by decide) (fun _ _ _ h => h) hcl hC (fun _ => hE) (Or.inl ⟨by rfl, ?_⟩) ?_; rotate_left; (· (intro w hSw; (try dsimp only at hSw); go_simp; (try with_reducible rfl))); clear hcl; intro hcl; (try simp only [Act.put, List.getElem_toArray, List.getElem_cons_zero, List.getElem_cons_succ, List.setIfInBounds_toArray, List.set_cons_zero, List.set_cons_succ]))
            (refine wpM_take (i := 6) (v := ?_) rfl (by kernel_rfl) (by kernel_rfl) (by kernel_rfl) (by decide) (fun _ _ _ h => h) hcl hC (fun _ => hE) (Or.inl ⟨by rfl, ?_⟩) ?_; rotate_left; (· (intro w hSw; (try dsimp only at hSw); go_simp; (try with_reducible rfl))); clear hcl; intro hcl; (try simp only [Act.put, List.getElem_toArray, List.getElem_cons_zero, List.getElem_cons_succ, List.setIfInBounds_toArray, List.set_cons_zero, List.set_cons_succ]))
            refine wpM_only (i := 7) rfl (by kernel_rfl) hcl (fun K hK => ?_)
            go_simp
            refine (cP.out _ (hb13H.out.trans (hC.1.mono hb13H.out.size))).mono ?_
            rintro e v1 ⟨rfl, hv1'⟩
            have hC' := kq_call hC (Nat.le_refl _) hv1'
            refine hK.out _ _ hC' trivial ?_
            clear hK K
            clear hcl
            intro hcl
            (try simp only [Act.put, List.getElem_toArray, List.getElem_cons_zero, List.getElem_cons_succ, List.setIfInBounds_toArray, List.set_cons_zero, List.set_cons_succ])
            clear hC
            have hC := hC'
            clear hC'
            (refine wpM_take (i := 8) (v := ?_) rfl (by kernel_rfl) (by kernel_rfl) (by kernel_rfl) (by decide) (fun _ _ _ h => h) hcl hC (fun _ => hE) (Or.inl ⟨by rfl, ?_⟩) ?_; rotate_left; (· (intro w hSw; (try dsimp only at hSw); go_simp; (try with_reducible rfl))); clear hcl; intro hcl; (try simp only [Act.put, List.getElem_toArray, List.getElem_cons_zero, List.getElem_cons_succ, List.setIfInBounds_toArray, List.set_cons_zero, List.set_cons_succ]))
            refine wpM_done (by kernel_rfl) ?_
            clear hcl
            have hbv : Below wr.heap.size wr v1 := hv1.trans (hC.1.mono hv1.size)
            have hGW : Below W.heap.size W v1 := hGr.trans (hbv.mono hGr.size)
            clear hC z0 z1 z2 z3 z4 z5 z6 z7 z8 z9 o0 o1 o2 o3 o4 o5 o6 o7 o8 o9 o11
            have hres := blk_below hbzH.out hGW
            have z0 := blk_cell hres 0
            have z1 := blk_cell hres 1
            have z2 := blk_cell hres 2
            have z3 := blk_cell hres 3
            have z4 := blk_cell hres 4
            have z5 := blk_cell hres 5
            have z6 := blk_cell hres 6
            have z7 := blk_cell hres 7
            have z8 := blk_cell hres 8
            have z9 := blk_cell hres 9
            have z10 := blk_cell hres 10
            have z11 := blk_cell hres 11
            simp at z0 z1 z2 z3 z4 z5 z6 z7 z8 z9 z10 z11
            have hlz := blk_lt hres
            have hfz := blk_frozen hres
            clear hres
            go_wp2
            rw [← hT.out]
            refine bodyPost_ret (v := .tuple #[.agg #[.int .i64 (0, 0).1, .int .u32 (0, 0).2, .int .u32 zeroV.d0, .int .u32 zeroV.d1, .int .u32 zeroV.d2, .int .u32 zeroV.d3, .int .u32 zeroV.d4, .int .u32 zeroV.d5, .int .u32 zeroV.d6, .int .u32 zeroV.d7, .bool false, .slice none 0 0], .int .i64 (3)]) (by simp [results, Tryd.results5, go_sem, z0, z1, z2, z3, z4, z5, z6, z7, z8, z9, z10, z11, zeroV]) rfl (MgR.zero _ ?_)
            repeat (with_reducible refine Below.setCell ?_ (by simp; omega) _)
            exact hb0.trans (hGW.mono hz0)
        · have hQ0 : Hid (fldP pvN (rs.map Pe.core ++ [p.core]) ((ys.map Pe.core).drop (k + 1)) = mrgP pvN (ys.map Pe.core)) := Lib.hid (by
            rw [← fldP_app pvN (fun q' hq' => by
              rw [hlast] at hq'
              obtain rfl := Option.some.inj hq'
              exact heq)]
            exact hstH.out)
          have heqd : (q.e.tag.2 == p.e.tag.2) = false := by simpa using heq
          clear hlast hcqH
          go_upto_region 13 with (fail)
          go_cut [80] (fun sv wx => sv = .bool false ∧ Below wb.heap.size wb wx)
          case first =>
            go_quiet (fail)
            go_wp2
            go_meet
            exact ⟨rfl, by first | exact below_drX (Below.refl _ _) _ | exact Below.refl _ _⟩
          case rest =>
          obtain ⟨rfl, hb13⟩ := hcut
          obtain ⟨w1, hw1⟩ : ∃ w1, w1 = wc := ⟨_, rfl⟩
          obtain rfl := hw1
          have hv1 : Below wr.heap.size wr w1 := hvb.trans (hb13.mono hvb.size)
          replace hbx1 := blk_below hbx1 hb13
          replace hblk1 := blk_below hblk1 hb13
          replace hown1 := hown1.below hb13
          replace hbr1 := hbr1.trans (hb13.mono (by omega))
          have hbl1 := blk_lt hblk1
          have hltx1 := blk_lt hbx1
          clear o11 x6 hwb
          generalize hn' : r + 1 = n' at *
          generalize hA' : (some ⟨g2, 0, none⟩ : Option Addr) = A' at *
          clear y6 hwr hir heqd hgl2 hn' hA'
          go_upto_region 16 with (fail)
          have hC0 : ∀ o, w1.drew.cell? ⟨wr.heap.size, o, none⟩ = w1.cell? ⟨wr.heap.size, o, none⟩ := fun _ => rfl
          have o0 := blk_cell hbx1 0
          have o1 := blk_cell hbx1 1
          have o2 := blk_cell hbx1 2
          have o3 := blk_cell hbx1 3
          have o4 := blk_cell hbx1 4
          have o5 := blk_cell hbx1 5
          have o6 := blk_cell hbx1 6
          have o7 := blk_cell hbx1 7
          have o8 := blk_cell hbx1 8
          have o9 := blk_cell hbx1 9
          have o11 := blk_cell hblk1 11
          simp at o0 o1 o2 o3 o4 o5 o6 o7 o8 o9 o11
          have hqle : n' + 1 ≤ 1000 := by omega
          refine wp_region_M (fun w' => ∀ o, w'.cell? ⟨wr.heap.size, o, none⟩ = w1.cell? ⟨wr.heap.size, o, none⟩) (fun w' => w'.cell? ⟨ob, 11, none⟩ = some (.slice A' n' c')) 5 (by kernel_rfl) hC0 o11 ?_
          intro hcl
          have hC := hC0
          have hE : w1.drew.cell? ⟨ob, 11, none⟩ = some (.slice A' n' c') := o11
          (refine wpM_take (i := 0) (v := ?_) rfl (by kernel_rfl) (by kernel_rfl) (by kernel_rfl) (by decide) (fun _ _ _ h => h) hcl hC (fun _ => hE) (Or.inl ⟨by rfl, ?_⟩) ?_; rotate_left; (· (intro w hSw; (try dsimp only at hSw); go_simp; (try with_reducible rfl))); clear hcl; intro hcl; (try simp only [Act.put, List.getElem_toArray, List.getElem_cons_zero, List.setIfInBounds_toArray, List.set_cons_zero, List.set_cons_succ]))
          (refine wpM_take0 (i := 1) (v := ?_) rfl rfl (by kernel_rfl) (by kernel_rfl) (by kernel_rfl) (by kernel_rfl) (by decide) (fun _ _ _ h => h) hcl hC (fun _ => hE) (Or.inl ⟨by rfl, ?_⟩) ?_; rotate_left; (· (intro w hSw; (try dsimp only at hSw); go_simp; (try with_reducible rfl))); clear hcl; intro hcl; (try simp only [Act.put, List.getElem_toArray, List.getElem_cons_zero, List.getElem_cons_succ, List.setIfInBounds_toArray, List.set_cons_zero, List.set_cons_succ]))
          (refine wpM_take (i := 2) (v := ?_) rfl (by kernel_rfl) (by kernel_rfl) (by kernel_rfl) (by decide) (fun _ _ _ h => h) hcl hC (fun _ => hE) (Or.inl ⟨by rfl, ?_⟩) ?_; rotate_left; (· (intro w hSw; (try dsimp only at hSw); go_simp; (try with_reducible rfl))); clear hcl; intro hcl; (try simp only [Act.put, List.getElem_toArray, List.getElem_cons_zero, List.getElem_cons_succ, List.setIfInBounds_toArray, List.set_cons_zero, List.set_cons_succ]))
          refine wpM_only (i := 3) rfl (by kernel_rfl) hcl (fun K hK => ?_)
          go_simp
          refine (txown_any p _ ((hTpH.out.below (hv1.trans (Below.refl _ _).drew)).more hv1.size) (by omega)).mono ?_
          rintro e w2 ⟨A1, c1, rfl, hr1, hb2⟩
          have hv2 : Below w1.heap.size w1 w2 := ((Below.refl _ w1).drew).trans hb2
          have hblk2 := blk_below hblk1 hv2
          have o11' := blk_cell hblk2 11
          simp at o11'
          have hbl2 := blk_lt hblk2
          have hC2 : ∀ o, w2.cell? ⟨wr.heap.size, o, none⟩ = w1.cell? ⟨wr.heap.size, o, none⟩ := fun o => hv2.cell (p := ⟨wr.heap.size, o, none⟩) hltx1
          refine hK.out _ _ hC2 o11' ?_
          clear hK K
          clear hcl
          intro hcl
          (try simp only [Act.put, List.getElem_toArray, List.getElem_cons_zero, List.getElem_cons_succ, List.setIfInBounds_toArray, List.set_cons_zero, List.set_cons_succ])
          clear hC hE hC0
          have hC := hC2
          have hE := o11'
          refine wpM_only (i := 4) rfl (by kernel_rfl) hcl (fun K hK => ?_)
          go_simp
          have hv3 : Below w1.heap.size w1 (w2.alloc (.cells #[.string (bs p.key), .int .i64 p.e.act, .string (bs p.e.name), .int .i64 p.e.val, .int .i64 p.e.tag.1.1, .int .u32 p.e.tag.1.2, .int .i64 p.e.tag.2, .int .u32 p.e.st.1, .int .i64 p.e.st.2, .slice A1 p.l c1] 69)) := hv2.alloc hv2.size _
          have hC3 : ∀ o, (w2.alloc (.cells #[.string (bs p.key), .int .i64 p.e.act, .string (bs p.e.name), .int .i64 p.e.val, .int .i64 p.e.tag.1.1, .int .u32 p.e.tag.1.2, .int .i64 p.e.tag.2, .int .u32 p.e.st.1, .int .i64 p.e.st.2, .slice A1 p.l c1] 69)).cell? ⟨wr.heap.size, o, none⟩ = w1.cell? ⟨wr.heap.size, o, none⟩ := fun o => hv3.cell (p := ⟨wr.heap.size, o, none⟩) hltx1
          have hblk3 := blk_below hblk1 hv3
          have hE3 := blk_cell hblk3 11
          simp at hE3
          refine hK.out _ _ hC3 hE3 ?_
          clear hK K hE hC hcl
          intro hcl
          have hC := hC3
          (try simp only [Act.put, List.setIfInBounds_toArray, List.set_cons_zero, List.set_cons_succ])
          have hown3 := hown1.below hv3
          have hlo := blk_lt hblk3
          refine wpM_last (i := 5) rfl (by kernel_rfl) hcl (by kernel_rfl) (fun K hK => ?_)
          refine step_append_rd _ rfl _ _ _ rfl ePart (base := ob + 1) (v := .slice A' n' c') (xs := rs.map Pe.enc) rfl hown3 rfl (Rd.one' [.string (bs p.key), .int .i64 p.e.act, .string (bs p.e.name), .int .i64 p.e.val, .int .i64 p.e.tag.1.1, .int .u32 p.e.tag.1.2, .int .i64 p.e.tag.2, .int .u32 p.e.st.1, .int .i64 p.e.st.2, .slice A1 p.l c1] rfl) (by simp) (by simp [Value.oneCell'])
            (by rw [List.length_map, hqlH.out]; unfold maxLen; omega) (by rw [List.length_map, hqlH.out]; omega) (by simp; omega) ?_
          intro A2 n2 c2 w4 hn2 hown4 hg4 hat4
          obtain rfl : n2 = n' + 1 := by rw [hn2, List.length_map, hqlH.out]
          clear hn2
          have hblk4 : w4.heap[ob]? = some (.cells #[.int .i64 (x1, x2).1, .int .u32 (x1, x2).2, .int .u32 v.d0, .int .u32 v.d1, .int .u32 v.d2, .int .u32 v.d3, .int .u32 v.d4, .int .u32 v.d5, .int .u32 v.d6, .int .u32 v.d7, .bool (s && t), .slice A' n' c'] 33 (0, 0)) := (hg4.block _ hlo (fun e => by have := (hown3.block _ e.symm).1; omega)).trans hblk3
          have hfr4 := blk_frozen hblk4
          have hlt4 := blk_lt hblk4
          have o114 := blk_cell hblk4 11
          simp at o114
          have hbx3 := blk_below hbx1 hv3
          have hbx4 := (hg4.block _ (blk_lt hbx3) (fun e => by have := (hown.block _ e.symm).2; omega)).trans hbx3
          have hx4 : ∀ o, w4.cell? ⟨wr.heap.size, o, none⟩ = w1.cell? ⟨wr.heap.size, o, none⟩ := fun o => (blk_cell hbx4 o).trans (blk_cell hbx1 o).symm
          have hbx5 := heap_set_ne (p := ⟨ob, 11, none⟩) (u := .slice A2 (n' + 1) c2) (show ob ≠ wr.heap.size by have := hblH.out; omega) hbx4
          have hx5 := Lib.hid (fun o => (blk_cell hbx5 o).trans (blk_cell hbx1 o).symm)
          clear hbx5
          refine hK.out _ _ hx4 ?_
          clear hK K hC hcl
          intro hcl
          have hC := hx4
          (try simp only [Act.put, List.setIfInBounds_toArray])
          (refine wpM_takeX (i := 6) (v := ?_) rfl (by kernel_rfl) (by kernel_rfl) (by kernel_rfl) (by decide) (fun _ _ _ h => h) hcl hC (by kernel_rfl) (Or.inl ⟨by rfl, ?_⟩) ?_; rotate_left; (· (intro w hSw; (try dsimp only at hSw); go_simp; (try with_reducible rfl))); clear hcl; intro hcl; (try simp only [Act.put, List.getElem_toArray, List.getElem_cons_zero, List.getElem_cons_succ, List.setIfInBounds_toArray, List.set_cons_zero, List.set_cons_succ]))
          refine wpM_last (i := 7) rfl (by kernel_rfl) hcl (by kernel_rfl) (fun K hK => ?_)
          go_simp
          refine hK.out _ _ hx5.out ?_
          clear hK K hC hcl
          intro hcl
          refine wpM_done (by kernel_rfl) ?_
          clear hcl
          have hb4 : Below ob w1 w4 := (hv3.mono (by omega)).grown hg4 (by simp; omega) (fun g e => by have := (hown3.block g e).1; omega)
          have hq : ∀ q' ∈ rs ++ [({ p with A := A1, c := c1 } : Pe)], Ow w4 w.heap.size 43 3 (.slice q'.A q'.l q'.c) (q'.e.tags.map Tm.enc) := by
            intro q' hq'
            refine Ow.other (w := w2.alloc (.cells #[.string (bs p.key), .int .i64 p.e.act, .string (bs p.e.name), .int .i64 p.e.val, .int .i64 p.e.tag.1.1, .int .u32 p.e.tag.1.2, .int .i64 p.e.tag.2, .int .u32 p.e.st.1, .int .i64 p.e.st.2, .slice A1 p.l c1] 69)) ?_ hown3 (by decide) hg4
            rcases List.mem_append.1 hq' with h1 | h1
            · exact (hok q' h1).below (hv1.trans (hv3.mono hv1.size))
            · obtain rfl := List.mem_singleton.1 h1
              exact (hr1.base (by show _ ≤ w1.heap.size; omega)).below ((Below.refl _ w2).alloc (Nat.le_refl _) _)
          have hqH := Lib.hid hq
          have hownH : Hid (Ow w4 (ob + 1) 69 10 (.slice A2 (n' + 1) c2) ((rs ++ [({ p with A := A1, c := c1 } : Pe)]).map Pe.enc)) := Lib.hid (by rw [List.map_append]; exact hown4)
          have hblkN : Hid ((w4.setCell ⟨ob, 11, none⟩ (.slice A2 (n' + 1) c2)).heap[ob]? = some (.cells #[.int .i64 (x1, x2).1, .int .u32 (x1, x2).2, .int .u32 v.d0, .int .u32 v.d1, .int .u32 v.d2, .int .u32 v.d3, .int .u32 v.d4, .int .u32 v.d5, .int .u32 v.d6, .int .u32 v.d7, .bool (s && t), .slice A2 (n' + 1) c2] 33 (0, 0))) := Lib.hid (by rw [blk_set hblk4 11]; simp)
          have hbrH := Lib.hid (hbr1.trans hb4)
          have hblk4H := Lib.hid hblk4
          clear hq hown4 hblk4 hb4 hbx4 hbx3 hx4 hg4 hown3 hv3 hv2 hr1 hblk3 hblk2 hC3 hC2 o11' hE3 hb2
          have hQ : Hid (fldP pvN ((rs ++ [({ p with A := A1, c := c1 } : Pe)]).map Pe.core) ((ys.map Pe.core).drop (k + 1)) = mrgP pvN (ys.map Pe.core)) := Lib.hid (by rw [List.map_append]; exact hQ0.out)
          go_wp2
          go_roundg (N + 1 - (k + 1))
          case measure => omega
          case rel =>
            exact ⟨k + 1, n' + 1, A2, c2, rs ++ [{ p with A := A1, c := c1 }], by omega, rfl, by go_num, by omega, hQ.out, hblkN.out, hownH.out.setCell (by simp) _, fun q hq => (hqH.out q hq).set_blk hblk4H.out (by decide) _ _, hbrH.out.setCell (by simp) _⟩
    · obtain rfl : k = N := by omega
      have hnli : ¬ (k : Int) < (k : Int) := by omega
      have hfin : Hid (mrgP pvN (ys.map Pe.core) = some (rs.map Pe.core)) := Lib.hid (by
        rw [← hrsH.out, List.drop_of_length_le (by rw [List.length_map, hyl.out]; exact Nat.le_refl _)]; rfl)
      have hM3 : Hid ((if 16 < n' then (zTv, (8 : Int)) else (⟨(x1, x2), v, s && t, rs.map Pe.core⟩, 0)) = M) := Lib.hid (by
        have h1 := hR2.out
        rw [hfin.out] at h1
        dsimp only at h1
        rw [List.length_map, hqlH.out] at h1
        exact h1)
      have o11 := blk_cell hblk 11
      simp at o11
      clear hblk hfro
      by_cases h16 : 16 < n'
      · have h16i : (16 : Int) < (n' : Int) := by omega
        have hT : Hid ((zTv, (8 : Int)) = M) := Lib.hid (by have h1 := hM3.out; rw [if_pos h16] at h1; exact h1)
        have hGW := hGr
        have hres := blk_below hbzH.out hGW
        have z0 := blk_cell hres 0
        have z1 := blk_cell hres 1
        have z2 := blk_cell hres 2
        have z3 := blk_cell hres 3
        have z4 := blk_cell hres 4
        have z5 := blk_cell hres 5
        have z6 := blk_cell hres 6
        have z7 := blk_cell hres 7
        have z8 := blk_cell hres 8
        have z9 := blk_cell hres 9
        have z10 := blk_cell hres 10
        have z11 := blk_cell hres 11
        simp at z0 z1 z2 z3 z4 z5 z6 z7 z8 z9 z10 z11
        have hlz := blk_lt hres
        have hfz := blk_frozen hres
        clear hres
        go_wp2
        rw [← hT.out]
        refine bodyPost_ret (v := .tuple #[.agg #[.int .i64 (0, 0).1, .int .u32 (0, 0).2, .int .u32 zeroV.d0, .int .u32 zeroV.d1, .int .u32 zeroV.d2, .int .u32 zeroV.d3, .int .u32 zeroV.d4, .int .u32 zeroV.d5, .int .u32 zeroV.d6, .int .u32 zeroV.d7, .bool false, .slice none 0 0], .int .i64 (8)]) (by simp [results, Tryd.results5, go_sem, z0, z1, z2, z3, z4, z5, z6, z7, z8, z9, z10, z11, zeroV]) rfl (MgR.zero _ ?_)
        repeat (with_reducible refine Below.setCell ?_ (by simp; omega) _)
        exact hb0.trans (hGW.mono hz0)
      · have h16i : ¬ (16 : Int) < (n' : Int) := by omega
        have hT : Hid ((⟨(x1, x2), v, s && t, rs.map Pe.core⟩, (0 : Int)) = M) := Lib.hid (by have h1 := hM3.out; rw [if_neg h16] at h1; exact h1)
        have hres := blk_below hbzH.out hGr
        have z0 := blk_cell hres 0
        have z1 := blk_cell hres 1
        have z2 := blk_cell hres 2
        have z3 := blk_cell hres 3
        have z4 := blk_cell hres 4
        have z5 := blk_cell hres 5
        have z6 := blk_cell hres 6
        have z7 := blk_cell hres 7
        have z8 := blk_cell hres 8
        have z9 := blk_cell hres 9
        have z10 := blk_cell hres 10
        have z11 := blk_cell hres 11
        simp at z0 z1 z2 z3 z4 z5 z6 z7 z8 z9 z10 z11
        have o0 := blk_cell hblkH.out 0
        have o1 := blk_cell hblkH.out 1
        have o2 := blk_cell hblkH.out 2
        have o3 := blk_cell hblkH.out 3
        have o4 := blk_cell hblkH.out 4
        have o5 := blk_cell hblkH.out 5
        have o6 := blk_cell hblkH.out 6
        have o7 := blk_cell hblkH.out 7
        have o8 := blk_cell hblkH.out 8
        have o9 := blk_cell hblkH.out 9
        have o10 := blk_cell hblkH.out 10
        have o11 := blk_cell hblkH.out 11
        simp at o0 o1 o2 o3 o4 o5 o6 o7 o8 o9 o10 o11
        have hlz := blk_lt hres
        have hfz := blk_frozen hres
        have hresH := Lib.hid hres
        clear hres
        go_wp2
        rw [← hT.out]
        refine bodyPost_ret (v := .tuple #[.agg #[.int .i64 (x1, x2).1, .int .u32 (x1, x2).2, .int .u32 v.d0, .int .u32 v.d1, .int .u32 v.d2, .int .u32 v.d3, .int .u32 v.d4, .int .u32 v.d5, .int .u32 v.d6, .int .u32 v.d7, .bool (s && t), .slice A' n' c'], .int .i64 0]) (by simp [results, Tryd.results5, go_sem, z0, z1, z2, z3, z4, z5, z6, z7, z8, z9, z10, z11]) rfl (MgR.full ⟨?_, ?_⟩ rfl ?_)
        · refine Ow.base (base := ob + 1) ?_ (by omega)
          repeat (with_reducible refine Ow.setCell ?_ (by simp; omega) _)
          exact hown
        · intro q hq
          refine Ow.other_blk (hok q hq) hresH.out (by decide) ?_
          (repeat (with_reducible refine grown_set ?_ _ _))
          try exact World.grownBy.refl wr _
        · repeat (with_reducible refine Below.setCell ?_ (by simp; omega) _)
          exact hbw
end Go.Proofs.YtpolplmniaoikaaDoor
