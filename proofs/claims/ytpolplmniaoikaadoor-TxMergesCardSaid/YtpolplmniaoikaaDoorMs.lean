/- The document's Merge of two copies of a transaction. -/
import Derived.Test.YtpolplmniaoikaaDoorMt
namespace Go.Proofs.YtpolplmniaoikaaDoor
open Go.RowKit

section
variable {α : Type} [DecidableEq α] {κ : α → Int} {a b : α} {ax bx : List α}
theorem mrgD_left (h : ∀ z ∈ bx.head?, κ a < κ z) : mrgD κ (a :: ax) bx = (mrgD κ ax bx).map (a :: ·) := by
  cases bx with
  | nil => rw [mrgD_none, mrgD_none]; rfl
  | cons b bx => rw [mrgD, if_pos (h b (by simp))]
theorem mrgD_right (h : ∀ z ∈ ax.head?, κ b < κ z) : mrgD κ ax (b :: bx) = (mrgD κ ax bx).map (b :: ·) := by
  cases ax with
  | nil => simp [mrgD]
  | cons a ax =>
    have h1 := h a (by simp)
    rw [mrgD, if_neg (by omega), if_pos h1]
theorem mrgD_same (h : κ a = κ b) (e : a = b) : mrgD κ (a :: ax) (b :: bx) = (mrgD κ ax bx).map (a :: ·) := by rw [mrgD, if_neg (by omega), if_neg (by omega), if_pos e]
theorem mrgD_bad (h : κ a = κ b) (e : a ≠ b) : mrgD κ (a :: ax) (b :: bx) = none := by rw [mrgD, if_neg (by omega), if_neg (by omega), if_neg e]
end
theorem map_snoc {α : Type} (o : Option (List α)) (out : List α) (a : α) : (o.map (a :: ·)).map (out ++ ·) = o.map ((out ++ [a]) ++ ·) := by cases o <;> simp
def MgD (M : Tv × Int) (w : World) (e : Ending) (w' : World) : Prop :=
  ∃ A' n' c' rs, e = .returned (.tuple #[.agg #[.int .i64 M.1.id.1, .int .u32 M.1.id.2, .int .u32 M.1.deps.d0, .int .u32 M.1.deps.d1, .int .u32 M.1.deps.d2, .int .u32 M.1.deps.d3, .int .u32 M.1.deps.d4, .int .u32 M.1.deps.d5, .int .u32 M.1.deps.d6, .int .u32 M.1.deps.d7, .bool M.1.thin, .slice A' n' c'], .int .i64 M.2]) ∧ RdE w' w'.heap.size A' n' rs ∧ rs.map Pe.core = M.1.parts ∧ (∀ q ∈ rs, q.l ≤ 100000) ∧ n' ≤ 1000 ∧ Below w.heap.size w w'
theorem MgD.zero (E : Int) {w w' : World} (h : Below w.heap.size w w') : MgD (zTv, E) w (.returned (.tuple #[.agg #[.int .i64 (0, 0).1, .int .u32 (0, 0).2, .int .u32 zeroV.d0, .int .u32 zeroV.d1, .int .u32 zeroV.d2, .int .u32 zeroV.d3, .int .u32 zeroV.d4, .int .u32 zeroV.d5, .int .u32 zeroV.d6, .int .u32 zeroV.d7, .bool false, .slice none 0 0], .int .i64 E])) w' := ⟨none, 0, 0, [], rfl, RdE.nil_, rfl, by simp, by omega, h⟩
theorem MgD.full {x : Im} {v : Vm} {t : Bool} {out : List Pv} {A' : Option Addr} {n' c' : Nat} {rs : List Pe} {w w' : World} (ho : RdE w' w'.heap.size A' n' rs) (hr : rs.map Pe.core = out) (hl : ∀ q ∈ rs, q.l ≤ 100000) (hn : n' ≤ 1000) (h : Below w.heap.size w w') :
    MgD (⟨x, v, t, out⟩, 0) w (.returned (.tuple #[.agg #[.int .i64 x.1, .int .u32 x.2, .int .u32 v.d0, .int .u32 v.d1, .int .u32 v.d2, .int .u32 v.d3, .int .u32 v.d4, .int .u32 v.d5, .int .u32 v.d6, .int .u32 v.d7, .bool t, .slice A' n' c'], .int .i64 0])) w' := ⟨A', n', c', rs, rfl, ho, hr, hl, hn, h⟩
set_option maxRecDepth 100000 in
set_option maxHeartbeats 60000000 in
theorem rtxmergeA_any (x : Im) (v : Vm) (s : Bool) (A : Option Addr) (n c : Nat) (ps : List Pe) (y : Im) (u : Vm) (t : Bool) (B : Option Addr) (m d : Nat) (qs : List Pe) (w : World)
    (hA : RdE w w.heap.size A n ps) (hn : n ≤ 400) (hfA : ∀ p ∈ ps, p.Fit w) (hx : x.wf) (hvw : v.wf) (hB : RdE w w.heap.size B m qs) (hm : m ≤ 400) (hfB : ∀ p ∈ qs, p.Fit w) (hy : y.wf) (huw : u.wf) (M : Tv × Int) (hM : mergeT ⟨x, v, s, ps.map Pe.core⟩ ⟨y, u, t, qs.map Pe.core⟩ = M) (hbad : txErr x v (ps.map Pe.core) ≠ 0) :
    Calls Tryd.prog 7 #[.agg #[.int .i64 x.1, .int .u32 x.2, .int .u32 v.d0, .int .u32 v.d1, .int .u32 v.d2, .int .u32 v.d3, .int .u32 v.d4, .int .u32 v.d5, .int .u32 v.d6, .int .u32 v.d7, .bool s, .slice A n c], .agg #[.int .i64 y.1, .int .u32 y.2, .int .u32 u.d0, .int .u32 u.d1, .int .u32 u.d2, .int .u32 u.d3, .int .u32 u.d4, .int .u32 u.d5, .int .u32 u.d6, .int .u32 u.d7, .bool t, .slice B m d]] w
      (fun e w' => MgD M w e w') := by
  have hb0 : Below w.heap.size w (((w.alloc (.cells #[.int .i64 x.1, .int .u32 x.2, .int .u32 v.d0, .int .u32 v.d1, .int .u32 v.d2, .int .u32 v.d3, .int .u32 v.d4, .int .u32 v.d5, .int .u32 v.d6, .int .u32 v.d7, .bool s, .slice A n c] 29)).alloc (.cells #[.int .i64 y.1, .int .u32 y.2, .int .u32 u.d0, .int .u32 u.d1, .int .u32 u.d2, .int .u32 u.d3, .int .u32 u.d4, .int .u32 u.d5, .int .u32 u.d6, .int .u32 u.d7, .bool t, .slice B m d] 29)).alloc (.cells #[.int .i64 0, .int .u32 0, .int .u32 0, .int .u32 0, .int .u32 0, .int .u32 0, .int .u32 0, .int .u32 0, .int .u32 0, .int .u32 0, .bool false, .slice none 0 0] 29)) := (((Below.refl _ w).alloc (Nat.le_refl _) _).alloc (by simp) _).alloc (by simp; omega) _
  have hba : (((w.alloc (.cells #[.int .i64 x.1, .int .u32 x.2, .int .u32 v.d0, .int .u32 v.d1, .int .u32 v.d2, .int .u32 v.d3, .int .u32 v.d4, .int .u32 v.d5, .int .u32 v.d6, .int .u32 v.d7, .bool s, .slice A n c] 29)).alloc (.cells #[.int .i64 y.1, .int .u32 y.2, .int .u32 u.d0, .int .u32 u.d1, .int .u32 u.d2, .int .u32 u.d3, .int .u32 u.d4, .int .u32 u.d5, .int .u32 u.d6, .int .u32 u.d7, .bool t, .slice B m d] 29)).alloc (.cells #[.int .i64 0, .int .u32 0, .int .u32 0, .int .u32 0, .int .u32 0, .int .u32 0, .int .u32 0, .int .u32 0, .int .u32 0, .int .u32 0, .bool false, .slice none 0 0] 29)).heap[w.heap.size]? = some (.cells #[.int .i64 x.1, .int .u32 x.2, .int .u32 v.d0, .int .u32 v.d1, .int .u32 v.d2, .int .u32 v.d3, .int .u32 v.d4, .int .u32 v.d5, .int .u32 v.d6, .int .u32 v.d7, .bool s, .slice A n c] 29 (0, 0)) := heap_old _ (by simp; omega) (heap_old _ (by simp) (heap_at _ _ rfl))
  have hbb : (((w.alloc (.cells #[.int .i64 x.1, .int .u32 x.2, .int .u32 v.d0, .int .u32 v.d1, .int .u32 v.d2, .int .u32 v.d3, .int .u32 v.d4, .int .u32 v.d5, .int .u32 v.d6, .int .u32 v.d7, .bool s, .slice A n c] 29)).alloc (.cells #[.int .i64 y.1, .int .u32 y.2, .int .u32 u.d0, .int .u32 u.d1, .int .u32 u.d2, .int .u32 u.d3, .int .u32 u.d4, .int .u32 u.d5, .int .u32 u.d6, .int .u32 u.d7, .bool t, .slice B m d] 29)).alloc (.cells #[.int .i64 0, .int .u32 0, .int .u32 0, .int .u32 0, .int .u32 0, .int .u32 0, .int .u32 0, .int .u32 0, .int .u32 0, .int .u32 0, .bool false, .slice none 0 0] 29)).heap[w.heap.size + 1]? = some (.cells #[.int .i64 y.1, .int .u32 y.2, .int .u32 u.d0, .int .u32 u.d1, .int .u32 u.d2, .int .u32 u.d3, .int .u32 u.d4, .int .u32 u.d5, .int .u32 u.d6, .int .u32 u.d7, .bool t, .slice B m d] 29 (0, 0)) := heap_old _ (by simp) (heap_at _ _ (by simp))
  have hbz : (((w.alloc (.cells #[.int .i64 x.1, .int .u32 x.2, .int .u32 v.d0, .int .u32 v.d1, .int .u32 v.d2, .int .u32 v.d3, .int .u32 v.d4, .int .u32 v.d5, .int .u32 v.d6, .int .u32 v.d7, .bool s, .slice A n c] 29)).alloc (.cells #[.int .i64 y.1, .int .u32 y.2, .int .u32 u.d0, .int .u32 u.d1, .int .u32 u.d2, .int .u32 u.d3, .int .u32 u.d4, .int .u32 u.d5, .int .u32 u.d6, .int .u32 u.d7, .bool t, .slice B m d] 29)).alloc (.cells #[.int .i64 0, .int .u32 0, .int .u32 0, .int .u32 0, .int .u32 0, .int .u32 0, .int .u32 0, .int .u32 0, .int .u32 0, .int .u32 0, .bool false, .slice none 0 0] 29)).heap[w.heap.size + 1 + 1]? = some (.cells #[.int .i64 0, .int .u32 0, .int .u32 0, .int .u32 0, .int .u32 0, .int .u32 0, .int .u32 0, .int .u32 0, .int .u32 0, .int .u32 0, .bool false, .slice none 0 0] 29 (0, 0)) := heap_at _ _ (by simp)
  generalize hWe : (((w.alloc (.cells #[.int .i64 x.1, .int .u32 x.2, .int .u32 v.d0, .int .u32 v.d1, .int .u32 v.d2, .int .u32 v.d3, .int .u32 v.d4, .int .u32 v.d5, .int .u32 v.d6, .int .u32 v.d7, .bool s, .slice A n c] 29)).alloc (.cells #[.int .i64 y.1, .int .u32 y.2, .int .u32 u.d0, .int .u32 u.d1, .int .u32 u.d2, .int .u32 u.d3, .int .u32 u.d4, .int .u32 u.d5, .int .u32 u.d6, .int .u32 u.d7, .bool t, .slice B m d] 29)).alloc (.cells #[.int .i64 0, .int .u32 0, .int .u32 0, .int .u32 0, .int .u32 0, .int .u32 0, .int .u32 0, .int .u32 0, .int .u32 0, .int .u32 0, .bool false, .slice none 0 0] 29)) = W at hb0 hba hbb hbz
  have hz0 := hb0.size
  have hlW : w.heap.size + 1 + 1 < W.heap.size := blk_lt hbz
  have hbaH := Lib.hid hba
  have hbbH := Lib.hid hbb
  have hbzH := Lib.hid hbz
  have q0 := blk_cell hba 0
  have q1 := blk_cell hba 1
  have q2 := blk_cell hba 2
  have q3 := blk_cell hba 3
  have q4 := blk_cell hba 4
  have q5 := blk_cell hba 5
  have q6 := blk_cell hba 6
  have q7 := blk_cell hba 7
  have q8 := blk_cell hba 8
  have q9 := blk_cell hba 9
  have q10 := blk_cell hba 10
  have q11 := blk_cell hba 11
  simp at q0 q1 q2 q3 q4 q5 q6 q7 q8 q9 q10 q11
  have r0 := blk_cell hbb 0
  have r1 := blk_cell hbb 1
  have r2 := blk_cell hbb 2
  have r3 := blk_cell hbb 3
  have r4 := blk_cell hbb 4
  have r5 := blk_cell hbb 5
  have r6 := blk_cell hbb 6
  have r7 := blk_cell hbb 7
  have r8 := blk_cell hbb 8
  have r9 := blk_cell hbb 9
  have r10 := blk_cell hbb 10
  have r11 := blk_cell hbb 11
  simp at r0 r1 r2 r3 r4 r5 r6 r7 r8 r9 r10 r11
  have hlta := blk_lt hba
  have hltb := blk_lt hbb
  have cA := Lib.hid (fun w' (h : Below w.heap.size w w') => rtxcheck_any x v s A n c ps w' ((hA.below h).more h.size) (by unfold maxLen; omega) (fun p hp => (hfA p hp).below h) hx hvw)
  have cB := Lib.hid (fun w' (h : Below w.heap.size w w') => rtxcheck_any y u t B m d qs w' ((hB.below h).more h.size) (by unfold maxLen; omega) (fun p hp => (hfB p hp).below h) hy huw)
  have hAr := Lib.hid (fun w' (h : Below w.heap.size w w') => hA.below h)
  have hBr := Lib.hid (fun w' (h : Below w.heap.size w w') => hB.below h)
  have hfAH := Lib.hid hfA
  have hfBH := Lib.hid hfB
  have hlA := Lib.hid hA.len
  have hlB := Lib.hid hB.len
  unfold mergeT at hM
  dsimp only at hM
  generalize hea : txErr x v (ps.map Pe.core) = ea at *
  generalize heb : txErr y u (qs.map Pe.core) = eb at *
  replace hM := Lib.hid hM
  have heaH := Lib.hid hea
  have hebH := Lib.hid heb
  have hneq := neqV2 v u
  have hneqH := Lib.hid hneq
  have hea0 : ea ≠ 0 := hbad
  clear hA hB hfA hfB hx hvw hy huw hba hbb hbz hea heb hneq
  have h1e : (ea == 0) = false := by simpa using hea0
  have h1n : (ea != 0) = true := by simpa using hea0
  have hT : Hid ((zTv, ea) = M) := Lib.hid (by rw [← hM.out, if_pos hea0])
  clear hneqH hea0
  go_enter Tryd.func7, Tryd.ntmps7
  go_wp2_with fail
  refine (cA.out _ hb0).mono ?_
  rintro e v1 ⟨rfl, hGW⟩
  clear q0 q1 q2 q3 q4 q5 q6 q7 q8 q9 q10 q11 r0 r1 r2 r3 r4 r5 r6 r7 r8 r9 r10 r11
  have hres := blk_below hbzH.out hGW
  have z0 := blk_cell hres 0
  have z1 := blk_cell hres 1
  have z2 := blk_cell hres 2
  have z3 := blk_cell hres 3
  have z4 := blk_cell hres 4
  have z5 := blk_cell hres 5
  have z6 := blk_cell hres 6
  have z7 := blk_cell hres 7
  have z8 := blk_cell hres 8
  have z9 := blk_cell hres 9
  have z10 := blk_cell hres 10
  have z11 := blk_cell hres 11
  simp at z0 z1 z2 z3 z4 z5 z6 z7 z8 z9 z10 z11
  have hlz := blk_lt hres
  have hfz := blk_frozen hres
  clear hres
  go_wp2
  rw [← hT.out]
  refine bodyPost_ret (v := .tuple #[.agg #[.int .i64 (0, 0).1, .int .u32 (0, 0).2, .int .u32 zeroV.d0, .int .u32 zeroV.d1, .int .u32 zeroV.d2, .int .u32 zeroV.d3, .int .u32 zeroV.d4, .int .u32 zeroV.d5, .int .u32 zeroV.d6, .int .u32 zeroV.d7, .bool false, .slice none 0 0], .int .i64 (ea)]) (by simp [results, Tryd.results7, go_sem, z0, z1, z2, z3, z4, z5, z6, z7, z8, z9, z10, z11, zeroV]) rfl (MgD.zero _ ?_)
  repeat (with_reducible refine Below.setCell ?_ (by simp; omega) _)
  exact hb0.trans (hGW.mono hz0)
set_option maxRecDepth 100000 in
set_option maxHeartbeats 60000000 in
theorem rtxmergeB_any (x : Im) (v : Vm) (s : Bool) (A : Option Addr) (n c : Nat) (ps : List Pe) (y : Im) (u : Vm) (t : Bool) (B : Option Addr) (m d : Nat) (qs : List Pe) (w : World)
    (hA : RdE w w.heap.size A n ps) (hn : n ≤ 400) (hfA : ∀ p ∈ ps, p.Fit w) (hx : x.wf) (hvw : v.wf) (hB : RdE w w.heap.size B m qs) (hm : m ≤ 400) (hfB : ∀ p ∈ qs, p.Fit w) (hy : y.wf) (huw : u.wf) (M : Tv × Int) (hM : mergeT ⟨x, v, s, ps.map Pe.core⟩ ⟨y, u, t, qs.map Pe.core⟩ = M) (hok : txErr x v (ps.map Pe.core) = 0) (hbad : txErr y u (qs.map Pe.core) ≠ 0) :
    Calls Tryd.prog 7 #[.agg #[.int .i64 x.1, .int .u32 x.2, .int .u32 v.d0, .int .u32 v.d1, .int .u32 v.d2, .int .u32 v.d3, .int .u32 v.d4, .int .u32 v.d5, .int .u32 v.d6, .int .u32 v.d7, .bool s, .slice A n c], .agg #[.int .i64 y.1, .int .u32 y.2, .int .u32 u.d0, .int .u32 u.d1, .int .u32 u.d2, .int .u32 u.d3, .int .u32 u.d4, .int .u32 u.d5, .int .u32 u.d6, .int .u32 u.d7, .bool t, .slice B m d]] w
      (fun e w' => MgD M w e w') := by
  have hb0 : Below w.heap.size w (((w.alloc (.cells #[.int .i64 x.1, .int .u32 x.2, .int .u32 v.d0, .int .u32 v.d1, .int .u32 v.d2, .int .u32 v.d3, .int .u32 v.d4, .int .u32 v.d5, .int .u32 v.d6, .int .u32 v.d7, .bool s, .slice A n c] 29)).alloc (.cells #[.int .i64 y.1, .int .u32 y.2, .int .u32 u.d0, .int .u32 u.d1, .int .u32 u.d2, .int .u32 u.d3, .int .u32 u.d4, .int .u32 u.d5, .int .u32 u.d6, .int .u32 u.d7, .bool t, .slice B m d] 29)).alloc (.cells #[.int .i64 0, .int .u32 0, .int .u32 0, .int .u32 0, .int .u32 0, .int .u32 0, .int .u32 0, .int .u32 0, .int .u32 0, .int .u32 0, .bool false, .slice none 0 0] 29)) := (((Below.refl _ w).alloc (Nat.le_refl _) _).alloc (by simp) _).alloc (by simp; omega) _
  have hba : (((w.alloc (.cells #[.int .i64 x.1, .int .u32 x.2, .int .u32 v.d0, .int .u32 v.d1, .int .u32 v.d2, .int .u32 v.d3, .int .u32 v.d4, .int .u32 v.d5, .int .u32 v.d6, .int .u32 v.d7, .bool s, .slice A n c] 29)).alloc (.cells #[.int .i64 y.1, .int .u32 y.2, .int .u32 u.d0, .int .u32 u.d1, .int .u32 u.d2, .int .u32 u.d3, .int .u32 u.d4, .int .u32 u.d5, .int .u32 u.d6, .int .u32 u.d7, .bool t, .slice B m d] 29)).alloc (.cells #[.int .i64 0, .int .u32 0, .int .u32 0, .int .u32 0, .int .u32 0, .int .u32 0, .int .u32 0, .int .u32 0, .int .u32 0, .int .u32 0, .bool false, .slice none 0 0] 29)).heap[w.heap.size]? = some (.cells #[.int .i64 x.1, .int .u32 x.2, .int .u32 v.d0, .int .u32 v.d1, .int .u32 v.d2, .int .u32 v.d3, .int .u32 v.d4, .int .u32 v.d5, .int .u32 v.d6, .int .u32 v.d7, .bool s, .slice A n c] 29 (0, 0)) := heap_old _ (by simp; omega) (heap_old _ (by simp) (heap_at _ _ rfl))
  have hbb : (((w.alloc (.cells #[.int .i64 x.1, .int .u32 x.2, .int .u32 v.d0, .int .u32 v.d1, .int .u32 v.d2, .int .u32 v.d3, .int .u32 v.d4, .int .u32 v.d5, .int .u32 v.d6, .int .u32 v.d7, .bool s, .slice A n c] 29)).alloc (.cells #[.int .i64 y.1, .int .u32 y.2, .int .u32 u.d0, .int .u32 u.d1, .int .u32 u.d2, .int .u32 u.d3, .int .u32 u.d4, .int .u32 u.d5, .int .u32 u.d6, .int .u32 u.d7, .bool t, .slice B m d] 29)).alloc (.cells #[.int .i64 0, .int .u32 0, .int .u32 0, .int .u32 0, .int .u32 0, .int .u32 0, .int .u32 0, .int .u32 0, .int .u32 0, .int .u32 0, .bool false, .slice none 0 0] 29)).heap[w.heap.size + 1]? = some (.cells #[.int .i64 y.1, .int .u32 y.2, .int .u32 u.d0, .int .u32 u.d1, .int .u32 u.d2, .int .u32 u.d3, .int .u32 u.d4, .int .u32 u.d5, .int .u32 u.d6, .int .u32 u.d7, .bool t, .slice B m d] 29 (0, 0)) := heap_old _ (by simp) (heap_at _ _ (by simp))
  have hbz : (((w.alloc (.cells #[.int .i64 x.1, .int .u32 x.2, .int .u32 v.d0, .int .u32 v.d1, .int .u32 v.d2, .int .u32 v.d3, .int .u32 v.d4, .int .u32 v.d5, .int .u32 v.d6, .int .u32 v.d7, .bool s, .slice A n c] 29)).alloc (.cells #[.int .i64 y.1, .int .u32 y.2, .int .u32 u.d0, .int .u32 u.d1, .int .u32 u.d2, .int .u32 u.d3, .int .u32 u.d4, .int .u32 u.d5, .int .u32 u.d6, .int .u32 u.d7, .bool t, .slice B m d] 29)).alloc (.cells #[.int .i64 0, .int .u32 0, .int .u32 0, .int .u32 0, .int .u32 0, .int .u32 0, .int .u32 0, .int .u32 0, .int .u32 0, .int .u32 0, .bool false, .slice none 0 0] 29)).heap[w.heap.size + 1 + 1]? = some (.cells #[.int .i64 0, .int .u32 0, .int .u32 0, .int .u32 0, .int .u32 0, .int .u32 0, .int .u32 0, .int .u32 0, .int .u32 0, .int .u32 0, .bool false, .slice none 0 0] 29 (0, 0)) := heap_at _ _ (by simp)
  generalize hWe : (((w.alloc (.cells #[.int .i64 x.1, .int .u32 x.2, .int .u32 v.d0, .int .u32 v.d1, .int .u32 v.d2, .int .u32 v.d3, .int .u32 v.d4, .int .u32 v.d5, .int .u32 v.d6, .int .u32 v.d7, .bool s, .slice A n c] 29)).alloc (.cells #[.int .i64 y.1, .int .u32 y.2, .int .u32 u.d0, .int .u32 u.d1, .int .u32 u.d2, .int .u32 u.d3, .int .u32 u.d4, .int .u32 u.d5, .int .u32 u.d6, .int .u32 u.d7, .bool t, .slice B m d] 29)).alloc (.cells #[.int .i64 0, .int .u32 0, .int .u32 0, .int .u32 0, .int .u32 0, .int .u32 0, .int .u32 0, .int .u32 0, .int .u32 0, .int .u32 0, .bool false, .slice none 0 0] 29)) = W at hb0 hba hbb hbz
  have hz0 := hb0.size
  have hlW : w.heap.size + 1 + 1 < W.heap.size := blk_lt hbz
  have hbaH := Lib.hid hba
  have hbbH := Lib.hid hbb
  have hbzH := Lib.hid hbz
  have q0 := blk_cell hba 0
  have q1 := blk_cell hba 1
  have q2 := blk_cell hba 2
  have q3 := blk_cell hba 3
  have q4 := blk_cell hba 4
  have q5 := blk_cell hba 5
  have q6 := blk_cell hba 6
  have q7 := blk_cell hba 7
  have q8 := blk_cell hba 8
  have q9 := blk_cell hba 9
  have q10 := blk_cell hba 10
  have q11 := blk_cell hba 11
  simp at q0 q1 q2 q3 q4 q5 q6 q7 q8 q9 q10 q11
  have r0 := blk_cell hbb 0
  have r1 := blk_cell hbb 1
  have r2 := blk_cell hbb 2
  have r3 := blk_cell hbb 3
  have r4 := blk_cell hbb 4
  have r5 := blk_cell hbb 5
  have r6 := blk_cell hbb 6
  have r7 := blk_cell hbb 7
  have r8 := blk_cell hbb 8
  have r9 := blk_cell hbb 9
  have r10 := blk_cell hbb 10
  have r11 := blk_cell hbb 11
  simp at r0 r1 r2 r3 r4 r5 r6 r7 r8 r9 r10 r11
  have hlta := blk_lt hba
  have hltb := blk_lt hbb
  have cA := Lib.hid (fun w' (h : Below w.heap.size w w') => rtxcheck_any x v s A n c ps w' ((hA.below h).more h.size) (by unfold maxLen; omega) (fun p hp => (hfA p hp).below h) hx hvw)
  have cB := Lib.hid (fun w' (h : Below w.heap.size w w') => rtxcheck_any y u t B m d qs w' ((hB.below h).more h.size) (by unfold maxLen; omega) (fun p hp => (hfB p hp).below h) hy huw)
  have hAr := Lib.hid (fun w' (h : Below w.heap.size w w') => hA.below h)
  have hBr := Lib.hid (fun w' (h : Below w.heap.size w w') => hB.below h)
  have hfAH := Lib.hid hfA
  have hfBH := Lib.hid hfB
  have hlA := Lib.hid hA.len
  have hlB := Lib.hid hB.len
  unfold mergeT at hM
  dsimp only at hM
  generalize hea : txErr x v (ps.map Pe.core) = ea at *
  generalize heb : txErr y u (qs.map Pe.core) = eb at *
  replace hM := Lib.hid hM
  have heaH := Lib.hid hea
  have hebH := Lib.hid heb
  have hneq := neqV2 v u
  have hneqH := Lib.hid hneq
  have hea0 : ea = 0 := hok
  have heb0 : eb ≠ 0 := hbad
  clear hA hB hfA hfB hx hvw hy huw hba hbb hbz hea heb hneq
  subst hea0
  have h1n : (eb != 0) = true := by simpa using heb0
  have hT : Hid ((zTv, eb) = M) := Lib.hid (by rw [← hM.out, if_neg (by simp), if_pos heb0])
  clear hneqH heb0
  go_enter Tryd.func7, Tryd.ntmps7
  go_wp2_with fail
  refine (cA.out _ hb0).mono ?_
  rintro e v1 ⟨rfl, hv1⟩
  have hbb1 := blk_below hbbH.out hv1
  have r0 := blk_cell hbb1 0
  have r1 := blk_cell hbb1 1
  have r2 := blk_cell hbb1 2
  have r3 := blk_cell hbb1 3
  have r4 := blk_cell hbb1 4
  have r5 := blk_cell hbb1 5
  have r6 := blk_cell hbb1 6
  have r7 := blk_cell hbb1 7
  have r8 := blk_cell hbb1 8
  have r9 := blk_cell hbb1 9
  have r10 := blk_cell hbb1 10
  have r11 := blk_cell hbb1 11
  simp at r0 r1 r2 r3 r4 r5 r6 r7 r8 r9 r10 r11
  have hltb := blk_lt hbb1
  clear hbb1
  go_wp2_with fail
  refine (cB.out _ (hb0.trans (hv1.mono hz0))).mono ?_
  rintro e v2 ⟨rfl, hv2⟩
  have hGW := hv1.trans (hv2.mono hv1.size)
  clear q0 q1 q2 q3 q4 q5 q6 q7 q8 q9 q10 q11 r0 r1 r2 r3 r4 r5 r6 r7 r8 r9 r10 r11
  have hres := blk_below hbzH.out hGW
  have z0 := blk_cell hres 0
  have z1 := blk_cell hres 1
  have z2 := blk_cell hres 2
  have z3 := blk_cell hres 3
  have z4 := blk_cell hres 4
  have z5 := blk_cell hres 5
  have z6 := blk_cell hres 6
  have z7 := blk_cell hres 7
  have z8 := blk_cell hres 8
  have z9 := blk_cell hres 9
  have z10 := blk_cell hres 10
  have z11 := blk_cell hres 11
  simp at z0 z1 z2 z3 z4 z5 z6 z7 z8 z9 z10 z11
  have hlz := blk_lt hres
  have hfz := blk_frozen hres
  clear hres
  go_wp2
  rw [← hT.out]
  refine bodyPost_ret (v := .tuple #[.agg #[.int .i64 (0, 0).1, .int .u32 (0, 0).2, .int .u32 zeroV.d0, .int .u32 zeroV.d1, .int .u32 zeroV.d2, .int .u32 zeroV.d3, .int .u32 zeroV.d4, .int .u32 zeroV.d5, .int .u32 zeroV.d6, .int .u32 zeroV.d7, .bool false, .slice none 0 0], .int .i64 (eb)]) (by simp [results, Tryd.results7, go_sem, z0, z1, z2, z3, z4, z5, z6, z7, z8, z9, z10, z11, zeroV]) rfl (MgD.zero _ ?_)
  repeat (with_reducible refine Below.setCell ?_ (by simp; omega) _)
  exact hb0.trans (hGW.mono hz0)
set_option maxRecDepth 100000 in
set_option maxHeartbeats 60000000 in
theorem rtxmergeC_any (x : Im) (v : Vm) (s : Bool) (A : Option Addr) (n c : Nat) (ps : List Pe) (y : Im) (u : Vm) (t : Bool) (B : Option Addr) (m d : Nat) (qs : List Pe) (w : World)
    (hA : RdE w w.heap.size A n ps) (hn : n ≤ 400) (hfA : ∀ p ∈ ps, p.Fit w) (hx : x.wf) (hvw : v.wf) (hB : RdE w w.heap.size B m qs) (hm : m ≤ 400) (hfB : ∀ p ∈ qs, p.Fit w) (hy : y.wf) (huw : u.wf) (M : Tv × Int) (hM : mergeT ⟨x, v, s, ps.map Pe.core⟩ ⟨y, u, t, qs.map Pe.core⟩ = M) (hok : txErr x v (ps.map Pe.core) = 0) (hok2 : txErr y u (qs.map Pe.core) = 0) (hbad : (decide (x.1 = y.1) && decide (x.2 = y.2) && eqV v u) = false) :
    Calls Tryd.prog 7 #[.agg #[.int .i64 x.1, .int .u32 x.2, .int .u32 v.d0, .int .u32 v.d1, .int .u32 v.d2, .int .u32 v.d3, .int .u32 v.d4, .int .u32 v.d5, .int .u32 v.d6, .int .u32 v.d7, .bool s, .slice A n c], .agg #[.int .i64 y.1, .int .u32 y.2, .int .u32 u.d0, .int .u32 u.d1, .int .u32 u.d2, .int .u32 u.d3, .int .u32 u.d4, .int .u32 u.d5, .int .u32 u.d6, .int .u32 u.d7, .bool t, .slice B m d]] w
      (fun e w' => MgD M w e w') := by
  have hb0 : Below w.heap.size w (((w.alloc (.cells #[.int .i64 x.1, .int .u32 x.2, .int .u32 v.d0, .int .u32 v.d1, .int .u32 v.d2, .int .u32 v.d3, .int .u32 v.d4, .int .u32 v.d5, .int .u32 v.d6, .int .u32 v.d7, .bool s, .slice A n c] 29)).alloc (.cells #[.int .i64 y.1, .int .u32 y.2, .int .u32 u.d0, .int .u32 u.d1, .int .u32 u.d2, .int .u32 u.d3, .int .u32 u.d4, .int .u32 u.d5, .int .u32 u.d6, .int .u32 u.d7, .bool t, .slice B m d] 29)).alloc (.cells #[.int .i64 0, .int .u32 0, .int .u32 0, .int .u32 0, .int .u32 0, .int .u32 0, .int .u32 0, .int .u32 0, .int .u32 0, .int .u32 0, .bool false, .slice none 0 0] 29)) := (((Below.refl _ w).alloc (Nat.le_refl _) _).alloc (by simp) _).alloc (by simp; omega) _
  have hba : (((w.alloc (.cells #[.int .i64 x.1, .int .u32 x.2, .int .u32 v.d0, .int .u32 v.d1, .int .u32 v.d2, .int .u32 v.d3, .int .u32 v.d4, .int .u32 v.d5, .int .u32 v.d6, .int .u32 v.d7, .bool s, .slice A n c] 29)).alloc (.cells #[.int .i64 y.1, .int .u32 y.2, .int .u32 u.d0, .int .u32 u.d1, .int .u32 u.d2, .int .u32 u.d3, .int .u32 u.d4, .int .u32 u.d5, .int .u32 u.d6, .int .u32 u.d7, .bool t, .slice B m d] 29)).alloc (.cells #[.int .i64 0, .int .u32 0, .int .u32 0, .int .u32 0, .int .u32 0, .int .u32 0, .int .u32 0, .int .u32 0, .int .u32 0, .int .u32 0, .bool false, .slice none 0 0] 29)).heap[w.heap.size]? = some (.cells #[.int .i64 x.1, .int .u32 x.2, .int .u32 v.d0, .int .u32 v.d1, .int .u32 v.d2, .int .u32 v.d3, .int .u32 v.d4, .int .u32 v.d5, .int .u32 v.d6, .int .u32 v.d7, .bool s, .slice A n c] 29 (0, 0)) := heap_old _ (by simp; omega) (heap_old _ (by simp) (heap_at _ _ rfl))
  have hbb : (((w.alloc (.cells #[.int .i64 x.1, .int .u32 x.2, .int .u32 v.d0, .int .u32 v.d1, .int .u32 v.d2, .int .u32 v.d3, .int .u32 v.d4, .int .u32 v.d5, .int .u32 v.d6, .int .u32 v.d7, .bool s, .slice A n c] 29)).alloc (.cells #[.int .i64 y.1, .int .u32 y.2, .int .u32 u.d0, .int .u32 u.d1, .int .u32 u.d2, .int .u32 u.d3, .int .u32 u.d4, .int .u32 u.d5, .int .u32 u.d6, .int .u32 u.d7, .bool t, .slice B m d] 29)).alloc (.cells #[.int .i64 0, .int .u32 0, .int .u32 0, .int .u32 0, .int .u32 0, .int .u32 0, .int .u32 0, .int .u32 0, .int .u32 0, .int .u32 0, .bool false, .slice none 0 0] 29)).heap[w.heap.size + 1]? = some (.cells #[.int .i64 y.1, .int .u32 y.2, .int .u32 u.d0, .int .u32 u.d1, .int .u32 u.d2, .int .u32 u.d3, .int .u32 u.d4, .int .u32 u.d5, .int .u32 u.d6, .int .u32 u.d7, .bool t, .slice B m d] 29 (0, 0)) := heap_old _ (by simp) (heap_at _ _ (by simp))
  have hbz : (((w.alloc (.cells #[.int .i64 x.1, .int .u32 x.2, .int .u32 v.d0, .int .u32 v.d1, .int .u32 v.d2, .int .u32 v.d3, .int .u32 v.d4, .int .u32 v.d5, .int .u32 v.d6, .int .u32 v.d7, .bool s, .slice A n c] 29)).alloc (.cells #[.int .i64 y.1, .int .u32 y.2, .int .u32 u.d0, .int .u32 u.d1, .int .u32 u.d2, .int .u32 u.d3, .int .u32 u.d4, .int .u32 u.d5, .int .u32 u.d6, .int .u32 u.d7, .bool t, .slice B m d] 29)).alloc (.cells #[.int .i64 0, .int .u32 0, .int .u32 0, .int .u32 0, .int .u32 0, .int .u32 0, .int .u32 0, .int .u32 0, .int .u32 0, .int .u32 0, .bool false, .slice none 0 0] 29)).heap[w.heap.size + 1 + 1]? = some (.cells #[.int .i64 0, .int .u32 0, .int .u32 0, .int .u32 0, .int .u32 0, .int .u32 0, .int .u32 0, .int .u32 0, .int .u32 0, .int .u32 0, .bool false, .slice none 0 0] 29 (0, 0)) := heap_at _ _ (by simp)
  generalize hWe : (((w.alloc (.cells #[.int .i64 x.1, .int .u32 x.2, .int .u32 v.d0, .int .u32 v.d1, .int .u32 v.d2, .int .u32 v.d3, .int .u32 v.d4, .int .u32 v.d5, .int .u32 v.d6, .int .u32 v.d7, .bool s, .slice A n c] 29)).alloc (.cells #[.int .i64 y.1, .int .u32 y.2, .int .u32 u.d0, .int .u32 u.d1, .int .u32 u.d2, .int .u32 u.d3, .int .u32 u.d4, .int .u32 u.d5, .int .u32 u.d6, .int .u32 u.d7, .bool t, .slice B m d] 29)).alloc (.cells #[.int .i64 0, .int .u32 0, .int .u32 0, .int .u32 0, .int .u32 0, .int .u32 0, .int .u32 0, .int .u32 0, .int .u32 0, .int .u32 0, .bool false, .slice none 0 0] 29)) = W at hb0 hba hbb hbz
  have hz0 := hb0.size
  have hlW : w.heap.size + 1 + 1 < W.heap.size := blk_lt hbz
  have hbaH := Lib.hid hba
  have hbbH := Lib.hid hbb
  have hbzH := Lib.hid hbz
  have q0 := blk_cell hba 0
  have q1 := blk_cell hba 1
  have q2 := blk_cell hba 2
  have q3 := blk_cell hba 3
  have q4 := blk_cell hba 4
  have q5 := blk_cell hba 5
  have q6 := blk_cell hba 6
  have q7 := blk_cell hba 7
  have q8 := blk_cell hba 8
  have q9 := blk_cell hba 9
  have q10 := blk_cell hba 10
  have q11 := blk_cell hba 11
  simp at q0 q1 q2 q3 q4 q5 q6 q7 q8 q9 q10 q11
  have r0 := blk_cell hbb 0
  have r1 := blk_cell hbb 1
  have r2 := blk_cell hbb 2
  have r3 := blk_cell hbb 3
  have r4 := blk_cell hbb 4
  have r5 := blk_cell hbb 5
  have r6 := blk_cell hbb 6
  have r7 := blk_cell hbb 7
  have r8 := blk_cell hbb 8
  have r9 := blk_cell hbb 9
  have r10 := blk_cell hbb 10
  have r11 := blk_cell hbb 11
  simp at r0 r1 r2 r3 r4 r5 r6 r7 r8 r9 r10 r11
  have hlta := blk_lt hba
  have hltb := blk_lt hbb
  have cA := Lib.hid (fun w' (h : Below w.heap.size w w') => rtxcheck_any x v s A n c ps w' ((hA.below h).more h.size) (by unfold maxLen; omega) (fun p hp => (hfA p hp).below h) hx hvw)
  have cB := Lib.hid (fun w' (h : Below w.heap.size w w') => rtxcheck_any y u t B m d qs w' ((hB.below h).more h.size) (by unfold maxLen; omega) (fun p hp => (hfB p hp).below h) hy huw)
  have hAr := Lib.hid (fun w' (h : Below w.heap.size w w') => hA.below h)
  have hBr := Lib.hid (fun w' (h : Below w.heap.size w w') => hB.below h)
  have hfAH := Lib.hid hfA
  have hfBH := Lib.hid hfB
  have hlA := Lib.hid hA.len
  have hlB := Lib.hid hB.len
  unfold mergeT at hM
  dsimp only at hM
  generalize hea : txErr x v (ps.map Pe.core) = ea at *
  generalize heb : txErr y u (qs.map Pe.core) = eb at *
  replace hM := Lib.hid hM
  have heaH := Lib.hid hea
  have hebH := Lib.hid heb
  have hneq := neqV2 v u
  have hneqH := Lib.hid hneq
  have hea0 : ea = 0 := hok
  have heb0 : eb = 0 := hok2
  have hbadH := Lib.hid hbad
  clear hbad hok hok2 hA hB hfA hfB hx hvw hy huw hba hbb hbz hea heb hneq
  subst hea0
  subst heb0
  have hM2 : Hid ((if (decide (x.1 = y.1) && decide (x.2 = y.2) && eqV v u) = false then (zTv, (3 : Int)) else match mrgD pvN (ps.map Pe.core) (qs.map Pe.core) with
    | none => (zTv, 3)
    | some out => if 16 < out.length then (zTv, 8) else (⟨x, v, s && t, out⟩, 0)) = M) := Lib.hid (by
      have h1 := hM.out
      rw [if_neg (by simp), if_neg (by simp)] at h1
      exact h1)
  have hn16 : n ≤ 16 := by have h1 := (txErr_zero heaH.out).1; rw [List.length_map, hlA.out] at h1; exact h1
  have hm16 : m ≤ 16 := by have h1 := (txErr_zero hebH.out).1; rw [List.length_map, hlB.out] at h1; exact h1
  clear hM heaH hebH
  go_enter Tryd.func7, Tryd.ntmps7
  go_wp2_with fail
  refine (cA.out _ hb0).mono ?_
  rintro e v1 ⟨rfl, hv1⟩
  have hbb1 := blk_below hbbH.out hv1
  have r0 := blk_cell hbb1 0
  have r1 := blk_cell hbb1 1
  have r2 := blk_cell hbb1 2
  have r3 := blk_cell hbb1 3
  have r4 := blk_cell hbb1 4
  have r5 := blk_cell hbb1 5
  have r6 := blk_cell hbb1 6
  have r7 := blk_cell hbb1 7
  have r8 := blk_cell hbb1 8
  have r9 := blk_cell hbb1 9
  have r10 := blk_cell hbb1 10
  have r11 := blk_cell hbb1 11
  simp at r0 r1 r2 r3 r4 r5 r6 r7 r8 r9 r10 r11
  have hltb := blk_lt hbb1
  clear hbb1
  go_wp2_with fail
  refine (cB.out _ (hb0.trans (hv1.mono hz0))).mono ?_
  rintro e w5 ⟨rfl, hv2⟩
  have hGW := hv1.trans (hv2.mono hv1.size)
  clear cA cB hv1 hv2 q0 q1 q2 q3 q4 q5 q6 q7 q8 q9 q10 q11 r0 r1 r2 r3 r4 r5 r6 r7 r8 r9 r10 r11 hlta hltb
  have hba1 := blk_below hbaH.out hGW
  have hbb1 := blk_below hbbH.out hGW
  have q0 := blk_cell hba1 0
  have q1 := blk_cell hba1 1
  have q2 := blk_cell hba1 2
  have q3 := blk_cell hba1 3
  have q4 := blk_cell hba1 4
  have q5 := blk_cell hba1 5
  have q6 := blk_cell hba1 6
  have q7 := blk_cell hba1 7
  have q8 := blk_cell hba1 8
  have q9 := blk_cell hba1 9
  have q10 := blk_cell hba1 10
  have q11 := blk_cell hba1 11
  simp at q0 q1 q2 q3 q4 q5 q6 q7 q8 q9 q10 q11
  have r0 := blk_cell hbb1 0
  have r1 := blk_cell hbb1 1
  have r2 := blk_cell hbb1 2
  have r3 := blk_cell hbb1 3
  have r4 := blk_cell hbb1 4
  have r5 := blk_cell hbb1 5
  have r6 := blk_cell hbb1 6
  have r7 := blk_cell hbb1 7
  have r8 := blk_cell hbb1 8
  have r9 := blk_cell hbb1 9
  have r10 := blk_cell hbb1 10
  have r11 := blk_cell hbb1 11
  simp at r0 r1 r2 r3 r4 r5 r6 r7 r8 r9 r10 r11
  have hlta := blk_lt hba1
  have hltb := blk_lt hbb1
  clear hba1 hbb1
  have hneq := hneqH.out
  obtain ⟨x1, x2⟩ := x
  obtain ⟨y1, y2⟩ := y
  dsimp only at *
  by_cases h1 : x1 = y1
  case neg =>
    have hT : Hid ((zTv, (3 : Int)) = M) := Lib.hid (by rw [← hM2.out, if_pos (by simp [h1])])
    have hres := blk_below hbzH.out hGW
    have z0 := blk_cell hres 0
    have z1 := blk_cell hres 1
    have z2 := blk_cell hres 2
    have z3 := blk_cell hres 3
    have z4 := blk_cell hres 4
    have z5 := blk_cell hres 5
    have z6 := blk_cell hres 6
    have z7 := blk_cell hres 7
    have z8 := blk_cell hres 8
    have z9 := blk_cell hres 9
    have z10 := blk_cell hres 10
    have z11 := blk_cell hres 11
    simp at z0 z1 z2 z3 z4 z5 z6 z7 z8 z9 z10 z11
    have hlz := blk_lt hres
    have hfz := blk_frozen hres
    clear hres
    go_wp2
    rw [← hT.out]
    refine bodyPost_ret (v := .tuple #[.agg #[.int .i64 (0, 0).1, .int .u32 (0, 0).2, .int .u32 zeroV.d0, .int .u32 zeroV.d1, .int .u32 zeroV.d2, .int .u32 zeroV.d3, .int .u32 zeroV.d4, .int .u32 zeroV.d5, .int .u32 zeroV.d6, .int .u32 zeroV.d7, .bool false, .slice none 0 0], .int .i64 (3)]) (by simp [results, Tryd.results7, go_sem, z0, z1, z2, z3, z4, z5, z6, z7, z8, z9, z10, z11, zeroV]) rfl (MgD.zero _ ?_)
    repeat (with_reducible refine Below.setCell ?_ (by simp; omega) _)
    exact hb0.trans (hGW.mono hz0)
  subst h1
  by_cases h2 : x2 = y2
  case neg =>
    have hT : Hid ((zTv, (3 : Int)) = M) := Lib.hid (by rw [← hM2.out, if_pos (by simp [h2])])
    have hres := blk_below hbzH.out hGW
    have z0 := blk_cell hres 0
    have z1 := blk_cell hres 1
    have z2 := blk_cell hres 2
    have z3 := blk_cell hres 3
    have z4 := blk_cell hres 4
    have z5 := blk_cell hres 5
    have z6 := blk_cell hres 6
    have z7 := blk_cell hres 7
    have z8 := blk_cell hres 8
    have z9 := blk_cell hres 9
    have z10 := blk_cell hres 10
    have z11 := blk_cell hres 11
    simp at z0 z1 z2 z3 z4 z5 z6 z7 z8 z9 z10 z11
    have hlz := blk_lt hres
    have hfz := blk_frozen hres
    clear hres
    go_wp2
    rw [← hT.out]
    refine bodyPost_ret (v := .tuple #[.agg #[.int .i64 (0, 0).1, .int .u32 (0, 0).2, .int .u32 zeroV.d0, .int .u32 zeroV.d1, .int .u32 zeroV.d2, .int .u32 zeroV.d3, .int .u32 zeroV.d4, .int .u32 zeroV.d5, .int .u32 zeroV.d6, .int .u32 zeroV.d7, .bool false, .slice none 0 0], .int .i64 (3)]) (by simp [results, Tryd.results7, go_sem, z0, z1, z2, z3, z4, z5, z6, z7, z8, z9, z10, z11, zeroV]) rfl (MgD.zero _ ?_)
    repeat (with_reducible refine Below.setCell ?_ (by simp; omega) _)
    exact hb0.trans (hGW.mono hz0)
  subst h2
  cases hvu : eqV v u with
  | false =>
    have hT : Hid ((zTv, (3 : Int)) = M) := Lib.hid (by rw [← hM2.out, if_pos (by simp [hvu])])
    rw [hvu] at hneq
    have hres := blk_below hbzH.out hGW
    have z0 := blk_cell hres 0
    have z1 := blk_cell hres 1
    have z2 := blk_cell hres 2
    have z3 := blk_cell hres 3
    have z4 := blk_cell hres 4
    have z5 := blk_cell hres 5
    have z6 := blk_cell hres 6
    have z7 := blk_cell hres 7
    have z8 := blk_cell hres 8
    have z9 := blk_cell hres 9
    have z10 := blk_cell hres 10
    have z11 := blk_cell hres 11
    simp at z0 z1 z2 z3 z4 z5 z6 z7 z8 z9 z10 z11
    have hlz := blk_lt hres
    have hfz := blk_frozen hres
    clear hres
    go_wp2
    rw [← hT.out]
    refine bodyPost_ret (v := .tuple #[.agg #[.int .i64 (0, 0).1, .int .u32 (0, 0).2, .int .u32 zeroV.d0, .int .u32 zeroV.d1, .int .u32 zeroV.d2, .int .u32 zeroV.d3, .int .u32 zeroV.d4, .int .u32 zeroV.d5, .int .u32 zeroV.d6, .int .u32 zeroV.d7, .bool false, .slice none 0 0], .int .i64 (3)]) (by simp [results, Tryd.results7, go_sem, z0, z1, z2, z3, z4, z5, z6, z7, z8, z9, z10, z11, zeroV]) rfl (MgD.zero _ ?_)
    repeat (with_reducible refine Below.setCell ?_ (by simp; omega) _)
    exact hb0.trans (hGW.mono hz0)
  | true =>
    exact absurd hbadH.out (by simp [hvu])
end Go.Proofs.YtpolplmniaoikaaDoor
