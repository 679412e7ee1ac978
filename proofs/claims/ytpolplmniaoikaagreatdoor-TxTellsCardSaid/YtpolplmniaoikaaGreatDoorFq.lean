/- What is wrong with a part of a transaction: the program's. -/
import Derived.Test.YtpolplmniaoikaaGreatDoorFn
import Derived.Test.YtpolplmniaoikaaGreatDoorFl
namespace Go.Proofs.YtpolplmniaoikaaGreatDoor
open Go.RowKit

/-- What is wrong with a part, behind a tag's number, in a transaction of a name. -/
def partErr (id : Im) (last : Int) (p : Pv) : Int :=
  if keyE p.1 ≠ 0 then keyE p.1 else if errE p.2 ≠ 0 then errE p.2 else if kindA p.2.act ≠ keyK p.1 then 5
  else if (!(decide (p.2.tag.1.1 = id.1) && decide (p.2.tag.1.2 = id.2)) || decide (p.2.tag.2 ≤ last) || (decide (0 < p.2.st.1) && !decide (p.2.st.2 = id.1))) = true then 3 else 0
/-- What is known of a part's cells: its tags lie there, its numbers fit their kinds, its texts a machine. -/
structure Pe.Fit (w : World) (p : Pe) : Prop where
  ok : p.Ok w w.heap.size
  wf : p.e.wf
  key : p.key.length ≤ maxLen
  name : p.e.name.length ≤ maxLen
  l : p.l ≤ 100000
theorem Pe.Fit.below {w w' : World} {p : Pe} (h : p.Fit w) (hb : Below w.heap.size w w') : p.Fit w' := ⟨(Pe.Ok.below h.ok hb).more hb.size, h.wf, h.key, h.name, h.l⟩
set_option maxRecDepth 100000 in
set_option maxHeartbeats 4000000 in
theorem ppart_any (p : Pe) (id : Im) (last : Int) (w : World) (hf : p.Fit w) (hv : VarM w) :
    Calls Tryz.prog 63 #[.agg #[.string (bs p.key), .int .i64 p.e.act, .string (bs p.e.name), .int .i64 p.e.val, .int .i64 p.e.tag.1.1, .int .u32 p.e.tag.1.2, .int .i64 p.e.tag.2, .int .u32 p.e.st.1, .int .i64 p.e.st.2, .slice p.A p.l p.c], .agg #[.int .i64 id.1, .int .u32 id.2], .int .i64 last] w fun e w' => e = .returned (.int .i64 (partErr id last p.core)) ∧ Below w.heap.size w w' := by
  obtain ⟨key, ⟨act, nm, val, ⟨⟨o, s⟩, nn⟩, ⟨tm, ao⟩, tgs⟩, A, l, c⟩ := p
  obtain ⟨i, q⟩ := id
  obtain ⟨hok, hwf, hkl, hnl, hll⟩ := hf
  have hcE := fun w' h1 => ocheck_e_any ⟨act, nm, val, ((o, s), nn), (tm, ao), tgs⟩ A l c w' h1 hll hwf hnl
  have h0t : 0 ≤ tm := hwf.2.1.1
  unfold Pe.Ok at hok
  unfold Pe.core
  dsimp only at *
  generalize hr : partErr (i, q) last (key, ⟨act, nm, val, ((o, s), nn), (tm, ao), tgs⟩) = r
  unfold partErr at hr
  dsimp only at hr
  have hb0 : Below w.heap.size w ((w.alloc (.cells #[.string (bs key), .int .i64 act, .string (bs nm), .int .i64 val, .int .i64 o, .int .u32 s, .int .i64 nn, .int .u32 tm, .int .i64 ao, .slice A l c] 101)).alloc (.cells #[.int .i64 i, .int .u32 q] 24)) := ((Below.refl _ w).alloc (Nat.le_refl _) _).alloc (by simp) _
  have hbx : ((w.alloc (.cells #[.string (bs key), .int .i64 act, .string (bs nm), .int .i64 val, .int .i64 o, .int .u32 s, .int .i64 nn, .int .u32 tm, .int .i64 ao, .slice A l c] 101)).alloc (.cells #[.int .i64 i, .int .u32 q] 24)).heap[w.heap.size]? = some (.cells #[.string (bs key), .int .i64 act, .string (bs nm), .int .i64 val, .int .i64 o, .int .u32 s, .int .i64 nn, .int .u32 tm, .int .i64 ao, .slice A l c] 101 (0, 0)) := heap_old _ (by simp) (heap_at _ _ rfl)
  have hby : ((w.alloc (.cells #[.string (bs key), .int .i64 act, .string (bs nm), .int .i64 val, .int .i64 o, .int .u32 s, .int .i64 nn, .int .u32 tm, .int .i64 ao, .slice A l c] 101)).alloc (.cells #[.int .i64 i, .int .u32 q] 24)).heap[w.heap.size + 1]? = some (.cells #[.int .i64 i, .int .u32 q] 24 (0, 0)) := heap_at _ _ (by simp)
  generalize hW : ((w.alloc (.cells #[.string (bs key), .int .i64 act, .string (bs nm), .int .i64 val, .int .i64 o, .int .u32 s, .int .i64 nn, .int .u32 tm, .int .i64 ao, .slice A l c] 101)).alloc (.cells #[.int .i64 i, .int .u32 q] 24)) = W at hb0 hbx hby
  have cK := Lib.hid (fun w' (h : Below w.heap.size w w') => okey_any key hkl w' (hv.below h hv.lt))
  have cE := Lib.hid (fun w' (h : Below w.heap.size w w') => hcE w' ((RdT.below hok h).more h.size))
  have cA := Lib.hid (okind_any act)
  have hbxH := Lib.hid hbx
  have hbyH := Lib.hid hby
  generalize errE ⟨act, nm, val, ((o, s), nn), (tm, ao), tgs⟩ = ee at cE hr
  generalize keyE key = ke at cK hr
  generalize keyK key = kk at cK hr
  generalize kindA act = ka at cA hr
  have hrH := Lib.hid hr
  (try clear q0 q1 q2 q3 q4 q5 q6 q7 q8 q9 s0 s1 hltx hlty)
  have hltx := blk_lt hbx
  have hlty := blk_lt hby
  have q0 := blk_cell hbx 0
  have q1 := blk_cell hbx 1
  have q2 := blk_cell hbx 2
  have q3 := blk_cell hbx 3
  have q4 := blk_cell hbx 4
  have q5 := blk_cell hbx 5
  have q6 := blk_cell hbx 6
  have q7 := blk_cell hbx 7
  have q8 := blk_cell hbx 8
  have q9 := blk_cell hbx 9
  have s0 := blk_cell hby 0
  have s1 := blk_cell hby 1
  simp at q0 q1 q2 q3 q4 q5 q6 q7 q8 q9 s0 s1
  clear hcE hok hwf hkl hnl hll hbx hby hr hv
  go_enter Tryz.func63, Tryz.ntmps63
  go_wp2_with fail
  refine (cK.out _ hb0).mono ?_
  rintro e w1 ⟨rfl, hb1⟩
  have hG1 := hb0.trans (hb1.mono hb0.size)
  by_cases h1 : ke = 0
  case neg =>
    have hT : Hid (ke = r) := Lib.hid (by have := hrH.out; rw [if_pos h1] at this; exact this)
    have h1b : (ke != 0) = true := by simpa using h1
    clear h1
    go_wp2
    go_ret
    exact ⟨ret_int hT.out, hG1⟩
  subst h1
  have hr2 : Hid ((if ee ≠ 0 then ee else if ka ≠ kk then 5 else if (!(decide (o = i) && decide (s = q)) || decide (nn ≤ last) || (decide (0 < tm) && !decide (ao = i))) = true then 3 else 0) = r) := Lib.hid (by have := hrH.out; rw [if_neg (by simp)] at this; exact this)
  clear hrH cK
  have hx1 := blk_below hbxH.out hb1
  have hy1 := blk_below hbyH.out hb1
  (try clear q0 q1 q2 q3 q4 q5 q6 q7 q8 q9 s0 s1 hltx hlty)
  have hltx := blk_lt hx1
  have hlty := blk_lt hy1
  have q0 := blk_cell hx1 0
  have q1 := blk_cell hx1 1
  have q2 := blk_cell hx1 2
  have q3 := blk_cell hx1 3
  have q4 := blk_cell hx1 4
  have q5 := blk_cell hx1 5
  have q6 := blk_cell hx1 6
  have q7 := blk_cell hx1 7
  have q8 := blk_cell hx1 8
  have q9 := blk_cell hx1 9
  have s0 := blk_cell hy1 0
  have s1 := blk_cell hy1 1
  simp at q0 q1 q2 q3 q4 q5 q6 q7 q8 q9 s0 s1
  clear hx1 hy1
  go_wp2_with fail
  refine (cE.out _ hG1).mono ?_
  rintro e w2 ⟨rfl, hb2⟩
  have hG2 := hG1.trans (hb2.mono hG1.size)
  have hW2 := hb1.trans (hb2.mono hb1.size)
  by_cases h1 : ee = 0
  case neg =>
    have hT : Hid (ee = r) := Lib.hid (by have := hr2.out; rw [if_pos h1] at this; exact this)
    have h1b : (ee != 0) = true := by simpa using h1
    clear h1
    go_wp2
    go_ret
    exact ⟨ret_int hT.out, hG2⟩
  subst h1
  have hr3 : Hid ((if ka ≠ kk then 5 else if (!(decide (o = i) && decide (s = q)) || decide (nn ≤ last) || (decide (0 < tm) && !decide (ao = i))) = true then 3 else 0) = r) := Lib.hid (by have := hr2.out; rw [if_neg (by simp)] at this; exact this)
  clear hr2 cE
  have hx2 := blk_below hbxH.out hW2
  have hy2 := blk_below hbyH.out hW2
  (try clear q0 q1 q2 q3 q4 q5 q6 q7 q8 q9 s0 s1 hltx hlty)
  have hltx := blk_lt hx2
  have hlty := blk_lt hy2
  have q0 := blk_cell hx2 0
  have q1 := blk_cell hx2 1
  have q2 := blk_cell hx2 2
  have q3 := blk_cell hx2 3
  have q4 := blk_cell hx2 4
  have q5 := blk_cell hx2 5
  have q6 := blk_cell hx2 6
  have q7 := blk_cell hx2 7
  have q8 := blk_cell hx2 8
  have q9 := blk_cell hx2 9
  have s0 := blk_cell hy2 0
  have s1 := blk_cell hy2 1
  simp at q0 q1 q2 q3 q4 q5 q6 q7 q8 q9 s0 s1
  clear hx2 hy2
  go_wp2_with fail
  refine (cA.out _).mono ?_
  rintro e w3 ⟨rfl, rfl⟩
  by_cases h1 : ka = kk
  case neg =>
    have hT : Hid (5 = r) := Lib.hid (by have := hr3.out; rw [if_pos h1] at this; exact this)
    have h1b : (ka != kk) = true := by simpa using h1
    clear h1
    go_wp2
    go_ret
    exact ⟨ret_int hT.out, hG2⟩
  subst h1
  have hkk : (ka != ka) = false := by simp
  have hr4 : Hid ((if (!(decide (o = i) && decide (s = q)) || decide (nn ≤ last) || (decide (0 < tm) && !decide (ao = i))) = true then 3 else 0) = r) := Lib.hid (by have := hr3.out; rw [if_neg (by simp)] at this; exact this)
  clear hr3 cA
  by_cases h1 : o = i
  case neg =>
    have hT : Hid (3 = r) := Lib.hid (by have := hr4.out; rw [decide_eq_false h1] at this; simpa using this)
    go_wp2
    go_ret
    exact ⟨ret_int hT.out, hG2⟩
  subst h1
  by_cases h2 : s = q
  case neg =>
    have hT : Hid (3 = r) := Lib.hid (by have := hr4.out; rw [decide_eq_false h2] at this; simpa using this)
    go_wp2
    go_ret
    exact ⟨ret_int hT.out, hG2⟩
  subst h2
  by_cases h3 : nn ≤ last
  · have hT : Hid (3 = r) := Lib.hid (by have := hr4.out; rw [decide_eq_true h3] at this; simpa using this)
    have h3b : decide (nn ≤ last) = true := decide_eq_true h3
    clear h3
    go_wp2
    go_ret
    exact ⟨ret_int hT.out, hG2⟩
  have h3b : decide (nn ≤ last) = false := decide_eq_false h3
  by_cases h4 : 0 < tm
  · have h4b : decide (0 < tm) = true := decide_eq_true h4
    by_cases h5 : ao = o
    · have hT : Hid (0 = r) := Lib.hid (by have := hr4.out; rw [h3b, h5] at this; simpa using this)
      subst h5
      have hoo : (ao != ao) = false := by simp
      clear h3 h4
      go_wp2
      go_ret
      exact ⟨ret_int hT.out, hG2⟩
    · have hT : Hid (3 = r) := Lib.hid (by have := hr4.out; rw [h3b, h4b, decide_eq_false h5] at this; simpa using this)
      have h5b : (ao != o) = true := by simpa using h5
      clear h3 h4 h5
      go_wp2
      go_ret
      exact ⟨ret_int hT.out, hG2⟩
  · have h4b : decide (0 < tm) = false := decide_eq_false h4
    have hT : Hid (0 = r) := Lib.hid (by have := hr4.out; rw [h3b, h4b] at this; simpa using this)
    clear h3 h4
    go_wp2
    go_ret
    exact ⟨ret_int hT.out, hG2⟩
end Go.Proofs.YtpolplmniaoikaaGreatDoor
