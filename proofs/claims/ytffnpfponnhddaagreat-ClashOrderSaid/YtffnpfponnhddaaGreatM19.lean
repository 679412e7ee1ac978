/- The order in which puts of a field count; the greatest of puts; what was put for a field, its value (the program's). What was put for a field: of, Tags (both), Get (both). -/
import Derived.Test.YtffnpfponnhddaaGreatN24
namespace Go.Proofs.YtffnpfponnhddaaGreat
open Go.RowKit

set_option maxRecDepth 100000 in
theorem plcmp_any (x y : Sm) (w : World) :
    Calls Tryz.prog 96 #[.agg #[.int .u32 x.1, .int .i64 x.2], .agg #[.int .u32 y.1, .int .i64 y.2]] w fun e w' => e = .returned (.int .i64 (cmpS x y)) ∧ Below w.heap.size w w' := by
  generalize hr : cmpS x y = r
  unfold cmpS at hr
  have hc1 := ccmpu_any x.1 y.1
  have hc2 := ccmp_any x.2 y.2
  have ho := or_any
  generalize ordI x.1 y.1 = p at *
  generalize ordI x.2 y.2 = q at *
  have hc1 := Lib.hid hc1
  have hc2 := Lib.hid hc2
  have ho := Lib.hid (fun g w h0 h1 h2 => hr ▸ ho g p q w h0 h1 h2)
  clear hr
  go_enter Tryz.func96, Tryz.ntmps96
  go_wp2
  go_region_held3 (fun w' => KQ (w.heap.size + 2) ((w.alloc (.cells #[.int .u32 x.1, .int .i64 x.2] 24)).alloc (.cells #[.int .u32 y.1, .int .i64 y.2] 24)) w') (first
      | with_reducible exact kq_call (by assumption) (by simp) (by assumption)
      | with_reducible exact kq_grown (by assumption) (by simp) (by assumption) (by simp [Value.ownBlock])
      | ((with_reducible refine kq ?_); (repeat (first | (with_reducible exact Below.refl _ _) | (with_reducible refine Below.drew ?_) | (with_reducible refine Below.alloc ?_ (by simp) _) | (with_reducible refine Below.setCell ?_ (by simp) _) | (with_reducible exact (by assumption : KQ _ _ _).1))); done))
    (first
      | (go_at_call 104; refine (hc2.out _).mono ?_; rintro e w1 ⟨rfl, rfl⟩)
      | (go_at_call 126; refine (hc1.out _).mono ?_; rintro e w1 ⟨rfl, rfl⟩)
      | (go_at_call 95; refine (ho.out _ _ (by simp) (blk_cell (heap_drew (heap_at _ _ (by simp))) 0) (blk_cell (heap_drew (heap_at _ _ (by simp))) 1)).mono ?_; rintro e w1 ⟨rfl, rfl⟩))
  go_wp2
  go_ret
  exact ⟨rfl, ((((Below.refl _ w).alloc (Nat.le_refl _) _).alloc (by simp) _).alloc (by simp; omega) _).drew⟩
/-- The order in which puts of a field count. -/
def cmpL (x y : Pm) : Int := if cmpS x.2.2.2 y.2.2.2 ≠ 0 then cmpS x.2.2.2 y.2.2.2 else cmpT x.1 y.1
set_option maxRecDepth 100000 in
set_option maxHeartbeats 1000000 in
theorem later_any (x y : Pm) (w : World) :
    Calls Tryz.prog 49 #[.agg #[.int .i64 x.1.1.1, .int .u32 x.1.1.2, .int .i64 x.1.2, .string (bs x.2.1), .int .i64 x.2.2.1, .int .u32 x.2.2.2.1, .int .i64 x.2.2.2.2], .agg #[.int .i64 y.1.1.1, .int .u32 y.1.1.2, .int .i64 y.1.2, .string (bs y.2.1), .int .i64 y.2.2.1, .int .u32 y.2.2.2.1, .int .i64 y.2.2.2.2]] w fun e w' => e = .returned (.int .i64 (cmpL x y)) ∧ Below w.heap.size w w' := by
  generalize hr : cmpL x y = r
  unfold cmpL at hr
  have hc1 := plcmp_any x.2.2.2 y.2.2.2
  have hc2 := pcmpt_any x.1 y.1
  have ho := or_any
  generalize cmpS x.2.2.2 y.2.2.2 = p at *
  generalize cmpT x.1 y.1 = q at *
  have hc1 := Lib.hid hc1
  have hc2 := Lib.hid hc2
  have ho := Lib.hid (fun g w h0 h1 h2 => hr ▸ ho g p q w h0 h1 h2)
  clear hr
  have hB0 : Below w.heap.size w ((w.alloc (.cells #[.int .i64 x.1.1.1, .int .u32 x.1.1.2, .int .i64 x.1.2, .string (bs x.2.1), .int .i64 x.2.2.1, .int .u32 x.2.2.2.1, .int .i64 x.2.2.2.2] 127)).alloc (.cells #[.int .i64 y.1.1.1, .int .u32 y.1.1.2, .int .i64 y.1.2, .string (bs y.2.1), .int .i64 y.2.2.1, .int .u32 y.2.2.2.1, .int .i64 y.2.2.2.2] 127)) := ((Below.refl _ w).alloc (Nat.le_refl _) _).alloc (by simp) _
  have hbx : ((w.alloc (.cells #[.int .i64 x.1.1.1, .int .u32 x.1.1.2, .int .i64 x.1.2, .string (bs x.2.1), .int .i64 x.2.2.1, .int .u32 x.2.2.2.1, .int .i64 x.2.2.2.2] 127)).alloc (.cells #[.int .i64 y.1.1.1, .int .u32 y.1.1.2, .int .i64 y.1.2, .string (bs y.2.1), .int .i64 y.2.2.1, .int .u32 y.2.2.2.1, .int .i64 y.2.2.2.2] 127)).heap[w.heap.size]? = some (.cells #[.int .i64 x.1.1.1, .int .u32 x.1.1.2, .int .i64 x.1.2, .string (bs x.2.1), .int .i64 x.2.2.1, .int .u32 x.2.2.2.1, .int .i64 x.2.2.2.2] 127 (0, 0)) := heap_old _ (by simp) (heap_at _ _ rfl)
  have hby : ((w.alloc (.cells #[.int .i64 x.1.1.1, .int .u32 x.1.1.2, .int .i64 x.1.2, .string (bs x.2.1), .int .i64 x.2.2.1, .int .u32 x.2.2.2.1, .int .i64 x.2.2.2.2] 127)).alloc (.cells #[.int .i64 y.1.1.1, .int .u32 y.1.1.2, .int .i64 y.1.2, .string (bs y.2.1), .int .i64 y.2.2.1, .int .u32 y.2.2.2.1, .int .i64 y.2.2.2.2] 127)).heap[w.heap.size + 1]? = some (.cells #[.int .i64 y.1.1.1, .int .u32 y.1.1.2, .int .i64 y.1.2, .string (bs y.2.1), .int .i64 y.2.2.1, .int .u32 y.2.2.2.1, .int .i64 y.2.2.2.2] 127 (0, 0)) := heap_at _ _ (by simp)
  generalize hW : ((w.alloc (.cells #[.int .i64 x.1.1.1, .int .u32 x.1.1.2, .int .i64 x.1.2, .string (bs x.2.1), .int .i64 x.2.2.1, .int .u32 x.2.2.2.1, .int .i64 x.2.2.2.2] 127)).alloc (.cells #[.int .i64 y.1.1.1, .int .u32 y.1.1.2, .int .i64 y.1.2, .string (bs y.2.1), .int .i64 y.2.2.1, .int .u32 y.2.2.2.1, .int .i64 y.2.2.2.2] 127)) = W at hB0 hbx hby
  have hltx := blk_lt hbx
  have hlty := blk_lt hby
  have p0 := blk_cell hbx 0
  have p1 := blk_cell hbx 1
  have p2 := blk_cell hbx 2
  have p3 := blk_cell hbx 3
  have p4 := blk_cell hbx 4
  have p5 := blk_cell hbx 5
  have p6 := blk_cell hbx 6
  have q0 := blk_cell hby 0
  have q1 := blk_cell hby 1
  have q2 := blk_cell hby 2
  have q3 := blk_cell hby 3
  have q4 := blk_cell hby 4
  have q5 := blk_cell hby 5
  have q6 := blk_cell hby 6
  simp at p0 p1 p2 p3 p4 p5 p6 q0 q1 q2 q3 q4 q5 q6
  clear hbx hby
  go_enter Tryz.func49, Tryz.ntmps49
  go_wp2
  have hq0 : KQ W.heap.size W W := kq (Below.refl _ _)
  go_region_held3 (fun w' => KQ W.heap.size W w') (first
      | with_reducible exact kq_call (by assumption) (by simp) (by assumption)
      | with_reducible exact kq_alloc (by with_reducible assumption) (Nat.le_refl _) _
      | with_reducible exact kq_alloc (kq_drew (by assumption)) (Nat.le_refl _) _
      | ((with_reducible refine kq ?_); (repeat (first | (with_reducible exact Below.refl _ _) | (with_reducible refine Below.drew ?_) | (with_reducible refine Below.alloc ?_ (by simp) _) | (with_reducible refine Below.setCell ?_ (by simp) _) | (with_reducible exact (by assumption : KQ _ _ _).1))); done))
    (first
      | (go_at_call 96; refine (hc1.out _).mono ?_; rintro e w1 ⟨rfl, hb1⟩)
      | (go_at_call 61; refine (hc2.out _).mono ?_; rintro e w2 ⟨rfl, hb2⟩)
      | (go_at_call 95; refine (ho.out _ _ (by simp) (blk_cell (heap_at _ _ (by simp)) 0) (blk_cell (heap_at _ _ (by simp)) 1)).mono ?_; rintro e w3 ⟨rfl, rfl⟩))
  go_wp2
  go_ret
  exact ⟨rfl, hB0.trans ((by with_reducible assumption : KQ W.heap.size W _).1.mono hB0.size)⟩
/-- The greatest of puts, one after the other. -/
def stepL (o : Option Pm) (x : Pm) : Option Pm := match o with | none => some x | some m => some (if 0 < cmpL x m then x else m)
def maxL (xs : List Pm) : Option Pm := xs.foldl stepL none
def PostMax (w : World) (xs : List Pm) (e : Ending) (w' : World) : Prop := ∃ m : Pm, maxL xs = some m ∧ e = .returned (.agg #[.int .i64 m.1.1.1, .int .u32 m.1.1.2, .int .i64 m.1.2, .string (bs m.2.1), .int .i64 m.2.2.1, .int .u32 m.2.2.2.1, .int .i64 m.2.2.2.2]) ∧ Below w.heap.size w w'
theorem maxL_succ {xs : List Pm} {k : Nat} {u : Pm} (h : xs[k]? = some u) : maxL (xs.take (k + 1)) = stepL (maxL (xs.take k)) u := by
  unfold maxL
  rw [List.take_add_one, h, List.foldl_append]; rfl
end Go.Proofs.YtffnpfponnhddaaGreat
namespace Go.Proofs.YtffnpfponnhddaaGreat
open Go.RowKit

/-- What was put for a field and holds. -/
def ofM (xs : List Pm) (gs : List Tm) (f : List UInt8) : List Pm := if mErr xs gs ≠ 0 then [] else xs.filter fun p => decide (p.2.1 = f)
def tagsM (xs : List Pm) (gs : List Tm) (f : List UInt8) : List Tm := if mErr xs gs ≠ 0 then [] else (xs.filter fun p => decide (p.2.1 = f)).map Prod.fst
theorem tagsM_of (xs : List Pm) (gs : List Tm) (f : List UInt8) : (ofM xs gs f).map Prod.fst = tagsM xs gs f := by
  unfold ofM tagsM; split <;> rfl
set_option maxRecDepth 100000 in
theorem mof1_any (fb : Nat) (f : List UInt8) (a : Pm) (w : World) (hs : w.heap[fb]? = some (.cells #[.string (bs f)] 9 (0, 0))) :
    Calls Tryz.prog 101 #[.agg #[.int .i64 a.1.1.1, .int .u32 a.1.1.2, .int .i64 a.1.2, .string (bs a.2.1), .int .i64 a.2.2.1, .int .u32 a.2.2.2.1, .int .i64 a.2.2.2.2], .pointer (some ⟨fb, 0, none⟩)] w fun e w' => e = .returned (.bool (!decide (a.2.1 = f))) ∧ Below w.heap.size w w' := by
  have hb0 : Below w.heap.size w (w.alloc (.cells #[.int .i64 a.1.1.1, .int .u32 a.1.1.2, .int .i64 a.1.2, .string (bs a.2.1), .int .i64 a.2.2.1, .int .u32 a.2.2.2.1, .int .i64 a.2.2.2.2] 127)) := (Below.refl _ w).alloc (Nat.le_refl _) _
  have hbx : (w.alloc (.cells #[.int .i64 a.1.1.1, .int .u32 a.1.1.2, .int .i64 a.1.2, .string (bs a.2.1), .int .i64 a.2.2.1, .int .u32 a.2.2.2.1, .int .i64 a.2.2.2.2] 127)).heap[w.heap.size]? = some (.cells #[.int .i64 a.1.1.1, .int .u32 a.1.1.2, .int .i64 a.1.2, .string (bs a.2.1), .int .i64 a.2.2.1, .int .u32 a.2.2.2.1, .int .i64 a.2.2.2.2] 127 (0, 0)) := heap_at _ _ rfl
  have hs0 := blk_below hs hb0
  generalize hW : w.alloc (.cells #[.int .i64 a.1.1.1, .int .u32 a.1.1.2, .int .i64 a.1.2, .string (bs a.2.1), .int .i64 a.2.2.1, .int .u32 a.2.2.2.1, .int .i64 a.2.2.2.2] 127) = W at hb0 hbx hs0
  have hltx := blk_lt hbx
  have hlts := blk_lt hs0
  have p0 := blk_cell hbx 0
  have p1 := blk_cell hbx 1
  have p2 := blk_cell hbx 2
  have p3 := blk_cell hbx 3
  have p4 := blk_cell hbx 4
  have p5 := blk_cell hbx 5
  have p6 := blk_cell hbx 6
  have s0 := blk_cell hs0 0
  simp at p0 p1 p2 p3 p4 p5 p6 s0
  clear hbx hs0
  by_cases heq : a.2.1 = f
  · have hqb : ((bs a.2.1).toList == (bs f).toList) = true := by rw [bs_empty, bs_empty, heq]; simp
    have hT : Hid (false = !decide (a.2.1 = f)) := Lib.hid (by rw [decide_eq_true heq]; rfl)
    clear heq
    go_enter Tryz.func101, Tryz.ntmps101
    go_wp2
    go_ret
    exact ⟨ret_bool hT.out, hb0⟩
  · have hqb : ((bs a.2.1).toList == (bs f).toList) = false := by rw [bs_empty, bs_empty, beq_eq_false_iff_ne]; exact heq
    have hT : Hid (true = !decide (a.2.1 = f)) := Lib.hid (by rw [decide_eq_false heq]; rfl)
    clear heq
    go_enter Tryz.func101, Tryz.ntmps101
    go_wp2
    go_ret
    exact ⟨ret_bool hT.out, hb0⟩
set_option maxRecDepth 100000 in
set_option maxHeartbeats 1000000 in
theorem mof_any (A : Option Addr) (n c : Nat) (xs : List Pm) (B : Option Addr) (m d : Nat) (gs : List Tm) (f : List UInt8) (w : World) (hA : RdP w w.heap.size A n xs) (hB : RdT w w.heap.size B m gs) (hn : n ≤ 100000) (hm : m ≤ 100000) (hx : ∀ a ∈ xs, a.wf) (hg : ∀ t ∈ gs, t.wf) (hl : ∀ a ∈ xs, a.2.1.length ≤ maxLen) :
    Calls Tryz.prog 59 #[.agg #[.slice A n c, .slice B m d], .string (bs f)] w fun e w' => ∃ A' n' c', e = .returned (.slice A' n' c') ∧ n' ≤ 100000 ∧ Ow w' w.heap.size 127 7 (.slice A' n' c') ((ofM xs gs f).map Pm.enc) ∧ Below w.heap.size w w' := by
  have hb0 : Below w.heap.size w ((w.alloc (.cells #[.slice A n c, .slice B m d] 62)).alloc (.cells #[.string (bs f)] 9)) := ((Below.refl _ w).alloc (Nat.le_refl _) _).alloc (by simp) _
  have hbx : ((w.alloc (.cells #[.slice A n c, .slice B m d] 62)).alloc (.cells #[.string (bs f)] 9)).heap[w.heap.size]? = some (.cells #[.slice A n c, .slice B m d] 62 (0, 0)) := heap_old _ (by simp) (heap_at _ _ rfl)
  have hbf : ((w.alloc (.cells #[.slice A n c, .slice B m d] 62)).alloc (.cells #[.string (bs f)] 9)).heap[w.heap.size + 1]? = some (.cells #[.string (bs f)] 9 (0, 0)) := heap_at _ _ (by simp)
  generalize hW : ((w.alloc (.cells #[.slice A n c, .slice B m d] 62)).alloc (.cells #[.string (bs f)] 9)) = W at hb0 hbx hbf
  have hbxH := Lib.hid hbx
  have hbfH := Lib.hid hbf
  have hltx := blk_lt hbx
  have s0 := blk_cell hbx 0
  have s1 := blk_cell hbx 1
  simp at s0 s1
  have hltf := blk_lt hbf
  have hck := Lib.hid (mcheck_any A n c xs B m d gs W ((hA.below hb0).more hb0.size) ((hB.below hb0).more hb0.size) (by simp [maxLen]; omega) (by simp [maxLen]; omega) hx hg hl)
  generalize hr : ofM xs gs f = out
  unfold ofM at hr
  generalize hpe : mErr xs gs = p at hck hr
  have hzW := hb0.size
  by_cases hp : p = 0
  case neg =>
    rw [if_pos hp] at hr
    subst hr
    have hpn : (p != 0) = true := by simpa using hp
    clear hpe hp hbx hbf hA hB
    go_enter Tryz.func59, Tryz.ntmps59
    go_wp2_with fail
    refine hck.out.mono ?_
    rintro e w1 ⟨rfl, hv1⟩
    have hG := hb0.trans (hv1.mono hb0.size)
    go_wp2
    go_ret
    exact ⟨none, 0, 0, rfl, by omega, Ow.nil_ _ _ _ _, hG⟩
  subst hp
  rw [if_neg (by simp)] at hr
  subst hr
  have hAr := Lib.hid (fun w' (h : Below w.heap.size w w') => hA.below h)
  clear hpe hbx hbf hA hB hx hg hl
  go_enter Tryz.func59, Tryz.ntmps59
  go_wp2_with fail
  refine hck.out.mono ?_
  rintro e' w1 ⟨rfl, hv1⟩
  have hG1 := hb0.trans (hv1.mono hzW)
  have hs1 := blk_below hbxH.out hv1
  have hf1 := blk_below hbfH.out hv1
  clear s0 s1 hltx hck
  have hltx := blk_lt hs1
  have s0 := blk_cell hs1 0
  have s1 := blk_cell hs1 1
  simp at s0 s1
  have hf1H := Lib.hid hf1
  have hltf1 := blk_lt hf1
  clear hs1 hf1
  go_wp2_with fail
  refine (cloneP_any A n c xs w1 ((hAr.out _ hG1).more hG1.size) hn).mono ?_
  rintro e w2 ⟨A2, c2, rfl, o2, hv2⟩
  have hf2 := blk_below hf1H.out hv2
  have hf2H := Lib.hid hf2
  clear hf2 s0 s1 hltx
  go_wp2_with fail
  refine (delfP_gen 101 #[.pointer (some ⟨w.heap.size + 1, 0, none⟩)] (fun p => !decide (p.2.1 = f)) (enters_of Tryz.func101 (by kernel_rfl) rfl) w1.heap.size A2 n c2 xs w2 o2 hn (fun a ha w' hbw => mof1_any (w.heap.size + 1) f a w' ((hbw.block _ (by omega)).trans hf2H.out)) hv2.size).mono ?_
  rintro e w3 ⟨m3, rfl, o3, hg3⟩
  have hG3 : Below w.heap.size w w3 := hG1.trans ((hv2.grown hg3 hv2.size (fun q hq => (o2.block q hq).1)).mono hG1.size)
  have hT : (xs.filter fun x => !(!decide (x.2.1 = f))) = xs.filter fun p => decide (p.2.1 = f) := by simp
  rw [hT] at o3
  have hm3 : m3 ≤ 100000 := by
    have h1 := o3.rd.2.1
    rw [List.length_map] at h1
    have h2 := List.length_filter_le (fun p : Pm => decide (p.2.1 = f)) xs
    have h3 := (hAr.out w (Below.refl _ _)).len
    omega
  have o3H := Lib.hid (o3.base (base' := w.heap.size) hG1.size)
  clear hg3 o3 o2 hf2H
  go_wp2
  go_ret
  exact ⟨A2, m3, c2, rfl, hm3, o3H.out, hG3⟩
set_option maxRecDepth 100000 in
set_option maxHeartbeats 1000000 in
theorem mtagsf_any (A : Option Addr) (n c : Nat) (xs : List Pm) (B : Option Addr) (m d : Nat) (gs : List Tm) (f : List UInt8) (w : World) (hA : RdP w w.heap.size A n xs) (hB : RdT w w.heap.size B m gs) (hn : n ≤ 100000) (hm : m ≤ 100000) (hx : ∀ a ∈ xs, a.wf) (hg : ∀ t ∈ gs, t.wf) (hl : ∀ a ∈ xs, a.2.1.length ≤ maxLen) :
    Calls Tryz.prog 34 #[.agg #[.slice A n c, .slice B m d], .string (bs f)] w fun e w' => ∃ T t c', e = .returned (.slice T t c') ∧ Ow w' w.heap.size 45 3 (.slice T t c') ((tagsM xs gs f).map Tm.enc) ∧ Below w.heap.size w w' := by
  have hb0 : Below w.heap.size w (w.alloc (.cells #[.slice A n c, .slice B m d] 62)) := (Below.refl _ w).alloc (Nat.le_refl _) _
  have hbx : (w.alloc (.cells #[.slice A n c, .slice B m d] 62)).heap[w.heap.size]? = some (.cells #[.slice A n c, .slice B m d] 62 (0, 0)) := heap_at _ _ rfl
  generalize hW : w.alloc (.cells #[.slice A n c, .slice B m d] 62) = W at hb0 hbx
  have hltx := blk_lt hbx
  have s0 := blk_cell hbx 0
  have s1 := blk_cell hbx 1
  simp at s0 s1
  have cO := Lib.hid (mof_any A n c xs B m d gs f W ((hA.below hb0).more hb0.size) ((hB.below hb0).more hb0.size) hn hm hx hg hl)
  have hT := Lib.hid (tagsM_of xs gs f)
  clear hA hB hx hg hl hbx
  generalize ofM xs gs f = L at cO hT
  go_enter Tryz.func34, Tryz.ntmps34
  go_wp2_with fail
  refine cO.out.mono ?_
  rintro e w1 ⟨A1, n1, c1, rfl, hn1, o1, hv1⟩
  have hG1 := hb0.trans (hv1.mono hb0.size)
  go_wp2_with fail
  refine (mtags_any A1 n1 c1 L w1 o1.rd.1 hn1).mono ?_
  rintro e w2 ⟨T, c2, rfl, o2, hv2⟩
  have hG2 := hG1.trans (hv2.mono hG1.size)
  rw [hT.out] at o2
  have o2H := Lib.hid (o2.base (base' := w.heap.size) hG1.size)
  clear o1 o2
  go_wp2
  go_ret
  exact ⟨T, n1, c2, rfl, o2H.out, hG2⟩
/-- The document's way to a field's value: of two puts the later one in the list, unless its stamp is less. -/
def stepD (o : Option Pm) (x : Pm) : Option Pm := match o with | none => some x | some m => some (if 0 ≤ cmpS x.2.2.2 m.2.2.2 then x else m)
def getM (xs : List Pm) (gs : List Tm) (f : List UInt8) : Int × Bool := (((maxL (ofM xs gs f)).map fun m => m.2.2.1).getD 0, (maxL (ofM xs gs f)).isSome)
theorem step_same {x m : Pm} (h : ltT m.1 x.1) : stepL (some m) x = stepD (some m) x := by
  have hc := (gtT_iff x.1 m.1).2 h
  show some (if 0 < cmpL x m then x else m) = some (if 0 ≤ cmpS x.2.2.2 m.2.2.2 then x else m)
  unfold cmpL
  congr 1
  by_cases h0 : cmpS x.2.2.2 m.2.2.2 = 0
  · rw [h0]; simp [hc]
  · rw [if_pos h0]
    by_cases h1 : 0 < cmpS x.2.2.2 m.2.2.2
    · rw [if_pos h1, if_pos (by omega)]
    · rw [if_neg h1, if_neg (by omega)]
theorem fold_same : ∀ (xs : List Pm) (o : Option Pm), ascTP (xs.map Prod.fst) → (∀ m, o = some m → ∀ x ∈ xs, ltT m.1 x.1) → xs.foldl stepL o = xs.foldl stepD o
  | [], _, _, _ => rfl
  | x :: xs, o, ha, ho => by
    rw [List.map_cons] at ha
    obtain ⟨h1, h2⟩ := List.pairwise_cons.1 ha
    have hx : ∀ y ∈ xs, ltT x.1 y.1 := fun y hy => h1 _ (List.mem_map_of_mem hy)
    have hs : stepL o x = stepD o x := by
      cases o with
      | none => rfl
      | some m => exact step_same (ho m rfl x (by simp))
    rw [List.foldl_cons, List.foldl_cons, hs]
    refine fold_same xs _ h2 (fun m hm y hy => ?_)
    cases o with
    | none => simp only [stepD, Option.some.injEq] at hm; subst hm; exact hx y hy
    | some m0 =>
      simp only [stepD, Option.some.injEq] at hm
      split at hm
      · subst hm; exact hx y hy
      · subst hm; exact ho m0 rfl y (by simp [hy])
theorem maxL_D {xs : List Pm} (h : ascTP (xs.map Prod.fst)) : maxL xs = xs.foldl stepD none := fold_same xs none h (fun _ h => by cases h)
end Go.Proofs.YtffnpfponnhddaaGreat
