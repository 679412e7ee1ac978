/- Drop of maps, the rows' types told. Apply of maps, the rows' types told. -/
import Derived.Test.YtffnpfponnhddaaGreatN24
import Derived.Test.YtffnpfponnhddaaGreatN27
import Derived.Test.YtffnpfponnhddaaGreatOnJ
import Derived.Test.YtffnpfponnhddaaGreatM1
import Derived.Test.YtffnpfponnhddaaGreatM21
namespace Go.Proofs.YtffnpfponnhddaaGreat
open Go.RowKit

def PostMT (w : World) (X : List Pm × List Tm) (er : Int) (e : Ending) (w' : World) : Prop :=
  ∃ A n c B m d, e = .returned (.tuple #[.agg #[.slice A n c, .slice B m d], .int .i64 er]) ∧ RdP w' w'.heap.size A n X.1 ∧ RdT w' w'.heap.size B m X.2 ∧ n ≤ 5000 ∧ m ≤ 9000 ∧ n ≤ c ∧ c ≤ maxLen ∧ m ≤ d ∧ d ≤ maxLen ∧ Below w.heap.size w w' ∧ TyR w' 127 A n ∧ TyR w' 45 B m
theorem PostMT.nil_ {w w' : World} {er : Int} (hb : Below w.heap.size w w') : PostMT w ([], []) er (.returned (.tuple #[.agg #[.slice none 0 0, .slice none 0 0], .int .i64 er])) w' :=
  ⟨none, 0, 0, none, 0, 0, rfl, ⟨rfl, fun h => absurd h (by decide)⟩, ⟨rfl, fun h => absurd h (by decide)⟩, by omega, by omega, by omega, by simp [maxLen], by omega, by simp [maxLen], hb, TyR.nil_ _ _ _, TyR.nil_ _ _ _⟩
set_option maxRecDepth 100000 in
set_option maxHeartbeats 2000000 in
theorem mdropT_any (A : Option Addr) (n c : Nat) (xs : List Pm) (B : Option Addr) (m d : Nat) (gs : List Tm) (C : Option Addr) (k f : Nat) (l : List Tm) (w : World) (hA : RdP w w.heap.size A n xs) (hB : RdT w w.heap.size B m gs) (hC : RdT w w.heap.size C k l) (hn : n ≤ 100000) (hm : m ≤ 100000) (hk : k ≤ 100000) (hx : ∀ a ∈ xs, a.wf) (hg : ∀ t ∈ gs, t.wf) (hlw : ∀ t ∈ l, t.wf) (hl : ∀ a ∈ xs, a.2.1.length ≤ maxLen) :
    Calls Tryz.prog 42 #[.agg #[.slice A n c, .slice B m d], .slice C k f] w (PostMT w (dropM xs gs l).1 (dropM xs gs l).2) := by
  have hb0 : Below w.heap.size w ((w.alloc (.cells #[.slice A n c, .slice B m d] 62)).alloc (.cells #[.slice none 0 0, .slice none 0 0] 62)) := ((Below.refl _ w).alloc (Nat.le_refl _) _).alloc (by simp) _
  have hbx : ((w.alloc (.cells #[.slice A n c, .slice B m d] 62)).alloc (.cells #[.slice none 0 0, .slice none 0 0] 62)).heap[w.heap.size]? = some (.cells #[.slice A n c, .slice B m d] 62 (0, 0)) := heap_old _ (by simp) (heap_at _ _ rfl)
  have hbr : ((w.alloc (.cells #[.slice A n c, .slice B m d] 62)).alloc (.cells #[.slice none 0 0, .slice none 0 0] 62)).heap[w.heap.size + 1]? = some (.cells #[.slice none 0 0, .slice none 0 0] 62 (0, 0)) := heap_at _ _ (by simp)
  generalize hW : ((w.alloc (.cells #[.slice A n c, .slice B m d] 62)).alloc (.cells #[.slice none 0 0, .slice none 0 0] 62)) = W at hb0 hbx hbr
  have hbxH := Lib.hid hbx
  have hbrH := Lib.hid hbr
  have hltx := blk_lt hbx
  have hltr := blk_lt hbr
  have s0 := blk_cell hbx 0
  have s1 := blk_cell hbx 1
  have r0 := blk_cell hbr 0
  have r1 := blk_cell hbr 1
  simp at s0 s1 r0 r1
  have hfr := blk_frozen hbr
  have hck := Lib.hid (mcheck_any A n c xs B m d gs W ((hA.below hb0).more hb0.size) ((hB.below hb0).more hb0.size) (by simp [maxLen]; omega) (by simp [maxLen]; omega) hx hg hl)
  have hct := Lib.hid (fun w' (h : Below w.heap.size w w') => cfT_gen 78 #[] (fun t => !chkT t) (fun _ _ => by kernel_rfl) w'.heap.size C k f l w' ((hC.below h).more h.size) (by simp [maxLen]; omega) (fun x hxm w'' _ => mnotag_any x (hlw x hxm) w'') (Nat.le_refl _))
  generalize hr : dropM xs gs l = out
  unfold dropM at hr
  have hkl := hC.len
  rw [hkl] at hr
  generalize hpe : mErr xs gs = p at hck hr
  by_cases hp : p = 0
  case neg =>
    rw [if_pos hp] at hr
    subst hr
    have hpn : (p != 0) = true := by simpa using hp
    clear hpe hp hbx hbr hA hB hC hct
    go_enter Tryz.func42, Tryz.ntmps42
    go_wp2_with fail
    refine hck.out.mono ?_
    rintro e w1 ⟨rfl, hv1⟩
    have hG := hb0.trans (hv1.mono hb0.size)
    have hr1 := blk_below hbrH.out hv1
    have hlr1 := blk_lt hr1
    clear r0 r1 hfr
    have r0 := blk_cell hr1 0
    have r1 := blk_cell hr1 1
    have hfr := blk_frozen hr1
    simp at r0 r1
    have hGs : Below w.heap.size w ((w1.setCell ⟨w.heap.size + 1, 0, none⟩ (.slice none 0 0)).setCell ⟨w.heap.size + 1, 1, none⟩ (.slice none 0 0)) := (hG.setCell (by dsimp only; omega) _).setCell (by dsimp only; omega) _
    go_wp2
    exact bodyPost_ret (v := .tuple #[.agg #[.slice none 0 0, .slice none 0 0], .int .i64 p]) (by simp [results, Tryz.results42, go_sem, r0, r1]) rfl (PostMT.nil_ hGs)
  subst hp
  rw [if_neg (by simp)] at hr
  obtain ⟨hn4, hm4, _, _, _, hasc, _⟩ := sErr_zero.1 hpe
  rw [List.length_map, hA.len] at hn4
  rw [hB.len] at hm4
  by_cases hk4 : 4096 < k
  case pos =>
    rw [if_pos hk4] at hr
    subst hr
    have hdk : decide ((4096 : Int) < (k : Int)) = true := decide_eq_true (by omega)
    clear hpe hbx hbr hA hB hC hct hasc
    go_enter Tryz.func42, Tryz.ntmps42
    go_wp2_with fail
    refine hck.out.mono ?_
    rintro e w1 ⟨rfl, hv1⟩
    have hG := hb0.trans (hv1.mono hb0.size)
    have hr1 := blk_below hbrH.out hv1
    have hlr1 := blk_lt hr1
    clear r0 r1 hfr
    have r0 := blk_cell hr1 0
    have r1 := blk_cell hr1 1
    have hfr := blk_frozen hr1
    simp at r0 r1
    have hGs : Below w.heap.size w ((w1.setCell ⟨w.heap.size + 1, 0, none⟩ (.slice none 0 0)).setCell ⟨w.heap.size + 1, 1, none⟩ (.slice none 0 0)) := (hG.setCell (by dsimp only; omega) _).setCell (by dsimp only; omega) _
    go_wp2
    exact bodyPost_ret (v := .tuple #[.agg #[.slice none 0 0, .slice none 0 0], .int .i64 8]) (by simp [results, Tryz.results42, go_sem, r0, r1]) rfl (PostMT.nil_ hGs)
  rw [if_neg hk4] at hr
  have hdk : decide ((4096 : Int) < (k : Int)) = false := decide_eq_false (by omega)
  cases hb2 : l.any (fun t => !chkT t)
  case true =>
    rw [hb2] at hct hr
    rw [if_pos rfl] at hr
    subst hr
    clear hpe hbx hbr hA hB hC hasc
    go_enter Tryz.func42, Tryz.ntmps42
    go_wp2_with fail
    refine hck.out.mono ?_
    rintro e w1 ⟨rfl, hv1⟩
    have hG1 := hb0.trans (hv1.mono hb0.size)
    go_wp2_with fail
    refine (hct.out _ hG1).mono ?_
    rintro e w2 ⟨rfl, hv2⟩
    have hG := hG1.trans (hv2.mono hG1.size)
    have hr1 := blk_below (blk_below hbrH.out hv1) hv2
    have hlr1 := blk_lt hr1
    clear r0 r1 hfr
    have r0 := blk_cell hr1 0
    have r1 := blk_cell hr1 1
    have hfr := blk_frozen hr1
    simp at r0 r1
    have hGs : Below w.heap.size w ((w2.setCell ⟨w.heap.size + 1, 0, none⟩ (.slice none 0 0)).setCell ⟨w.heap.size + 1, 1, none⟩ (.slice none 0 0)) := (hG.setCell (by dsimp only; omega) _).setCell (by dsimp only; omega) _
    go_wp2
    exact bodyPost_ret (v := .tuple #[.agg #[.slice none 0 0, .slice none 0 0], .int .i64 2]) (by simp [results, Tryz.results42, go_sem, r0, r1]) rfl (PostMT.nil_ hGs)
  rw [hb2] at hct hr
  rw [if_neg (by simp)] at hr
  have hAr := Lib.hid (fun w' (h : Below w.heap.size w w') => hA.below h)
  have hBr := Lib.hid (fun w' (h : Below w.heap.size w w') => hB.below h)
  have hCr := Lib.hid (fun w' (h : Below w.heap.size w w') => hC.below h)
  have hascG := Lib.hid ((dropG_spec l hasc).1)
  have hcd := Lib.hid (fun (ys : List Tm) h1 h2 => compactT_drop (ys := ys) (g := gs) (l := l) h1 hasc h2)
  have hrH := Lib.hid hr
  have hzW := hb0.size
  clear hpe hbx hbr hA hB hC hx hg hl hasc hr hkl
  go_enter Tryz.func42, Tryz.ntmps42
  go_wp2_with fail
  refine hck.out.mono ?_
  rintro e w1 ⟨rfl, hv1⟩
  have hG1 := hb0.trans (hv1.mono hb0.size)
  go_wp2_with fail
  refine (hct.out _ hG1).mono ?_
  rintro e w2 ⟨rfl, hv2⟩
  have hG2 := hG1.trans (hv2.mono hG1.size)
  have hs2 := blk_below (blk_below hbxH.out hv1) hv2
  have hr2 := blk_below (blk_below hbrH.out hv1) hv2
  clear r0 r1 hfr s0 s1 hltx hltr hck hct
  have hltx := blk_lt hs2
  have hltr := blk_lt hr2
  have s0 := blk_cell hs2 0
  have s1 := blk_cell hs2 1
  simp at s0 s1
  have hsH := Lib.hid hs2
  have hrbH := Lib.hid hr2
  clear hs2 hr2
  go_wp2_with fail
  have hbA : Below w2.heap.size w2 (w2.alloc (.cells #[.slice B m d, .slice C k f] 30)) := (Below.refl _ _).alloc (Nat.le_refl _) _
  have hG3 := hG2.trans (hbA.mono hG2.size)
  refine (concatT_any w2.heap.size B C m k d f gs l _ (heap_at _ _ rfl) ((hBr.out _ hG3).more hG3.size) ((hCr.out _ hG3).more hG3.size) hm hk).mono ?_
  rintro e w3 ⟨A3, c3, rfl, o3, hv3⟩
  have hv3' : Below w2.heap.size w2 w3 := hbA.trans (hv3.mono hbA.size)
  have hz3 := hv3.size
  have hza : (w2.alloc (.cells #[.slice B m d, .slice C k f] 30)).heap.size = w2.heap.size + 1 := by simp
  rw [hza] at o3 hz3
  clear hv3 hbA hG3 hza s0 s1 hltx hltr
  go_upto_region 9 with (fail)
  obtain ⟨w4, hwn⟩ : ∃ w9, w3.alloc (.cells #[.slice A3 (m + k) c3] 30) = w9 := ⟨_, rfl⟩
  have hob4 : w4.heap[w3.heap.size]? = some (.cells #[.slice A3 (m + k) c3] 30 (0, 0)) := by rw [← hwn]; exact heap_at _ _ rfl
  have hb34 : Below w3.heap.size w3 w4 := by rw [← hwn]; exact (Below.refl _ w3).alloc (Nat.le_refl _) _
  rw [hwn]
  clear hwn
  have hz34 := hb34.size
  have o4 := o3.below hb34
  have hv4 : Below w2.heap.size w2 w4 := hv3'.trans (hb34.mono hv3'.size)
  have hz4 := hv4.size
  have hlto := blk_lt hob4
  have b0 := blk_cell hob4 0
  simp at b0
  have hob4H := Lib.hid hob4
  clear hob4
  go_wp2_with fail
  refine (sortfT_any (w2.heap.size + 1) A3 (m + k) c3 (gs ++ l) w4 o4 (by omega)).mono ?_
  rintro e w5 ⟨rfl, ys, hso, hmem, o5, hg5⟩
  have hrow3 : ∀ q, (Value.slice A3 (m + k) c3).ownBlock = some q → w2.heap.size + 1 ≤ q := fun q hq => (o4.block q hq).1
  have hv5 : Below w2.heap.size w2 w5 := hv4.grown hg5 hv4.size (fun q hq => by have := hrow3 q hq; omega)
  have hob5 : w5.heap[w3.heap.size]? = some (.cells #[.slice A3 (m + k) c3] 30 (0, 0)) := (hg5.block _ (blk_lt hob4H.out) (fun e => o4.ne_blk hob4H.out (by decide) e.symm)).trans hob4H.out
  have hz5 := hg5.size
  clear b0 hlto hg5
  have hlto := blk_lt hob5
  have b0 := blk_cell hob5 0
  simp at b0
  have hob5H := Lib.hid hob5
  clear hob5
  go_wp2_with fail
  refine (compactT_any (w2.heap.size + 1) A3 (m + k) c3 ys w5 o5 (by omega) (by omega)).mono ?_
  rintro e w6 ⟨n5, rfl, o6, hg6⟩
  have hv6 : Below w2.heap.size w2 w6 := hv5.grown hg6 hv5.size (fun q hq => by have := hrow3 q hq; omega)
  have hob6 : w6.heap[w3.heap.size]? = some (.cells #[.slice A3 (m + k) c3] 30 (0, 0)) := (hg6.block _ (blk_lt hob5H.out) (fun e => o5.ne_blk hob5H.out (by decide) e.symm)).trans hob5H.out
  have hz6 := hg6.size
  rw [hcd.out ys hso hmem] at o6
  clear hg6 hv5 o5 o4 o3 hso hmem hcd hrow3 b0 hlto
  have hlto := blk_lt hob6
  have b0 := blk_cell hob6 0
  simp at b0
  have hfo := blk_frozen hob6
  have hob6H := Lib.hid hob6
  clear hob6
  go_upto_region 11 with (fail)
  obtain ⟨w7, hw7⟩ : ∃ w7, w6.setCell ⟨w3.heap.size, 0, none⟩ (.slice A3 n5 c3) = w7 := ⟨_, rfl⟩
  have hob7 : w7.heap[w3.heap.size]? = some (.cells #[.slice A3 n5 c3] 30 (0, 0)) := by rw [← hw7]; exact blk_set hob6H.out 0 _
  have o7 := o6.set_blk hob6H.out (by decide) 0 (.slice A3 n5 c3)
  rw [hw7] at o7
  have hv7 : Below w2.heap.size w2 w7 := by rw [← hw7]; exact hv6.setCell (by dsimp only; omega) _
  have hz7 : w7.heap.size = w6.heap.size := by rw [← hw7]; simp
  rw [hw7]
  clear hw7 b0 hlto hfo o6
  have hG7 := hG2.trans (hv7.mono hG2.size)
  have hr7 := blk_below hrbH.out hv7
  have hs7 := blk_below hsH.out hv7
  have hn5 : n5 = (dropG gs l).length := by simpa using o7.rd.2.1.symm
  generalize dropG gs l = D at hn5 o7 hrH hascG
  have hz2 := hG2.size
  have hlto := blk_lt hob7
  have b0 := blk_cell hob7 0
  simp at b0
  have hltr := blk_lt hr7
  have hltx := blk_lt hs7
  by_cases hn5k : 4096 < n5
  case pos =>
    have hr := hrH.out
    rw [← hn5, if_pos hn5k] at hr
    subst hr
    clear hn5
    have hdn : decide ((4096 : Int) < (n5 : Int)) = true := decide_eq_true (by omega)
    have hfr := blk_frozen hr7
    have r0 := blk_cell hr7 0
    have r1 := blk_cell hr7 1
    simp at r0 r1
    have hGs : Below w.heap.size w ((w7.setCell ⟨w.heap.size + 1, 0, none⟩ (.slice none 0 0)).setCell ⟨w.heap.size + 1, 1, none⟩ (.slice none 0 0)) := (hG7.setCell (by dsimp only; omega) _).setCell (by dsimp only; omega) _
    clear hs7 hr7 hob7
    go_wp2
    exact bodyPost_ret (v := .tuple #[.agg #[.slice none 0 0, .slice none 0 0], .int .i64 4]) (by simp [results, Tryz.results42, go_sem, r0, r1]) rfl (PostMT.nil_ hGs)
  have hr := hrH.out
  rw [← hn5, if_neg hn5k] at hr
  clear hn5
  have hrH := Lib.hid hr
  have hdn : decide ((4096 : Int) < (n5 : Int)) = false := decide_eq_false (by omega)
  have s0 := blk_cell hs7 0
  have s1 := blk_cell hs7 1
  simp at s0 s1
  have hr7H := Lib.hid hr7
  have hob7H := Lib.hid hob7
  clear hs7 hr7 hr hob7
  go_wp2_with fail
  refine (cloneP_any A n c xs w7 ((hAr.out _ hG7).more hG7.size) hn).mono ?_
  rintro e w8 ⟨A8, c8, rfl, o8, hv8⟩
  have hob8 := blk_below hob7H.out hv8
  have o78 := o7.below hv8
  have hob8H := Lib.hid hob8
  have hv8H := Lib.hid hv8
  clear hob8 b0 hlto
  go_wp2_with fail
  refine (delfP_gen 85 #[.pointer (some ⟨w3.heap.size, 0, none⟩)] (fun a => D.contains a.1) (enters_of Tryz.func85 (by kernel_rfl) rfl) w7.heap.size A8 n c8 xs w8 o8 hn (fun a ha w' hbw => mdrop1_any w3.heap.size A3 n5 c3 D a w' ((hbw.block _ (by have := blk_lt hob7H.out; omega)).trans hob8H.out) (o7.below (hv8H.out.trans hbw)).rd.1 (by omega) hascG.out) hv8.size).mono ?_
  rintro e w9 ⟨m8, rfl, o9, hg9⟩
  have hv9 : Below w7.heap.size w7 w9 := hv8H.out.grown hg9 hv8H.out.size (fun q hq => (o8.block q hq).1)
  have o79 := o7.below hv9
  have hG9 := hG7.trans (hv9.mono hG7.size)
  have hob9 := blk_below hob7H.out hv9
  have hr9 := blk_below hr7H.out hv9
  have hz9 := hv9.size
  clear hob8H hv8H o8 o78 hg9 s0 s1 hltr hltx
  have hlto := blk_lt hob9
  have hltr := blk_lt hr9
  have b0 := blk_cell hob9 0
  have r0 := blk_cell hr9 0
  have r1 := blk_cell hr9 1
  simp at b0 r0 r1
  have hfr := blk_frozen hr9
  have hr9H := Lib.hid hr9
  clear hob9 hr9
  go_wp2
  have hr := hrH.out
  subst hr
  have hm8 : m8 ≤ n := by
    have h1 := o9.rd.2.1
    rw [List.length_map] at h1
    have h2 := List.length_filter_le (fun a : Pm => !D.contains a.1) xs
    have h3 := (hAr.out w (Below.refl _ _)).len
    omega
  have ha5 := (o9.set_blk hr9H.out (by decide) 0 (.slice A8 m8 c8)).set_blk (blk_set hr9H.out 0 _) (by decide) 1 (.slice A3 n5 c3)
  have hb5 := (o79.set_blk hr9H.out (by decide) 0 (.slice A8 m8 c8)).set_blk (blk_set hr9H.out 0 _) (by decide) 1 (.slice A3 n5 c3)
  exact bodyPost_ret (v := .tuple #[.agg #[.slice A8 m8 c8, .slice A3 n5 c3], .int .i64 0]) (by simp [results, Tryz.results42, go_sem, r0, r1]) rfl ⟨A8, m8, c8, A3, n5, c3, rfl, ha5.rd.1, hb5.rd.1, by omega, by omega, ha5.rd.2.2.1, ha5.rd.2.2.2, hb5.rd.2.2.1, hb5.rd.2.2.2, (hG9.setCell (by dsimp only; omega) _).setCell (by dsimp only; omega) _, ha5.ty, hb5.ty⟩
end Go.Proofs.YtffnpfponnhddaaGreat
namespace Go.Proofs.YtffnpfponnhddaaGreat
open Go.RowKit

set_option maxRecDepth 100000 in
set_option maxHeartbeats 4000000 in
theorem mapplyT_any (A : Option Addr) (n c : Nat) (xs : List Pm) (B : Option Addr) (m d : Nat) (gs : List Tm) (a : Pm) (w : World) (hA : RdP w w.heap.size A n xs) (hB : RdT w w.heap.size B m gs) (hn : n ≤ 100000) (hm : m ≤ 100000) (hx : ∀ a ∈ xs, a.wf) (hg : ∀ t ∈ gs, t.wf) (hl : ∀ a ∈ xs, a.2.1.length ≤ maxLen) (ha : a.wf) (hal : a.2.1.length ≤ maxLen) :
    Calls Tryz.prog 41 #[.agg #[.slice A n c, .slice B m d], .agg #[.int .i64 a.1.1.1, .int .u32 a.1.1.2, .int .i64 a.1.2, .string (bs a.2.1), .int .i64 a.2.2.1, .int .u32 a.2.2.2.1, .int .i64 a.2.2.2.2]] w (PostMT w (putM xs gs a).1 (putM xs gs a).2) := by
  have hb0 : Below w.heap.size w (((w.alloc (.cells #[.slice A n c, .slice B m d] 62)).alloc (.cells #[.int .i64 a.1.1.1, .int .u32 a.1.1.2, .int .i64 a.1.2, .string (bs a.2.1), .int .i64 a.2.2.1, .int .u32 a.2.2.2.1, .int .i64 a.2.2.2.2] 127)).alloc (.cells #[.slice none 0 0, .slice none 0 0] 62)) := (((Below.refl _ w).alloc (Nat.le_refl _) _).alloc (by simp) _).alloc (by simp; omega) _
  have hbx : (((w.alloc (.cells #[.slice A n c, .slice B m d] 62)).alloc (.cells #[.int .i64 a.1.1.1, .int .u32 a.1.1.2, .int .i64 a.1.2, .string (bs a.2.1), .int .i64 a.2.2.1, .int .u32 a.2.2.2.1, .int .i64 a.2.2.2.2] 127)).alloc (.cells #[.slice none 0 0, .slice none 0 0] 62)).heap[w.heap.size]? = some (.cells #[.slice A n c, .slice B m d] 62 (0, 0)) := heap_old _ (by simp; omega) (heap_old _ (by simp) (heap_at _ _ rfl))
  have hba : (((w.alloc (.cells #[.slice A n c, .slice B m d] 62)).alloc (.cells #[.int .i64 a.1.1.1, .int .u32 a.1.1.2, .int .i64 a.1.2, .string (bs a.2.1), .int .i64 a.2.2.1, .int .u32 a.2.2.2.1, .int .i64 a.2.2.2.2] 127)).alloc (.cells #[.slice none 0 0, .slice none 0 0] 62)).heap[w.heap.size + 1]? = some (.cells #[.int .i64 a.1.1.1, .int .u32 a.1.1.2, .int .i64 a.1.2, .string (bs a.2.1), .int .i64 a.2.2.1, .int .u32 a.2.2.2.1, .int .i64 a.2.2.2.2] 127 (0, 0)) := heap_old _ (by simp) (heap_at _ _ (by simp))
  have hbr : (((w.alloc (.cells #[.slice A n c, .slice B m d] 62)).alloc (.cells #[.int .i64 a.1.1.1, .int .u32 a.1.1.2, .int .i64 a.1.2, .string (bs a.2.1), .int .i64 a.2.2.1, .int .u32 a.2.2.2.1, .int .i64 a.2.2.2.2] 127)).alloc (.cells #[.slice none 0 0, .slice none 0 0] 62)).heap[w.heap.size + 1 + 1]? = some (.cells #[.slice none 0 0, .slice none 0 0] 62 (0, 0)) := heap_at _ _ (by simp)
  generalize hW : (((w.alloc (.cells #[.slice A n c, .slice B m d] 62)).alloc (.cells #[.int .i64 a.1.1.1, .int .u32 a.1.1.2, .int .i64 a.1.2, .string (bs a.2.1), .int .i64 a.2.2.1, .int .u32 a.2.2.2.1, .int .i64 a.2.2.2.2] 127)).alloc (.cells #[.slice none 0 0, .slice none 0 0] 62)) = W at hb0 hbx hba hbr
  have hbxH := Lib.hid hbx
  have hbaH := Lib.hid hba
  have hbrH := Lib.hid hbr
  have hltx := blk_lt hbx
  have hlta := blk_lt hba
  have hltr := blk_lt hbr
  have s0 := blk_cell hbx 0
  have s1 := blk_cell hbx 1
  have r0 := blk_cell hbr 0
  have r1 := blk_cell hbr 1
  simp at s0 s1 r0 r1
  have hfr := blk_frozen hbr
  have hck := Lib.hid (mcheck_any A n c xs B m d gs W ((hA.below hb0).more hb0.size) ((hB.below hb0).more hb0.size) (by simp [maxLen]; omega) (by simp [maxLen]; omega) hx hg hl)
  have hnt := Lib.hid (mnotag_any a.1 ha.1)
  have hel := Lib.hid (pright_any a ha hal)
  generalize hr : putM xs gs a = out
  unfold putM at hr
  have hxl := hA.len
  rw [hxl] at hr
  generalize hpe : mErr xs gs = p at hck hr
  by_cases hp : p = 0
  case neg =>
    rw [if_pos hp] at hr
    subst hr
    have hpn : (p != 0) = true := by simpa using hp
    clear hpe hp hbx hbr hA hB hba
    go_enter Tryz.func41, Tryz.ntmps41
    go_wp2_with fail
    refine hck.out.mono ?_
    rintro e w1 ⟨rfl, hv1⟩
    have hG := hb0.trans (hv1.mono hb0.size)
    have hr1 := blk_below hbrH.out hv1
    have hlr1 := blk_lt hr1
    clear r0 r1 hfr
    have r0 := blk_cell hr1 0
    have r1 := blk_cell hr1 1
    have hfr := blk_frozen hr1
    simp at r0 r1
    have hGs : Below w.heap.size w ((w1.setCell ⟨w.heap.size + 1 + 1, 0, none⟩ (.slice none 0 0)).setCell ⟨w.heap.size + 1 + 1, 1, none⟩ (.slice none 0 0)) := (hG.setCell (by dsimp only; omega) _).setCell (by dsimp only; omega) _
    go_wp2
    exact bodyPost_ret (v := .tuple #[.agg #[.slice none 0 0, .slice none 0 0], .int .i64 p]) (by simp [results, Tryz.results41, go_sem, r0, r1]) rfl (PostMT.nil_ hGs)
  subst hp
  rw [if_neg (by simp)] at hr
  obtain ⟨hn4, hm4, _, _, hascA, hasc, _⟩ := sErr_zero.1 hpe
  rw [List.length_map, hA.len] at hn4
  rw [hB.len] at hm4
  cases hc1 : chkT a.1
  case false =>
    rw [hc1] at hnt hr
    rw [if_pos rfl] at hr
    subst hr
    clear hpe hbx hbr hA hB hasc hascA hba
    go_enter Tryz.func41, Tryz.ntmps41
    go_wp2_with fail
    refine hck.out.mono ?_
    rintro e w1 ⟨rfl, hv1⟩
    have hG1 := hb0.trans (hv1.mono hb0.size)
    have ha1 := blk_below hbaH.out hv1
    have a0 := blk_cell ha1 0
    have a1 := blk_cell ha1 1
    have a2 := blk_cell ha1 2
    have a3 := blk_cell ha1 3
    have a4 := blk_cell ha1 4
    have a5 := blk_cell ha1 5
    have a6 := blk_cell ha1 6
    simp at a0 a1 a2 a3 a4 a5 a6
    have hlta := blk_lt ha1
    go_wp2_with fail
    refine (hnt.out _).mono ?_
    rintro e w2 ⟨rfl, hv2⟩
    have hG := hG1.trans (hv2.mono hG1.size)
    have hr1 := blk_below (blk_below hbrH.out hv1) hv2
    have hlr1 := blk_lt hr1
    clear r0 r1 hfr
    have r0 := blk_cell hr1 0
    have r1 := blk_cell hr1 1
    have hfr := blk_frozen hr1
    simp at r0 r1
    have hGs : Below w.heap.size w ((w2.setCell ⟨w.heap.size + 1 + 1, 0, none⟩ (.slice none 0 0)).setCell ⟨w.heap.size + 1 + 1, 1, none⟩ (.slice none 0 0)) := (hG.setCell (by dsimp only; omega) _).setCell (by dsimp only; omega) _
    go_wp2
    exact bodyPost_ret (v := .tuple #[.agg #[.slice none 0 0, .slice none 0 0], .int .i64 2]) (by simp [results, Tryz.results41, go_sem, r0, r1]) rfl (PostMT.nil_ hGs)
  rw [hc1] at hnt hr
  rw [if_neg (by simp)] at hr
  cases he1 : fitsP a
  case false =>
    rw [he1] at hel hr
    rw [if_pos rfl] at hr
    subst hr
    clear hpe hbx hbr hA hB hasc hascA hba
    go_enter Tryz.func41, Tryz.ntmps41
    go_wp2_with fail
    refine hck.out.mono ?_
    rintro e w1 ⟨rfl, hv1⟩
    have hG1 := hb0.trans (hv1.mono hb0.size)
    have ha1 := blk_below hbaH.out hv1
    have a0 := blk_cell ha1 0
    have a1 := blk_cell ha1 1
    have a2 := blk_cell ha1 2
    have a3 := blk_cell ha1 3
    have a4 := blk_cell ha1 4
    have a5 := blk_cell ha1 5
    have a6 := blk_cell ha1 6
    simp at a0 a1 a2 a3 a4 a5 a6
    have hlta := blk_lt ha1
    go_wp2_with fail
    refine (hnt.out _).mono ?_
    rintro e w2 ⟨rfl, hv2⟩
    have hG := hG1.trans (hv2.mono hG1.size)
    have ha2 := blk_below ha1 hv2
    clear a0 a1 a2 a3 a4 a5 a6 hlta
    have a0 := blk_cell ha2 0
    have a1 := blk_cell ha2 1
    have a2 := blk_cell ha2 2
    have a3 := blk_cell ha2 3
    have a4 := blk_cell ha2 4
    have a5 := blk_cell ha2 5
    have a6 := blk_cell ha2 6
    simp at a0 a1 a2 a3 a4 a5 a6
    have hlta := blk_lt ha2
    go_wp2_with fail
    refine (hel.out _).mono ?_
    rintro e w3 ⟨rfl, hv3⟩
    have hG3 := hG.trans (hv3.mono hG.size)
    have hr1 := blk_below (blk_below (blk_below hbrH.out hv1) hv2) hv3
    have hlr1 := blk_lt hr1
    clear r0 r1 hfr
    have r0 := blk_cell hr1 0
    have r1 := blk_cell hr1 1
    have hfr := blk_frozen hr1
    simp at r0 r1
    have hGs : Below w.heap.size w ((w3.setCell ⟨w.heap.size + 1 + 1, 0, none⟩ (.slice none 0 0)).setCell ⟨w.heap.size + 1 + 1, 1, none⟩ (.slice none 0 0)) := (hG3.setCell (by dsimp only; omega) _).setCell (by dsimp only; omega) _
    go_wp2
    exact bodyPost_ret (v := .tuple #[.agg #[.slice none 0 0, .slice none 0 0], .int .i64 3]) (by simp [results, Tryz.results41, go_sem, r0, r1]) rfl (PostMT.nil_ hGs)
  rw [he1] at hel hr
  rw [if_neg (by simp)] at hr
  have hAr := Lib.hid (fun w' (h : Below w.heap.size w w') => hA.below h)
  have hBr := Lib.hid (fun w' (h : Below w.heap.size w w') => hB.below h)
  have htg := Lib.hid (fun w' (h : Below w.heap.size w w') => mtags_any A n c xs w' ((hA.below h).more h.size) (by omega))
  have hbs := Lib.hid (fun T c' w' (h : RdT w' w'.heap.size T n (xs.map Prod.fst)) => bsT_gen 61 #[] (fun _ _ => by kernel_rfl) w'.heap.size T n c' (xs.map Prod.fst) a.1 w' h (by omega) hascA (fun x _ w'' _ => pcmpt_any x a.1 w'') (Nat.le_refl _))
  have hgo := Lib.hid (fun w' (h : Below w.heap.size w w') => mhas_any B m d gs a.1 w' ((hB.below h).more h.size) (by omega) hasc)
  have hPl := posT_le (xs.map Prod.fst) a.1
  rw [List.length_map, hxl] at hPl
  have hins : Hid (insK Prod.fst xs a = xs.take (posT (xs.map Prod.fst) a.1) ++ a :: xs.drop (posT (xs.map Prod.fst) a.1)) := Lib.hid rfl
  generalize posT (xs.map Prod.fst) a.1 = P at hbs hPl hins
  generalize insK Prod.fst xs a = I at hr hins
  generalize (xs.map Prod.fst).contains a.1 = b at hbs hr
  generalize hLx : xs.map Prod.fst = L at htg hbs
  generalize gs.contains a.1 = q at hgo hr
  have hrH := Lib.hid hr
  have hxlH := Lib.hid hxl
  have hzW := hb0.size
  clear hpe hbx hba hbr hA hB hx hg hl hasc hascA hr hxl ha hal hLx
  go_enter Tryz.func41, Tryz.ntmps41
  go_wp2_with fail
  refine hck.out.mono ?_
  rintro e w1 ⟨rfl, hv1⟩
  have hG1 := hb0.trans (hv1.mono hb0.size)
  have ha1 := blk_below hbaH.out hv1
  have a0 := blk_cell ha1 0
  have a1 := blk_cell ha1 1
  have a2 := blk_cell ha1 2
  have a3 := blk_cell ha1 3
  have a4 := blk_cell ha1 4
  have a5 := blk_cell ha1 5
  have a6 := blk_cell ha1 6
  simp at a0 a1 a2 a3 a4 a5 a6
  have hlta := blk_lt ha1
  go_wp2_with fail
  refine (hnt.out _).mono ?_
  rintro e w2 ⟨rfl, hv2⟩
  have hG2 := hG1.trans (hv2.mono hG1.size)
  have ha2 := blk_below ha1 hv2
  clear a0 a1 a2 a3 a4 a5 a6 hlta
  have a0 := blk_cell ha2 0
  have a1 := blk_cell ha2 1
  have a2 := blk_cell ha2 2
  have a3 := blk_cell ha2 3
  have a4 := blk_cell ha2 4
  have a5 := blk_cell ha2 5
  have a6 := blk_cell ha2 6
  simp at a0 a1 a2 a3 a4 a5 a6
  have hlta := blk_lt ha2
  go_wp2_with fail
  refine (hel.out _).mono ?_
  rintro e w3 ⟨rfl, hv3⟩
  have hG3 := hG2.trans (hv3.mono hG2.size)
  have hs3 := blk_below (blk_below (blk_below hbxH.out hv1) hv2) hv3
  have hr3 := blk_below (blk_below (blk_below hbrH.out hv1) hv2) hv3
  have ha3 := blk_below ha2 hv3
  clear r0 r1 hfr s0 s1 hltx hltr hck hnt hel hbxH hbaH hbrH a0 a1 a2 a3 a4 a5 a6 hlta ha1 ha2 hv1 hv2 hv3
  have hltx := blk_lt hs3
  have s0 := blk_cell hs3 0
  have s1 := blk_cell hs3 1
  simp at s0 s1
  have a0 := blk_cell ha3 0
  have a1 := blk_cell ha3 1
  have a2 := blk_cell ha3 2
  have a3 := blk_cell ha3 3
  have a4 := blk_cell ha3 4
  have a5 := blk_cell ha3 5
  have a6 := blk_cell ha3 6
  simp at a0 a1 a2 a3 a4 a5 a6
  have hlta := blk_lt ha3
  have hsH := Lib.hid hs3
  have hrbH := Lib.hid hr3
  have haH := Lib.hid ha3
  clear hs3 hr3 ha3
  have hz3 := hG3.size
  go_upto_region 8 with (fail)
  refine wp_region_M (fun w' => KQ w3.heap.size w3 w') (fun _ => True) 99 (by kernel_rfl) (kq (Below.refl _ _).drew) trivial ?_
  intro hcl
  have hC : KQ w3.heap.size w3 w3.drew := kq (Below.refl _ _).drew
  have hE := trivial
  (refine wpM_take (i := 0) (v := ?_) rfl (by kernel_rfl) (by kernel_rfl) (by kernel_rfl) (by decide) (fun _ _ _ h => h) hcl hC (fun _ => hE) (Or.inl ⟨by rfl, ?_⟩) ?_; rotate_left; (· (intro w hSw; (try dsimp only at hSw); go_simp; (try with_reducible rfl))); clear hcl; intro hcl; (try simp only [Act.put, List.getElem_toArray, List.getElem_cons_zero, List.setIfInBounds_toArray, List.set_cons_zero, List.set_cons_succ]))
  (refine wpM_take (i := 1) (v := ?_) rfl (by kernel_rfl) (by kernel_rfl) (by kernel_rfl) (by decide) (fun _ _ _ h => h) hcl hC (fun _ => hE) (Or.inl ⟨by rfl, ?_⟩) ?_; rotate_left; (· (intro w hSw; (try dsimp only at hSw); go_simp; (try with_reducible rfl))); clear hcl; intro hcl; (try simp only [Act.put, List.getElem_toArray, List.getElem_cons_zero, List.getElem_cons_succ, List.setIfInBounds_toArray, List.set_cons_zero, List.set_cons_succ]))
  (refine wpM_take (i := 3) (v := ?_) rfl (by kernel_rfl) (by kernel_rfl) (by kernel_rfl) (by decide) (fun _ _ _ h => h) hcl hC (fun _ => hE) (Or.inl ⟨by rfl, ?_⟩) ?_; rotate_left; (· (intro w hSw; (try dsimp only at hSw); go_simp; (try with_reducible rfl))); clear hcl; intro hcl; (try simp only [Act.put, List.getElem_toArray, List.getElem_cons_zero, List.getElem_cons_succ, List.setIfInBounds_toArray, List.set_cons_zero, List.set_cons_succ]))
  (refine wpM_take (i := 4) (v := ?_) rfl (by kernel_rfl) (by kernel_rfl) (by kernel_rfl) (by decide) (fun _ _ _ h => h) hcl hC (fun _ => hE) (Or.inl ⟨by rfl, ?_⟩) ?_; rotate_left; (· (intro w hSw; (try dsimp only at hSw); go_simp; (try with_reducible rfl))); clear hcl; intro hcl; (try simp only [Act.put, List.getElem_toArray, List.getElem_cons_zero, List.getElem_cons_succ, List.setIfInBounds_toArray, List.set_cons_zero, List.set_cons_succ]))
  refine wpM_only (i := 2) rfl (by kernel_rfl) hcl (fun K hK => ?_)
  go_simp
  refine (htg.out _ hG3.drew).mono ?_
  rintro e v1 ⟨T1, c1, rfl, o1, hv1⟩
  have hC1 : KQ w3.heap.size w3 v1 := kq_call hC (Nat.le_refl _) hv1
  refine hK.out _ _ hC1 trivial ?_
  clear hK K
  clear hcl
  intro hcl
  (try simp only [Act.put, List.getElem_toArray, List.getElem_cons_zero, List.getElem_cons_succ, List.setIfInBounds_toArray, List.set_cons_zero, List.set_cons_succ])
  clear hC
  have hC := hC1
  refine wpM_only (i := 5) rfl (by kernel_rfl) hcl (fun K hK => ?_)
  go_simp
  refine (hbs.out T1 c1 v1 o1.rd.1).mono ?_
  rintro e w4 ⟨rfl, hv2⟩
  have hC2 : KQ w3.heap.size w3 w4 := kq_call hC (Nat.le_refl _) hv2
  refine hK.out _ _ hC2 trivial ?_
  clear hK K
  clear hcl
  intro hcl
  (try simp only [Act.put, List.getElem_toArray, List.getElem_cons_zero, List.getElem_cons_succ, List.setIfInBounds_toArray, List.set_cons_zero, List.set_cons_succ])
  clear hC
  have hC := hC2
  (refine wpM_take (i := 6) (v := ?_) rfl (by kernel_rfl) (by kernel_rfl) (by kernel_rfl) (by decide) (fun _ _ _ h => h) hcl hC (fun _ => hE) (Or.inl ⟨by rfl, ?_⟩) ?_; rotate_left; (· (intro w hSw; (try dsimp only at hSw); go_simp; (try with_reducible rfl))); clear hcl; intro hcl; (try simp only [Act.put, List.getElem_toArray, List.getElem_cons_zero, List.getElem_cons_succ, List.setIfInBounds_toArray, List.set_cons_zero, List.set_cons_succ]))
  (refine wpM_take (i := 7) (v := ?_) rfl (by kernel_rfl) (by kernel_rfl) (by kernel_rfl) (by decide) (fun _ _ _ h => h) hcl hC (fun _ => hE) (Or.inl ⟨by rfl, ?_⟩) ?_; rotate_left; (· (intro w hSw; (try dsimp only at hSw); go_simp; (try with_reducible rfl))); clear hcl; intro hcl; (try simp only [Act.put, List.getElem_toArray, List.getElem_cons_zero, List.getElem_cons_succ, List.setIfInBounds_toArray, List.set_cons_zero, List.set_cons_succ]))
  (refine wpM_take (i := 8) (v := ?_) rfl (by kernel_rfl) (by kernel_rfl) (by kernel_rfl) (by decide) (fun _ _ _ h => h) hcl hC (fun _ => hE) (Or.inl ⟨by rfl, ?_⟩) ?_; rotate_left; (· (intro w hSw; (try dsimp only at hSw); go_simp; (try with_reducible rfl))); clear hcl; intro hcl; (try simp only [Act.put, List.getElem_toArray, List.getElem_cons_zero, List.getElem_cons_succ, List.setIfInBounds_toArray, List.set_cons_zero, List.set_cons_succ]))
  (refine wpM_take (i := 9) (v := ?_) rfl (by kernel_rfl) (by kernel_rfl) (by kernel_rfl) (by decide) (fun _ _ _ h => h) hcl hC (fun _ => hE) (Or.inl ⟨by rfl, ?_⟩) ?_; rotate_left; (· (intro w hSw; (try dsimp only at hSw); go_simp; (try with_reducible rfl))); clear hcl; intro hcl; (try simp only [Act.put, List.getElem_toArray, List.getElem_cons_zero, List.getElem_cons_succ, List.setIfInBounds_toArray, List.set_cons_zero, List.set_cons_succ]))
  (refine wpM_take (i := 10) (v := ?_) rfl (by kernel_rfl) (by kernel_rfl) (by kernel_rfl) (by decide) (fun _ _ _ h => h) hcl hC (fun _ => hE) (Or.inl ⟨by rfl, ?_⟩) ?_; rotate_left; (· (intro w hSw; (try dsimp only at hSw); go_simp; (try with_reducible rfl))); clear hcl; intro hcl; (try simp only [Act.put, List.getElem_toArray, List.getElem_cons_zero, List.getElem_cons_succ, List.setIfInBounds_toArray, List.set_cons_zero, List.set_cons_succ]))
  refine wpM_done (by kernel_rfl) ?_
  clear hcl hE o1 hv1 hC1 hC2
  try simp only [Act.put, List.getElem_toArray, List.getElem_cons_zero, List.getElem_cons_succ, List.setIfInBounds_toArray, List.set_cons_zero, List.set_cons_succ]
  have hv4 := hC.1
  have hG4 := hG3.trans (hv4.mono hz3)
  have hs4 := blk_below hsH.out hv4
  have hr4 := blk_below hrbH.out hv4
  have ha4 := blk_below haH.out hv4
  clear hC s0 s1 hltx a0 a1 a2 a3 a4 a5 a6 hlta hsH hrbH haH hbs htg hv4
  have hltx := blk_lt hs4
  have s0 := blk_cell hs4 0
  have s1 := blk_cell hs4 1
  simp at s0 s1
  have a0 := blk_cell ha4 0
  have a1 := blk_cell ha4 1
  have a2 := blk_cell ha4 2
  have a3 := blk_cell ha4 3
  have a4 := blk_cell ha4 4
  have a5 := blk_cell ha4 5
  have a6 := blk_cell ha4 6
  simp at a0 a1 a2 a3 a4 a5 a6
  have hlta := blk_lt ha4
  have hltr4 := blk_lt hr4
  have hsH := Lib.hid hs4
  have hrbH := Lib.hid hr4
  have haH := Lib.hid ha4
  clear hs4 hr4 ha4
  have hz4 := hG4.size
  go_wp2_with fail
  refine (mown_any A n c xs B m d gs w4 ((hAr.out _ hG4).more hz4) ((hBr.out _ hG4).more hz4) hn hm).mono ?_
  rintro e v5 ⟨A9, c9, B9, d9, rfl, oA, oB, hv5⟩
  have hzv5 := hv5.size
  go_upto_region 10 with (fail)
  obtain ⟨w5, hwn⟩ : ∃ w9, v5.alloc (.cells #[.slice A9 n c9, .slice B9 m d9] 62) = w9 := ⟨_, rfl⟩
  have hbX : w5.heap[v5.heap.size]? = some (.cells #[.slice A9 n c9, .slice B9 m d9] 62 (0, 0)) := by rw [← hwn]; exact heap_at _ _ rfl
  have hb5 : Below v5.heap.size v5 w5 := by rw [← hwn]; exact (Below.refl _ v5).alloc (Nat.le_refl _) _
  rw [hwn]
  clear hwn
  have hB9 : Below w4.heap.size w4 w5 := hv5.trans (hb5.mono hzv5)
  have hG5 : Below w.heap.size w w5 := hG4.trans (hB9.mono hz4)
  have hs5 := blk_below hsH.out hB9
  have hr5 := blk_below hrbH.out hB9
  have ha5 := blk_below haH.out hB9
  have hz5 := hB9.size
  replace oA := oA.below hb5
  replace oB := oB.below hb5
  clear s0 s1 hltx a0 a1 a2 a3 a4 a5 a6 hlta hb5 hv5
  cases b
  case true =>
    have hlo := blk_lt hbX
    have b0 := blk_cell hbX 0
    have b1 := blk_cell hbX 1
    have hltr := blk_lt hr5
    have r0 := blk_cell hr5 0
    have r1 := blk_cell hr5 1
    simp at b0 b1 r0 r1
    have hfr := blk_frozen hr5
    have ha9 := (oA.set_blk hr5 (by decide) 0 (.slice A9 n c9)).set_blk (blk_set hr5 0 (.slice A9 n c9)) (by decide) 1 (.slice B9 m d9)
    have hb9 := (oB.set_blk hr5 (by decide) 0 (.slice A9 n c9)).set_blk (blk_set hr5 0 (.slice A9 n c9)) (by decide) 1 (.slice B9 m d9)
    have hGs : Below w.heap.size w ((w5.setCell ⟨w.heap.size + 1 + 1, 0, none⟩ (.slice A9 n c9)).setCell ⟨w.heap.size + 1 + 1, 1, none⟩ (.slice B9 m d9)) := (hG5.setCell (by dsimp only; omega) _).setCell (by dsimp only; omega) _
    have oH := Lib.hid (And.intro ha9 hb9)
    clear ha9 hb9
    go_wp2
    have hr := hrH.out
    rw [if_pos (by simp)] at hr
    subst hr
    exact bodyPost_ret (v := .tuple #[.agg #[.slice A9 n c9, .slice B9 m d9], .int .i64 0]) (by simp [results, Tryz.results41, go_sem, r0, r1]) rfl ⟨A9, n, c9, B9, m, d9, rfl, oH.out.1.rd.1, oH.out.2.rd.1, by omega, by omega, oH.out.1.rd.2.2.1, oH.out.1.rd.2.2.2, oH.out.2.rd.2.2.1, oH.out.2.rd.2.2.2, hGs, oH.out.1.ty, oH.out.2.ty⟩
  case false =>
    have hltx := blk_lt hs5
    have s0 := blk_cell hs5 0
    have s1 := blk_cell hs5 1
    simp at s0 s1
    have a0 := blk_cell ha5 0
    have a1 := blk_cell ha5 1
    have a2 := blk_cell ha5 2
    have a3 := blk_cell ha5 3
    have a4 := blk_cell ha5 4
    have a5 := blk_cell ha5 5
    have a6 := blk_cell ha5 6
    simp at a0 a1 a2 a3 a4 a5 a6
    have hlta := blk_lt ha5
    go_wp2_with fail
    refine (hgo.out w5 hG5).mono ?_
    rintro e w6 ⟨rfl, hv6⟩
    have hG6 := hG5.trans (hv6.mono hG5.size)
    have hs6 := blk_below hs5 hv6
    have hr6 := blk_below hr5 hv6
    have ha6 := blk_below ha5 hv6
    have hx6 := blk_below hbX hv6
    have oA6 := oA.below hv6
    have oB6 := oB.below hv6
    have hz6 := hv6.size
    clear s0 s1 hltx a0 a1 a2 a3 a4 a5 a6 hlta hgo
    cases q
    case true =>
      have hlo := blk_lt hx6
      have b0 := blk_cell hx6 0
      have b1 := blk_cell hx6 1
      have hltr := blk_lt hr6
      have r0 := blk_cell hr6 0
      have r1 := blk_cell hr6 1
      simp at b0 b1 r0 r1
      have hfr := blk_frozen hr6
      have ha9 := (oA6.set_blk hr6 (by decide) 0 (.slice A9 n c9)).set_blk (blk_set hr6 0 (.slice A9 n c9)) (by decide) 1 (.slice B9 m d9)
      have hb9 := (oB6.set_blk hr6 (by decide) 0 (.slice A9 n c9)).set_blk (blk_set hr6 0 (.slice A9 n c9)) (by decide) 1 (.slice B9 m d9)
      have hGs : Below w.heap.size w ((w6.setCell ⟨w.heap.size + 1 + 1, 0, none⟩ (.slice A9 n c9)).setCell ⟨w.heap.size + 1 + 1, 1, none⟩ (.slice B9 m d9)) := (hG6.setCell (by dsimp only; omega) _).setCell (by dsimp only; omega) _
      have oH := Lib.hid (And.intro ha9 hb9)
      clear ha9 hb9
      go_wp2
      have hr := hrH.out
      rw [if_pos (by simp)] at hr
      subst hr
      exact bodyPost_ret (v := .tuple #[.agg #[.slice A9 n c9, .slice B9 m d9], .int .i64 0]) (by simp [results, Tryz.results41, go_sem, r0, r1]) rfl ⟨A9, n, c9, B9, m, d9, rfl, oH.out.1.rd.1, oH.out.2.rd.1, by omega, by omega, oH.out.1.rd.2.2.1, oH.out.1.rd.2.2.2, oH.out.2.rd.2.2.1, oH.out.2.rd.2.2.2, hGs, oH.out.1.ty, oH.out.2.ty⟩
    case false =>
      have hr := hrH.out
      rw [if_neg (by simp)] at hr
      have hltx := blk_lt hs6
      have s0 := blk_cell hs6 0
      have s1 := blk_cell hs6 1
      simp at s0 s1
      by_cases hn0 : n = 4096
      · rw [if_pos hn0] at hr
        subst hr
        have hnd : ((n : Int) == 4096) = true := by rw [beq_iff_eq]; omega
        have hnd2 : (n : Int) = 4096 := by omega
        clear hrH hn0
        have hltr := blk_lt hr6
        have r0 := blk_cell hr6 0
        have r1 := blk_cell hr6 1
        have hfr := blk_frozen hr6
        simp at r0 r1
        have hGs : Below w.heap.size w ((w6.setCell ⟨w.heap.size + 1 + 1, 0, none⟩ (.slice none 0 0)).setCell ⟨w.heap.size + 1 + 1, 1, none⟩ (.slice none 0 0)) := (hG6.setCell (by dsimp only; omega) _).setCell (by dsimp only; omega) _
        go_wp2
        exact bodyPost_ret (v := .tuple #[.agg #[.slice none 0 0, .slice none 0 0], .int .i64 4]) (by simp [results, Tryz.results41, go_sem, r0, r1]) rfl (PostMT.nil_ hGs)
      · rw [if_neg hn0] at hr
        have hrH := Lib.hid hr
        have hnd : ((n : Int) == 4096) = false := by rw [beq_eq_false_iff_ne]; omega
        have hnd2 : ¬ (n : Int) = 4096 := by omega
        have a0 := blk_cell ha6 0
        have a1 := blk_cell ha6 1
        have a2 := blk_cell ha6 2
        have a3 := blk_cell ha6 3
        have a4 := blk_cell ha6 4
        have a5 := blk_cell ha6 5
        have a6 := blk_cell ha6 6
        simp at a0 a1 a2 a3 a4 a5 a6
        have hlta := blk_lt ha6
        have b0 := blk_cell hx6 0
        have b1 := blk_cell hx6 1
        simp at b0 b1
        have hlo := blk_lt hx6
        have hx6H := Lib.hid hx6
        have hr6H := Lib.hid hr6
        clear hr hs6 ha6 hx6 hr6 hs5 hr5 ha5 hbX
        go_wp2_with fail
        have hbO : Below w6.heap.size w6 (w6.alloc (.cells #[.int .i64 a.1.1.1, .int .u32 a.1.1.2, .int .i64 a.1.2, .string (bs a.2.1), .int .i64 a.2.2.1, .int .u32 a.2.2.2.1, .int .i64 a.2.2.2.2] 127)) := (Below.refl _ w6).alloc (Nat.le_refl _) _
        refine (insP_any w4.heap.size A9 n c9 P xs a w6.heap.size _ (oA6.below hbO) hn hPl (heap_at _ _ rfl) (fun q hq => by have := (oA6.block q hq).2; omega) (by simp; omega)).mono ?_
        rintro e w7 ⟨A7, c7, rfl, o7, hg7⟩
        have hrow : ∀ q, (Value.slice A9 n c9).ownBlock = some q → w4.heap.size ≤ q := fun q hq => (oA6.block q hq).1
        have hx7 : w7.heap[v5.heap.size]? = some (.cells #[.slice A9 n c9, .slice B9 m d9] 62 (0, 0)) := (hg7.block _ (by simp; omega) (fun e => (oA6.below hbO).ne_blk (blk_below hx6H.out hbO) (by decide) e.symm)).trans (blk_below hx6H.out hbO)
        have hr7 : w7.heap[w.heap.size + 1 + 1]? = some (.cells #[.slice none 0 0, .slice none 0 0] 62 (0, 0)) := (hg7.block _ (by simp; have := blk_lt hr6H.out; omega) (fun e => by have := hrow _ e.symm; omega)).trans (blk_below hr6H.out hbO)
        have oB7 : Ow w7 w4.heap.size 45 3 (.slice B9 m d9) (gs.map Tm.enc) := (oB6.below hbO).other (oA6.below hbO) (by decide) hg7
        have hG7 : Below w.heap.size w w7 := (hG6.trans (hbO.mono hG6.size)).grown hg7 (by simp; omega) (fun q hq => by have := hrow q hq; omega)
        rw [← hins.out] at o7
        clear s0 s1 hltx a0 a1 a2 a3 a4 a5 a6 hlta b0 b1 hlo hg7 hrow hbO
        have hlo := blk_lt hx7
        have b0 := blk_cell hx7 0
        have b1 := blk_cell hx7 1
        have hltr := blk_lt hr7
        have r0 := blk_cell hr7 0
        have r1 := blk_cell hr7 1
        simp at b0 b1 r0 r1
        have hfo := blk_frozen hx7
        have hfr := blk_frozen hr7
        have hne : w.heap.size + 1 + 1 ≠ v5.heap.size := by omega
        have hne2 : v5.heap.size ≠ w.heap.size + 1 + 1 := by omega
        have hB1 : Below w.heap.size w (w7.setCell ⟨v5.heap.size, 0, none⟩ (.slice A7 (n + 1) c7)) := hG7.setCell (by dsimp only; omega) _
        have hr9 : (w7.setCell ⟨v5.heap.size, 0, none⟩ (.slice A7 (n + 1) c7)).heap[w.heap.size + 1 + 1]? = some (.cells #[.slice none 0 0, .slice none 0 0] 62 (0, 0)) := (((Below.refl v5.heap.size w7).setCell (Nat.le_refl _) _).block _ (by omega)).trans hr7
        have ha9 := ((o7.set_blk hx7 (by decide) 0 (.slice A7 (n + 1) c7)).set_blk hr9 (by decide) 0 (.slice A7 (n + 1) c7)).set_blk (blk_set hr9 0 _) (by decide) 1 (.slice B9 m d9)
        have hb9 := ((oB7.set_blk hx7 (by decide) 0 (.slice A7 (n + 1) c7)).set_blk hr9 (by decide) 0 (.slice A7 (n + 1) c7)).set_blk (blk_set hr9 0 _) (by decide) 1 (.slice B9 m d9)
        have oH := Lib.hid (And.intro ha9 hb9)
        have hx7H := Lib.hid hx7
        have hr7H := Lib.hid hr7
        have hB1H := Lib.hid hB1
        clear ha9 hb9 hx7 hr7 hr9 hB1
        go_wp2
        have hr := hrH.out
        subst hr
        exact bodyPost_ret (v := .tuple #[.agg #[.slice A7 (n + 1) c7, .slice B9 m d9], .int .i64 0]) (by simp [results, Tryz.results41, go_sem, r0, r1]) rfl ⟨A7, n + 1, c7, B9, m, d9, rfl, oH.out.1.rd.1, oH.out.2.rd.1, by omega, by omega, oH.out.1.rd.2.2.1, oH.out.1.rd.2.2.2, oH.out.2.rd.2.2.1, oH.out.2.rd.2.2.2, (hB1H.out.setCell (by dsimp only; omega) _).setCell (by dsimp only; omega) _, oH.out.1.ty, oH.out.2.ty⟩
end Go.Proofs.YtffnpfponnhddaaGreat
