/- Drop of sets: the set behind some additions' being taken away. -/
import Derived.Test.YtffnpfponnhddaaGreatN17
import Derived.Test.YtffnpfponnhddaaGreatM15
namespace Go.Proofs.YtffnpfponnhddaaGreat
open Go.RowKit

def dropO (xs : List Am) (gs l : List Tm) : (List Am × List Tm) × Int :=
  if oErr xs gs ≠ 0 then (([], []), oErr xs gs) else if 4096 < l.length then (([], []), 8) else if l.any (fun t => !chkT t) then (([], []), 2) else if 4096 < (dropG gs l).length then (([], []), 4)
  else ((xs.filter fun a => !(dropG gs l).contains a.1, dropG gs l), 0)
set_option maxRecDepth 100000 in
theorem odrop1_any (ob : Nat) (A : Option Addr) (n c : Nat) (B : Option Addr) (m d : Nat) (gs : List Tm) (a : Am) (w : World) (hs : w.heap[ob]? = some (.cells #[.slice A n c, .slice B m d] 59 (0, 0))) (hB : RdT w w.heap.size B m gs) (hm : m ≤ 1099511627776) (hasc : ascTP gs) :
    Calls Tryz.prog 77 #[.agg #[.int .i64 a.1.1.1, .int .u32 a.1.1.2, .int .i64 a.1.2, .string (bs a.2)], .pointer (some ⟨ob, 0, none⟩)] w fun e w' => e = .returned (.bool (gs.contains a.1)) ∧ Below w.heap.size w w' := by
  have hb0 : Below w.heap.size w (w.alloc (.cells #[.int .i64 a.1.1.1, .int .u32 a.1.1.2, .int .i64 a.1.2, .string (bs a.2)] 123)) := (Below.refl _ w).alloc (Nat.le_refl _) _
  have hbx : (w.alloc (.cells #[.int .i64 a.1.1.1, .int .u32 a.1.1.2, .int .i64 a.1.2, .string (bs a.2)] 123)).heap[w.heap.size]? = some (.cells #[.int .i64 a.1.1.1, .int .u32 a.1.1.2, .int .i64 a.1.2, .string (bs a.2)] 123 (0, 0)) := heap_at _ _ rfl
  have hs0 := blk_below hs hb0
  generalize hW : w.alloc (.cells #[.int .i64 a.1.1.1, .int .u32 a.1.1.2, .int .i64 a.1.2, .string (bs a.2)] 123) = W at hb0 hbx hs0
  have hltx := blk_lt hbx
  have hlts := blk_lt hs0
  have p0 := blk_cell hbx 0
  have p1 := blk_cell hbx 1
  have p2 := blk_cell hbx 2
  have p3 := blk_cell hbx 3
  have s0 := blk_cell hs0 0
  have s1 := blk_cell hs0 1
  simp at p0 p1 p2 p3 s0 s1
  have hc := Lib.hid (fun w' (h : Below w.heap.size w w') => ogone_any A n c [] B m d gs a.1 w' ((hB.below h).more h.size) hm hasc)
  generalize gs.contains a.1 = r at hc ⊢
  clear hbx hs0 hasc
  go_enter Tryz.func77, Tryz.ntmps77
  go_wp2_with fail
  refine (hc.out _ hb0).mono ?_
  rintro e w2 ⟨rfl, hb⟩
  have hG := hb0.trans (hb.mono hb0.size)
  go_wp2
  go_ret
  exact ⟨rfl, hG⟩
set_option maxRecDepth 100000 in
set_option maxHeartbeats 2000000 in
theorem odrop_any (A : Option Addr) (n c : Nat) (xs : List Am) (B : Option Addr) (m d : Nat) (gs : List Tm) (C : Option Addr) (k f : Nat) (l : List Tm) (w : World) (hA : RdA w w.heap.size A n xs) (hB : RdT w w.heap.size B m gs) (hC : RdT w w.heap.size C k l) (hn : n ≤ 100000) (hm : m ≤ 100000) (hk : k ≤ 100000) (hx : ∀ a ∈ xs, a.wf) (hg : ∀ t ∈ gs, t.wf) (hlw : ∀ t ∈ l, t.wf) (hl : ∀ a ∈ xs, a.2.length ≤ maxLen) :
    Calls Tryz.prog 40 #[.agg #[.slice A n c, .slice B m d], .slice C k f] w (PostO w (dropO xs gs l).1 (dropO xs gs l).2) := by
  have hb0 : Below w.heap.size w ((w.alloc (.cells #[.slice A n c, .slice B m d] 59)).alloc (.cells #[.slice none 0 0, .slice none 0 0] 59)) := ((Below.refl _ w).alloc (Nat.le_refl _) _).alloc (by simp) _
  have hbx : ((w.alloc (.cells #[.slice A n c, .slice B m d] 59)).alloc (.cells #[.slice none 0 0, .slice none 0 0] 59)).heap[w.heap.size]? = some (.cells #[.slice A n c, .slice B m d] 59 (0, 0)) := heap_old _ (by simp) (heap_at _ _ rfl)
  have hbr : ((w.alloc (.cells #[.slice A n c, .slice B m d] 59)).alloc (.cells #[.slice none 0 0, .slice none 0 0] 59)).heap[w.heap.size + 1]? = some (.cells #[.slice none 0 0, .slice none 0 0] 59 (0, 0)) := heap_at _ _ (by simp)
  generalize hW : ((w.alloc (.cells #[.slice A n c, .slice B m d] 59)).alloc (.cells #[.slice none 0 0, .slice none 0 0] 59)) = W at hb0 hbx hbr
  have hbxH := Lib.hid hbx
  have hbrH := Lib.hid hbr
  have hltx := blk_lt hbx
  have hltr := blk_lt hbr
  have s0 := blk_cell hbx 0
  have s1 := blk_cell hbx 1
  have r0 := blk_cell hbr 0
  have r1 := blk_cell hbr 1
  simp at s0 s1 r0 r1
  have hfr := blk_frozen hbr
  have hck := Lib.hid (ocheck_any A n c xs B m d gs W ((hA.below hb0).more hb0.size) ((hB.below hb0).more hb0.size) (by simp [maxLen]; omega) (by simp [maxLen]; omega) hx hg hl)
  have hct := Lib.hid (fun w' (h : Below w.heap.size w w') => cfT_gen 68 #[] (fun t => !chkT t) (fun _ _ => by kernel_rfl) w'.heap.size C k f l w' ((hC.below h).more h.size) (by simp [maxLen]; omega) (fun x hxm w'' _ => onotag_any x (hlw x hxm) w'') (Nat.le_refl _))
  generalize hr : dropO xs gs l = out
  unfold dropO at hr
  have hkl := hC.len
  rw [hkl] at hr
  generalize hpe : oErr xs gs = p at hck hr
  by_cases hp : p = 0
  case neg =>
    rw [if_pos hp] at hr
    subst hr
    have hpn : (p != 0) = true := by simpa using hp
    clear hpe hp hbx hbr hA hB hC hct
    go_enter Tryz.func40, Tryz.ntmps40
    go_wp2_with fail
    refine hck.out.mono ?_
    rintro e w1 ⟨rfl, hv1⟩
    have hG := hb0.trans (hv1.mono hb0.size)
    have hr1 := blk_below hbrH.out hv1
    have hlr1 := blk_lt hr1
    clear r0 r1 hfr
    have r0 := blk_cell hr1 0
    have r1 := blk_cell hr1 1
    have hfr := blk_frozen hr1
    simp at r0 r1
    have hGs : Below w.heap.size w ((w1.setCell ⟨w.heap.size + 1, 0, none⟩ (.slice none 0 0)).setCell ⟨w.heap.size + 1, 1, none⟩ (.slice none 0 0)) := (hG.setCell (by dsimp only; omega) _).setCell (by dsimp only; omega) _
    go_wp2
    exact bodyPost_ret (v := .tuple #[.agg #[.slice none 0 0, .slice none 0 0], .int .i64 p]) (by simp [results, Tryz.results40, go_sem, r0, r1]) rfl (PostO.nil_ hGs)
  subst hp
  rw [if_neg (by simp)] at hr
  obtain ⟨hn4, hm4, _, _, _, hasc, _⟩ := sErr_zero.1 hpe
  rw [List.length_map, hA.len] at hn4
  rw [hB.len] at hm4
  by_cases hk4 : 4096 < k
  case pos =>
    rw [if_pos hk4] at hr
    subst hr
    have hdk : decide ((4096 : Int) < (k : Int)) = true := decide_eq_true (by omega)
    clear hpe hbx hbr hA hB hC hct hasc
    go_enter Tryz.func40, Tryz.ntmps40
    go_wp2_with fail
    refine hck.out.mono ?_
    rintro e w1 ⟨rfl, hv1⟩
    have hG := hb0.trans (hv1.mono hb0.size)
    have hr1 := blk_below hbrH.out hv1
    have hlr1 := blk_lt hr1
    clear r0 r1 hfr
    have r0 := blk_cell hr1 0
    have r1 := blk_cell hr1 1
    have hfr := blk_frozen hr1
    simp at r0 r1
    have hGs : Below w.heap.size w ((w1.setCell ⟨w.heap.size + 1, 0, none⟩ (.slice none 0 0)).setCell ⟨w.heap.size + 1, 1, none⟩ (.slice none 0 0)) := (hG.setCell (by dsimp only; omega) _).setCell (by dsimp only; omega) _
    go_wp2
    exact bodyPost_ret (v := .tuple #[.agg #[.slice none 0 0, .slice none 0 0], .int .i64 8]) (by simp [results, Tryz.results40, go_sem, r0, r1]) rfl (PostO.nil_ hGs)
  rw [if_neg hk4] at hr
  have hdk : decide ((4096 : Int) < (k : Int)) = false := decide_eq_false (by omega)
  cases hb2 : l.any (fun t => !chkT t)
  case true =>
    rw [hb2] at hct hr
    rw [if_pos rfl] at hr
    subst hr
    clear hpe hbx hbr hA hB hC hasc
    go_enter Tryz.func40, Tryz.ntmps40
    go_wp2_with fail
    refine hck.out.mono ?_
    rintro e w1 ⟨rfl, hv1⟩
    have hG1 := hb0.trans (hv1.mono hb0.size)
    go_wp2_with fail
    refine (hct.out _ hG1).mono ?_
    rintro e w2 ⟨rfl, hv2⟩
    have hG := hG1.trans (hv2.mono hG1.size)
    have hr1 := blk_below (blk_below hbrH.out hv1) hv2
    have hlr1 := blk_lt hr1
    clear r0 r1 hfr
    have r0 := blk_cell hr1 0
    have r1 := blk_cell hr1 1
    have hfr := blk_frozen hr1
    simp at r0 r1
    have hGs : Below w.heap.size w ((w2.setCell ⟨w.heap.size + 1, 0, none⟩ (.slice none 0 0)).setCell ⟨w.heap.size + 1, 1, none⟩ (.slice none 0 0)) := (hG.setCell (by dsimp only; omega) _).setCell (by dsimp only; omega) _
    go_wp2
    exact bodyPost_ret (v := .tuple #[.agg #[.slice none 0 0, .slice none 0 0], .int .i64 2]) (by simp [results, Tryz.results40, go_sem, r0, r1]) rfl (PostO.nil_ hGs)
  rw [hb2] at hct hr
  rw [if_neg (by simp)] at hr
  have hAr := Lib.hid (fun w' (h : Below w.heap.size w w') => hA.below h)
  have hBr := Lib.hid (fun w' (h : Below w.heap.size w w') => hB.below h)
  have hCr := Lib.hid (fun w' (h : Below w.heap.size w w') => hC.below h)
  have hascG := Lib.hid ((dropG_spec l hasc).1)
  have hcd := Lib.hid (fun (ys : List Tm) h1 h2 => compactT_drop (ys := ys) (g := gs) (l := l) h1 hasc h2)
  have hrH := Lib.hid hr
  have hzW := hb0.size
  clear hpe hbx hbr hA hB hC hx hg hl hasc hr hkl
  go_enter Tryz.func40, Tryz.ntmps40
  go_wp2_with fail
  refine hck.out.mono ?_
  rintro e w1 ⟨rfl, hv1⟩
  have hG1 := hb0.trans (hv1.mono hb0.size)
  go_wp2_with fail
  refine (hct.out _ hG1).mono ?_
  rintro e w2 ⟨rfl, hv2⟩
  have hG2 := hG1.trans (hv2.mono hG1.size)
  have hs2 := blk_below (blk_below hbxH.out hv1) hv2
  have hr2 := blk_below (blk_below hbrH.out hv1) hv2
  clear r0 r1 hfr s0 s1 hltx hltr hck hct
  have hltx := blk_lt hs2
  have hltr := blk_lt hr2
  have s0 := blk_cell hs2 0
  have s1 := blk_cell hs2 1
  simp at s0 s1
  have hsH := Lib.hid hs2
  have hrbH := Lib.hid hr2
  clear hs2 hr2
  go_wp2_with fail
  have hbA : Below w2.heap.size w2 (w2.alloc (.cells #[.slice B m d, .slice C k f] 30)) := (Below.refl _ _).alloc (Nat.le_refl _) _
  have hG3 := hG2.trans (hbA.mono hG2.size)
  refine (concatT_any w2.heap.size B C m k d f gs l _ (heap_at _ _ rfl) ((hBr.out _ hG3).more hG3.size) ((hCr.out _ hG3).more hG3.size) hm hk).mono ?_
  rintro e w3 ⟨A3, c3, rfl, o3, hv3⟩
  have hv3' : Below w2.heap.size w2 w3 := hbA.trans (hv3.mono hbA.size)
  have hz3 := hv3.size
  have hza : (w2.alloc (.cells #[.slice B m d, .slice C k f] 30)).heap.size = w2.heap.size + 1 := by simp
  rw [hza] at o3 hz3
  clear hv3 hbA hG3 hza s0 s1 hltx hltr
  have hlt3 := hv3'.size
  go_wp2_with fail
  refine (sortfT_any (w2.heap.size + 1) A3 (m + k) c3 (gs ++ l) w3 o3 (by omega)).mono ?_
  rintro e w4 ⟨rfl, ys, hso, hmem, o4, hg4⟩
  have hrow3 : ∀ q, (Value.slice A3 (m + k) c3).ownBlock = some q → w2.heap.size + 1 ≤ q := fun q hq => (o3.block q hq).1
  have hv4 : Below w2.heap.size w2 w4 := hv3'.grown hg4 hlt3 (fun q hq => by have := hrow3 q hq; omega)
  have hz4 := hg4.size
  clear hg4 hv3'
  go_wp2_with fail
  refine (compactT_any (w2.heap.size + 1) A3 (m + k) c3 ys w4 o4 (by omega) (by omega)).mono ?_
  rintro e w5 ⟨n5, rfl, o5, hg5⟩
  have hv5 : Below w2.heap.size w2 w5 := hv4.grown hg5 hv4.size (fun q hq => by have := hrow3 q hq; omega)
  have hz5 := hg5.size
  rw [hcd.out ys hso hmem] at o5
  clear hg5 hv4 o4 o3 hso hmem hcd hrow3
  have hs5 := blk_below hsH.out hv5
  have hr5 := blk_below hrbH.out hv5
  have hltr := blk_lt hr5
  have hltx := blk_lt hs5
  have hG5 := hG2.trans (hv5.mono hG2.size)
  have hn5 : n5 = (dropG gs l).length := by simpa using o5.rd.2.1.symm
  generalize dropG gs l = D at hn5 o5 hrH hascG
  have hn5H := Lib.hid hn5
  have hz2 := hG2.size
  by_cases hn5k : 4096 < n5
  case pos =>
    have hr := hrH.out
    rw [← hn5, if_pos hn5k] at hr
    subst hr
    clear hn5
    have hdn : decide ((4096 : Int) < (n5 : Int)) = true := decide_eq_true (by omega)
    have hfr := blk_frozen hr5
    have r0 := blk_cell hr5 0
    have r1 := blk_cell hr5 1
    simp at r0 r1
    have hGs : Below w.heap.size w (((w5.setCell ⟨w.heap.size + 1, 0, none⟩ (.slice none 0 0)).setCell ⟨w.heap.size + 1, 1, none⟩ (.slice none 0 0)).alloc (.cells #[.slice none 0 0, .slice A3 n5 c3] 59)) := ((hG5.setCell (by dsimp only; omega) _).setCell (by dsimp only; omega) _).alloc (by simp; omega) _
    have h6 : (((w5.setCell ⟨w.heap.size + 1, 0, none⟩ (.slice none 0 0)).setCell ⟨w.heap.size + 1, 1, none⟩ (.slice none 0 0)).alloc (.cells #[.slice none 0 0, .slice A3 n5 c3] 59)).heap[w.heap.size + 1]? = some (.cells #[.slice none 0 0, .slice none 0 0] 59 (0, 0)) := heap_old _ (by simp; omega) (blk_set (blk_set hr5 0 _) 1 _)
    have h60 := blk_cell h6 0
    have h61 := blk_cell h6 1
    simp only [List.getElem?_toArray, List.getElem?_cons_zero, List.getElem?_cons_succ] at h60 h61
    have h60 := Lib.hid h60
    have h61 := Lib.hid h61
    clear hs5 hr5 h6
    go_wp2
    have r0 := h60.out
    have r1 := h61.out
    exact bodyPost_ret (v := .tuple #[.agg #[.slice none 0 0, .slice none 0 0], .int .i64 4]) (by simp [results, Tryz.results40, go_sem, r0, r1]) rfl (PostO.nil_ hGs)
  have hr := hrH.out
  rw [← hn5, if_neg hn5k] at hr
  clear hn5
  have hrH := Lib.hid hr
  have hdn : decide ((4096 : Int) < (n5 : Int)) = false := decide_eq_false (by omega)
  have s0 := blk_cell hs5 0
  have s1 := blk_cell hs5 1
  simp at s0 s1
  have hs5H := Lib.hid hs5
  have hr5H := Lib.hid hr5
  clear hs5 hr5 hr
  go_wp2_with fail
  have hbA : Below w5.heap.size w5 (w5.alloc (.cells #[.slice none 0 0, .slice A3 n5 c3] 59)) := (Below.refl _ _).alloc (Nat.le_refl _) _
  have hob6 : (w5.alloc (.cells #[.slice none 0 0, .slice A3 n5 c3] 59)).heap[w5.heap.size]? = some (.cells #[.slice none 0 0, .slice A3 n5 c3] 59 (0, 0)) := heap_at _ _ rfl
  have hz6 : (w5.alloc (.cells #[.slice none 0 0, .slice A3 n5 c3] 59)).heap.size = w5.heap.size + 1 := by simp
  generalize (w5.alloc (.cells #[.slice none 0 0, .slice A3 n5 c3] 59)) = W6 at hbA hob6 hz6
  have hG6 := hG5.trans (hbA.mono hG5.size)
  refine (cloneA_any A n c xs W6 ((hAr.out _ hG6).more hG6.size) hn).mono ?_
  rintro e w7 ⟨A7, c7, rfl, o7, hv7⟩
  have hob7 := blk_below hob6 hv7
  have o57 := (o5.below hbA).below hv7
  have hob7H := Lib.hid hob7
  have hv7H := Lib.hid hv7
  have hlto := blk_lt hob7
  clear hob7
  go_wp2_with fail
  refine (delfA_gen 77 #[.pointer (some ⟨w5.heap.size, 0, none⟩)] (fun a => D.contains a.1) (enters_of Tryz.func77 (by kernel_rfl) rfl) W6.heap.size A7 n c7 xs w7 o7 hn (fun a ha w' hbw => odrop1_any w5.heap.size none 0 0 A3 n5 c3 D a w' ((hbw.block _ (by omega)).trans hob7H.out) ((o5.below hbA).below (hv7H.out.trans hbw)).rd.1 (by omega) hascG.out) hv7.size).mono ?_
  rintro e w8 ⟨m8, rfl, o8, hg8⟩
  have hv8 : Below W6.heap.size W6 w8 := hv7H.out.grown hg8 hv7H.out.size (fun q hq => (o7.block q hq).1)
  have o58 := (o5.below hbA).below hv8
  have hG8 := hG6.trans (hv8.mono hG6.size)
  have hob8 := blk_below hob6 hv8
  have hr8 := blk_below (blk_below hr5H.out hbA) hv8
  have hz8 := hv8.size
  have hne : w.heap.size + 1 ≠ w5.heap.size := by omega
  have hne2 : w5.heap.size ≠ w.heap.size + 1 := by omega
  clear hob7H hv7H hlto o7 o57 hg8 s0 s1 hltr hltx
  have hlto := blk_lt hob8
  have hltr := blk_lt hr8
  have b0 := blk_cell hob8 0
  have b1 := blk_cell hob8 1
  have r0 := blk_cell hr8 0
  have r1 := blk_cell hr8 1
  simp at b0 b1 r0 r1
  have hfo := blk_frozen hob8
  have hfr := blk_frozen hr8
  have hob8H := Lib.hid hob8
  have hr8H := Lib.hid hr8
  clear hob8 hr8 hob6
  go_wp2
  have hr := hrH.out
  subst hr
  have hm8 : m8 ≤ n := by
    have h1 := o8.rd.2.1
    rw [List.length_map] at h1
    have h2 := List.length_filter_le (fun a : Am => !D.contains a.1) xs
    have h3 := (hAr.out w (Below.refl _ _)).len
    omega
  have hB1 : Below w.heap.size w (w8.setCell ⟨w5.heap.size, 0, none⟩ (.slice A7 m8 c7)) := hG8.setCell (by dsimp only; omega) _
  have hr9 : (w8.setCell ⟨w5.heap.size, 0, none⟩ (.slice A7 m8 c7)).heap[w.heap.size + 1]? = some (.cells #[.slice none 0 0, .slice none 0 0] 59 (0, 0)) := (((Below.refl w5.heap.size w8).setCell (Nat.le_refl _) _).block _ (by omega)).trans hr8H.out
  have ha5 := ((o8.set_blk hob8H.out (by decide) 0 (.slice A7 m8 c7)).set_blk hr9 (by decide) 0 (.slice A7 m8 c7)).set_blk (blk_set hr9 0 _) (by decide) 1 (.slice A3 n5 c3)
  have hb5 := ((o58.set_blk hob8H.out (by decide) 0 (.slice A7 m8 c7)).set_blk hr9 (by decide) 0 (.slice A7 m8 c7)).set_blk (blk_set hr9 0 _) (by decide) 1 (.slice A3 n5 c3)
  exact bodyPost_ret (v := .tuple #[.agg #[.slice A7 m8 c7, .slice A3 n5 c3], .int .i64 0]) (by simp [results, Tryz.results40, go_sem, r0, r1]) rfl ⟨A7, m8, c7, A3, n5, c3, rfl, ha5.rd.1, hb5.rd.1, by omega, by omega, ha5.rd.2.2.1, ha5.rd.2.2.2, hb5.rd.2.2.1, hb5.rd.2.2.2, (hB1.setCell (by dsimp only; omega) _).setCell (by dsimp only; omega) _⟩
end Go.Proofs.YtffnpfponnhddaaGreat
