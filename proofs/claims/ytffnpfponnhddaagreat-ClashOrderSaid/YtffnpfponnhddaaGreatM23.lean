/- Put and Drop of sets, the rows' types told. Put of sets, the rows' types told. -/
import Derived.Test.YtffnpfponnhddaaGreatOtJ
import Derived.Test.YtffnpfponnhddaaGreatOtG
import Derived.Test.YtffnpfponnhddaaGreatN27
import Derived.Test.YtffnpfponnhddaaGreatIns
import Derived.Test.YtffnpfponnhddaaGreatM1
import Derived.Test.YtffnpfponnhddaaGreatN17
namespace Go.Proofs.YtffnpfponnhddaaGreat
open Go.RowKit

def PostOT (w : World) (X : List Am × List Tm) (er : Int) (e : Ending) (w' : World) : Prop :=
  ∃ A n c B m d, e = .returned (.tuple #[.agg #[.slice A n c, .slice B m d], .int .i64 er]) ∧ RdA w' w'.heap.size A n X.1 ∧ RdT w' w'.heap.size B m X.2 ∧ n ≤ 5000 ∧ m ≤ 9000 ∧ n ≤ c ∧ c ≤ maxLen ∧ m ≤ d ∧ d ≤ maxLen ∧ Below w.heap.size w w' ∧ TyR w' 123 A n ∧ TyR w' 45 B m
theorem PostOT.nil_ {w w' : World} {er : Int} (hb : Below w.heap.size w w') : PostOT w ([], []) er (.returned (.tuple #[.agg #[.slice none 0 0, .slice none 0 0], .int .i64 er])) w' :=
  ⟨none, 0, 0, none, 0, 0, rfl, ⟨rfl, fun h => absurd h (by decide)⟩, ⟨rfl, fun h => absurd h (by decide)⟩, by omega, by omega, by omega, by simp [maxLen], by omega, by simp [maxLen], hb, TyR.nil_ _ _ _, TyR.nil_ _ _ _⟩
set_option maxRecDepth 100000 in
set_option maxHeartbeats 2000000 in
theorem odropT_any (A : Option Addr) (n c : Nat) (xs : List Am) (B : Option Addr) (m d : Nat) (gs : List Tm) (C : Option Addr) (k f : Nat) (l : List Tm) (w : World) (hA : RdA w w.heap.size A n xs) (hB : RdT w w.heap.size B m gs) (hC : RdT w w.heap.size C k l) (hn : n ≤ 100000) (hm : m ≤ 100000) (hk : k ≤ 100000) (hx : ∀ a ∈ xs, a.wf) (hg : ∀ t ∈ gs, t.wf) (hlw : ∀ t ∈ l, t.wf) (hl : ∀ a ∈ xs, a.2.length ≤ maxLen) :
    Calls Tryz.prog 40 #[.agg #[.slice A n c, .slice B m d], .slice C k f] w (PostOT w (dropO xs gs l).1 (dropO xs gs l).2) := by
  have hb0 : Below w.heap.size w ((w.alloc (.cells #[.slice A n c, .slice B m d] 59)).alloc (.cells #[.slice none 0 0, .slice none 0 0] 59)) := ((Below.refl _ w).alloc (Nat.le_refl _) _).alloc (by simp) _
  have hbx : ((w.alloc (.cells #[.slice A n c, .slice B m d] 59)).alloc (.cells #[.slice none 0 0, .slice none 0 0] 59)).heap[w.heap.size]? = some (.cells #[.slice A n c, .slice B m d] 59 (0, 0)) := heap_old _ (by simp) (heap_at _ _ rfl)
  have hbr : ((w.alloc (.cells #[.slice A n c, .slice B m d] 59)).alloc (.cells #[.slice none 0 0, .slice none 0 0] 59)).heap[w.heap.size + 1]? = some (.cells #[.slice none 0 0, .slice none 0 0] 59 (0, 0)) := heap_at _ _ (by simp)
  generalize hW : ((w.alloc (.cells #[.slice A n c, .slice B m d] 59)).alloc (.cells #[.slice none 0 0, .slice none 0 0] 59)) = W at hb0 hbx hbr
  have hbxH := Lib.hid hbx
  have hbrH := Lib.hid hbr
  have hltx := blk_lt hbx
  have hltr := blk_lt hbr
  have s0 := blk_cell hbx 0
  have s1 := blk_cell hbx 1
  have r0 := blk_cell hbr 0
  have r1 := blk_cell hbr 1
  simp at s0 s1 r0 r1
  have hfr := blk_frozen hbr
  have hck := Lib.hid (ocheck_any A n c xs B m d gs W ((hA.below hb0).more hb0.size) ((hB.below hb0).more hb0.size) (by simp [maxLen]; omega) (by simp [maxLen]; omega) hx hg hl)
  have hct := Lib.hid (fun w' (h : Below w.heap.size w w') => cfT_gen 68 #[] (fun t => !chkT t) (fun _ _ => by kernel_rfl) w'.heap.size C k f l w' ((hC.below h).more h.size) (by simp [maxLen]; omega) (fun x hxm w'' _ => onotag_any x (hlw x hxm) w'') (Nat.le_refl _))
  generalize hr : dropO xs gs l = out
  unfold dropO at hr
  have hkl := hC.len
  rw [hkl] at hr
  generalize hpe : oErr xs gs = p at hck hr
  by_cases hp : p = 0
  case neg =>
    rw [if_pos hp] at hr
    subst hr
    have hpn : (p != 0) = true := by simpa using hp
    clear hpe hp hbx hbr hA hB hC hct
    go_enter Tryz.func40, Tryz.ntmps40
    go_wp2_with fail
    refine hck.out.mono ?_
    rintro e w1 ⟨rfl, hv1⟩
    have hG := hb0.trans (hv1.mono hb0.size)
    have hr1 := blk_below hbrH.out hv1
    have hlr1 := blk_lt hr1
    clear r0 r1 hfr
    have r0 := blk_cell hr1 0
    have r1 := blk_cell hr1 1
    have hfr := blk_frozen hr1
    simp at r0 r1
    have hGs : Below w.heap.size w ((w1.setCell ⟨w.heap.size + 1, 0, none⟩ (.slice none 0 0)).setCell ⟨w.heap.size + 1, 1, none⟩ (.slice none 0 0)) := (hG.setCell (by dsimp only; omega) _).setCell (by dsimp only; omega) _
    go_wp2
    exact bodyPost_ret (v := .tuple #[.agg #[.slice none 0 0, .slice none 0 0], .int .i64 p]) (by simp [results, Tryz.results40, go_sem, r0, r1]) rfl (PostOT.nil_ hGs)
  subst hp
  rw [if_neg (by simp)] at hr
  obtain ⟨hn4, hm4, _, _, _, hasc, _⟩ := sErr_zero.1 hpe
  rw [List.length_map, hA.len] at hn4
  rw [hB.len] at hm4
  by_cases hk4 : 4096 < k
  case pos =>
    rw [if_pos hk4] at hr
    subst hr
    have hdk : decide ((4096 : Int) < (k : Int)) = true := decide_eq_true (by omega)
    clear hpe hbx hbr hA hB hC hct hasc
    go_enter Tryz.func40, Tryz.ntmps40
    go_wp2_with fail
    refine hck.out.mono ?_
    rintro e w1 ⟨rfl, hv1⟩
    have hG := hb0.trans (hv1.mono hb0.size)
    have hr1 := blk_below hbrH.out hv1
    have hlr1 := blk_lt hr1
    clear r0 r1 hfr
    have r0 := blk_cell hr1 0
    have r1 := blk_cell hr1 1
    have hfr := blk_frozen hr1
    simp at r0 r1
    have hGs : Below w.heap.size w ((w1.setCell ⟨w.heap.size + 1, 0, none⟩ (.slice none 0 0)).setCell ⟨w.heap.size + 1, 1, none⟩ (.slice none 0 0)) := (hG.setCell (by dsimp only; omega) _).setCell (by dsimp only; omega) _
    go_wp2
    exact bodyPost_ret (v := .tuple #[.agg #[.slice none 0 0, .slice none 0 0], .int .i64 8]) (by simp [results, Tryz.results40, go_sem, r0, r1]) rfl (PostOT.nil_ hGs)
  rw [if_neg hk4] at hr
  have hdk : decide ((4096 : Int) < (k : Int)) = false := decide_eq_false (by omega)
  cases hb2 : l.any (fun t => !chkT t)
  case true =>
    rw [hb2] at hct hr
    rw [if_pos rfl] at hr
    subst hr
    clear hpe hbx hbr hA hB hC hasc
    go_enter Tryz.func40, Tryz.ntmps40
    go_wp2_with fail
    refine hck.out.mono ?_
    rintro e w1 ⟨rfl, hv1⟩
    have hG1 := hb0.trans (hv1.mono hb0.size)
    go_wp2_with fail
    refine (hct.out _ hG1).mono ?_
    rintro e w2 ⟨rfl, hv2⟩
    have hG := hG1.trans (hv2.mono hG1.size)
    have hr1 := blk_below (blk_below hbrH.out hv1) hv2
    have hlr1 := blk_lt hr1
    clear r0 r1 hfr
    have r0 := blk_cell hr1 0
    have r1 := blk_cell hr1 1
    have hfr := blk_frozen hr1
    simp at r0 r1
    have hGs : Below w.heap.size w ((w2.setCell ⟨w.heap.size + 1, 0, none⟩ (.slice none 0 0)).setCell ⟨w.heap.size + 1, 1, none⟩ (.slice none 0 0)) := (hG.setCell (by dsimp only; omega) _).setCell (by dsimp only; omega) _
    go_wp2
    exact bodyPost_ret (v := .tuple #[.agg #[.slice none 0 0, .slice none 0 0], .int .i64 2]) (by simp [results, Tryz.results40, go_sem, r0, r1]) rfl (PostOT.nil_ hGs)
  rw [hb2] at hct hr
  rw [if_neg (by simp)] at hr
  have hAr := Lib.hid (fun w' (h : Below w.heap.size w w') => hA.below h)
  have hBr := Lib.hid (fun w' (h : Below w.heap.size w w') => hB.below h)
  have hCr := Lib.hid (fun w' (h : Below w.heap.size w w') => hC.below h)
  have hascG := Lib.hid ((dropG_spec l hasc).1)
  have hcd := Lib.hid (fun (ys : List Tm) h1 h2 => compactT_drop (ys := ys) (g := gs) (l := l) h1 hasc h2)
  have hrH := Lib.hid hr
  have hzW := hb0.size
  clear hpe hbx hbr hA hB hC hx hg hl hasc hr hkl
  go_enter Tryz.func40, Tryz.ntmps40
  go_wp2_with fail
  refine hck.out.mono ?_
  rintro e w1 ⟨rfl, hv1⟩
  have hG1 := hb0.trans (hv1.mono hb0.size)
  go_wp2_with fail
  refine (hct.out _ hG1).mono ?_
  rintro e w2 ⟨rfl, hv2⟩
  have hG2 := hG1.trans (hv2.mono hG1.size)
  have hs2 := blk_below (blk_below hbxH.out hv1) hv2
  have hr2 := blk_below (blk_below hbrH.out hv1) hv2
  clear r0 r1 hfr s0 s1 hltx hltr hck hct
  have hltx := blk_lt hs2
  have hltr := blk_lt hr2
  have s0 := blk_cell hs2 0
  have s1 := blk_cell hs2 1
  simp at s0 s1
  have hsH := Lib.hid hs2
  have hrbH := Lib.hid hr2
  clear hs2 hr2
  go_wp2_with fail
  have hbA : Below w2.heap.size w2 (w2.alloc (.cells #[.slice B m d, .slice C k f] 30)) := (Below.refl _ _).alloc (Nat.le_refl _) _
  have hG3 := hG2.trans (hbA.mono hG2.size)
  refine (concatT_any w2.heap.size B C m k d f gs l _ (heap_at _ _ rfl) ((hBr.out _ hG3).more hG3.size) ((hCr.out _ hG3).more hG3.size) hm hk).mono ?_
  rintro e w3 ⟨A3, c3, rfl, o3, hv3⟩
  have hv3' : Below w2.heap.size w2 w3 := hbA.trans (hv3.mono hbA.size)
  have hz3 := hv3.size
  have hza : (w2.alloc (.cells #[.slice B m d, .slice C k f] 30)).heap.size = w2.heap.size + 1 := by simp
  rw [hza] at o3 hz3
  clear hv3 hbA hG3 hza s0 s1 hltx hltr
  have hlt3 := hv3'.size
  go_wp2_with fail
  refine (sortfT_any (w2.heap.size + 1) A3 (m + k) c3 (gs ++ l) w3 o3 (by omega)).mono ?_
  rintro e w4 ⟨rfl, ys, hso, hmem, o4, hg4⟩
  have hrow3 : ∀ q, (Value.slice A3 (m + k) c3).ownBlock = some q → w2.heap.size + 1 ≤ q := fun q hq => (o3.block q hq).1
  have hv4 : Below w2.heap.size w2 w4 := hv3'.grown hg4 hlt3 (fun q hq => by have := hrow3 q hq; omega)
  have hz4 := hg4.size
  clear hg4 hv3'
  go_wp2_with fail
  refine (compactT_any (w2.heap.size + 1) A3 (m + k) c3 ys w4 o4 (by omega) (by omega)).mono ?_
  rintro e w5 ⟨n5, rfl, o5, hg5⟩
  have hv5 : Below w2.heap.size w2 w5 := hv4.grown hg5 hv4.size (fun q hq => by have := hrow3 q hq; omega)
  have hz5 := hg5.size
  rw [hcd.out ys hso hmem] at o5
  clear hg5 hv4 o4 o3 hso hmem hcd hrow3
  have hs5 := blk_below hsH.out hv5
  have hr5 := blk_below hrbH.out hv5
  have hltr := blk_lt hr5
  have hltx := blk_lt hs5
  have hG5 := hG2.trans (hv5.mono hG2.size)
  have hn5 : n5 = (dropG gs l).length := by simpa using o5.rd.2.1.symm
  generalize dropG gs l = D at hn5 o5 hrH hascG
  have hn5H := Lib.hid hn5
  have hz2 := hG2.size
  by_cases hn5k : 4096 < n5
  case pos =>
    have hr := hrH.out
    rw [← hn5, if_pos hn5k] at hr
    subst hr
    clear hn5
    have hdn : decide ((4096 : Int) < (n5 : Int)) = true := decide_eq_true (by omega)
    have hfr := blk_frozen hr5
    have r0 := blk_cell hr5 0
    have r1 := blk_cell hr5 1
    simp at r0 r1
    have hGs : Below w.heap.size w (((w5.setCell ⟨w.heap.size + 1, 0, none⟩ (.slice none 0 0)).setCell ⟨w.heap.size + 1, 1, none⟩ (.slice none 0 0)).alloc (.cells #[.slice none 0 0, .slice A3 n5 c3] 59)) := ((hG5.setCell (by dsimp only; omega) _).setCell (by dsimp only; omega) _).alloc (by simp; omega) _
    have h6 : (((w5.setCell ⟨w.heap.size + 1, 0, none⟩ (.slice none 0 0)).setCell ⟨w.heap.size + 1, 1, none⟩ (.slice none 0 0)).alloc (.cells #[.slice none 0 0, .slice A3 n5 c3] 59)).heap[w.heap.size + 1]? = some (.cells #[.slice none 0 0, .slice none 0 0] 59 (0, 0)) := heap_old _ (by simp; omega) (blk_set (blk_set hr5 0 _) 1 _)
    have h60 := blk_cell h6 0
    have h61 := blk_cell h6 1
    simp only [List.getElem?_toArray, List.getElem?_cons_zero, List.getElem?_cons_succ] at h60 h61
    have h60 := Lib.hid h60
    have h61 := Lib.hid h61
    clear hs5 hr5 h6
    go_wp2
    have r0 := h60.out
    have r1 := h61.out
    exact bodyPost_ret (v := .tuple #[.agg #[.slice none 0 0, .slice none 0 0], .int .i64 4]) (by simp [results, Tryz.results40, go_sem, r0, r1]) rfl (PostOT.nil_ hGs)
  have hr := hrH.out
  rw [← hn5, if_neg hn5k] at hr
  clear hn5
  have hrH := Lib.hid hr
  have hdn : decide ((4096 : Int) < (n5 : Int)) = false := decide_eq_false (by omega)
  have s0 := blk_cell hs5 0
  have s1 := blk_cell hs5 1
  simp at s0 s1
  have hs5H := Lib.hid hs5
  have hr5H := Lib.hid hr5
  clear hs5 hr5 hr
  go_wp2_with fail
  have hbA : Below w5.heap.size w5 (w5.alloc (.cells #[.slice none 0 0, .slice A3 n5 c3] 59)) := (Below.refl _ _).alloc (Nat.le_refl _) _
  have hob6 : (w5.alloc (.cells #[.slice none 0 0, .slice A3 n5 c3] 59)).heap[w5.heap.size]? = some (.cells #[.slice none 0 0, .slice A3 n5 c3] 59 (0, 0)) := heap_at _ _ rfl
  have hz6 : (w5.alloc (.cells #[.slice none 0 0, .slice A3 n5 c3] 59)).heap.size = w5.heap.size + 1 := by simp
  generalize (w5.alloc (.cells #[.slice none 0 0, .slice A3 n5 c3] 59)) = W6 at hbA hob6 hz6
  have hG6 := hG5.trans (hbA.mono hG5.size)
  refine (cloneA_any A n c xs W6 ((hAr.out _ hG6).more hG6.size) hn).mono ?_
  rintro e w7 ⟨A7, c7, rfl, o7, hv7⟩
  have hob7 := blk_below hob6 hv7
  have o57 := (o5.below hbA).below hv7
  have hob7H := Lib.hid hob7
  have hv7H := Lib.hid hv7
  have hlto := blk_lt hob7
  clear hob7
  go_wp2_with fail
  refine (delfA_gen 77 #[.pointer (some ⟨w5.heap.size, 0, none⟩)] (fun a => D.contains a.1) (enters_of Tryz.func77 (by kernel_rfl) rfl) W6.heap.size A7 n c7 xs w7 o7 hn (fun a ha w' hbw => odrop1_any w5.heap.size none 0 0 A3 n5 c3 D a w' ((hbw.block _ (by omega)).trans hob7H.out) ((o5.below hbA).below (hv7H.out.trans hbw)).rd.1 (by omega) hascG.out) hv7.size).mono ?_
  rintro e w8 ⟨m8, rfl, o8, hg8⟩
  have hv8 : Below W6.heap.size W6 w8 := hv7H.out.grown hg8 hv7H.out.size (fun q hq => (o7.block q hq).1)
  have o58 := (o5.below hbA).below hv8
  have hG8 := hG6.trans (hv8.mono hG6.size)
  have hob8 := blk_below hob6 hv8
  have hr8 := blk_below (blk_below hr5H.out hbA) hv8
  have hz8 := hv8.size
  have hne : w.heap.size + 1 ≠ w5.heap.size := by omega
  have hne2 : w5.heap.size ≠ w.heap.size + 1 := by omega
  clear hob7H hv7H hlto o7 o57 hg8 s0 s1 hltr hltx
  have hlto := blk_lt hob8
  have hltr := blk_lt hr8
  have b0 := blk_cell hob8 0
  have b1 := blk_cell hob8 1
  have r0 := blk_cell hr8 0
  have r1 := blk_cell hr8 1
  simp at b0 b1 r0 r1
  have hfo := blk_frozen hob8
  have hfr := blk_frozen hr8
  have hob8H := Lib.hid hob8
  have hr8H := Lib.hid hr8
  clear hob8 hr8 hob6
  go_wp2
  have hr := hrH.out
  subst hr
  have hm8 : m8 ≤ n := by
    have h1 := o8.rd.2.1
    rw [List.length_map] at h1
    have h2 := List.length_filter_le (fun a : Am => !D.contains a.1) xs
    have h3 := (hAr.out w (Below.refl _ _)).len
    omega
  have hB1 : Below w.heap.size w (w8.setCell ⟨w5.heap.size, 0, none⟩ (.slice A7 m8 c7)) := hG8.setCell (by dsimp only; omega) _
  have hr9 : (w8.setCell ⟨w5.heap.size, 0, none⟩ (.slice A7 m8 c7)).heap[w.heap.size + 1]? = some (.cells #[.slice none 0 0, .slice none 0 0] 59 (0, 0)) := (((Below.refl w5.heap.size w8).setCell (Nat.le_refl _) _).block _ (by omega)).trans hr8H.out
  have ha5 := ((o8.set_blk hob8H.out (by decide) 0 (.slice A7 m8 c7)).set_blk hr9 (by decide) 0 (.slice A7 m8 c7)).set_blk (blk_set hr9 0 _) (by decide) 1 (.slice A3 n5 c3)
  have hb5 := ((o58.set_blk hob8H.out (by decide) 0 (.slice A7 m8 c7)).set_blk hr9 (by decide) 0 (.slice A7 m8 c7)).set_blk (blk_set hr9 0 _) (by decide) 1 (.slice A3 n5 c3)
  exact bodyPost_ret (v := .tuple #[.agg #[.slice A7 m8 c7, .slice A3 n5 c3], .int .i64 0]) (by simp [results, Tryz.results40, go_sem, r0, r1]) rfl ⟨A7, m8, c7, A3, n5, c3, rfl, ha5.rd.1, hb5.rd.1, by omega, by omega, ha5.rd.2.2.1, ha5.rd.2.2.2, hb5.rd.2.2.1, hb5.rd.2.2.2, (hB1.setCell (by dsimp only; omega) _).setCell (by dsimp only; omega) _, ha5.ty, hb5.ty⟩
end Go.Proofs.YtffnpfponnhddaaGreat
namespace Go.Proofs.YtffnpfponnhddaaGreat
open Go.RowKit

set_option maxRecDepth 100000 in
set_option maxHeartbeats 4000000 in
theorem oputT_any (A : Option Addr) (n c : Nat) (xs : List Am) (B : Option Addr) (m d : Nat) (gs : List Tm) (a : Am) (w : World) (hA : RdA w w.heap.size A n xs) (hB : RdT w w.heap.size B m gs) (hn : n ≤ 100000) (hm : m ≤ 100000) (hx : ∀ a ∈ xs, a.wf) (hg : ∀ t ∈ gs, t.wf) (hl : ∀ a ∈ xs, a.2.length ≤ maxLen) (ha : a.wf) (hal : a.2.length ≤ maxLen) :
    Calls Tryz.prog 39 #[.agg #[.slice A n c, .slice B m d], .agg #[.int .i64 a.1.1.1, .int .u32 a.1.1.2, .int .i64 a.1.2, .string (bs a.2)]] w (PostOT w (putO xs gs a).1 (putO xs gs a).2) := by
  have hb0 : Below w.heap.size w (((w.alloc (.cells #[.slice A n c, .slice B m d] 59)).alloc (.cells #[.int .i64 a.1.1.1, .int .u32 a.1.1.2, .int .i64 a.1.2, .string (bs a.2)] 123)).alloc (.cells #[.slice none 0 0, .slice none 0 0] 59)) := (((Below.refl _ w).alloc (Nat.le_refl _) _).alloc (by simp) _).alloc (by simp; omega) _
  have hbx : (((w.alloc (.cells #[.slice A n c, .slice B m d] 59)).alloc (.cells #[.int .i64 a.1.1.1, .int .u32 a.1.1.2, .int .i64 a.1.2, .string (bs a.2)] 123)).alloc (.cells #[.slice none 0 0, .slice none 0 0] 59)).heap[w.heap.size]? = some (.cells #[.slice A n c, .slice B m d] 59 (0, 0)) := heap_old _ (by simp; omega) (heap_old _ (by simp) (heap_at _ _ rfl))
  have hba : (((w.alloc (.cells #[.slice A n c, .slice B m d] 59)).alloc (.cells #[.int .i64 a.1.1.1, .int .u32 a.1.1.2, .int .i64 a.1.2, .string (bs a.2)] 123)).alloc (.cells #[.slice none 0 0, .slice none 0 0] 59)).heap[w.heap.size + 1]? = some (.cells #[.int .i64 a.1.1.1, .int .u32 a.1.1.2, .int .i64 a.1.2, .string (bs a.2)] 123 (0, 0)) := heap_old _ (by simp) (heap_at _ _ (by simp))
  have hbr : (((w.alloc (.cells #[.slice A n c, .slice B m d] 59)).alloc (.cells #[.int .i64 a.1.1.1, .int .u32 a.1.1.2, .int .i64 a.1.2, .string (bs a.2)] 123)).alloc (.cells #[.slice none 0 0, .slice none 0 0] 59)).heap[w.heap.size + 1 + 1]? = some (.cells #[.slice none 0 0, .slice none 0 0] 59 (0, 0)) := heap_at _ _ (by simp)
  generalize hW : (((w.alloc (.cells #[.slice A n c, .slice B m d] 59)).alloc (.cells #[.int .i64 a.1.1.1, .int .u32 a.1.1.2, .int .i64 a.1.2, .string (bs a.2)] 123)).alloc (.cells #[.slice none 0 0, .slice none 0 0] 59)) = W at hb0 hbx hba hbr
  have hbxH := Lib.hid hbx
  have hbaH := Lib.hid hba
  have hbrH := Lib.hid hbr
  have hltx := blk_lt hbx
  have hlta := blk_lt hba
  have hltr := blk_lt hbr
  have s0 := blk_cell hbx 0
  have s1 := blk_cell hbx 1
  have r0 := blk_cell hbr 0
  have r1 := blk_cell hbr 1
  simp at s0 s1 r0 r1
  have hfr := blk_frozen hbr
  have hck := Lib.hid (ocheck_any A n c xs B m d gs W ((hA.below hb0).more hb0.size) ((hB.below hb0).more hb0.size) (by simp [maxLen]; omega) (by simp [maxLen]; omega) hx hg hl)
  have hnt := Lib.hid (onotag_any a.1 ha)
  have hel := Lib.hid (oelem_any a.2 hal)
  generalize hr : putO xs gs a = out
  unfold putO at hr
  have hxl := hA.len
  rw [hxl] at hr
  generalize hpe : oErr xs gs = p at hck hr
  by_cases hp : p = 0
  case neg =>
    rw [if_pos hp] at hr
    subst hr
    have hpn : (p != 0) = true := by simpa using hp
    clear hpe hp hbx hbr hA hB hba
    go_enter Tryz.func39, Tryz.ntmps39
    go_wp2_with fail
    refine hck.out.mono ?_
    rintro e w1 ⟨rfl, hv1⟩
    have hG := hb0.trans (hv1.mono hb0.size)
    have hr1 := blk_below hbrH.out hv1
    have hlr1 := blk_lt hr1
    clear r0 r1 hfr
    have r0 := blk_cell hr1 0
    have r1 := blk_cell hr1 1
    have hfr := blk_frozen hr1
    simp at r0 r1
    have hGs : Below w.heap.size w ((w1.setCell ⟨w.heap.size + 1 + 1, 0, none⟩ (.slice none 0 0)).setCell ⟨w.heap.size + 1 + 1, 1, none⟩ (.slice none 0 0)) := (hG.setCell (by dsimp only; omega) _).setCell (by dsimp only; omega) _
    go_wp2
    exact bodyPost_ret (v := .tuple #[.agg #[.slice none 0 0, .slice none 0 0], .int .i64 p]) (by simp [results, Tryz.results39, go_sem, r0, r1]) rfl (PostOT.nil_ hGs)
  subst hp
  rw [if_neg (by simp)] at hr
  obtain ⟨hn4, hm4, _, _, hascA, hasc, _⟩ := sErr_zero.1 hpe
  rw [List.length_map, hA.len] at hn4
  rw [hB.len] at hm4
  cases hc1 : chkT a.1
  case false =>
    rw [hc1] at hnt hr
    rw [if_pos rfl] at hr
    subst hr
    clear hpe hbx hbr hA hB hasc hascA hba
    go_enter Tryz.func39, Tryz.ntmps39
    go_wp2_with fail
    refine hck.out.mono ?_
    rintro e w1 ⟨rfl, hv1⟩
    have hG1 := hb0.trans (hv1.mono hb0.size)
    have ha1 := blk_below hbaH.out hv1
    have a0 := blk_cell ha1 0
    have a1 := blk_cell ha1 1
    have a2 := blk_cell ha1 2
    have a3 := blk_cell ha1 3
    simp at a0 a1 a2 a3
    have hlta := blk_lt ha1
    go_wp2_with fail
    refine (hnt.out _).mono ?_
    rintro e w2 ⟨rfl, hv2⟩
    have hG := hG1.trans (hv2.mono hG1.size)
    have hr1 := blk_below (blk_below hbrH.out hv1) hv2
    have hlr1 := blk_lt hr1
    clear r0 r1 hfr
    have r0 := blk_cell hr1 0
    have r1 := blk_cell hr1 1
    have hfr := blk_frozen hr1
    simp at r0 r1
    have hGs : Below w.heap.size w ((w2.setCell ⟨w.heap.size + 1 + 1, 0, none⟩ (.slice none 0 0)).setCell ⟨w.heap.size + 1 + 1, 1, none⟩ (.slice none 0 0)) := (hG.setCell (by dsimp only; omega) _).setCell (by dsimp only; omega) _
    go_wp2
    exact bodyPost_ret (v := .tuple #[.agg #[.slice none 0 0, .slice none 0 0], .int .i64 2]) (by simp [results, Tryz.results39, go_sem, r0, r1]) rfl (PostOT.nil_ hGs)
  rw [hc1] at hnt hr
  rw [if_neg (by simp)] at hr
  cases he1 : elemB a.2
  case false =>
    rw [he1] at hel hr
    rw [if_pos rfl] at hr
    subst hr
    clear hpe hbx hbr hA hB hasc hascA hba
    go_enter Tryz.func39, Tryz.ntmps39
    go_wp2_with fail
    refine hck.out.mono ?_
    rintro e w1 ⟨rfl, hv1⟩
    have hG1 := hb0.trans (hv1.mono hb0.size)
    have ha1 := blk_below hbaH.out hv1
    have a0 := blk_cell ha1 0
    have a1 := blk_cell ha1 1
    have a2 := blk_cell ha1 2
    have a3 := blk_cell ha1 3
    simp at a0 a1 a2 a3
    have hlta := blk_lt ha1
    go_wp2_with fail
    refine (hnt.out _).mono ?_
    rintro e w2 ⟨rfl, hv2⟩
    have hG := hG1.trans (hv2.mono hG1.size)
    have ha2 := blk_below ha1 hv2
    clear a0 a1 a2 a3 hlta
    have a0 := blk_cell ha2 0
    have a1 := blk_cell ha2 1
    have a2 := blk_cell ha2 2
    have a3 := blk_cell ha2 3
    simp at a0 a1 a2 a3
    have hlta := blk_lt ha2
    go_wp2_with fail
    refine (hel.out _).mono ?_
    rintro e w3 ⟨rfl, rfl⟩
    have hr1 := blk_below (blk_below hbrH.out hv1) hv2
    have hlr1 := blk_lt hr1
    clear r0 r1 hfr
    have r0 := blk_cell hr1 0
    have r1 := blk_cell hr1 1
    have hfr := blk_frozen hr1
    simp at r0 r1
    have hGs : Below w.heap.size w ((w2.setCell ⟨w.heap.size + 1 + 1, 0, none⟩ (.slice none 0 0)).setCell ⟨w.heap.size + 1 + 1, 1, none⟩ (.slice none 0 0)) := (hG.setCell (by dsimp only; omega) _).setCell (by dsimp only; omega) _
    go_wp2
    exact bodyPost_ret (v := .tuple #[.agg #[.slice none 0 0, .slice none 0 0], .int .i64 3]) (by simp [results, Tryz.results39, go_sem, r0, r1]) rfl (PostOT.nil_ hGs)
  rw [he1] at hel hr
  rw [if_neg (by simp)] at hr
  have hAr := Lib.hid (fun w' (h : Below w.heap.size w w') => hA.below h)
  have hBr := Lib.hid (fun w' (h : Below w.heap.size w w') => hB.below h)
  have hbs := Lib.hid (fun w' (h : Below w.heap.size w w') => bsA_gen 70 #[] (fun _ _ => by kernel_rfl) w'.heap.size A n c xs a.1 w' ((hA.below h).more h.size) (by omega) hascA (fun x _ w'' _ => bytag_any x a.1 w'') (Nat.le_refl _))
  have hgo := Lib.hid (fun w' (h : Below w.heap.size w w') => ogone_any A n c xs B m d gs a.1 w' ((hB.below h).more h.size) (by omega) hasc)
  have hPl := posT_le (xs.map Prod.fst) a.1
  rw [List.length_map, hxl] at hPl
  have hins : Hid (insK Prod.fst xs a = xs.take (posT (xs.map Prod.fst) a.1) ++ a :: xs.drop (posT (xs.map Prod.fst) a.1)) := Lib.hid rfl
  generalize posT (xs.map Prod.fst) a.1 = P at hbs hPl hins
  generalize insK Prod.fst xs a = I at hr hins
  generalize (xs.map Prod.fst).contains a.1 = b at hbs hr
  generalize gs.contains a.1 = q at hgo hr
  have hrH := Lib.hid hr
  have hxlH := Lib.hid hxl
  have hzW := hb0.size
  clear hpe hbx hba hbr hA hB hx hg hl hasc hascA hr hxl ha hal
  go_enter Tryz.func39, Tryz.ntmps39
  go_wp2_with fail
  refine hck.out.mono ?_
  rintro e w1 ⟨rfl, hv1⟩
  have hG1 := hb0.trans (hv1.mono hb0.size)
  have ha1 := blk_below hbaH.out hv1
  have a0 := blk_cell ha1 0
  have a1 := blk_cell ha1 1
  have a2 := blk_cell ha1 2
  have a3 := blk_cell ha1 3
  simp at a0 a1 a2 a3
  have hlta := blk_lt ha1
  go_wp2_with fail
  refine (hnt.out _).mono ?_
  rintro e w2 ⟨rfl, hv2⟩
  have hG2 := hG1.trans (hv2.mono hG1.size)
  have ha2 := blk_below ha1 hv2
  clear a0 a1 a2 a3 hlta
  have a0 := blk_cell ha2 0
  have a1 := blk_cell ha2 1
  have a2 := blk_cell ha2 2
  have a3 := blk_cell ha2 3
  simp at a0 a1 a2 a3
  have hlta := blk_lt ha2
  go_wp2_with fail
  refine (hel.out _).mono ?_
  rintro e w3 ⟨rfl, rfl⟩
  have hs2 := blk_below (blk_below hbxH.out hv1) hv2
  have hr2 := blk_below (blk_below hbrH.out hv1) hv2
  clear r0 r1 hfr s0 s1 hltx hltr hck hnt hel hbxH hbaH hbrH
  have hltx := blk_lt hs2
  have s0 := blk_cell hs2 0
  have s1 := blk_cell hs2 1
  simp at s0 s1
  go_wp2_with fail
  refine (hbs.out _ hG2).mono ?_
  rintro e w4 ⟨rfl, hv4⟩
  have hG4 := hG2.trans (hv4.mono hG2.size)
  have hs4 := blk_below hs2 hv4
  have hr4 := blk_below hr2 hv4
  have ha4 := blk_below ha2 hv4
  clear s0 s1 hltx a0 a1 a2 a3 hlta hs2 hr2 ha1 ha2 hv1 hv2 hv4 hbs
  have hltx := blk_lt hs4
  have s0 := blk_cell hs4 0
  have s1 := blk_cell hs4 1
  simp at s0 s1
  have a0 := blk_cell ha4 0
  have a1 := blk_cell ha4 1
  have a2 := blk_cell ha4 2
  have a3 := blk_cell ha4 3
  simp at a0 a1 a2 a3
  have hlta := blk_lt ha4
  have hltr := blk_lt hr4
  have hsH := Lib.hid hs4
  have hrbH := Lib.hid hr4
  have haH := Lib.hid ha4
  clear hs4 hr4 ha4
  have hz4 := hG4.size
  have hclA := Lib.hid (fun w' (h : KQ w4.heap.size w4 w') => cloneA_any A n c xs w' ((hAr.out _ (hG4.trans (h.1.mono hz4))).more (hG4.trans (h.1.mono hz4)).size) hn)
  have hclT := Lib.hid (fun w' (h : KQ w4.heap.size w4 w') => cloneT_any B m d gs w' ((hBr.out _ (hG4.trans (h.1.mono hz4))).more (hG4.trans (h.1.mono hz4)).size) hm)
  go_upto_region 9 with (fail)
  go_cut [9] (fun sa wx => ∃ g A' c' B' d', sa = .pointer (some ⟨g, 0, none⟩) ∧ w4.heap.size ≤ g ∧ wx.heap[g]? = some (.cells #[.slice A' n c', .slice B' m d'] 59 (0, 0)) ∧ Ow wx w4.heap.size 123 4 (.slice A' n c') (xs.map Am.enc) ∧ Ow wx w4.heap.size 45 3 (.slice B' m d') (gs.map Tm.enc) ∧ Below w4.heap.size w4 wx)
  case first =>
    have hq0 : KQ w4.heap.size w4 w4 := kq (Below.refl _ _)
    go_region_held3 (fun w' => KQ w4.heap.size w4 w') (first
      | with_reducible assumption
      | with_reducible exact kq_call (by with_reducible assumption) (by first | exact Nat.le_refl _ | simp) (by with_reducible assumption)
      | ((repeat (first | (with_reducible refine kq_set ?_ (by first | (simp; done) | (simp; omega) | omega) _) | (with_reducible refine kq_alloc ?_ (by first | exact Nat.le_refl _ | (simp; done) | (simp; omega)) _))); (first | with_reducible assumption | exact kq (by with_reducible assumption)))
      | ((with_reducible refine kq ?_); (repeat (first | (with_reducible exact Below.refl _ _) | (with_reducible refine Below.drew ?_) | (with_reducible refine Below.alloc ?_ (by simp) _) | (with_reducible refine Below.setCell ?_ (by simp) _) | (with_reducible exact (by assumption : KQ _ _ _).1))); done))
      (first
        | (go_at_call 62
           (with_reducible refine (hclA.out _ (by first | with_reducible assumption | exact kq_drew (Below.refl _ _) | exact kq_drew ((Below.refl _ _).alloc (Nat.le_refl _) _) : KQ w4.heap.size w4 _)).mono ?_)
           rintro e v1 ⟨A1, c1, rfl, o1', hb1⟩
           have hk1 : Below w4.heap.size w4 v1 := (kq_call (by first | with_reducible assumption | exact kq_drew (Below.refl _ _) | exact kq_drew ((Below.refl _ _).alloc (Nat.le_refl _) _) : KQ w4.heap.size w4 _) (Nat.le_refl _) hb1).1
           have hz1 := hk1.size
           have o1 := o1'.base (base' := w4.heap.size) (by simp)
           (first
             | (have hx1 : v1.heap[w4.heap.size]? = some (.cells #[.slice none 0 0, .slice none 0 0] 59 (0, 0)) := (hb1.block _ (blk_lt (heap_drew (heap_at w4 _ rfl)))).trans (heap_drew (heap_at w4 _ rfl)))
             | skip)
          )
        | (go_at_call 63
           (with_reducible refine (hclT.out _ (by with_reducible assumption : KQ w4.heap.size w4 _)).mono ?_)
           rintro e v2 ⟨B2, d2, rfl, o2', hb2⟩
           have hk2 : Below w4.heap.size w4 v2 := (kq_call (by with_reducible assumption : KQ w4.heap.size w4 _) (Nat.le_refl _) hb2).1
           have hz2 := hk2.size
           have o2 := o2'.base (base' := w4.heap.size) (by first | exact hz1 | (simp; omega))
           have o12 : Ow v2 w4.heap.size 123 4 (.slice A1 n c1) (xs.map Am.enc) := by first | exact o1.below hb2 | exact (o1.below ((Below.refl _ _).alloc (Nat.le_refl _) _)).below hb2
           (first
             | (have hx2 := (hb2.block _ (blk_lt hx1)).trans hx1
                have hfx := blk_frozen hx2
                have hlx := blk_lt hx2
                have x0 := blk_cell hx2 0
                have x1 := blk_cell hx2 1
                simp at x0 x1)
             | (have hx2 : v2.heap[v1.heap.size]? = some (.cells #[.slice none 0 0, .slice none 0 0] 59 (0, 0)) := (hb2.block _ (blk_lt (heap_at v1 _ rfl))).trans (heap_at v1 _ rfl)
                have hfx := blk_frozen hx2
                have hlx := blk_lt hx2
                have x0 := blk_cell hx2 0
                have x1 := blk_cell hx2 1
                simp at x0 x1)
             | skip)
          ))
    all_goals
    (have oH := Lib.hid (And.intro o12 o2)
     have hk2H := Lib.hid hk2
     go_wp2_with fail
     go_meet
     first
       | (have hb3 : Below v2.heap.size v2 (v2.alloc (.cells #[.slice A1 n c1, .slice B2 m d2] 59)) := (Below.refl _ v2).alloc (Nat.le_refl _) _
          exact ⟨v2.heap.size, A1, c1, B2, d2, rfl, hz2, heap_at _ _ rfl, oH.out.1.below hb3, oH.out.2.below hb3, hk2H.out.trans (hb3.mono hz2)⟩)
       | (have ha3 := (oH.out.1.set_blk hx2 (by decide) 0 (.slice A1 n c1)).set_blk (blk_set hx2 0 (.slice A1 n c1)) (by decide) 1 (.slice B2 m d2)
          have hb3 := (oH.out.2.set_blk hx2 (by decide) 0 (.slice A1 n c1)).set_blk (blk_set hx2 0 (.slice A1 n c1)) (by decide) 1 (.slice B2 m d2)
          have hx3 := blk_set (blk_set hx2 0 (.slice A1 n c1)) 1 (.slice B2 m d2)
          exact ⟨_, A1, c1, B2, d2, rfl, by omega, hx3, ha3, hb3, (hk2H.out.setCell (by dsimp only; omega) _).setCell (by dsimp only; omega) _⟩))
  case rest =>
    obtain ⟨g9, A9, c9, B9, d9, rfl, hg9, hbX, oA, oB, hB9⟩ := hcut
    obtain ⟨w5, hw5⟩ : ∃ w5, w5 = wc := ⟨_, rfl⟩
    obtain rfl := hw5
    have hG5 : Below w.heap.size w w5 := hG4.trans (hB9.mono hz4)
    have hs5 := blk_below hsH.out hB9
    have hr5 := blk_below hrbH.out hB9
    have ha5 := blk_below haH.out hB9
    have hz5 := hB9.size
    have hltr4 := hltr
    clear s0 s1 hltx a0 a1 a2 a3 hlta hltr hclA hclT
    cases b
    case true =>
      have hlo := blk_lt hbX
      have b0 := blk_cell hbX 0
      have b1 := blk_cell hbX 1
      have hltr := blk_lt hr5
      have r0 := blk_cell hr5 0
      have r1 := blk_cell hr5 1
      simp at b0 b1 r0 r1
      have hfr := blk_frozen hr5
      have ha9 := (oA.set_blk hr5 (by decide) 0 (.slice A9 n c9)).set_blk (blk_set hr5 0 (.slice A9 n c9)) (by decide) 1 (.slice B9 m d9)
      have hb9 := (oB.set_blk hr5 (by decide) 0 (.slice A9 n c9)).set_blk (blk_set hr5 0 (.slice A9 n c9)) (by decide) 1 (.slice B9 m d9)
      have hGs : Below w.heap.size w ((w5.setCell ⟨w.heap.size + 1 + 1, 0, none⟩ (.slice A9 n c9)).setCell ⟨w.heap.size + 1 + 1, 1, none⟩ (.slice B9 m d9)) := (hG5.setCell (by dsimp only; omega) _).setCell (by dsimp only; omega) _
      have oH := Lib.hid (And.intro ha9 hb9)
      clear ha9 hb9
      go_wp2
      have hr := hrH.out
      rw [if_pos (by simp)] at hr
      subst hr
      exact bodyPost_ret (v := .tuple #[.agg #[.slice A9 n c9, .slice B9 m d9], .int .i64 0]) (by simp [results, Tryz.results39, go_sem, r0, r1]) rfl ⟨A9, n, c9, B9, m, d9, rfl, oH.out.1.rd.1, oH.out.2.rd.1, by omega, by omega, oH.out.1.rd.2.2.1, oH.out.1.rd.2.2.2, oH.out.2.rd.2.2.1, oH.out.2.rd.2.2.2, hGs, oH.out.1.ty, oH.out.2.ty⟩
    case false =>
      have hltx := blk_lt hs5
      have s0 := blk_cell hs5 0
      have s1 := blk_cell hs5 1
      simp at s0 s1
      have a0 := blk_cell ha5 0
      have a1 := blk_cell ha5 1
      have a2 := blk_cell ha5 2
      have a3 := blk_cell ha5 3
      simp at a0 a1 a2 a3
      have hlta := blk_lt ha5
      go_wp2_with fail
      refine (hgo.out w5 hG5).mono ?_
      rintro e w6 ⟨rfl, hv6⟩
      have hG6 := hG5.trans (hv6.mono hG5.size)
      have hs6 := blk_below hs5 hv6
      have hr6 := blk_below hr5 hv6
      have ha6 := blk_below ha5 hv6
      have hx6 := blk_below hbX hv6
      have oA6 := oA.below hv6
      have oB6 := oB.below hv6
      have hz6 := hv6.size
      clear s0 s1 hltx a0 a1 a2 a3 hlta hgo
      cases q
      case true =>
        have hlo := blk_lt hx6
        have b0 := blk_cell hx6 0
        have b1 := blk_cell hx6 1
        have hltr := blk_lt hr6
        have r0 := blk_cell hr6 0
        have r1 := blk_cell hr6 1
        simp at b0 b1 r0 r1
        have hfr := blk_frozen hr6
        have ha9 := (oA6.set_blk hr6 (by decide) 0 (.slice A9 n c9)).set_blk (blk_set hr6 0 (.slice A9 n c9)) (by decide) 1 (.slice B9 m d9)
        have hb9 := (oB6.set_blk hr6 (by decide) 0 (.slice A9 n c9)).set_blk (blk_set hr6 0 (.slice A9 n c9)) (by decide) 1 (.slice B9 m d9)
        have hGs : Below w.heap.size w ((w6.setCell ⟨w.heap.size + 1 + 1, 0, none⟩ (.slice A9 n c9)).setCell ⟨w.heap.size + 1 + 1, 1, none⟩ (.slice B9 m d9)) := (hG6.setCell (by dsimp only; omega) _).setCell (by dsimp only; omega) _
        have oH := Lib.hid (And.intro ha9 hb9)
        clear ha9 hb9
        go_wp2
        have hr := hrH.out
        rw [if_pos (by simp)] at hr
        subst hr
        exact bodyPost_ret (v := .tuple #[.agg #[.slice A9 n c9, .slice B9 m d9], .int .i64 0]) (by simp [results, Tryz.results39, go_sem, r0, r1]) rfl ⟨A9, n, c9, B9, m, d9, rfl, oH.out.1.rd.1, oH.out.2.rd.1, by omega, by omega, oH.out.1.rd.2.2.1, oH.out.1.rd.2.2.2, oH.out.2.rd.2.2.1, oH.out.2.rd.2.2.2, hGs, oH.out.1.ty, oH.out.2.ty⟩
      case false =>
        have hr := hrH.out
        rw [if_neg (by simp)] at hr
        have hltx := blk_lt hs6
        have s0 := blk_cell hs6 0
        have s1 := blk_cell hs6 1
        simp at s0 s1
        by_cases hn0 : n = 4096
        · rw [if_pos hn0] at hr
          subst hr
          have hnd : ((n : Int) == 4096) = true := by rw [beq_iff_eq]; omega
          have hnd2 : (n : Int) = 4096 := by omega
          clear hrH hn0
          have hltr := blk_lt hr6
          have r0 := blk_cell hr6 0
          have r1 := blk_cell hr6 1
          have hfr := blk_frozen hr6
          simp at r0 r1
          have hGs : Below w.heap.size w ((w6.setCell ⟨w.heap.size + 1 + 1, 0, none⟩ (.slice none 0 0)).setCell ⟨w.heap.size + 1 + 1, 1, none⟩ (.slice none 0 0)) := (hG6.setCell (by dsimp only; omega) _).setCell (by dsimp only; omega) _
          go_wp2
          exact bodyPost_ret (v := .tuple #[.agg #[.slice none 0 0, .slice none 0 0], .int .i64 4]) (by simp [results, Tryz.results39, go_sem, r0, r1]) rfl (PostOT.nil_ hGs)
        · rw [if_neg hn0] at hr
          have hrH := Lib.hid hr
          have hnd : ((n : Int) == 4096) = false := by rw [beq_eq_false_iff_ne]; omega
          have hnd2 : ¬ (n : Int) = 4096 := by omega
          have a0 := blk_cell ha6 0
          have a1 := blk_cell ha6 1
          have a2 := blk_cell ha6 2
          have a3 := blk_cell ha6 3
          simp at a0 a1 a2 a3
          have hlta := blk_lt ha6
          have b0 := blk_cell hx6 0
          have b1 := blk_cell hx6 1
          simp at b0 b1
          have hlo := blk_lt hx6
          have hx6H := Lib.hid hx6
          have hr6H := Lib.hid hr6
          clear hr hs6 ha6 hx6 hr6 hs5 hr5 ha5 hbX
          go_wp2_with fail
          have hbO : Below w6.heap.size w6 (w6.alloc (.cells #[.int .i64 a.1.1.1, .int .u32 a.1.1.2, .int .i64 a.1.2, .string (bs a.2)] 123)) := (Below.refl _ w6).alloc (Nat.le_refl _) _
          refine (insA_any w4.heap.size A9 n c9 P xs a w6.heap.size _ (oA6.below hbO) hn hPl (heap_at _ _ rfl) (fun q hq => by have := (oA6.block q hq).2; omega) (by simp; omega)).mono ?_
          rintro e w7 ⟨A7, c7, rfl, o7, hg7⟩
          have hrow : ∀ q, (Value.slice A9 n c9).ownBlock = some q → w4.heap.size ≤ q := fun q hq => (oA6.block q hq).1
          have hx7 : w7.heap[g9]? = some (.cells #[.slice A9 n c9, .slice B9 m d9] 59 (0, 0)) := (hg7.block _ (by simp; omega) (fun e => (oA6.below hbO).ne_blk (blk_below hx6H.out hbO) (by decide) e.symm)).trans (blk_below hx6H.out hbO)
          have hr7 : w7.heap[w.heap.size + 1 + 1]? = some (.cells #[.slice none 0 0, .slice none 0 0] 59 (0, 0)) := (hg7.block _ (by simp; have := blk_lt hr6H.out; omega) (fun e => by have := hrow _ e.symm; omega)).trans (blk_below hr6H.out hbO)
          have oB7 : Ow w7 w4.heap.size 45 3 (.slice B9 m d9) (gs.map Tm.enc) := (oB6.below hbO).other (oA6.below hbO) (by decide) hg7
          have hG7 : Below w.heap.size w w7 := (hG6.trans (hbO.mono hG6.size)).grown hg7 (by simp; omega) (fun q hq => by have := hrow q hq; omega)
          rw [← hins.out] at o7
          clear s0 s1 hltx a0 a1 a2 a3 hlta b0 b1 hlo hg7 hrow hbO
          have hlo := blk_lt hx7
          have b0 := blk_cell hx7 0
          have b1 := blk_cell hx7 1
          have hltr := blk_lt hr7
          have r0 := blk_cell hr7 0
          have r1 := blk_cell hr7 1
          simp at b0 b1 r0 r1
          have hfo := blk_frozen hx7
          have hfr := blk_frozen hr7
          have hne : w.heap.size + 1 + 1 ≠ g9 := by omega
          have hne2 : g9 ≠ w.heap.size + 1 + 1 := by omega
          have hB1 : Below w.heap.size w (w7.setCell ⟨g9, 0, none⟩ (.slice A7 (n + 1) c7)) := hG7.setCell (by dsimp only; omega) _
          have hr9 : (w7.setCell ⟨g9, 0, none⟩ (.slice A7 (n + 1) c7)).heap[w.heap.size + 1 + 1]? = some (.cells #[.slice none 0 0, .slice none 0 0] 59 (0, 0)) := (((Below.refl g9 w7).setCell (Nat.le_refl _) _).block _ (by omega)).trans hr7
          have ha9 := ((o7.set_blk hx7 (by decide) 0 (.slice A7 (n + 1) c7)).set_blk hr9 (by decide) 0 (.slice A7 (n + 1) c7)).set_blk (blk_set hr9 0 _) (by decide) 1 (.slice B9 m d9)
          have hb9 := ((oB7.set_blk hx7 (by decide) 0 (.slice A7 (n + 1) c7)).set_blk hr9 (by decide) 0 (.slice A7 (n + 1) c7)).set_blk (blk_set hr9 0 _) (by decide) 1 (.slice B9 m d9)
          have oH := Lib.hid (And.intro ha9 hb9)
          have hx7H := Lib.hid hx7
          have hr7H := Lib.hid hr7
          have hB1H := Lib.hid hB1
          clear ha9 hb9 hx7 hr7 hr9 hB1
          go_wp2
          have hr := hrH.out
          subst hr
          exact bodyPost_ret (v := .tuple #[.agg #[.slice A7 (n + 1) c7, .slice B9 m d9], .int .i64 0]) (by simp [results, Tryz.results39, go_sem, r0, r1]) rfl ⟨A7, n + 1, c7, B9, m, d9, rfl, oH.out.1.rd.1, oH.out.2.rd.1, by omega, by omega, oH.out.1.rd.2.2.1, oH.out.1.rd.2.2.2, oH.out.2.rd.2.2.1, oH.out.2.rd.2.2.2, (hB1H.out.setCell (by dsimp only; omega) _).setCell (by dsimp only; omega) _, oH.out.1.ty, oH.out.2.ty⟩
end Go.Proofs.YtffnpfponnhddaaGreat
