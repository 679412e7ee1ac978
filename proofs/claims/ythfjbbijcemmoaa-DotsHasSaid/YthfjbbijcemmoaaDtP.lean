/- Package dots' pick, and Union and Minus. -/
import Derived.Test.YthfjbbijcemmoaaDtO
import Derived.Test.YthfjbbijcemmoaaDtJ
namespace Go.Proofs.Ythfjbbijcemmoaa
open Go.RowKit

attribute [local go_sem] Oper.semAt_some

/-- A function value that answers p of the places of a name. -/
def PredS (g : Nat) (p : Int → Bool) : Prop := ∀ u w, Calls Try.prog g #[.int .i64 u] w fun e w' => e = .returned (.bool (p u)) ∧ w' = w
theorem union1_pred : PredS 60 (fun _ => true) := by
  intro u w
  go_enter Try.func60, Try.ntmps60
  go_wp2
  go_ret
  exact ⟨rfl, rfl⟩
theorem minus1_pred : PredS 62 (fun u => u == 1) := by
  intro u w
  go_enter Try.func62, Try.ntmps62
  go_wp2
  go_ret
  exact ⟨rfl, rfl⟩

set_option maxRecDepth 100000 in
set_option maxHeartbeats 2000000 in
theorem pick_ok (fw : Nat) (p : Int → Bool) (efw : ∀ args w, (callFunc fw args).run Try.prog w = .ok (.enter fw args) w) (hp : PredS fw p) (A B : Option Addr) (n m c d : Nat) (xs ys : List Im) (w : World) (hA : RdI w w.heap.size A n xs) (hB : RdI w w.heap.size B m ys)
    (hn : n ≤ 1100) (hm : m ≤ 1100) (hnc : n ≤ c) (hmd : m ≤ d) (hc : c ≤ maxLen) (hd : d ≤ maxLen) (hx : ∀ x ∈ xs, x.wf) (hy : ∀ x ∈ ys, x.wf) (h1 : lerr xs = 0) (h2 : lerr ys = 0) :
    Calls Try.prog 59 #[.slice A n c, .slice B m d, .func (.func fw) #[] #[]] w fun e w' => ∃ A' n' c', e = .returned (.tuple #[.slice A' n' c', .int .i64 (pickErr p xs ys)]) ∧ GotI w' A' n' (pickOut p xs ys) ∧ Below w.heap.size w w' := by
  have hb0 : Below w.heap.size w (w.alloc (.cells #[.func (.func fw) #[] #[]] 86)) := (Below.refl _ w).alloc (Nat.le_refl _) _
  have k1 := check_any A n c xs _ ((hA.below hb0).more hb0.size) (by simp [maxLen]; omega) hx
  have k2 := fun w' hr => check_any B m d ys w' hr (by simp [maxLen]; omega) hy
  rw [h1] at k1
  rw [h2] at k2
  have k2 := Lib.hid k2
  refine (callsIn_wide (n := 6)).1 ?_
  refine callsIn_of_wp_marks Try.func59 rfl trivial ?_ rfl
  simp only [Try.ntmps59, List.size_toArray, List.length_cons, List.length_nil, Nat.reduceAdd, Nat.reduceSub, Array.replicate_succ, Array.replicate_zero, List.push_toArray, List.append_toArray, List.nil_append, List.cons_append]
  refine wpIn_wide.2 ?_
  go_wp2_with fail
  refine k1.mono ?_
  rintro e w1 ⟨rfl, hb1⟩
  replace hb1 : Below (w.heap.size + 1) (w.alloc (.cells #[.func (.func fw) #[] #[]] 86)) w1 := hb1.mono (by simp)
  have hz1 := hb1.size
  simp only [World.size_alloc] at hz1
  have hbw1 : Below w.heap.size w w1 := hb0.trans (hb1.mono (by omega))
  go_wp2_with fail
  refine (k2.out w1 ((hB.below hbw1).more hbw1.size)).mono ?_
  rintro e w2 ⟨rfl, hb2⟩
  have hz2 := hb2.size
  have hbw2 : Below w.heap.size w w2 := hbw1.trans (hb2.mono (by omega))
  go_wp2_with fail
  refine (merge_any A B n c m d _).mono ?_
  rintro e w3 ⟨rfl, hw3⟩
  have hwH := Lib.hid hw3
  clear hw3
  go_wp2_with fail
  have hw3 := hwH.out
  clear hwH
  have hs3 := congrArg (fun w : World => w.heap.size) hw3
  simp only [World.size_alloc] at hs3
  have hbw3 : Below w.heap.size w w3 := by rw [hw3]; exact ((hbw2.alloc (by omega) _).alloc (by simp; omega) _).alloc (by simp; omega) _
  have hbx : Below w2.heap.size w2 w3 := by rw [hw3]; exact (((Below.refl _ _).alloc (Nat.le_refl _) _).alloc (by simp) _).alloc (by simp; omega) _
  have bF : w3.heap[w.heap.size]? = some (.cells #[.func (.func fw) #[] #[]] 86 (0, 0)) :=
    (hbx.block _ (by omega)).trans ((hb2.block _ (by omega)).trans ((hb1.block _ (by omega)).trans (heap_at _ _ rfl)))
  have bL : w3.heap[w2.heap.size]? = some (.cells #[.slice none 0 0] 22 (0, 0)) := by rw [hw3]; exact heap_old _ (by simp; omega) (heap_old _ (by simp) (heap_at _ _ rfl))
  have bA : w3.heap[w2.heap.size + 1]? = some (.cells #[.slice A n c] 22 (0, 0)) := by rw [hw3]; exact heap_old _ (by simp) (heap_at _ _ (by simp))
  have bB : w3.heap[w2.heap.size + 1 + 1]? = some (.cells #[.slice B m d] 22 (0, 0)) := by rw [hw3]; exact heap_at _ _ (by simp)
  have hA3 : RdI w3 w2.heap.size A n xs := ((hA.below hbw2).more hbw2.size).below hbx
  have hB3 : RdI w3 w2.heap.size B m ys := ((hB.below hbw2).more hbw2.size).below hbx
  have hlx := hA.len
  have hly := hB.len
  have hml := mergeI_len xs ys
  have hseq := merge1_seq (6 - 1) (w2.heap.size + 1) (w2.heap.size + 1 + 1) w2.heap.size (w2.heap.size + 3) w2.heap.size A B n m c d xs ys w3 (by decide) bA bB (by omega) (by omega) (by omega) (by omega) (by omega) (by omega) (Nat.le_refl _) (by omega) (by omega) (by omega) hA3 hB3 hnc hmd hc hd
  clear hw3 bA bB hA3 hB3 hA hB k1 k2
  refine (wpIn_wide (n := 6)).1 ?_
  refine wpIn_rangeFunc_Z rfl (by decide) (gf := 113) (lb := #[.pointer (some ⟨w2.heap.size + 1, 0, none⟩), .pointer (some ⟨w2.heap.size + 1 + 1, 0, none⟩)]) rfl trivial (enters_of Try.func113 (by kernel_rfl) rfl)
    hseq (fun h k => h.trans k) (fun W l o o' hl h h1 h2 => KpB.of_below (belowK_b (w := w3) (by omega) W l o o' hl h h1 h2)) (Below.refl _ _) (fun _ => rfl)
    (fun pre W => (∃ A' n' c', W.heap[w2.heap.size]? = some (.cells #[.slice A' n' c'] 22 (0, 0)) ∧ Ow W (w2.heap.size + 3) 35 2 (.slice A' n' c') (((pre.filter fun u => p u.2).map Prod.fst).map Im.enc)) ∧
      W.heap[w.heap.size]? = some (.cells #[.func (.func fw) #[] #[]] 86 (0, 0)) ∧ w2.heap.size + 3 ≤ W.heap.size ∧ Below w.heap.size w W)
    ?hI ?hIZ (by rintro r (rfl | rfl) <;> omega) ⟨⟨none, 0, 0, bL, Ow.nil_ _ _ _ _⟩, bF, by omega, hbw3⟩
    (fun x a' W => ∃ Bx, W.heap[Bx]? = some (.cells #[.int .i64 x.1.1, .int .u32 x.1.2] 35 (0, 0)) ∧ w2.heap.size + 3 ≤ Bx ∧ a' = { tmps := #[.slice A n c, .slice B m d, .func (.func fw) #[] #[], undef, undef, .pointer (some ⟨w.heap.size, 0, none⟩), .slice none 0 0, .int .i64 0, .int .i64 0, .int .i64 0, .pointer (some ⟨w2.heap.size, 0, none⟩), .pointer (some ⟨Bx, 0, none⟩), .int .i64 x.2, .slice A n c, .int .i64 0, .int .i64 0, .bool false, undef, .slice B m d, .int .i64 0, .int .i64 0, .bool false, undef, .slice A n c, .slice B m d, .func (.func 113) #[] #[.pointer (some ⟨w2.heap.size + 1, 0, none⟩), .pointer (some ⟨w2.heap.size + 1 + 1, 0, none⟩)], .agg #[.int .i64 x.1.1, .int .u32 x.1.2], .int .i64 x.2, undef, undef, undef, undef, undef, undef, undef, undef, undef, undef, undef], defers := [] })
    ?hAx ?assign ?body ?done
  case hI =>
    rintro pre X Y row ⟨⟨A', n', c', h1, h2⟩, h3, h5, h4⟩ hg hr
    refine ⟨⟨A', n', c', (hg.block _ (blk_lt h1) (fun e => by have := (hr _ e.symm).1; omega)).trans h1, h2.kept hg (fun g cs t _ _ hh e => ?_)⟩, (hg.block _ (blk_lt h3) (fun e => by have := (hr _ e.symm).1; omega)).trans h3, Nat.le_trans h5 hg.size, h4.grown hg h4.size (fun k e => by have := (hr _ e).1; omega)⟩
    obtain ⟨o, ho, hc⟩ := (hr g e).2
    rw [hh] at ho; cases ho; cases hc
  case hIZ =>
    rintro pre X Y row ⟨⟨A', n', c', h1, h2⟩, h3, h5, h4⟩ hg hr
    refine ⟨⟨A', n', c', (hg.block _ (blk_lt h1) (fun e => by have := hr _ e.symm; omega)).trans h1, h2.kept hg (fun g cs t _ hb hh e => by have := hr _ e; omega)⟩, (hg.block _ (blk_lt h3) (fun e => by have := hr _ e.symm; omega)).trans h3, Nat.le_trans h5 hg.size, h4.grown hg h4.size (fun k e => by have := hr _ e; omega)⟩
  case hAx =>
    rintro x a' _ X Y row ⟨Bx, h1, h2, h3⟩ hg hr
    refine ⟨Bx, (hg.block _ (blk_lt h1) (fun e => ?_)).trans h1, h2, h3⟩
    obtain ⟨o, ho, hc⟩ := (hr Bx e.symm).2
    rw [h1] at ho; cases ho; cases hc
  case assign =>
    rintro l pre x W K ⟨⟨A', n', c', i1, i2⟩, i3, i5, i4⟩ hK
    gi_wp2
    refine hK _ _ ((KeepsOthers.alloc _ _).from _) (KpB.of_below ((Below.refl _ W).alloc i5 _)) ⟨⟨A', n', c', heap_old _ (blk_lt i1) i1, i2.below ((Below.refl _ W).alloc (Nat.le_refl _) _)⟩, heap_old _ (blk_lt i3) i3, by simp; omega, i4.alloc i4.size _⟩ ⟨W.heap.size, heap_at _ _ rfl, i5, rfl⟩
  case body =>
    rintro l pre x a' W hl ⟨r, hr⟩ ⟨⟨A', n', c', i1, i2⟩, i3, i5, i4⟩ ⟨Bx, b1, b2, rfl⟩ hpre
    have hpl := List.IsPrefix.length_le hpre
    have cL := blk_cell i1 0
    have fL := blk_frozen i1 0
    have cF := blk_cell i3 0
    have cX := blk_cell b1 0
    have cY := blk_cell b1 1
    simp at cL cF cX cY hpl
    have hBl : w2.heap.size < W.heap.size := blk_lt i1
    have hBx := blk_lt b1
    have hfl : (pre.filter fun u => p u.2).length ≤ pre.length := List.length_filter_le _ _
    have hnl : n' = (pre.filter fun u => p u.2).length := by have := i2.rd.2.1; simp at this; exact this.symm
    have hcall := hp x.2
    have hft : ∀ b, p x.2 = b → (pre ++ [x]).filter (fun u => p u.2) = (pre.filter fun u => p u.2) ++ if b then [x] else [] := by
      intro b hb; rw [List.filter_append, ← hb]; cases h : p x.2 <;> simp [h]
    have hftH := Lib.hid (hft _ rfl)
    clear hft
    generalize p x.2 = b at hcall hftH
    have hnlH := Lib.hid hnl
    clear hnl
    gi_wp2_with fail
    refine ⟨trivial, (CallsIn.inRound l (callsIn_wide.2 (hcall W))).mono ?_⟩
    rintro e w' ⟨rfl, hw'⟩
    obtain rfl := hw'.symm
    cases b
    · gi_wp2
      refine ⟨KeepsFrom.refl _ _, KpB.of_below (Below.refl _ _), ⟨A', n', c', i1, ?_⟩, i3, i5, i4⟩
      rw [hftH.out]; simpa using i2
    · have hlen1 : ∀ y ∈ ([[.int .i64 x.1.1, .int .u32 x.1.2]] : List (List Value)), y.length = 2 := by simp
      have hone1 : ∀ y ∈ ([[.int .i64 x.1.1, .int .u32 x.1.2]] : List (List Value)), ∀ v ∈ y, v.oneCell' = true := by simp [Value.oneCell']
      have hmw : Below W.heap.size W (W.alloc (.cells #[.int .i64 x.1.1, .int .u32 x.1.2] 35)) := (Below.refl _ _).alloc (Nat.le_refl _) _
      gi_wp2_with (gi_at_builtin; refine wpListIn_append_rd _ rfl _ _ _ rfl eId (base := w2.heap.size + 3) (v := .slice A' n' c') rfl (i2.below hmw) rfl (Rd.one' [.int .i64 x.1.1, .int .u32 x.1.2] rfl) hlen1 hone1 (by simp [maxLen]; omega) (by simp; omega) (by simp; omega) ?_; intro A4 n4 c4 w4 hn4 hown4 hg4 hat4; (have hB4 : w4.heap[w2.heap.size]? = some (.cells #[.slice A' n' c'] 22 (0, 0)) := (hg4.block _ (by simp; omega) (fun e => by have := (i2.block _ e.symm).1; omega)).trans (heap_old _ (blk_lt i1) i1)); (have c4L : w4.cell? ⟨w2.heap.size, 0, none⟩ = some (.slice A' n' c') := blk_cell hB4 0); (have f4L := blk_frozen hB4 0); (have hn4H := Lib.hid hn4); clear hn4)
      have hg5 : W.grownBy w4 (Value.slice A' n' c').ownBlock := (World.grownBy_alloc W _ _).trans hg4
      have hbl := i2.block
      have hKp : KpB (w2.heap.size + 3) w2.heap.size W (w4.setCell ⟨w2.heap.size, 0, none⟩ (.slice A4 n4 c4)) :=
        (KpB.of_below ((Below.refl _ W).grown hg5 i5 (fun k e => (hbl k e).1))).trans ⟨by simp [World.setCell], fun k h1 h2 => Below.heap_setCell _ _ _ k (by simpa using h2)⟩
      have hKf : KeepsFrom w3.heap.size W (w4.setCell ⟨w2.heap.size, 0, none⟩ (.slice A4 n4 c4)) := by
        refine ((KeepsOthers.of_grownBy hg5 (fun j o ej hj => ?_)).trans (KeepsOthers.setCell _ _ _)).from _
        rcases i2.2.2 with ⟨h, _⟩ | ⟨g, cap, cur, h, _, hgb, _⟩
        · rw [h] at ej; simp [Value.ownBlock] at ej
        · rw [h] at ej
          obtain rfl : g = j := by simpa [Value.ownBlock] using ej
          rw [hgb] at hj; cases hj; rfl
      refine ⟨hKf, hKp, ⟨A4, n4, c4, by rw [blk_set hB4]; rfl, ?_⟩, ?_, Nat.le_trans i5 hKp.size, ?_⟩
      · rw [hftH.out]
        have h6 := Ow.kept hown4 (gr_set (g := w2.heap.size) (World.grownBy.refl w4 _) 0 (.slice A4 n4 c4)) (fun g cs t _ hb _ e => by injection e with e; omega)
        simpa [Im.enc] using h6
      · exact (Below.heap_setCell _ _ _ _ (by simp; omega)).trans ((hg5.block _ (blk_lt i3) (fun e => by have := (hbl _ e.symm).1; omega)).trans i3)
      · exact (i4.grown hg5 i4.size (fun k e => by have := (hbl k e).1; omega)).setCell (by simp; omega) _
  case done =>
    rintro D W hD ⟨⟨A', n', c', i1, i2⟩, i3, i5, i4⟩ hK
    have cL : W.cell? ⟨w2.heap.size, 0, none⟩ = some (.slice A' n' c') := blk_cell i1 0
    have hnl : (pickI p xs ys).length = n' := by have := i2.rd.2.1; simpa [pickI] using this
    have hbd := bounded_any A' n' c' W
    have hpe : pickErr p xs ys = if 64 < n' then 8 else 0 := by unfold pickErr; rw [if_neg (by rw [lerr2_zero.2 ⟨h1, h2⟩]; simp), hnl]
    have hpo : pickOut p xs ys = if 64 < n' then [] else pickI p xs ys := by unfold pickOut; rw [hpe]; split <;> simp
    have hpeH := Lib.hid hpe
    have hpoH := Lib.hid hpo
    clear hpe hpo
    have hbD : Below w.heap.size w (W.putObj D (.deferred none)) := i4.trans (belowK_b (w := w3) hbw3.size W D _ _ hD hK rfl rfl)
    have hownD : Ow (W.putObj D (.deferred none)) (w2.heap.size + 3) 35 2 (.slice A' n' c') ((pickI p xs ys).map Im.enc) :=
      i2.kept (grownBy_putObj' W D _) (fun g cs t _ _ hh e => by injection e with e; subst e; rw [hK] at hh; cases hh)
    by_cases h64 : 64 < n'
    · rw [if_pos h64] at hbd
      go_wp2_with fail
      refine hbd.mono ?_
      rintro e w' ⟨rfl, hw'⟩
      obtain rfl := hw'.symm
      go_wp2
      refine ⟨by simp, .inl ⟨_, _, rfl, run_takeDeferred hK, ?_⟩⟩
      refine ⟨.tuple #[.slice none 0 0, .int .i64 8], by simp [results, Try.results59, go_sem], none, 0, 0, by rw [hpeH.out, if_pos h64], by rw [hpoH.out, if_pos h64]; exact gotI_nil _, hbD⟩
    · rw [if_neg h64] at hbd
      go_wp2_with fail
      refine hbd.mono ?_
      rintro e w' ⟨rfl, hw'⟩
      obtain rfl := hw'.symm
      have hgot := gotI_own hownD
      go_wp2
      refine ⟨by simp, .inl ⟨_, _, rfl, run_takeDeferred hK, ?_⟩⟩
      refine ⟨.tuple #[.slice A' n' c', .int .i64 0], by simp [results, Try.results59, go_sem], A', n', c', by rw [hpeH.out, if_neg h64], by rw [hpoH.out, if_neg h64]; exact hgot, hbD⟩

set_option maxRecDepth 100000 in
theorem pick_any (fw : Nat) (p : Int → Bool) (efw : ∀ args w, (callFunc fw args).run Try.prog w = .ok (.enter fw args) w) (hp : PredS fw p) (A B : Option Addr) (n m c d : Nat) (xs ys : List Im) (w : World) (hA : RdI w w.heap.size A n xs) (hB : RdI w w.heap.size B m ys)
    (hn : n ≤ 1100) (hm : m ≤ 1100) (hnc : n ≤ c) (hmd : m ≤ d) (hc : c ≤ maxLen) (hd : d ≤ maxLen) (hx : ∀ x ∈ xs, x.wf) (hy : ∀ x ∈ ys, x.wf) :
    Calls Try.prog 59 #[.slice A n c, .slice B m d, .func (.func fw) #[] #[]] w fun e w' => ∃ A' n' c', e = .returned (.tuple #[.slice A' n' c', .int .i64 (pickErr p xs ys)]) ∧ GotI w' A' n' (pickOut p xs ys) ∧ Below w.heap.size w w' := by
  by_cases h1 : lerr xs = 0
  · by_cases h2 : lerr ys = 0
    · exact pick_ok fw p efw hp A B n m c d xs ys w hA hB hn hm hnc hmd hc hd hx hy h1 h2
    · have he : lerr2 xs ys = lerr ys := by unfold lerr2; simp [h1]
      have hpe : pickErr p xs ys = lerr ys := by unfold pickErr; rw [he, if_pos h2]
      have hpo : pickOut p xs ys = [] := by unfold pickOut; rw [hpe, if_pos h2]
      rw [hpe, hpo]
      have hb0 : Below w.heap.size w (w.alloc (.cells #[.func (.func fw) #[] #[]] 86)) := (Below.refl _ w).alloc (Nat.le_refl _) _
      have k1 := check_any A n c xs _ ((hA.below hb0).more hb0.size) (by simp [maxLen]; omega) hx
      have k2 := fun w' hr => check_any B m d ys w' hr (by simp [maxLen]; omega) hy
      rw [h1] at k1
      generalize lerr ys = q at k2 h2 ⊢
      have k2 := Lib.hid k2
      go_enter Try.func59, Try.ntmps59
      go_wp2_with fail
      refine k1.mono ?_
      rintro e w1 ⟨rfl, hb1⟩
      have hbw1 : Below w.heap.size w w1 := hb0.trans (hb1.mono (by simp))
      go_wp2_with fail
      refine (k2.out w1 ((hB.below hbw1).more hbw1.size)).mono ?_
      rintro e w2 ⟨rfl, hb2⟩
      have hbw2 : Below w.heap.size w w2 := hbw1.trans (hb2.mono hbw1.size)
      have hd : (q != 0) = true := by simpa using h2
      go_wp2
      refine bodyPost_ret (v := .tuple #[.slice none 0 0, .int .i64 q]) (by simp [results, Try.results59, go_sem]) rfl ⟨none, 0, 0, rfl, gotI_nil _, hbw2⟩
  · have he : lerr2 xs ys = lerr xs := by unfold lerr2; simp [h1]
    have hpe : pickErr p xs ys = lerr xs := by unfold pickErr; rw [he, if_pos h1]
    have hpo : pickOut p xs ys = [] := by unfold pickOut; rw [hpe, if_pos h1]
    rw [hpe, hpo]
    have hb0 : Below w.heap.size w (w.alloc (.cells #[.func (.func fw) #[] #[]] 86)) := (Below.refl _ w).alloc (Nat.le_refl _) _
    have k1 := check_any A n c xs _ ((hA.below hb0).more hb0.size) (by simp [maxLen]; omega) hx
    generalize lerr xs = q at k1 h1 ⊢
    go_enter Try.func59, Try.ntmps59
    go_wp2_with fail
    refine k1.mono ?_
    rintro e w1 ⟨rfl, hb1⟩
    have hbw1 : Below w.heap.size w w1 := hb0.trans (hb1.mono (by simp))
    have hd : (q != 0) = true := by simpa using h1
    go_wp2
    refine bodyPost_ret (v := .tuple #[.slice none 0 0, .int .i64 q]) (by simp [results, Try.results59, go_sem]) rfl ⟨none, 0, 0, rfl, gotI_nil _, hbw1⟩
theorem union_any (A B : Option Addr) (n m c d : Nat) (xs ys : List Im) (w : World) (hA : RdI w w.heap.size A n xs) (hB : RdI w w.heap.size B m ys)
    (hn : n ≤ 1100) (hm : m ≤ 1100) (hnc : n ≤ c) (hmd : m ≤ d) (hc : c ≤ maxLen) (hd : d ≤ maxLen) (hx : ∀ x ∈ xs, x.wf) (hy : ∀ x ∈ ys, x.wf) :
    Calls Try.prog 14 #[.slice A n c, .slice B m d] w fun e w' => ∃ A' n' c', e = .returned (.tuple #[.slice A' n' c', .int .i64 (unionErr xs ys)]) ∧ GotI w' A' n' (unionR xs ys) ∧ Below w.heap.size w w' := by
  have h := pick_any 60 (fun _ => true) (enters_of Try.func60 (by kernel_rfl) rfl) union1_pred A B n m c d xs ys w hA hB hn hm hnc hmd hc hd hx hy
  rw [(union_plain xs ys).1, (union_plain xs ys).2] at h
  generalize unionErr xs ys = er at h ⊢
  generalize unionR xs ys = out at h ⊢
  go_enter Try.func14, Try.ntmps14
  go_wp2_with fail
  refine h.mono ?_
  rintro e w1 ⟨A1, n1, c1, rfl, hgot, hb⟩
  go_wp2
  refine bodyPost_ret (v := .tuple #[.slice A1 n1 c1, .int .i64 er]) (by simp [results, Try.results14, go_sem]) rfl ⟨A1, n1, c1, rfl, hgot, hb⟩
theorem minus_any (A B : Option Addr) (n m c d : Nat) (xs ys : List Im) (w : World) (hA : RdI w w.heap.size A n xs) (hB : RdI w w.heap.size B m ys)
    (hn : n ≤ 1100) (hm : m ≤ 1100) (hnc : n ≤ c) (hmd : m ≤ d) (hc : c ≤ maxLen) (hd : d ≤ maxLen) (hx : ∀ x ∈ xs, x.wf) (hy : ∀ x ∈ ys, x.wf) :
    Calls Try.prog 17 #[.slice A n c, .slice B m d] w fun e w' => ∃ A' n' c', e = .returned (.tuple #[.slice A' n' c', .int .i64 (lerr2 xs ys)]) ∧ GotI w' A' n' (minusI xs ys) ∧ Below w.heap.size w w' := by
  have h := pick_any 62 (fun u => u == 1) (enters_of Try.func62 (by kernel_rfl) rfl) minus1_pred A B n m c d xs ys w hA hB hn hm hnc hmd hc hd hx hy
  rw [(minus_plain xs ys).1, (minus_plain xs ys).2] at h
  generalize lerr2 xs ys = er at h ⊢
  generalize minusI xs ys = out at h ⊢
  go_enter Try.func17, Try.ntmps17
  go_wp2_with fail
  refine h.mono ?_
  rintro e w1 ⟨A1, n1, c1, rfl, hgot, hb⟩
  go_wp2
  refine bodyPost_ret (v := .tuple #[.slice A1 n1 c1, .int .i64 er]) (by simp [results, Try.results17, go_sem]) rfl ⟨A1, n1, c1, rfl, hgot, hb⟩
end Go.Proofs.Ythfjbbijcemmoaa
