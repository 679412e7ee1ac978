/- slices.SortStableFunc at parts: up to 39 of them. Sets of additions: what is wrong with one, by the program and by the document. The document's sets of additions: the names of additions, what is wrong with a set. The statements' own To, From and Great of sets; the document's Same. slices.Clone, DeleteFunc, Grow and Concat at tags; Clone and DeleteFunc at additions. -/
import Derived.Test.YtpolplmniaoikaaDoorMk
import Derived.Test.YtpolplmniaoikaaDoorMb
import Derived.Test.YtpolplmniaoikaaDoorN12
import Derived.Test.YtpolplmniaoikaaDoorN14
import Derived.Lib.SliceRun
import Derived.Lib.AppendZeros
import Derived.Shelf.Abstract
namespace Go.Proofs.YtpolplmniaoikaaDoor
open Go.RowKit

set_option maxRecDepth 100000 in
set_option maxHeartbeats 4000000 in
theorem stable_any (base : Nat) (A : Option Addr) (n c : Nat) (ps : List Pe) (w : World) (hB : base ≤ w.heap.size) (hown : Ow w base 69 10 (.slice A n c) (ps.map Pe.enc)) (hn : n ≤ 39) :
    Calls Tryd.prog 14 #[.slice A n c, .func (.func 15) #[] #[]] w
      fun e w' => e = .returned (.tuple #[]) ∧ ∃ ys : List Pe, ys.Perm ps ∧ ys.Pairwise (fun x y => x.num ≤ y.num) ∧ Ow w' base 69 10 (.slice A n c) (ys.map Pe.enc) ∧ w.grownBy w' (Value.slice A n c).ownBlock := by
  have hl : ps.length = n := by simpa using hown.rd.2.1
  suffices h : Calls Tryd.prog 29 #[.slice A n c, .int .i64 (n : Int), .func (.func 15) #[] #[]] w
      (fun e w' => e = .returned (.tuple #[]) ∧ ∃ ys : List Pe, ys.Perm ps ∧ ys.Pairwise (fun x y => x.num ≤ y.num) ∧ Ow w' base 69 10 (.slice A n c) (ys.map Pe.enc) ∧ w.grownBy w' (Value.slice A n c).ownBlock) by
    have h := Lib.hid h
    clear hown hl
    go_enter Tryd.func14, Tryd.ntmps14
    go_wp2_with fail
    refine h.out.mono ?_
    rintro e w' ⟨rfl, hR⟩
    go_wp2
    go_end0
    exact ⟨rfl, hR⟩
  have hownH := Lib.hid hown
  rcases Nat.eq_zero_or_pos n with h0 | hpos
  · subst h0
    obtain rfl := List.eq_nil_of_length_eq_zero hl
    have cN := Lib.hid (fun w => insort_none (.slice A 0 c) 0 0 (by omega) (by omega) (by omega) (.func (.func 15) #[] #[]) w)
    clear hown
    go_enter Tryd.func29, Tryd.ntmps29
    go_wp2
    refine wp_loop_rounds 1 ?_
    rw [rounds_succ]
    go_wp2_with fail
    refine (cN.out _).mono ?_
    rintro e w' ⟨rfl, rfl⟩
    go_wp2
    refine wp_loop_rounds 1 ?_
    rw [rounds_succ]
    go_wp2
    go_end0
    exact ⟨rfl, [], List.Perm.refl _, List.Pairwise.nil, hownH.out, World.grownBy.refl _ _⟩
  obtain ⟨g, rfl, hgb, _, _, _⟩ := hown.addr hpos
  clear hown
  by_cases h20 : n < 20
  · have hni : ¬ (20 : Int) ≤ (n : Int) := by omega
    have hni2 : ¬ (20 : Int) < (n : Int) := by omega
    have cS := insort_any base g n c 0 n ps w hB hownH.out (by omega) hpos (Nat.le_refl _)
    have cS := Lib.hid cS
    go_enter Tryd.func29, Tryd.ntmps29
    go_wp2
    refine wp_loop_rounds 1 ?_
    rw [rounds_succ]
    go_wp2_with fail
    refine cS.out.mono ?_
    rintro e w1 ⟨rfl, ys, hmv, hso, hown1, hg1⟩
    have hso := Lib.hid hso
    have hmv := Lib.hid hmv
    go_wp2
    refine wp_loop_rounds 1 ?_
    rw [rounds_succ]
    go_wp2
    go_end0
    exact ⟨rfl, ys, hmv.out.perm, So.pair hso.out rfl (by rw [hmv.out.len, hl]; exact Nat.le_refl _), hown1, hg1⟩
  have hge : (20 : Int) ≤ (n : Int) := by omega
  have hn40 : ¬ (40 : Int) ≤ (n : Int) := by omega
  have cS := Lib.hid (insort_any base g n c 0 20 ps w hB hownH.out (by omega) (by omega) (by omega))
  by_cases h21 : n = 20
  · subst h21
    have cN := Lib.hid (fun w => insort_none (.slice (some ⟨g, 0, none⟩) 20 c) 20 20 (by omega) (by omega) (by omega) (.func (.func 15) #[] #[]) w)
    go_enter Tryd.func29, Tryd.ntmps29
    go_wp2
    refine wp_loop_rounds 2 ?_
    rw [rounds_succ]
    go_wp2_with fail
    refine cS.out.mono ?_
    rintro e w1 ⟨rfl, ys, hmv, hso, hown1, hg1⟩
    have hso := Lib.hid hso
    have hmv := Lib.hid hmv
    go_wp2
    rw [rounds_succ]
    go_wp2_with fail
    refine (cN.out _).mono ?_
    rintro e w' ⟨rfl, rfl⟩
    go_wp2
    refine wp_loop_rounds 1 ?_
    rw [rounds_succ]
    go_wp2
    go_end0
    exact ⟨rfl, ys, hmv.out.perm, So.pair hso.out rfl (by rw [hmv.out.len, hl]; exact Nat.le_refl _), hown1, hg1⟩
  have hlt20 : (20 : Int) < (n : Int) := by omega
  have hnlt40 : ¬ (40 : Int) < (n : Int) := by omega
  have cT := Lib.hid (fun (ys : List Pe) w' hB' ho => insort_any base g n c 20 n ys w' hB' ho (by omega) (by omega) (Nat.le_refl _))
  have cM := Lib.hid (fun (zs : List Pe) w' hB' ho h1 h2 => symm_any base g n c (by omega) n 0 20 n zs w' (by omega) hB' ho (by omega) (by omega) (Nat.le_refl _) h1 h2)
  go_enter Tryd.func29, Tryd.ntmps29
  go_wp2
  refine wp_loop_rounds 2 ?_
  rw [rounds_succ]
  go_wp2_with fail
  refine cS.out.mono ?_
  rintro e w1 ⟨rfl, ys, hmv, hso, hown1, hg1⟩
  have hB1 := Nat.le_trans hB hg1.size
  have hso := Lib.hid hso
  have hmv := Lib.hid hmv
  go_wp2
  rw [rounds_succ]
  go_wp2_with fail
  refine (cT.out ys w1 hB1 hown1).mono ?_
  rintro e w2 ⟨rfl, zs, hmv2, hso2, hown2, hg2⟩
  have hB2 := Nat.le_trans hB1 hg2.size
  have hs1 : So Pe.num 0 20 zs := hso.out.same (fun k k1 k2 => hmv2.out k (.inl k2))
  have hp2 := Lib.hid (hmv2.perm.trans hmv.out.perm)
  have hg12 := Lib.hid (hg1.trans hg2)
  have cM := Lib.hid (cM.out zs w2 hB2 hown2 hs1 hso2)
  clear hown1 hown2 hmv2 hso2 hs1 hg1 hg2
  go_wp2
  refine wp_loop_rounds 2 ?_
  rw [rounds_succ]
  go_wp2
  refine wp_loop_rounds 1 ?_
  rw [rounds_succ]
  go_wp2_with fail
  refine cM.out.mono ?_
  rintro e w3 ⟨rfl, us, hmv3, hso3, hown3, hg3⟩
  have hmv3 := Lib.hid hmv3
  have hso3 := Lib.hid hso3
  go_wp2
  rw [rounds_succ]
  go_wp2
  go_end0
  exact ⟨rfl, us, hmv3.out.perm.trans hp2.out, So.pair hso3.out rfl (by rw [hmv3.out.len, hp2.out.length_eq, hl]; exact Nat.le_refl _), hown3, hg12.out.trans hg3⟩
end Go.Proofs.YtpolplmniaoikaaDoor
namespace Go.Proofs.YtpolplmniaoikaaDoor
open Go.RowKit

theorem all_chkA (xs : List Am) : (xs.map Prod.fst).all chkT = !xs.any (fun a => !chkT a.1) := by
  rw [List.all_map, List.all_eq_not_any_not]; rfl
theorem all_chkT (gs : List Tm) : gs.all chkT = !gs.any (fun t => !chkT t) := by rw [List.all_eq_not_any_not]
/-- What is wrong with a set, by what its parts are asked. -/
theorem oErr_parts {xs : List Am} {gs : List Tm} {n m : Nat} {b1 b2 b3 b4 b5 : Bool} (hn : xs.length = n) (hm : gs.length = m) (h1 : xs.any (fun a => !chkT a.1) = b1) (h2 : gs.any (fun t => !chkT t) = b2) (h3 : ascT (xs.map Prod.fst) = b3) (h4 : ascT gs = b4) (h5 : badA xs gs = b5) :
    oErr xs gs = if 4096 < n ∨ 4096 < m then 8 else if b1 || b2 then 2 else if b3 && b4 then (if b5 then 3 else 0) else 3 := by
  unfold oErr sErr
  rw [all_chkA, all_chkT, h1, h2, h3, h4, h5, List.length_map, hn, hm]
  cases b1 <;> cases b2 <;> cases b3 <;> cases b4 <;> cases b5 <;> rfl

end Go.Proofs.YtpolplmniaoikaaDoor
namespace Go.Proofs.YtpolplmniaoikaaDoor
open Go.RowKit

end Go.Proofs.YtpolplmniaoikaaDoor
namespace Go.Proofs.YtpolplmniaoikaaDoor
open Go.RowKit

theorem infoAddR : (Tryd.prog.info? 156).map (fun i => (i.zero, i.size, i.bytes)) = some (some (.agg #[.int .i64 0, .int .u32 0, .int .i64 0, .string ⟨#[]⟩]), 4, 40) := by kernel_rfl
theorem eAddR : ElemInfo Tryd.prog 56 156 4 40 := by
  obtain ⟨i, hi, h0, h1, h2⟩ := info_parts infoAddR
  exact ⟨Tryd.underlying56, ⟨i, _, hi, h0, h1, h2, rfl⟩, by decide⟩
def grO (n m : Nat) : Bool := decide (200 < n ∨ 200 < m)
set_option maxRecDepth 100000 in
theorem ogreat_any (A : Option Addr) (n c : Nat) (B : Option Addr) (m d : Nat) (w : World) :
    Calls Tryd.prog 23 #[.agg #[.slice A n c, .slice B m d]] w fun e w' => e = .returned (.bool (grO n m)) ∧ Below w.heap.size w w' := by
  generalize hr : grO n m = r
  unfold grO at hr
  have hrH := Lib.hid hr
  clear hr
  have hB0 : Below w.heap.size w (w.alloc (.cells #[.slice A n c, .slice B m d] 58)) := (Below.refl _ w).alloc (Nat.le_refl _) _
  by_cases h1 : (200 : Int) < (n : Int)
  · have hT : Hid (true = r) := Lib.hid (by rw [← hrH.out]; symm; exact decide_eq_true (by omega))
    go_enter Tryd.func23, Tryd.ntmps23
    go_wp2
    go_ret
    exact ⟨ret_bool hT.out, hB0⟩
  · have hd1 : decide ((200 : Int) < (n : Int)) = false := decide_eq_false h1
    by_cases h2 : (200 : Int) < (m : Int)
    · have hT : Hid (true = r) := Lib.hid (by rw [← hrH.out]; symm; exact decide_eq_true (by omega))
      go_enter Tryd.func23, Tryd.ntmps23
      go_wp2
      go_ret
      exact ⟨ret_bool hT.out, hB0⟩
    · have hd2 : decide ((200 : Int) < (m : Int)) = false := decide_eq_false h2
      have hT : Hid (false = r) := Lib.hid (by rw [← hrH.out]; symm; exact decide_eq_false (by omega))
      go_enter Tryd.func23, Tryd.ntmps23
      go_wp2
      go_ret
      exact ⟨ret_bool hT.out, hB0⟩
end Go.Proofs.YtpolplmniaoikaaDoor
namespace Go.Proofs.YtpolplmniaoikaaDoor
open Go.RowKit

theorem filter_takeG {α : Type} {l : List α} {p : α → Bool} {k : Nat} {u : α} (h : l[k]? = some u) : (l.take (k + 1)).filter p = (l.take k).filter p ++ if p u then [u] else [] := by
  rw [List.take_add_one, h, List.filter_append]
  cases hp : p u <;> simp [hp]
set_option maxRecDepth 100000 in
theorem cloneT_any (A : Option Addr) (n c : Nat) (xs : List Tm) (w : World) (hA : RdT w w.heap.size A n xs) (hn : n ≤ 100000) :
    Calls Tryd.prog 32 #[.slice A n c] w fun e w' => ∃ A' c', e = .returned (.slice A' n c') ∧ Ow w' w.heap.size 43 3 (.slice A' n c') (xs.map Tm.enc) ∧ Below w.heap.size w w' := by
  have hl := hA.len
  cases A with
  | none =>
    obtain rfl : n = 0 := by
      rcases Nat.eq_zero_or_pos n with h | h
      · exact h
      · obtain ⟨b, o, h2, _⟩ := hA.2 h; cases h2
    obtain rfl : xs = [] := List.eq_nil_of_length_eq_zero hl
    have hnil : ∀ w, (binOp .eql 46 (.slice none 0 c) (.slice none 0 0)).run Tryd.prog w = .ok (.bool true) w := fun w => by rw [Lib.run_eql_slice_nil w _ _ none 0 c 0 0 Tryd.underlying46]; rfl
    go_enter Tryd.func32, Tryd.ntmps32
    go_wp2
    go_ret
    exact ⟨none, 0, rfl, Ow.nil_ _ _ _ _, Below.refl _ _⟩
  | some a =>
    have hnil : ∀ w, (binOp .eql 46 (.slice (some a) n c) (.slice none 0 0)).run Tryd.prog w = .ok (.bool false) w := fun w => by rw [Lib.run_eql_slice_nil w _ _ (some a) n c 0 0 Tryd.underlying46]; rfl
    go_enter Tryd.func32, Tryd.ntmps32
    go_wp2_with (at_builtin; refine wpList_append_rd _ rfl _ _ _ rfl eTag (base := w.heap.size) (v := .slice (some ⟨w.heap.size, 0, none⟩) 0 0) (xs := []) rfl (Ow.made0 _ _ _ (Nat.le_refl _)) rfl (Rd.below hA ((Below.refl _ w).alloc (Nat.le_refl _) _)) Tm.len Tm.one (by simp [maxLen]; omega) (by simp; omega) (by simp) ?_; intro A2 n2 c2 w4 hn2 hown2 hg4 hat2; (obtain rfl : n2 = n := (by rw [hn2]; simp)); clear hn2)
    go_ret
    exact ⟨A2, c2, rfl, by simpa using hown2, ((Below.refl _ w).alloc (Nat.le_refl _) _).grown hg4 (by simp) (fun g e => by simp [Value.ownBlock] at e; omega)⟩
end Go.Proofs.YtpolplmniaoikaaDoor
