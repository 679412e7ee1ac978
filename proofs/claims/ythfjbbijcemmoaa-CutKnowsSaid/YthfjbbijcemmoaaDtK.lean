/- The document's Make: the set of any names, one by one put in its place. -/
import Derived.Test.YthfjbbijcemmoaaDg
import Derived.Test.YthfjbbijcemmoaaGc
import Derived.Deep.QuietTactic
namespace Go.Proofs.Ythfjbbijcemmoaa
open Go.RowKit

theorem Ow.keptI {w w' : World} {base : Nat} {e : TypeId} {sz b : Nat} {v : Value} {xs : List (List Value)} (h : Ow w base e sz v xs) (hg : w.grownBy w' (some b)) (hb : w.heap.size ≤ b ∨ v.ownBlock ≠ some b) : Ow w' base e sz v xs :=
  ⟨h.1, h.2.kept hg (.inr (fun e' => by
    rcases hb with h' | h'
    · have := h.block b e'; omega
    · exact h' e'))⟩

set_option maxRecDepth 100000 in
set_option maxHeartbeats 3000000 in
theorem rmake_any (A : Option Addr) (n c : Nat) (xs : List Im) (w : World) (hA : RdI w w.heap.size A n xs) (hn : n ≤ maxLen) (hx : ∀ x ∈ xs, x.wf) :
    Calls Try.prog 23 #[.slice A n c] w fun e w' => ∃ A' n' c', e = .returned (.tuple #[.slice A' n' c', .int .i64 (makeErr xs)]) ∧ GotI w' A' n' (makeOut xs) ∧ Below w.heap.size w w' := by
  have h1 := rnames_any A n c xs w hA hn hx
  have hl := hA.len
  unfold maxLen at hn
  generalize hro : makeOut xs = out
  generalize hre : makeErr xs = er
  unfold makeOut at hro
  rw [hre] at hro
  unfold makeErr at hre
  rw [hl] at hre
  by_cases h1024 : (1024 : Int) < (n : Int)
  · rw [if_pos (by omega)] at hre
    subst hre
    rw [if_pos (by decide)] at hro
    subst hro
    go_enter Try.func23, Try.ntmps23
    go_wp2
    refine bodyPost_ret (v := .tuple #[.slice none 0 0, .int .i64 8]) (by simp [results, Try.results23, go_sem]) rfl ⟨none, 0, 0, rfl, gotI_nil _, Below.refl _ _⟩
  rw [if_neg (by omega)] at hre
  have hn1024 : n ≤ 1024 := by omega
  generalize hc : xs.all chk = b at h1 hre
  clear hc
  cases b
  · rw [if_pos rfl] at hre
    subst hre
    rw [if_pos (by decide)] at hro
    subst hro
    go_enter Try.func23, Try.ntmps23
    go_wp2_with fail
    refine h1.mono ?_
    rintro e w1 ⟨rfl, hb1⟩
    go_wp2
    refine bodyPost_ret (v := .tuple #[.slice none 0 0, .int .i64 2]) (by simp [results, Try.results23, go_sem]) rfl ⟨none, 0, 0, rfl, gotI_nil _, hb1⟩
  rw [if_neg (by simp)] at hre
  have hroH := Lib.hid hro
  have hreH := Lib.hid hre
  clear hro hre
  go_enter Try.func23, Try.ntmps23
  go_wp2_with fail
  refine h1.mono ?_
  rintro e w1 ⟨rfl, hb1⟩
  go_wp2_with fail
  go_loopg [4, 5] (n + 1) (fun g s i wr => ∃ (k : Nat) (A' : Option Addr) (m c' : Nat) (zs : List Im), k ≤ n ∧ g = n + 1 - k ∧ i = .int .i64 (k : Int) ∧ s = .slice A' m c' ∧ m ≤ k ∧ Ow wr w.heap.size 35 2 (.slice A' m c') (zs.map Im.enc) ∧
    zs = (xs.take k).foldl putI [] ∧ (∀ z ∈ zs, z.wf) ∧ Below w.heap.size w wr)
  case atStart => exact ⟨0, none, 0, 0, [], Nat.zero_le _, rfl, rfl, rfl, Nat.le_refl _, Ow.nil_ _ _ _ _, rfl, by simp, hb1⟩
  case round =>
    obtain ⟨k, A', m, c', zs, hk, rfl, rfl, rfl, hmk, hown, hzs, hzw, hbr⟩ := hrel
    have hz := hbr.size
    have hzl : zs.length = m := by simpa using hown.rd.2.1
    by_cases hlt : k < n
    · obtain ⟨bA, oA, u, rfl, hbA, hp, hcp⟩ := (hA.below hbr).at_ hlt
      have p0 := hcp 0 _ rfl
      have p1 := hcp 1 _ rfl
      rw [Nat.add_zero] at p0
      clear hcp
      have hbA2 : bA < wr.heap.size := by omega
      have huw := hx u (List.mem_of_getElem? hp)
      have hstep : Hid ((xs.take (k + 1)).foldl putI [] = putI zs u) := Lib.hid (by rw [List.take_add_one, hp, List.foldl_append, ← hzs]; rfl)
      clear hzs hp
      have hh := rhas_any A' m c' zs u wr hown.rd.1 (by simp [maxLen]; omega)
      have hwf := Lib.hid (putI_wf hzw huw)
      obtain ⟨u1, u2⟩ := u
      dsimp only at p0 p1
      generalize hcc : zs.contains (u1, u2) = b at hh
      cases b
      case true =>
        have hput : Hid (putI zs (u1, u2) = zs) := Lib.hid (by unfold putI; rw [if_pos hcc])
        clear hcc
        go_wp2_with fail
        refine hh.mono ?_
        rintro e w2 ⟨rfl, hb2⟩
        have hG : Below w.heap.size w w2 := hbr.trans (hb2.mono hz)
        go_wp2
        go_roundg (n + 1 - (k + 1))
        case measure => omega
        case rel => exact ⟨k + 1, A', m, c', zs, by omega, rfl, by go_num, rfl, by omega, hown.below hb2, by rw [hstep.out, hput.out], hzw, hG⟩
      case false =>
        have hput : Hid (putI zs (u1, u2) = sinkI m (zs ++ [(u1, u2)])) := Lib.hid (by unfold putI; rw [if_neg (by rw [hcc]; simp), hzl])
        clear hcc
        go_wp2_with fail
        refine hh.mono ?_
        rintro e w2 ⟨rfl, hb2⟩
        replace p0 := (hb2.cell (p := ⟨bA, _, none⟩) hbA2).trans p0
        replace p1 := (hb2.cell (p := ⟨bA, _, none⟩) hbA2).trans p1
        have hz2 := hb2.size
        have hbO : Below wr.heap.size wr (w2.alloc (.cells #[.int .i64 u1, .int .u32 u2] 35)) := hb2.alloc hb2.size _
        have hlen1 : ∀ y ∈ ([[.int .i64 u1, .int .u32 u2]] : List (List Value)), y.length = 2 := by simp
        have hone1 : ∀ y ∈ ([[.int .i64 u1, .int .u32 u2]] : List (List Value)), ∀ v ∈ y, v.oneCell' = true := by simp [Value.oneCell']
        go_wp2_with (at_builtin; refine wpList_append_rd _ rfl _ _ _ rfl eId (base := w.heap.size) (v := .slice A' m c') (xs := zs.map Im.enc) rfl (hown.below hbO) rfl (Rd.one' [.int .i64 u1, .int .u32 u2] rfl) hlen1 hone1 (by simp [maxLen]; omega) (by simp; omega) (by simp; omega) ?_; intro A2 M c2 w4 hn2 hown2 hg4 hat2; (have hMm : M = m + 1 := (by rw [hn2]; simp [hzl])); (have hw0 : IntKind.i64.wrap ((M : Int) - 1) = (m : Int) := (by rw [IntWalk.i64_in _ (by omega)]; omega)); (have hMH := Lib.hid hMm); clear hn2 hMm)
        have hb4 : Below w.heap.size w w4 := ((hbr.trans (hb2.mono hz)).alloc (by omega) _).grown hg4 (by simp; omega) (fun g e => (hown.block g e).1)
        obtain ⟨wo, hwo⟩ : ∃ wo, wr = wo := ⟨_, rfl⟩
        subst hwo
        go_loopg [6] (m + 1) (fun g j wr => ∃ (q : Nat) (L : List Im), q ≤ m ∧ g = q + 1 ∧ j = .int .i64 (q : Int) ∧ Ow wr w.heap.size 35 2 (.slice A2 M c2) (L.map Im.enc) ∧
          sinkI q L = sinkI m (zs ++ [(u1, u2)]) ∧ L.length = m + 1 ∧ (∀ z ∈ L, z.wf) ∧ Below w.heap.size w wr)
        case atStart =>
          refine ⟨m, zs ++ [(u1, u2)], Nat.le_refl _, rfl, by go_num, by rw [List.map_append]; exact hown2, rfl, by simp [hzl], fun z hz => ?_, hb4⟩
          rcases List.mem_append.1 hz with h | h
          · exact hzw z h
          · obtain rfl := List.mem_singleton.1 h; exact huw
        case round =>
          obtain ⟨q, L, hqm, rfl, rfl, hownL, hsink, hLl, hLw, hbi⟩ := hrel
          have hzi := hbi.size
          have hownL0 := hownL
          obtain ⟨g, rfl, hgb, hgl, hgf, hgc⟩ := hownL.addr (by have := hMH.out; omega)
          have hsinkH := Lib.hid hsink
          have hLlH := Lib.hid hLl
          clear hsink hLl
          by_cases hq : q = 0
          · subst hq
            have hfin : Hid (L = putI zs (u1, u2)) := Lib.hid (by rw [hput.out, ← hsinkH.out]; rfl)
            have hgo : Below wr.heap.size wr wr.drew := (Below.refl _ _).drew
            clear hgf hgc p0 p1 hownL0
            go_wp2
            refine wp_region_M (fun _ => True) (fun _ => True) 14 (by kernel_rfl) trivial trivial ?_
            intro hcl
            have hC : True := trivial
            have hE : True := trivial
            (refine wpM_take (i := 0) (v := ?_) rfl (by kernel_rfl) (by kernel_rfl) (by kernel_rfl) (by decide) (fun _ _ _ h => h) hcl hC (fun _ => hE) (Or.inl ⟨by rfl, ?_⟩) ?_; rotate_left; (· (intro w hSw; (try dsimp only at hSw); go_simp; (try with_reducible rfl))); clear hcl; intro hcl; (try simp only [Act.put, List.getElem_toArray, List.getElem_cons_zero, List.getElem_cons_succ, List.setIfInBounds_toArray, List.set_cons_zero, List.set_cons_succ]))
            (refine wpM_take (i := 1) (v := ?_) rfl (by kernel_rfl) (by kernel_rfl) (by kernel_rfl) (by decide) (fun _ _ _ h => h) hcl hC (fun _ => hE) (Or.inl ⟨by rfl, ?_⟩) ?_; rotate_left; (· (intro w hSw; (try dsimp only at hSw); go_simp; (try with_reducible rfl))); clear hcl; intro hcl; (try simp only [Act.put, List.getElem_toArray, List.getElem_cons_zero, List.getElem_cons_succ, List.setIfInBounds_toArray, List.set_cons_zero, List.set_cons_succ]))
            (refine wpM_take (i := 2) (v := ?_) rfl (by kernel_rfl) (by kernel_rfl) (by kernel_rfl) (by decide) (fun _ _ _ h => h) hcl hC (fun _ => hE) (Or.inl ⟨by rfl, ?_⟩) ?_; rotate_left; (· (intro w hSw; (try dsimp only at hSw); go_simp; (try with_reducible rfl))); clear hcl; intro hcl; (try simp only [Act.put, List.getElem_toArray, List.getElem_cons_zero, List.getElem_cons_succ, List.setIfInBounds_toArray, List.set_cons_zero, List.set_cons_succ]))
            (refine wpM_take (i := 3) (v := undef) rfl (by kernel_rfl) (by kernel_rfl) (by kernel_rfl) (by decide) (fun _ _ _ h => h) hcl hC (fun _ => hE) (Or.inr ⟨by rfl, rfl⟩) ?_; clear hcl; intro hcl; (try simp only [Act.put, List.getElem_toArray, List.getElem_cons_zero, List.getElem_cons_succ, List.setIfInBounds_toArray, List.set_cons_zero, List.set_cons_succ]))
            (refine wpM_take (i := 4) (v := undef) rfl (by kernel_rfl) (by kernel_rfl) (by kernel_rfl) (by decide) (fun _ _ _ h => h) hcl hC (fun _ => hE) (Or.inr ⟨by rfl, rfl⟩) ?_; clear hcl; intro hcl; (try simp only [Act.put, List.getElem_toArray, List.getElem_cons_zero, List.getElem_cons_succ, List.setIfInBounds_toArray, List.set_cons_zero, List.set_cons_succ]))
            (refine wpM_take (i := 5) (v := undef) rfl (by kernel_rfl) (by kernel_rfl) (by kernel_rfl) (by decide) (fun _ _ _ h => h) hcl hC (fun _ => hE) (Or.inr ⟨by rfl, rfl⟩) ?_; clear hcl; intro hcl; (try simp only [Act.put, List.getElem_toArray, List.getElem_cons_zero, List.getElem_cons_succ, List.setIfInBounds_toArray, List.set_cons_zero, List.set_cons_succ]))
            (refine wpM_take (i := 6) (v := undef) rfl (by kernel_rfl) (by kernel_rfl) (by kernel_rfl) (by decide) (fun _ _ _ h => h) hcl hC (fun _ => hE) (Or.inr ⟨by rfl, rfl⟩) ?_; clear hcl; intro hcl; (try simp only [Act.put, List.getElem_toArray, List.getElem_cons_zero, List.getElem_cons_succ, List.setIfInBounds_toArray, List.set_cons_zero, List.set_cons_succ]))
            (refine wpM_take (i := 7) (v := undef) rfl (by kernel_rfl) (by kernel_rfl) (by kernel_rfl) (by decide) (fun _ _ _ h => h) hcl hC (fun _ => hE) (Or.inr ⟨by rfl, rfl⟩) ?_; clear hcl; intro hcl; (try simp only [Act.put, List.getElem_toArray, List.getElem_cons_zero, List.getElem_cons_succ, List.setIfInBounds_toArray, List.set_cons_zero, List.set_cons_succ]))
            (refine wpM_take (i := 8) (v := undef) rfl (by kernel_rfl) (by kernel_rfl) (by kernel_rfl) (by decide) (fun _ _ _ h => h) hcl hC (fun _ => hE) (Or.inr ⟨by rfl, rfl⟩) ?_; clear hcl; intro hcl; (try simp only [Act.put, List.getElem_toArray, List.getElem_cons_zero, List.getElem_cons_succ, List.setIfInBounds_toArray, List.set_cons_zero, List.set_cons_succ]))
            (refine wpM_take (i := 9) (v := undef) rfl (by kernel_rfl) (by kernel_rfl) (by kernel_rfl) (by decide) (fun _ _ _ h => h) hcl hC (fun _ => hE) (Or.inr ⟨by rfl, rfl⟩) ?_; clear hcl; intro hcl; (try simp only [Act.put, List.getElem_toArray, List.getElem_cons_zero, List.getElem_cons_succ, List.setIfInBounds_toArray, List.set_cons_zero, List.set_cons_succ]))
            (refine wpM_take (i := 10) (v := undef) rfl (by kernel_rfl) (by kernel_rfl) (by kernel_rfl) (by decide) (fun _ _ _ h => h) hcl hC (fun _ => hE) (Or.inr ⟨by rfl, rfl⟩) ?_; clear hcl; intro hcl; (try simp only [Act.put, List.getElem_toArray, List.getElem_cons_zero, List.getElem_cons_succ, List.setIfInBounds_toArray, List.set_cons_zero, List.set_cons_succ]))
            (refine wpM_take (i := 11) (v := undef) rfl (by kernel_rfl) (by kernel_rfl) (by kernel_rfl) (by decide) (fun _ _ _ h => h) hcl hC (fun _ => hE) (Or.inr ⟨by rfl, rfl⟩) ?_; clear hcl; intro hcl; (try simp only [Act.put, List.getElem_toArray, List.getElem_cons_zero, List.getElem_cons_succ, List.setIfInBounds_toArray, List.set_cons_zero, List.set_cons_succ]))
            (refine wpM_take (i := 12) (v := undef) rfl (by kernel_rfl) (by kernel_rfl) (by kernel_rfl) (by decide) (fun _ _ _ h => h) hcl hC (fun _ => hE) (Or.inr ⟨by rfl, rfl⟩) ?_; clear hcl; intro hcl; (try simp only [Act.put, List.getElem_toArray, List.getElem_cons_zero, List.getElem_cons_succ, List.setIfInBounds_toArray, List.set_cons_zero, List.set_cons_succ]))
            (refine wpM_take (i := 13) (v := undef) rfl (by kernel_rfl) (by kernel_rfl) (by kernel_rfl) (by decide) (fun _ _ _ h => h) hcl hC (fun _ => hE) (Or.inr ⟨by rfl, rfl⟩) ?_; clear hcl; intro hcl; (try simp only [Act.put, List.getElem_toArray, List.getElem_cons_zero, List.getElem_cons_succ, List.setIfInBounds_toArray, List.set_cons_zero, List.set_cons_succ]))
            refine wpM_last (i := 14) rfl (by kernel_rfl) hcl (by kernel_rfl) (fun K hK => ?_)
            go_simp
            refine hK.out _ _ trivial ?_
            clear hK K hC hE hcl
            intro hcl
            refine wpM_done (by kernel_rfl) ?_
            clear hcl
            go_wp2
            go_roundg (n + 1 - (k + 1))
            case measure => omega
            case rel => exact ⟨k + 1, _, M, c2, L, by omega, rfl, by go_num, rfl, by have := hMH.out; omega, hownL.below hgo, by rw [hstep.out, hfin.out], hLw, hbi.drew⟩
          · obtain ⟨r, hr⟩ : ∃ r, q = r + 1 := ⟨q - 1, by omega⟩
            have hw : IntKind.i64.wrap ((q : Int) - 1) = (r : Int) := by rw [IntWalk.i64_in _ (by omega)]; omega
            have hrm : r < M := by have := hMH.out; omega
            have hqm2 : q < M := by have := hMH.out; omega
            have hqp : 0 < q := by omega
            have hqe : decide (0 < q) = true := by simpa using hqp
            obtain ⟨x, hxx⟩ : ∃ x, L[r]? = some x := ⟨_, List.getElem?_eq_getElem (by rw [hLlH.out]; omega)⟩
            obtain ⟨y, hyy⟩ : ∃ y, L[q]? = some y := ⟨_, List.getElem?_eq_getElem (by rw [hLlH.out]; omega)⟩
            have hxw := hLw x (List.mem_of_getElem? hxx)
            have hyw := hLw y (List.mem_of_getElem? hyy)
            have hcx := hgc r x.enc (by rw [List.getElem?_map, hxx]; rfl)
            have hcy := hgc q y.enc (by rw [List.getElem?_map, hyy]; rfl)
            have p0 := hcx 0 _ rfl
            have p1 := hcx 1 _ rfl
            have q0 := hcy 0 _ rfl
            have q1 := hcy 1 _ rfl
            rw [Nat.add_zero] at p0 q0
            clear hcx hcy hgc
            have hsk : Hid (sinkI q L = if 0 < cmpI x y then sinkI r ((L.set q x).set r y) else L) := Lib.hid (by
              subst hr
              rw [sinkI, List.getD, List.getD, hxx, hyy]; rfl)
            have hrH := Lib.hid hr
            have hxxH := Lib.hid hxx
            have hyyH := Lib.hid hyy
            clear hr hxx hyy hq
            have hcm := fun w' => rcmp_any x y hxw hyw w'
            obtain ⟨x1, x2⟩ := x
            obtain ⟨y1, y2⟩ := y
            dsimp only at p0 p1 q0 q1
            by_cases hgt : 0 < cmpI (x1, x2) (y1, y2)
            · have hsk2 : Hid (sinkI q L = sinkI r ((L.set q (x1, x2)).set r (y1, y2))) := Lib.hid (by rw [hsk.out, if_pos hgt])
              generalize cmpI (x1, x2) (y1, y2) = z at hcm hgt
              have hcm := Lib.hid hcm
              clear hsk
              go_wp2
              go_region_held3 (fun w' => KQ wr.heap.size wr w') (first
      | with_reducible exact kq_call (by assumption) (by simp) (by assumption)
      | with_reducible exact kq_grown (by assumption) (by simp) (by assumption) (by simp [Value.ownBlock])
      | ((with_reducible refine kq ?_); (repeat (first | (with_reducible exact Below.refl _ _) | (with_reducible refine Below.drew ?_) | (with_reducible refine Below.alloc ?_ (by simp) _) | (with_reducible refine Below.setCell ?_ (by simp) _) | (with_reducible exact (by assumption : KQ _ _ _).1))); done)) (first | (go_at_call 74; refine (hcm.out _).mono ?_; rintro e w5 ⟨rfl, hb5⟩))
              have hb6 : Below wr.heap.size wr w5 := (by with_reducible assumption : KQ wr.heap.size wr w5).1
              have hgl5 : g < w5.heap.size := Nat.lt_of_lt_of_le hgl hb6.size
              have hf5 : ∀ o, w5.frozen? ⟨g, o, none⟩ = false := fun o => (hb6.frozen (p := ⟨g, o, none⟩) hgl).trans (hgf o)
              have hown5 := hownL.below hb6
              have hn1 : r ≠ q := by have := hrH.out; omega
              have hn2 : q ≠ r := by have := hrH.out; omega
              have hn3 : r * 2 ≠ q * 2 + 1 := by omega
              have hn4 : q * 2 + 1 ≠ r * 2 := by omega
              have hn5 : r * 2 + 1 ≠ q * 2 := by omega
              have hn6 : q * 2 ≠ r * 2 + 1 := by omega
              have hn7 : g ≠ w5.heap.size := by omega
              have hn8 : w5.heap.size ≠ g := by omega
              go_wp2
              go_roundg q
              case measure => omega
              case rel =>
                refine ⟨r, (L.set q (x1, x2)).set r (y1, y2), by have := hrH.out; omega, hrH.out, by go_num, ?_, by rw [← hsinkH.out, hsk2.out], by simp [hLlH.out], fun z hz => ?_, ?_⟩
                · rw [List.map_set, List.map_set]
                  exact ((hown5.set2 hqm2 (.int .i64 x1) (.int .u32 x2)).set2 hrm (.int .i64 y1) (.int .u32 y2)).below ((Below.refl _ _).alloc (Nat.le_refl _) _)
                · rcases List.mem_or_eq_of_mem_set hz with h | rfl
                  · rcases List.mem_or_eq_of_mem_set h with h | rfl
                    · exact hLw z h
                    · exact hxw
                  · exact hyw
                · exact (((((hbi.trans (hb6.mono hzi)).setCell hgb _).setCell hgb _).setCell hgb _).setCell hgb _).alloc (by simp; omega) _
            · have hsk2 : Hid (sinkI q L = L) := Lib.hid (by rw [hsk.out, if_neg hgt])
              have hfin : Hid (L = putI zs (u1, u2)) := Lib.hid (by rw [hput.out, ← hsinkH.out, hsk2.out])
              generalize cmpI (x1, x2) (y1, y2) = z at hcm hgt
              have hcm := Lib.hid hcm
              have hdz : decide (0 < z) = false := by simpa using hgt
              clear hsk
              go_wp2
              go_region_held3 (fun w' => KQ wr.heap.size wr w') (first
      | with_reducible exact kq_call (by assumption) (by simp) (by assumption)
      | with_reducible exact kq_grown (by assumption) (by simp) (by assumption) (by simp [Value.ownBlock])
      | ((with_reducible refine kq ?_); (repeat (first | (with_reducible exact Below.refl _ _) | (with_reducible refine Below.drew ?_) | (with_reducible refine Below.alloc ?_ (by simp) _) | (with_reducible refine Below.setCell ?_ (by simp) _) | (with_reducible exact (by assumption : KQ _ _ _).1))); done)) (first | (go_at_call 74; refine (hcm.out _).mono ?_; rintro e w5 ⟨rfl, hb5⟩))
              have hb6 : Below wr.heap.size wr w5 := (by with_reducible assumption : KQ wr.heap.size wr w5).1
              have hG : Below w.heap.size w w5 := hbi.trans (hb6.mono hzi)
              go_wp2
              go_roundg (n + 1 - (k + 1))
              case measure => omega
              case rel => exact ⟨k + 1, _, M, c2, L, by omega, rfl, by go_num, rfl, by have := hMH.out; omega, hownL.below hb6, by rw [hstep.out, hfin.out], hLw, hG⟩
    · rw [List.take_of_length_le (by omega)] at hzs
      have hgot := gotI_own hown
      have hzs' : zs = makeI xs := hzs
      have hlm : (makeI xs).length = m := by rw [← hzs']; exact hzl
      have hre := hreH.out
      have hro := hroH.out
      clear hreH hroH
      rw [hlm] at hre
      by_cases h64 : (64 : Int) < (m : Int)
      · rw [if_pos (by omega)] at hre
        subst hre
        rw [if_pos (by decide)] at hro
        subst hro
        clear hzs hzs' hgot hlm
        go_wp2
        refine bodyPost_ret (v := .tuple #[.slice none 0 0, .int .i64 8]) (by simp [results, Try.results23, go_sem]) rfl ⟨none, 0, 0, rfl, gotI_nil _, hbr⟩
      · rw [if_neg (by omega)] at hre
        subst hre
        rw [if_neg (by simp)] at hro
        rw [hzs', hro] at hgot
        clear hzs hzs' hlm hro
        go_wp2
        refine bodyPost_ret (v := .tuple #[.slice A' m c', .int .i64 0]) (by simp [results, Try.results23, go_sem]) rfl ⟨A', m, ⟨c', rfl⟩, hgot, hbr⟩
end Go.Proofs.Ythfjbbijcemmoaa
