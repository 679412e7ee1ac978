/- Maps of puts: what is wrong with one, by the document. -/
import Derived.Test.YtadldndmmobpdaaM11
namespace Go.Proofs.Ytadldndmmobpdaa
open Go.RowKit

theorem mErr_three {xs : List Pm} {gs : List Tm} (hn : ¬ (4096 < xs.length ∨ 4096 < gs.length)) (h1 : (xs.map Prod.fst).all chkT = true) (h2 : gs.all chkT = true) (h : ascT (xs.map Prod.fst) = false ∨ ascT gs = false ∨ badP xs gs = true) : mErr xs gs = 3 := by
  unfold mErr sErr
  rw [List.length_map, if_neg hn, h1, h2, if_neg (by simp)]
  by_cases h3 : (ascT (xs.map Prod.fst) && ascT gs) = false
  · rw [if_pos h3]
  · rw [if_neg h3]
    rw [Bool.not_eq_false, Bool.and_eq_true] at h3
    rcases h with h | h | h
    · rw [h] at h3; exact absurd h3.1 (by decide)
    · rw [h] at h3; exact absurd h3.2 (by decide)
    · rw [h]; rfl
theorem mErr_nil {xs : List Pm} {gs : List Tm} (hn : ¬ (4096 < xs.length ∨ 4096 < gs.length)) (h1 : (xs.map Prod.fst).all chkT = true) (h2 : gs.all chkT = true) (h3 : ascT (xs.map Prod.fst) = true) (h4 : ascT gs = true) (h5 : badP xs gs = false) : mErr xs gs = 0 := by
  unfold mErr sErr
  rw [List.length_map, if_neg hn, h1, h2, if_neg (by simp), h3, h4, if_neg (by simp), h5]; rfl
theorem mErr_two {xs : List Pm} {gs : List Tm} (hn : ¬ (4096 < xs.length ∨ 4096 < gs.length)) (h : (xs.map Prod.fst).all chkT = false ∨ gs.all chkT = false) : mErr xs gs = 2 := by
  unfold mErr sErr
  rw [List.length_map, if_neg hn, if_pos]
  rcases h with h | h <;> rw [h] <;> simp
theorem mErr_eight {xs : List Pm} {gs : List Tm} (hn : 4096 < xs.length ∨ 4096 < gs.length) : mErr xs gs = 8 := by
  unfold mErr sErr
  rw [List.length_map, if_pos hn]

set_option maxRecDepth 100000 in
set_option maxHeartbeats 4000000 in
theorem rmcheck_any (A : Option Addr) (n c : Nat) (xs : List Pm) (B : Option Addr) (m d : Nat) (gs : List Tm) (w : World) (hA : RdP w w.heap.size A n xs) (hB : RdT w w.heap.size B m gs) (hn : n ≤ maxLen) (hm : m ≤ maxLen) (hx : ∀ a ∈ xs, a.wf) (hg : ∀ t ∈ gs, t.wf) (hl : ∀ a ∈ xs, a.2.1.length ≤ maxLen) :
    Calls Try.prog 52 #[.agg #[.slice A n c, .slice B m d]] w fun e w' => e = .returned (.int .i64 (mErr xs gs)) ∧ Below w.heap.size w w' := by
  have hb0 : Below w.heap.size w (w.alloc (.cells #[.slice A n c, .slice B m d] 52)) := (Below.refl _ w).alloc (Nat.le_refl _) _
  have hbx : (w.alloc (.cells #[.slice A n c, .slice B m d] 52)).heap[w.heap.size]? = some (.cells #[.slice A n c, .slice B m d] 52 (0, 0)) := heap_at _ _ rfl
  generalize hW : w.alloc (.cells #[.slice A n c, .slice B m d] 52) = W at hb0 hbx
  have hbxH := Lib.hid hbx
  have hltx := blk_lt hbx
  have s0 := blk_cell hbx 0
  have s1 := blk_cell hbx 1
  simp at s0 s1
  have hnl := Lib.hid hA.len
  have hml := Lib.hid hB.len
  have ck := Lib.hid (fun (t : Tm) (ht : t.wf) => rchkt_any t ht)
  have cf := Lib.hid (fun (p : Pm) (hp : p ∈ xs) => rfits_any p (hx p hp) (hl p hp))
  have ch := Lib.hid (fun (p : Pm) w' (h : Below w.heap.size w w') => hastag_any B m d gs p.1 w' ((hB.below h).more h.size) hm)
  have hxH := Lib.hid hx
  have hgH := Lib.hid hg
  have hAr := Lib.hid (fun w' (h : Below w.heap.size w w') => hA.below h)
  have hBr := Lib.hid (fun w' (h : Below w.heap.size w w') => hB.below h)
  unfold maxLen at hn hm
  have hzW := hb0.size
  clear hA hB hbx hx hg hl
  by_cases hn4 : (4096 : Int) < (n : Int)
  · have hT : Hid (8 = mErr xs gs) := Lib.hid (mErr_eight (by have := hnl.out; omega)).symm
    go_enter Try.func52, Try.ntmps52
    go_wp2
    go_ret
    exact ⟨ret_int hT.out, hb0⟩
  have hdn : decide ((4096 : Int) < (n : Int)) = false := decide_eq_false hn4
  by_cases hm4 : (4096 : Int) < (m : Int)
  · have hT : Hid (8 = mErr xs gs) := Lib.hid (mErr_eight (by have := hml.out; omega)).symm
    go_enter Try.func52, Try.ntmps52
    go_wp2
    go_ret
    exact ⟨ret_int hT.out, hb0⟩
  have hdm : decide ((4096 : Int) < (m : Int)) = false := decide_eq_false hm4
  have hnm : Hid (¬ (4096 < xs.length ∨ 4096 < gs.length)) := Lib.hid (by have := hnl.out; have := hml.out; omega)
  generalize hr : mErr xs gs = r
  have hrH := Lib.hid hr
  clear hr
  go_enter Try.func52, Try.ntmps52
  go_wp2_with fail
  clear s0 s1 hltx
  go_loopg [3] (n + 1) (fun g i wr => ∃ k : Nat, k ≤ n ∧ g = n + 1 - k ∧ i = .int .i64 (k : Int) ∧ (∀ u ∈ xs.take k, chkT u.1 = true) ∧ Below W.heap.size W wr)
  case atStart => exact ⟨0, Nat.zero_le _, rfl, rfl, by simp, Below.refl _ _⟩
  case round =>
    obtain ⟨k, hk, rfl, rfl, hno, hbr⟩ := hrel
    have hG := hb0.trans (hbr.mono hzW)
    have hz := hG.size
    have hsr := blk_below hbxH.out hbr
    have hltx := blk_lt hsr
    have s0 := blk_cell hsr 0
    have s1 := blk_cell hsr 1
    simp at s0 s1
    have hnoH := Lib.hid hno
    clear hno hsr
    by_cases hlt : k < n
    · obtain ⟨bA, oA, u, rfl, hbA, hq, hcp⟩ := (hAr.out wr hG).at_ hlt
      have p0 := hcp 0 _ rfl
      have p1 := hcp 1 _ rfl
      have p2 := hcp 2 _ rfl
      have p3 := hcp 3 _ rfl
      have p4 := hcp 4 _ rfl
      have p5 := hcp 5 _ rfl
      have p6 := hcp 6 _ rfl
      rw [Nat.add_zero] at p0
      clear hcp p3 p4 p5 p6
      have hqH := Lib.hid hq
      have hbA2 : bA < wr.heap.size := Nat.lt_of_lt_of_le hbA hz
      have hlti : (k : Int) < (n : Int) := by omega
      have heu := ck.out u.1 (hxH.out u (List.mem_of_getElem? hq)).1
      obtain ⟨q, hqe⟩ : ∃ q, chkT u.1 = q := ⟨_, rfl⟩
      rw [hqe] at heu
      clear hq
      cases q
      · have hT : Hid (2 = r) := Lib.hid (by rw [← hrH.out]; exact (mErr_two hnm.out (.inl (by rw [List.all_eq_false]; exact ⟨u.1, List.mem_map_of_mem (List.mem_of_getElem? hqH.out), by rw [hqe]; decide⟩))).symm)
        rw [show errI false = 2 from rfl] at heu
        have heu := Lib.hid heu
        clear hqe
        go_wp2_with fail
        refine (heu.out _).mono ?_
        rintro e w1 ⟨rfl, hv1⟩
        have hGr := hG.trans (hv1.mono hz)
        go_wp2
        go_ret
        exact ⟨ret_int hT.out, hGr⟩
      · rw [show errI true = 0 from rfl] at heu
        have heu := Lib.hid heu
        have hT := Lib.hid hqe
        clear hqe
        go_wp2_with fail
        refine (heu.out _).mono ?_
        rintro e w1 ⟨rfl, hv1⟩
        have hGr := hbr.trans (hv1.mono hbr.size)
        go_wp2
        go_roundg (n + 1 - (k + 1))
        case measure => omega
        case rel => exact ⟨k + 1, by omega, rfl, by go_num, all_take_succ hnoH.out hqH.out hT.out, hGr⟩
    · obtain rfl : k = n := by omega
      have hnli : ¬ (k : Int) < (k : Int) := by omega
      have ha1 : Hid ((xs.map Prod.fst).all chkT = true) := Lib.hid (by
        rw [List.all_eq_true]
        intro t ht
        obtain ⟨a, ha, rfl⟩ := List.mem_map.1 ht
        exact all_take_all hnoH.out hnl.out a ha)
      have hbr0 := hbr
      have hG0 := hG
      clear hnoH hbr hG hz
      go_wp2_with fail
      clear s0 s1 hltx
      have hz0 := hbr0.size
      go_loopg [4] (m + 1) (fun g i wr => ∃ q : Nat, q ≤ m ∧ g = m + 1 - q ∧ i = .int .i64 (q : Int) ∧ (∀ u ∈ gs.take q, chkT u = true) ∧ Below W.heap.size W wr)
      case atStart => exact ⟨0, Nat.zero_le _, rfl, rfl, by simp, hbr0⟩
      case round =>
        clear hbr0 hG0 hz0
        obtain ⟨q, hq, rfl, rfl, hno, hbr⟩ := hrel
        have hG := hb0.trans (hbr.mono hzW)
        have hz := hG.size
        have hsr := blk_below hbxH.out hbr
        have hltx := blk_lt hsr
        have s0 := blk_cell hsr 0
        have s1 := blk_cell hsr 1
        simp at s0 s1
        have hnoH := Lib.hid hno
        clear hno hsr
        by_cases hlt : q < m
        · obtain ⟨bA, oA, u, rfl, hbA, hqu, hcp⟩ := (hBr.out wr hG).at_ hlt
          have p0 := hcp 0 _ rfl
          have p1 := hcp 1 _ rfl
          have p2 := hcp 2 _ rfl
          rw [Nat.add_zero] at p0
          clear hcp
          have hqH := Lib.hid hqu
          have hbA2 : bA < wr.heap.size := Nat.lt_of_lt_of_le hbA hz
          have hlti : (q : Int) < (m : Int) := by omega
          have heu := ck.out u (hgH.out u (List.mem_of_getElem? hqu))
          obtain ⟨y, hqe⟩ : ∃ y, chkT u = y := ⟨_, rfl⟩
          rw [hqe] at heu
          clear hqu
          cases y
          · have hT : Hid (2 = r) := Lib.hid (by rw [← hrH.out]; exact (mErr_two hnm.out (.inr (by rw [List.all_eq_false]; exact ⟨u, List.mem_of_getElem? hqH.out, by rw [hqe]; decide⟩))).symm)
            rw [show errI false = 2 from rfl] at heu
            have heu := Lib.hid heu
            clear hqe
            go_wp2_with fail
            refine (heu.out _).mono ?_
            rintro e w1 ⟨rfl, hv1⟩
            have hGr := hG.trans (hv1.mono hz)
            go_wp2
            go_ret
            exact ⟨ret_int hT.out, hGr⟩
          · rw [show errI true = 0 from rfl] at heu
            have heu := Lib.hid heu
            have hT := Lib.hid hqe
            clear hqe
            go_wp2_with fail
            refine (heu.out _).mono ?_
            rintro e w1 ⟨rfl, hv1⟩
            have hGr := hbr.trans (hv1.mono hbr.size)
            go_wp2
            go_roundg (m + 1 - (q + 1))
            case measure => omega
            case rel => exact ⟨q + 1, by omega, rfl, by go_num, all_take_succ hnoH.out hqH.out hT.out, hGr⟩
        · obtain rfl : q = m := by omega
          have hnlj : ¬ (q : Int) < (q : Int) := by omega
          have ha2 : Hid (gs.all chkT = true) := Lib.hid (by
            rw [List.all_eq_true]
            intro t ht
            exact all_take_all hnoH.out hml.out t ht)
          have hbr0 := hbr
          clear hnoH hbr hG hz
          go_wp2_with fail
          clear s0 s1 hltx
          go_loopg [5] (k + 1) (fun g i wr => ∃ j : Nat, j ≤ k ∧ g = k + 1 - j ∧ i = .int .i64 (j : Int) ∧ (∀ u ∈ xs.take j, (!fitsP u || gs.contains u.1) = false) ∧ (∀ i x y, i + 1 < j → xs[i]? = some x → xs[i + 1]? = some y → cmpT x.1 y.1 < 0) ∧ Below W.heap.size W wr)
          case atStart => exact ⟨0, Nat.zero_le _, rfl, rfl, by simp, by intro i x y h; omega, hbr0⟩
          case round =>
            clear hbr0
            obtain ⟨j, hj, rfl, rfl, hno, hasc, hbr⟩ := hrel
            have hG := hb0.trans (hbr.mono hzW)
            have hz := hG.size
            have hsr := blk_below hbxH.out hbr
            have hltx := blk_lt hsr
            have s0 := blk_cell hsr 0
            have s1 := blk_cell hsr 1
            simp at s0 s1
            have hnoH := Lib.hid hno
            have hascH := Lib.hid hasc
            clear hno hsr hasc
            by_cases hlt : j < k
            · obtain ⟨bA, oA, u, rfl, hbA, hqu, hcp⟩ := (hAr.out wr hG).at_ hlt
              have p0 := hcp 0 _ rfl
              have p1 := hcp 1 _ rfl
              have p2 := hcp 2 _ rfl
              have p3 := hcp 3 _ rfl
              have p4 := hcp 4 _ rfl
              have p5 := hcp 5 _ rfl
              have p6 := hcp 6 _ rfl
              rw [Nat.add_zero] at p0
              clear hcp
              have hqH := Lib.hid hqu
              have hbA2 : bA < wr.heap.size := Nat.lt_of_lt_of_le hbA hz
              have hlti : (j : Int) < (k : Int) := by omega
              have heu := Lib.hid (cf.out u (List.mem_of_getElem? hqu))
              have hhu := Lib.hid (ch.out u)
              have huw := Lib.hid (hxH.out u (List.mem_of_getElem? hqu)).1
              clear hqu
              obtain ⟨y, hye⟩ : ∃ y, fitsP u = y := ⟨_, rfl⟩
              obtain ⟨z, hze⟩ : ∃ z, gs.contains u.1 = z := ⟨_, rfl⟩
              rw [hye] at heu
              rw [hze] at hhu
              cases y
              · have hT : Hid (3 = r) := Lib.hid (by rw [← hrH.out]; exact (mErr_three hnm.out ha1.out ha2.out (.inr (.inr (List.any_eq_true.2 ⟨u, List.mem_of_getElem? hqH.out, by rw [hye]; rfl⟩)))).symm)
                clear hye hze
                go_upto_region 17 with (fail)
                obtain ⟨wb, hwb⟩ : ∃ wb, wr.alloc (.cells #[.int .i64 u.1.1.1, .int .u32 u.1.1.2, .int .i64 u.1.2, .string (bs u.2.1), .int .i64 u.2.2.1, .int .u32 u.2.2.2.1, .int .i64 u.2.2.2.2] 94) = wb := ⟨_, rfl⟩
                have hbb : wb.heap[wr.heap.size]? = some (.cells #[.int .i64 u.1.1.1, .int .u32 u.1.1.2, .int .i64 u.1.2, .string (bs u.2.1), .int .i64 u.2.2.1, .int .u32 u.2.2.2.1, .int .i64 u.2.2.2.2] 94 (0, 0)) := by rw [← hwb]; exact heap_at _ _ rfl
                have hvb : Below wr.heap.size wr wb := by rw [← hwb]; exact (Below.refl _ wr).alloc (Nat.le_refl _) _
                rw [hwb]
                clear hwb p0 p1 p2 p3 p4 p5 p6 s0 s1 hltx
                have hbw := hbr.trans (hvb.mono hbr.size)
                have hGw := hb0.trans (hbw.mono hzW)
                have hlb := blk_lt hbb
                have b0 := blk_cell hbb 0
                have b1 := blk_cell hbb 1
                have b2 := blk_cell hbb 2
                have b3 := blk_cell hbb 3
                have b4 := blk_cell hbb 4
                have b5 := blk_cell hbb 5
                have b6 := blk_cell hbb 6
                simp at b0 b1 b2 b3 b4 b5 b6
                have hsb := blk_below hbxH.out hbw
                have hltx := blk_lt hsb
                have s0 := blk_cell hsb 0
                have s1 := blk_cell hsb 1
                simp at s0 s1
                clear hbb hsb
                refine wp_region_M (fun w' => KQ wb.heap.size wb w') (fun _ => True) 99 (by kernel_rfl) (kq (Below.refl _ _).drew) trivial ?_
                intro hcl
                have hC : KQ wb.heap.size wb wb.drew := kq (Below.refl _ _).drew
                have hE := trivial
                (refine wpM_take (i := 0) (v := ?_) rfl (by kernel_rfl) (by kernel_rfl) (by kernel_rfl) (by decide) (fun _ _ _ h => h) hcl hC (fun _ => hE) (Or.inl ⟨by rfl, ?_⟩) ?_; rotate_left; (· (intro w hSw; (try dsimp only at hSw); go_simp; (try with_reducible rfl))); clear hcl; intro hcl; (try simp only [Act.put, List.getElem_toArray, List.getElem_cons_zero, List.setIfInBounds_toArray, List.set_cons_zero, List.set_cons_succ]))
                refine wpM_only (i := 1) rfl (by kernel_rfl) hcl (fun K hK => ?_)
                go_simp
                refine (heu.out _).mono ?_
                rintro e v1 ⟨rfl, hv1⟩
                have hC' := kq_call hC (Nat.le_refl _) hv1
                refine hK.out _ _ hC' trivial ?_
                clear hK K
                clear hcl
                intro hcl
                (try simp only [Act.put, List.getElem_toArray, List.getElem_cons_zero, List.getElem_cons_succ, List.setIfInBounds_toArray, List.set_cons_zero, List.set_cons_succ])
                clear hC
                have hC := hC'
                clear hC'
                (refine wpM_take (i := 2) (v := ?_) rfl (by kernel_rfl) (by kernel_rfl) (by kernel_rfl) (by decide) (fun _ _ _ h => h) hcl hC (fun _ => hE) (Or.inl ⟨by rfl, ?_⟩) ?_; rotate_left; (· (intro w hSw; (try dsimp only at hSw); go_simp; (try with_reducible rfl))); clear hcl; intro hcl; (try simp only [Act.put, List.getElem_toArray, List.getElem_cons_zero, List.getElem_cons_succ, List.setIfInBounds_toArray, List.set_cons_zero, List.set_cons_succ]))
                (refine wpM_take (i := 3) (v := ?_) rfl (by kernel_rfl) (by kernel_rfl) (by kernel_rfl) (by decide) (fun _ _ _ h => h) hcl hC (fun _ => hE) (Or.inl ⟨by rfl, ?_⟩) ?_; rotate_left; (· (intro w hSw; (try dsimp only at hSw); go_simp; (try with_reducible rfl))); clear hcl; intro hcl; (try simp only [Act.put, List.getElem_toArray, List.getElem_cons_zero, List.getElem_cons_succ, List.setIfInBounds_toArray, List.set_cons_zero, List.set_cons_succ]))
                (refine wpM_take (i := 4) (v := undef) rfl (by kernel_rfl) (by kernel_rfl) (by kernel_rfl) (by decide) (fun _ _ _ h => h) hcl hC (fun _ => hE) (Or.inr ⟨by rfl, rfl⟩) ?_; clear hcl; intro hcl; (try simp only [Act.put, List.getElem_toArray, List.getElem_cons_zero, List.getElem_cons_succ, List.setIfInBounds_toArray, List.set_cons_zero, List.set_cons_succ]))
                (refine wpM_take (i := 5) (v := undef) rfl (by kernel_rfl) (by kernel_rfl) (by kernel_rfl) (by decide) (fun _ _ _ h => h) hcl hC (fun _ => hE) (Or.inr ⟨by rfl, rfl⟩) ?_; clear hcl; intro hcl; (try simp only [Act.put, List.getElem_toArray, List.getElem_cons_zero, List.getElem_cons_succ, List.setIfInBounds_toArray, List.set_cons_zero, List.set_cons_succ]))
                (refine wpM_take (i := 6) (v := undef) rfl (by kernel_rfl) (by kernel_rfl) (by kernel_rfl) (by decide) (fun _ _ _ h => h) hcl hC (fun _ => hE) (Or.inr ⟨by rfl, rfl⟩) ?_; clear hcl; intro hcl; (try simp only [Act.put, List.getElem_toArray, List.getElem_cons_zero, List.getElem_cons_succ, List.setIfInBounds_toArray, List.set_cons_zero, List.set_cons_succ]))
                (refine wpM_take (i := 7) (v := undef) rfl (by kernel_rfl) (by kernel_rfl) (by kernel_rfl) (by decide) (fun _ _ _ h => h) hcl hC (fun _ => hE) (Or.inr ⟨by rfl, rfl⟩) ?_; clear hcl; intro hcl; (try simp only [Act.put, List.getElem_toArray, List.getElem_cons_zero, List.getElem_cons_succ, List.setIfInBounds_toArray, List.set_cons_zero, List.set_cons_succ]))
                (refine wpM_take (i := 8) (v := undef) rfl (by kernel_rfl) (by kernel_rfl) (by kernel_rfl) (by decide) (fun _ _ _ h => h) hcl hC (fun _ => hE) (Or.inr ⟨by rfl, rfl⟩) ?_; clear hcl; intro hcl; (try simp only [Act.put, List.getElem_toArray, List.getElem_cons_zero, List.getElem_cons_succ, List.setIfInBounds_toArray, List.set_cons_zero, List.set_cons_succ]))
                (refine wpM_take (i := 9) (v := ?_) rfl (by kernel_rfl) (by kernel_rfl) (by kernel_rfl) (by decide) (fun _ _ _ h => h) hcl hC (fun _ => hE) (Or.inl ⟨by rfl, ?_⟩) ?_; rotate_left; (· (intro w hSw; (try dsimp only at hSw); go_simp; (try with_reducible rfl))); clear hcl; intro hcl; (try simp only [Act.put, List.getElem_toArray, List.getElem_cons_zero, List.getElem_cons_succ, List.setIfInBounds_toArray, List.set_cons_zero, List.set_cons_succ]))
                (refine wpM_take (i := 10) (v := ?_) rfl (by kernel_rfl) (by kernel_rfl) (by kernel_rfl) (by decide) (fun _ _ _ h => h) hcl hC (fun _ => hE) (Or.inl ⟨by rfl, ?_⟩) ?_; rotate_left; (· (intro w hSw; (try dsimp only at hSw); go_simp; (try with_reducible rfl))); clear hcl; intro hcl; (try simp only [Act.put, List.getElem_toArray, List.getElem_cons_zero, List.getElem_cons_succ, List.setIfInBounds_toArray, List.set_cons_zero, List.set_cons_succ]))
                (refine wpM_take (i := 11) (v := undef) rfl (by kernel_rfl) (by kernel_rfl) (by kernel_rfl) (by decide) (fun _ _ _ h => h) hcl hC (fun _ => hE) (Or.inr ⟨by rfl, rfl⟩) ?_; clear hcl; intro hcl; (try simp only [Act.put, List.getElem_toArray, List.getElem_cons_zero, List.getElem_cons_succ, List.setIfInBounds_toArray, List.set_cons_zero, List.set_cons_succ]))
                (refine wpM_take (i := 12) (v := undef) rfl (by kernel_rfl) (by kernel_rfl) (by kernel_rfl) (by decide) (fun _ _ _ h => h) hcl hC (fun _ => hE) (Or.inr ⟨by rfl, rfl⟩) ?_; clear hcl; intro hcl; (try simp only [Act.put, List.getElem_toArray, List.getElem_cons_zero, List.getElem_cons_succ, List.setIfInBounds_toArray, List.set_cons_zero, List.set_cons_succ]))
                (refine wpM_take (i := 13) (v := undef) rfl (by kernel_rfl) (by kernel_rfl) (by kernel_rfl) (by decide) (fun _ _ _ h => h) hcl hC (fun _ => hE) (Or.inr ⟨by rfl, rfl⟩) ?_; clear hcl; intro hcl; (try simp only [Act.put, List.getElem_toArray, List.getElem_cons_zero, List.getElem_cons_succ, List.setIfInBounds_toArray, List.set_cons_zero, List.set_cons_succ]))
                (refine wpM_take (i := 14) (v := undef) rfl (by kernel_rfl) (by kernel_rfl) (by kernel_rfl) (by decide) (fun _ _ _ h => h) hcl hC (fun _ => hE) (Or.inr ⟨by rfl, rfl⟩) ?_; clear hcl; intro hcl; (try simp only [Act.put, List.getElem_toArray, List.getElem_cons_zero, List.getElem_cons_succ, List.setIfInBounds_toArray, List.set_cons_zero, List.set_cons_succ]))
                (refine wpM_take (i := 15) (v := undef) rfl (by kernel_rfl) (by kernel_rfl) (by kernel_rfl) (by decide) (fun _ _ _ h => h) hcl hC (fun _ => hE) (Or.inr ⟨by rfl, rfl⟩) ?_; clear hcl; intro hcl; (try simp only [Act.put, List.getElem_toArray, List.getElem_cons_zero, List.getElem_cons_succ, List.setIfInBounds_toArray, List.set_cons_zero, List.set_cons_succ]))
                (refine wpM_take (i := 16) (v := undef) rfl (by kernel_rfl) (by kernel_rfl) (by kernel_rfl) (by decide) (fun _ _ _ h => h) hcl hC (fun _ => hE) (Or.inr ⟨by rfl, rfl⟩) ?_; clear hcl; intro hcl; (try simp only [Act.put, List.getElem_toArray, List.getElem_cons_zero, List.getElem_cons_succ, List.setIfInBounds_toArray, List.set_cons_zero, List.set_cons_succ]))
                (refine wpM_take (i := 17) (v := undef) rfl (by kernel_rfl) (by kernel_rfl) (by kernel_rfl) (by decide) (fun _ _ _ h => h) hcl hC (fun _ => hE) (Or.inr ⟨by rfl, rfl⟩) ?_; clear hcl; intro hcl; (try simp only [Act.put, List.getElem_toArray, List.getElem_cons_zero, List.getElem_cons_succ, List.setIfInBounds_toArray, List.set_cons_zero, List.set_cons_succ]))
                (refine wpM_take (i := 18) (v := undef) rfl (by kernel_rfl) (by kernel_rfl) (by kernel_rfl) (by decide) (fun _ _ _ h => h) hcl hC (fun _ => hE) (Or.inr ⟨by rfl, rfl⟩) ?_; clear hcl; intro hcl; (try simp only [Act.put, List.getElem_toArray, List.getElem_cons_zero, List.getElem_cons_succ, List.setIfInBounds_toArray, List.set_cons_zero, List.set_cons_succ]))
                (refine wpM_take (i := 19) (v := undef) rfl (by kernel_rfl) (by kernel_rfl) (by kernel_rfl) (by decide) (fun _ _ _ h => h) hcl hC (fun _ => hE) (Or.inr ⟨by rfl, rfl⟩) ?_; clear hcl; intro hcl; (try simp only [Act.put, List.getElem_toArray, List.getElem_cons_zero, List.getElem_cons_succ, List.setIfInBounds_toArray, List.set_cons_zero, List.set_cons_succ]))
                (refine wpM_take (i := 20) (v := undef) rfl (by kernel_rfl) (by kernel_rfl) (by kernel_rfl) (by decide) (fun _ _ _ h => h) hcl hC (fun _ => hE) (Or.inr ⟨by rfl, rfl⟩) ?_; clear hcl; intro hcl; (try simp only [Act.put, List.getElem_toArray, List.getElem_cons_zero, List.getElem_cons_succ, List.setIfInBounds_toArray, List.set_cons_zero, List.set_cons_succ]))
                (refine wpM_take (i := 21) (v := undef) rfl (by kernel_rfl) (by kernel_rfl) (by kernel_rfl) (by decide) (fun _ _ _ h => h) hcl hC (fun _ => hE) (Or.inr ⟨by rfl, rfl⟩) ?_; clear hcl; intro hcl; (try simp only [Act.put, List.getElem_toArray, List.getElem_cons_zero, List.getElem_cons_succ, List.setIfInBounds_toArray, List.set_cons_zero, List.set_cons_succ]))
                (refine wpM_take (i := 22) (v := undef) rfl (by kernel_rfl) (by kernel_rfl) (by kernel_rfl) (by decide) (fun _ _ _ h => h) hcl hC (fun _ => hE) (Or.inr ⟨by rfl, rfl⟩) ?_; clear hcl; intro hcl; (try simp only [Act.put, List.getElem_toArray, List.getElem_cons_zero, List.getElem_cons_succ, List.setIfInBounds_toArray, List.set_cons_zero, List.set_cons_succ]))
                (refine wpM_take (i := 23) (v := undef) rfl (by kernel_rfl) (by kernel_rfl) (by kernel_rfl) (by decide) (fun _ _ _ h => h) hcl hC (fun _ => hE) (Or.inr ⟨by rfl, rfl⟩) ?_; clear hcl; intro hcl; (try simp only [Act.put, List.getElem_toArray, List.getElem_cons_zero, List.getElem_cons_succ, List.setIfInBounds_toArray, List.set_cons_zero, List.set_cons_succ]))
                (refine wpM_take (i := 24) (v := undef) rfl (by kernel_rfl) (by kernel_rfl) (by kernel_rfl) (by decide) (fun _ _ _ h => h) hcl hC (fun _ => hE) (Or.inr ⟨by rfl, rfl⟩) ?_; clear hcl; intro hcl; (try simp only [Act.put, List.getElem_toArray, List.getElem_cons_zero, List.getElem_cons_succ, List.setIfInBounds_toArray, List.set_cons_zero, List.set_cons_succ]))
                (refine wpM_take (i := 25) (v := undef) rfl (by kernel_rfl) (by kernel_rfl) (by kernel_rfl) (by decide) (fun _ _ _ h => h) hcl hC (fun _ => hE) (Or.inr ⟨by rfl, rfl⟩) ?_; clear hcl; intro hcl; (try simp only [Act.put, List.getElem_toArray, List.getElem_cons_zero, List.getElem_cons_succ, List.setIfInBounds_toArray, List.set_cons_zero, List.set_cons_succ]))
                (refine wpM_take (i := 26) (v := ?_) rfl (by kernel_rfl) (by kernel_rfl) (by kernel_rfl) (by decide) (fun _ _ _ h => h) hcl hC (fun _ => hE) (Or.inl ⟨by rfl, ?_⟩) ?_; rotate_left; (· (intro w hSw; (try dsimp only at hSw); go_simp; (try with_reducible rfl))); clear hcl; intro hcl; (try simp only [Act.put, List.getElem_toArray, List.getElem_cons_zero, List.getElem_cons_succ, List.setIfInBounds_toArray, List.set_cons_zero, List.set_cons_succ]))
                refine wpM_done (by kernel_rfl) ?_
                clear hcl
                try simp only [List.getElem_toArray, List.getElem_cons_zero, List.getElem_cons_succ, List.setIfInBounds_toArray, List.set_cons_zero, List.set_cons_succ]
                have hGr := hbw.trans (hC.1.mono hbw.size)
                have hGG := hb0.trans (hGr.mono hzW)
                clear hC b0 b1 b2 b3 b4 b5 b6 s0 s1 hltx
                go_wp2
                go_ret
                exact ⟨ret_int hT.out, hGG⟩
              cases z
              case true =>
                have hT : Hid (3 = r) := Lib.hid (by rw [← hrH.out]; exact (mErr_three hnm.out ha1.out ha2.out (.inr (.inr (List.any_eq_true.2 ⟨u, List.mem_of_getElem? hqH.out, by rw [hze]; simp⟩)))).symm)
                clear hye hze
                go_upto_region 17 with (fail)
                obtain ⟨wb, hwb⟩ : ∃ wb, wr.alloc (.cells #[.int .i64 u.1.1.1, .int .u32 u.1.1.2, .int .i64 u.1.2, .string (bs u.2.1), .int .i64 u.2.2.1, .int .u32 u.2.2.2.1, .int .i64 u.2.2.2.2] 94) = wb := ⟨_, rfl⟩
                have hbb : wb.heap[wr.heap.size]? = some (.cells #[.int .i64 u.1.1.1, .int .u32 u.1.1.2, .int .i64 u.1.2, .string (bs u.2.1), .int .i64 u.2.2.1, .int .u32 u.2.2.2.1, .int .i64 u.2.2.2.2] 94 (0, 0)) := by rw [← hwb]; exact heap_at _ _ rfl
                have hvb : Below wr.heap.size wr wb := by rw [← hwb]; exact (Below.refl _ wr).alloc (Nat.le_refl _) _
                rw [hwb]
                clear hwb p0 p1 p2 p3 p4 p5 p6 s0 s1 hltx
                have hbw := hbr.trans (hvb.mono hbr.size)
                have hGw := hb0.trans (hbw.mono hzW)
                have hlb := blk_lt hbb
                have b0 := blk_cell hbb 0
                have b1 := blk_cell hbb 1
                have b2 := blk_cell hbb 2
                have b3 := blk_cell hbb 3
                have b4 := blk_cell hbb 4
                have b5 := blk_cell hbb 5
                have b6 := blk_cell hbb 6
                simp at b0 b1 b2 b3 b4 b5 b6
                have hsb := blk_below hbxH.out hbw
                have hltx := blk_lt hsb
                have s0 := blk_cell hsb 0
                have s1 := blk_cell hsb 1
                simp at s0 s1
                clear hbb hsb
                refine wp_region_M (fun w' => KQ wb.heap.size wb w') (fun _ => True) 99 (by kernel_rfl) (kq (Below.refl _ _).drew) trivial ?_
                intro hcl
                have hC : KQ wb.heap.size wb wb.drew := kq (Below.refl _ _).drew
                have hE := trivial
                (refine wpM_take (i := 0) (v := ?_) rfl (by kernel_rfl) (by kernel_rfl) (by kernel_rfl) (by decide) (fun _ _ _ h => h) hcl hC (fun _ => hE) (Or.inl ⟨by rfl, ?_⟩) ?_; rotate_left; (· (intro w hSw; (try dsimp only at hSw); go_simp; (try with_reducible rfl))); clear hcl; intro hcl; (try simp only [Act.put, List.getElem_toArray, List.getElem_cons_zero, List.setIfInBounds_toArray, List.set_cons_zero, List.set_cons_succ]))
                refine wpM_only (i := 1) rfl (by kernel_rfl) hcl (fun K hK => ?_)
                go_simp
                refine (heu.out _).mono ?_
                rintro e v1 ⟨rfl, hv1⟩
                have hC' := kq_call hC (Nat.le_refl _) hv1
                refine hK.out _ _ hC' trivial ?_
                clear hK K
                clear hcl
                intro hcl
                (try simp only [Act.put, List.getElem_toArray, List.getElem_cons_zero, List.getElem_cons_succ, List.setIfInBounds_toArray, List.set_cons_zero, List.set_cons_succ])
                clear hC
                have hC := hC'
                clear hC'
                (refine wpM_take (i := 2) (v := ?_) rfl (by kernel_rfl) (by kernel_rfl) (by kernel_rfl) (by decide) (fun _ _ _ h => h) hcl hC (fun _ => hE) (Or.inl ⟨by rfl, ?_⟩) ?_; rotate_left; (· (intro w hSw; (try dsimp only at hSw); go_simp; (try with_reducible rfl))); clear hcl; intro hcl; (try simp only [Act.put, List.getElem_toArray, List.getElem_cons_zero, List.getElem_cons_succ, List.setIfInBounds_toArray, List.set_cons_zero, List.set_cons_succ]))
                (refine wpM_take (i := 3) (v := ?_) rfl (by kernel_rfl) (by kernel_rfl) (by kernel_rfl) (by decide) (fun _ _ _ h => h) hcl hC (fun _ => hE) (Or.inl ⟨by rfl, ?_⟩) ?_; rotate_left; (· (intro w hSw; (try dsimp only at hSw); go_simp; (try with_reducible rfl))); clear hcl; intro hcl; (try simp only [Act.put, List.getElem_toArray, List.getElem_cons_zero, List.getElem_cons_succ, List.setIfInBounds_toArray, List.set_cons_zero, List.set_cons_succ]))
                (refine wpM_take (i := 4) (v := ?_) rfl (by kernel_rfl) (by kernel_rfl) (by kernel_rfl) (by decide) (fun _ _ _ h => h) hcl hC (fun _ => hE) (Or.inl ⟨by rfl, ?_⟩) ?_; rotate_left; (· (intro w hSw; (try dsimp only at hSw); go_simp; (try with_reducible rfl))); clear hcl; intro hcl; (try simp only [Act.put, List.getElem_toArray, List.getElem_cons_zero, List.getElem_cons_succ, List.setIfInBounds_toArray, List.set_cons_zero, List.set_cons_succ]))
                (refine wpM_take (i := 5) (v := ?_) rfl (by kernel_rfl) (by kernel_rfl) (by kernel_rfl) (by decide) (fun _ _ _ h => h) hcl hC (fun _ => hE) (Or.inl ⟨by rfl, ?_⟩) ?_; rotate_left; (· (intro w hSw; (try dsimp only at hSw); go_simp; (try with_reducible rfl))); clear hcl; intro hcl; (try simp only [Act.put, List.getElem_toArray, List.getElem_cons_zero, List.getElem_cons_succ, List.setIfInBounds_toArray, List.set_cons_zero, List.set_cons_succ]))
                (refine wpM_take (i := 6) (v := ?_) rfl (by kernel_rfl) (by kernel_rfl) (by kernel_rfl) (by decide) (fun _ _ _ h => h) hcl hC (fun _ => hE) (Or.inl ⟨by rfl, ?_⟩) ?_; rotate_left; (· (intro w hSw; (try dsimp only at hSw); go_simp; (try with_reducible rfl))); clear hcl; intro hcl; (try simp only [Act.put, List.getElem_toArray, List.getElem_cons_zero, List.getElem_cons_succ, List.setIfInBounds_toArray, List.set_cons_zero, List.set_cons_succ]))
                (refine wpM_take (i := 7) (v := ?_) rfl (by kernel_rfl) (by kernel_rfl) (by kernel_rfl) (by decide) (fun _ _ _ h => h) hcl hC (fun _ => hE) (Or.inl ⟨by rfl, ?_⟩) ?_; rotate_left; (· (intro w hSw; (try dsimp only at hSw); go_simp; (try with_reducible rfl))); clear hcl; intro hcl; (try simp only [Act.put, List.getElem_toArray, List.getElem_cons_zero, List.getElem_cons_succ, List.setIfInBounds_toArray, List.set_cons_zero, List.set_cons_succ]))
                refine wpM_only (i := 8) rfl (by kernel_rfl) hcl (fun K hK => ?_)
                go_simp
                refine (hhu.out _ (hGw.trans (hC.1.mono hGw.size))).mono ?_
                rintro e v2 ⟨rfl, hv2⟩
                have hC' := kq_call hC (Nat.le_refl _) hv2
                refine hK.out _ _ hC' trivial ?_
                clear hK K
                clear hcl
                intro hcl
                (try simp only [Act.put, List.getElem_toArray, List.getElem_cons_zero, List.getElem_cons_succ, List.setIfInBounds_toArray, List.set_cons_zero, List.set_cons_succ])
                clear hC
                have hC := hC'
                clear hC'
                (refine wpM_take (i := 9) (v := ?_) rfl (by kernel_rfl) (by kernel_rfl) (by kernel_rfl) (by decide) (fun _ _ _ h => h) hcl hC (fun _ => hE) (Or.inl ⟨by rfl, ?_⟩) ?_; rotate_left; (· (intro w hSw; (try dsimp only at hSw); go_simp; (try with_reducible rfl))); clear hcl; intro hcl; (try simp only [Act.put, List.getElem_toArray, List.getElem_cons_zero, List.getElem_cons_succ, List.setIfInBounds_toArray, List.set_cons_zero, List.set_cons_succ]))
                (refine wpM_take (i := 10) (v := ?_) rfl (by kernel_rfl) (by kernel_rfl) (by kernel_rfl) (by decide) (fun _ _ _ h => h) hcl hC (fun _ => hE) (Or.inl ⟨by rfl, ?_⟩) ?_; rotate_left; (· (intro w hSw; (try dsimp only at hSw); go_simp; (try with_reducible rfl))); clear hcl; intro hcl; (try simp only [Act.put, List.getElem_toArray, List.getElem_cons_zero, List.getElem_cons_succ, List.setIfInBounds_toArray, List.set_cons_zero, List.set_cons_succ]))
                (refine wpM_take (i := 11) (v := undef) rfl (by kernel_rfl) (by kernel_rfl) (by kernel_rfl) (by decide) (fun _ _ _ h => h) hcl hC (fun _ => hE) (Or.inr ⟨by rfl, rfl⟩) ?_; clear hcl; intro hcl; (try simp only [Act.put, List.getElem_toArray, List.getElem_cons_zero, List.getElem_cons_succ, List.setIfInBounds_toArray, List.set_cons_zero, List.set_cons_succ]))
                (refine wpM_take (i := 12) (v := undef) rfl (by kernel_rfl) (by kernel_rfl) (by kernel_rfl) (by decide) (fun _ _ _ h => h) hcl hC (fun _ => hE) (Or.inr ⟨by rfl, rfl⟩) ?_; clear hcl; intro hcl; (try simp only [Act.put, List.getElem_toArray, List.getElem_cons_zero, List.getElem_cons_succ, List.setIfInBounds_toArray, List.set_cons_zero, List.set_cons_succ]))
                (refine wpM_take (i := 13) (v := undef) rfl (by kernel_rfl) (by kernel_rfl) (by kernel_rfl) (by decide) (fun _ _ _ h => h) hcl hC (fun _ => hE) (Or.inr ⟨by rfl, rfl⟩) ?_; clear hcl; intro hcl; (try simp only [Act.put, List.getElem_toArray, List.getElem_cons_zero, List.getElem_cons_succ, List.setIfInBounds_toArray, List.set_cons_zero, List.set_cons_succ]))
                (refine wpM_take (i := 14) (v := undef) rfl (by kernel_rfl) (by kernel_rfl) (by kernel_rfl) (by decide) (fun _ _ _ h => h) hcl hC (fun _ => hE) (Or.inr ⟨by rfl, rfl⟩) ?_; clear hcl; intro hcl; (try simp only [Act.put, List.getElem_toArray, List.getElem_cons_zero, List.getElem_cons_succ, List.setIfInBounds_toArray, List.set_cons_zero, List.set_cons_succ]))
                (refine wpM_take (i := 15) (v := undef) rfl (by kernel_rfl) (by kernel_rfl) (by kernel_rfl) (by decide) (fun _ _ _ h => h) hcl hC (fun _ => hE) (Or.inr ⟨by rfl, rfl⟩) ?_; clear hcl; intro hcl; (try simp only [Act.put, List.getElem_toArray, List.getElem_cons_zero, List.getElem_cons_succ, List.setIfInBounds_toArray, List.set_cons_zero, List.set_cons_succ]))
                (refine wpM_take (i := 16) (v := undef) rfl (by kernel_rfl) (by kernel_rfl) (by kernel_rfl) (by decide) (fun _ _ _ h => h) hcl hC (fun _ => hE) (Or.inr ⟨by rfl, rfl⟩) ?_; clear hcl; intro hcl; (try simp only [Act.put, List.getElem_toArray, List.getElem_cons_zero, List.getElem_cons_succ, List.setIfInBounds_toArray, List.set_cons_zero, List.set_cons_succ]))
                (refine wpM_take (i := 17) (v := undef) rfl (by kernel_rfl) (by kernel_rfl) (by kernel_rfl) (by decide) (fun _ _ _ h => h) hcl hC (fun _ => hE) (Or.inr ⟨by rfl, rfl⟩) ?_; clear hcl; intro hcl; (try simp only [Act.put, List.getElem_toArray, List.getElem_cons_zero, List.getElem_cons_succ, List.setIfInBounds_toArray, List.set_cons_zero, List.set_cons_succ]))
                (refine wpM_take (i := 18) (v := undef) rfl (by kernel_rfl) (by kernel_rfl) (by kernel_rfl) (by decide) (fun _ _ _ h => h) hcl hC (fun _ => hE) (Or.inr ⟨by rfl, rfl⟩) ?_; clear hcl; intro hcl; (try simp only [Act.put, List.getElem_toArray, List.getElem_cons_zero, List.getElem_cons_succ, List.setIfInBounds_toArray, List.set_cons_zero, List.set_cons_succ]))
                (refine wpM_take (i := 19) (v := undef) rfl (by kernel_rfl) (by kernel_rfl) (by kernel_rfl) (by decide) (fun _ _ _ h => h) hcl hC (fun _ => hE) (Or.inr ⟨by rfl, rfl⟩) ?_; clear hcl; intro hcl; (try simp only [Act.put, List.getElem_toArray, List.getElem_cons_zero, List.getElem_cons_succ, List.setIfInBounds_toArray, List.set_cons_zero, List.set_cons_succ]))
                (refine wpM_take (i := 20) (v := undef) rfl (by kernel_rfl) (by kernel_rfl) (by kernel_rfl) (by decide) (fun _ _ _ h => h) hcl hC (fun _ => hE) (Or.inr ⟨by rfl, rfl⟩) ?_; clear hcl; intro hcl; (try simp only [Act.put, List.getElem_toArray, List.getElem_cons_zero, List.getElem_cons_succ, List.setIfInBounds_toArray, List.set_cons_zero, List.set_cons_succ]))
                (refine wpM_take (i := 21) (v := undef) rfl (by kernel_rfl) (by kernel_rfl) (by kernel_rfl) (by decide) (fun _ _ _ h => h) hcl hC (fun _ => hE) (Or.inr ⟨by rfl, rfl⟩) ?_; clear hcl; intro hcl; (try simp only [Act.put, List.getElem_toArray, List.getElem_cons_zero, List.getElem_cons_succ, List.setIfInBounds_toArray, List.set_cons_zero, List.set_cons_succ]))
                (refine wpM_take (i := 22) (v := undef) rfl (by kernel_rfl) (by kernel_rfl) (by kernel_rfl) (by decide) (fun _ _ _ h => h) hcl hC (fun _ => hE) (Or.inr ⟨by rfl, rfl⟩) ?_; clear hcl; intro hcl; (try simp only [Act.put, List.getElem_toArray, List.getElem_cons_zero, List.getElem_cons_succ, List.setIfInBounds_toArray, List.set_cons_zero, List.set_cons_succ]))
                (refine wpM_take (i := 23) (v := undef) rfl (by kernel_rfl) (by kernel_rfl) (by kernel_rfl) (by decide) (fun _ _ _ h => h) hcl hC (fun _ => hE) (Or.inr ⟨by rfl, rfl⟩) ?_; clear hcl; intro hcl; (try simp only [Act.put, List.getElem_toArray, List.getElem_cons_zero, List.getElem_cons_succ, List.setIfInBounds_toArray, List.set_cons_zero, List.set_cons_succ]))
                (refine wpM_take (i := 24) (v := undef) rfl (by kernel_rfl) (by kernel_rfl) (by kernel_rfl) (by decide) (fun _ _ _ h => h) hcl hC (fun _ => hE) (Or.inr ⟨by rfl, rfl⟩) ?_; clear hcl; intro hcl; (try simp only [Act.put, List.getElem_toArray, List.getElem_cons_zero, List.getElem_cons_succ, List.setIfInBounds_toArray, List.set_cons_zero, List.set_cons_succ]))
                (refine wpM_take (i := 25) (v := undef) rfl (by kernel_rfl) (by kernel_rfl) (by kernel_rfl) (by decide) (fun _ _ _ h => h) hcl hC (fun _ => hE) (Or.inr ⟨by rfl, rfl⟩) ?_; clear hcl; intro hcl; (try simp only [Act.put, List.getElem_toArray, List.getElem_cons_zero, List.getElem_cons_succ, List.setIfInBounds_toArray, List.set_cons_zero, List.set_cons_succ]))
                (refine wpM_take (i := 26) (v := ?_) rfl (by kernel_rfl) (by kernel_rfl) (by kernel_rfl) (by decide) (fun _ _ _ h => h) hcl hC (fun _ => hE) (Or.inl ⟨by rfl, ?_⟩) ?_; rotate_left; (· (intro w hSw; (try dsimp only at hSw); go_simp; (try with_reducible rfl))); clear hcl; intro hcl; (try simp only [Act.put, List.getElem_toArray, List.getElem_cons_zero, List.getElem_cons_succ, List.setIfInBounds_toArray, List.set_cons_zero, List.set_cons_succ]))
                refine wpM_done (by kernel_rfl) ?_
                clear hcl
                try simp only [List.getElem_toArray, List.getElem_cons_zero, List.getElem_cons_succ, List.setIfInBounds_toArray, List.set_cons_zero, List.set_cons_succ]
                have hGr := hbw.trans (hC.1.mono hbw.size)
                have hGG := hb0.trans (hGr.mono hzW)
                clear hC b0 b1 b2 b3 b4 b5 b6 s0 s1 hltx
                go_wp2
                go_ret
                exact ⟨ret_int hT.out, hGG⟩
              have hN : Hid (∀ u ∈ xs.take (j + 1), (!fitsP u || gs.contains u.1) = false) := Lib.hid (all_take_succ hnoH.out hqH.out (by rw [hye, hze]; rfl))
              clear hye hze
              by_cases hj0 : j = 0
              · have hA0 : Hid (∀ i (x y : Pm), i + 1 < j + 1 → xs[i]? = some x → xs[i + 1]? = some y → cmpT x.1 y.1 < 0) := Lib.hid (by intro i x y h; omega)
                have hjd : decide ((0 : Int) < (j : Int)) = false := decide_eq_false (by omega)
                have hjd2 : decide (0 < j) = false := decide_eq_false (by omega)
                have hjd3 : ¬ 0 < j := by omega
                clear hj0
                go_upto_region 17 with (fail)
                obtain ⟨wb, hwb⟩ : ∃ wb, wr.alloc (.cells #[.int .i64 u.1.1.1, .int .u32 u.1.1.2, .int .i64 u.1.2, .string (bs u.2.1), .int .i64 u.2.2.1, .int .u32 u.2.2.2.1, .int .i64 u.2.2.2.2] 94) = wb := ⟨_, rfl⟩
                have hbb : wb.heap[wr.heap.size]? = some (.cells #[.int .i64 u.1.1.1, .int .u32 u.1.1.2, .int .i64 u.1.2, .string (bs u.2.1), .int .i64 u.2.2.1, .int .u32 u.2.2.2.1, .int .i64 u.2.2.2.2] 94 (0, 0)) := by rw [← hwb]; exact heap_at _ _ rfl
                have hvb : Below wr.heap.size wr wb := by rw [← hwb]; exact (Below.refl _ wr).alloc (Nat.le_refl _) _
                rw [hwb]
                clear hwb p0 p1 p2 p3 p4 p5 p6 s0 s1 hltx
                have hbw := hbr.trans (hvb.mono hbr.size)
                have hGw := hb0.trans (hbw.mono hzW)
                have hlb := blk_lt hbb
                have b0 := blk_cell hbb 0
                have b1 := blk_cell hbb 1
                have b2 := blk_cell hbb 2
                have b3 := blk_cell hbb 3
                have b4 := blk_cell hbb 4
                have b5 := blk_cell hbb 5
                have b6 := blk_cell hbb 6
                simp at b0 b1 b2 b3 b4 b5 b6
                have hsb := blk_below hbxH.out hbw
                have hltx := blk_lt hsb
                have s0 := blk_cell hsb 0
                have s1 := blk_cell hsb 1
                simp at s0 s1
                clear hbb hsb
                refine wp_region_M (fun w' => KQ wb.heap.size wb w') (fun _ => True) 99 (by kernel_rfl) (kq (Below.refl _ _).drew) trivial ?_
                intro hcl
                have hC : KQ wb.heap.size wb wb.drew := kq (Below.refl _ _).drew
                have hE := trivial
                (refine wpM_take (i := 0) (v := ?_) rfl (by kernel_rfl) (by kernel_rfl) (by kernel_rfl) (by decide) (fun _ _ _ h => h) hcl hC (fun _ => hE) (Or.inl ⟨by rfl, ?_⟩) ?_; rotate_left; (· (intro w hSw; (try dsimp only at hSw); go_simp; (try with_reducible rfl))); clear hcl; intro hcl; (try simp only [Act.put, List.getElem_toArray, List.getElem_cons_zero, List.setIfInBounds_toArray, List.set_cons_zero, List.set_cons_succ]))
                refine wpM_only (i := 1) rfl (by kernel_rfl) hcl (fun K hK => ?_)
                go_simp
                refine (heu.out _).mono ?_
                rintro e v1 ⟨rfl, hv1⟩
                have hC' := kq_call hC (Nat.le_refl _) hv1
                refine hK.out _ _ hC' trivial ?_
                clear hK K
                clear hcl
                intro hcl
                (try simp only [Act.put, List.getElem_toArray, List.getElem_cons_zero, List.getElem_cons_succ, List.setIfInBounds_toArray, List.set_cons_zero, List.set_cons_succ])
                clear hC
                have hC := hC'
                clear hC'
                (refine wpM_take (i := 2) (v := ?_) rfl (by kernel_rfl) (by kernel_rfl) (by kernel_rfl) (by decide) (fun _ _ _ h => h) hcl hC (fun _ => hE) (Or.inl ⟨by rfl, ?_⟩) ?_; rotate_left; (· (intro w hSw; (try dsimp only at hSw); go_simp; (try with_reducible rfl))); clear hcl; intro hcl; (try simp only [Act.put, List.getElem_toArray, List.getElem_cons_zero, List.getElem_cons_succ, List.setIfInBounds_toArray, List.set_cons_zero, List.set_cons_succ]))
                (refine wpM_take (i := 3) (v := ?_) rfl (by kernel_rfl) (by kernel_rfl) (by kernel_rfl) (by decide) (fun _ _ _ h => h) hcl hC (fun _ => hE) (Or.inl ⟨by rfl, ?_⟩) ?_; rotate_left; (· (intro w hSw; (try dsimp only at hSw); go_simp; (try with_reducible rfl))); clear hcl; intro hcl; (try simp only [Act.put, List.getElem_toArray, List.getElem_cons_zero, List.getElem_cons_succ, List.setIfInBounds_toArray, List.set_cons_zero, List.set_cons_succ]))
                (refine wpM_take (i := 4) (v := ?_) rfl (by kernel_rfl) (by kernel_rfl) (by kernel_rfl) (by decide) (fun _ _ _ h => h) hcl hC (fun _ => hE) (Or.inl ⟨by rfl, ?_⟩) ?_; rotate_left; (· (intro w hSw; (try dsimp only at hSw); go_simp; (try with_reducible rfl))); clear hcl; intro hcl; (try simp only [Act.put, List.getElem_toArray, List.getElem_cons_zero, List.getElem_cons_succ, List.setIfInBounds_toArray, List.set_cons_zero, List.set_cons_succ]))
                (refine wpM_take (i := 5) (v := ?_) rfl (by kernel_rfl) (by kernel_rfl) (by kernel_rfl) (by decide) (fun _ _ _ h => h) hcl hC (fun _ => hE) (Or.inl ⟨by rfl, ?_⟩) ?_; rotate_left; (· (intro w hSw; (try dsimp only at hSw); go_simp; (try with_reducible rfl))); clear hcl; intro hcl; (try simp only [Act.put, List.getElem_toArray, List.getElem_cons_zero, List.getElem_cons_succ, List.setIfInBounds_toArray, List.set_cons_zero, List.set_cons_succ]))
                (refine wpM_take (i := 6) (v := ?_) rfl (by kernel_rfl) (by kernel_rfl) (by kernel_rfl) (by decide) (fun _ _ _ h => h) hcl hC (fun _ => hE) (Or.inl ⟨by rfl, ?_⟩) ?_; rotate_left; (· (intro w hSw; (try dsimp only at hSw); go_simp; (try with_reducible rfl))); clear hcl; intro hcl; (try simp only [Act.put, List.getElem_toArray, List.getElem_cons_zero, List.getElem_cons_succ, List.setIfInBounds_toArray, List.set_cons_zero, List.set_cons_succ]))
                (refine wpM_take (i := 7) (v := ?_) rfl (by kernel_rfl) (by kernel_rfl) (by kernel_rfl) (by decide) (fun _ _ _ h => h) hcl hC (fun _ => hE) (Or.inl ⟨by rfl, ?_⟩) ?_; rotate_left; (· (intro w hSw; (try dsimp only at hSw); go_simp; (try with_reducible rfl))); clear hcl; intro hcl; (try simp only [Act.put, List.getElem_toArray, List.getElem_cons_zero, List.getElem_cons_succ, List.setIfInBounds_toArray, List.set_cons_zero, List.set_cons_succ]))
                refine wpM_only (i := 8) rfl (by kernel_rfl) hcl (fun K hK => ?_)
                go_simp
                refine (hhu.out _ (hGw.trans (hC.1.mono hGw.size))).mono ?_
                rintro e v2 ⟨rfl, hv2⟩
                have hC' := kq_call hC (Nat.le_refl _) hv2
                refine hK.out _ _ hC' trivial ?_
                clear hK K
                clear hcl
                intro hcl
                (try simp only [Act.put, List.getElem_toArray, List.getElem_cons_zero, List.getElem_cons_succ, List.setIfInBounds_toArray, List.set_cons_zero, List.set_cons_succ])
                clear hC
                have hC := hC'
                clear hC'
                (refine wpM_take (i := 9) (v := ?_) rfl (by kernel_rfl) (by kernel_rfl) (by kernel_rfl) (by decide) (fun _ _ _ h => h) hcl hC (fun _ => hE) (Or.inl ⟨by rfl, ?_⟩) ?_; rotate_left; (· (intro w hSw; (try dsimp only at hSw); go_simp; (try with_reducible rfl))); clear hcl; intro hcl; (try simp only [Act.put, List.getElem_toArray, List.getElem_cons_zero, List.getElem_cons_succ, List.setIfInBounds_toArray, List.set_cons_zero, List.set_cons_succ]))
                (refine wpM_take (i := 10) (v := ?_) rfl (by kernel_rfl) (by kernel_rfl) (by kernel_rfl) (by decide) (fun _ _ _ h => h) hcl hC (fun _ => hE) (Or.inl ⟨by rfl, ?_⟩) ?_; rotate_left; (· (intro w hSw; (try dsimp only at hSw); go_simp; (try with_reducible rfl))); clear hcl; intro hcl; (try simp only [Act.put, List.getElem_toArray, List.getElem_cons_zero, List.getElem_cons_succ, List.setIfInBounds_toArray, List.set_cons_zero, List.set_cons_succ]))
                (refine wpM_take (i := 11) (v := ?_) rfl (by kernel_rfl) (by kernel_rfl) (by kernel_rfl) (by decide) (fun _ _ _ h => h) hcl hC (fun _ => hE) (Or.inl ⟨by rfl, ?_⟩) ?_; rotate_left; (· (intro w hSw; (try dsimp only at hSw); go_simp; (try with_reducible rfl))); clear hcl; intro hcl; (try simp only [Act.put, List.getElem_toArray, List.getElem_cons_zero, List.getElem_cons_succ, List.setIfInBounds_toArray, List.set_cons_zero, List.set_cons_succ]))
                (refine wpM_take (i := 12) (v := ?_) rfl (by kernel_rfl) (by kernel_rfl) (by kernel_rfl) (by decide) (fun _ _ _ h => h) hcl hC (fun _ => hE) (Or.inl ⟨by rfl, ?_⟩) ?_; rotate_left; (· (intro w hSw; (try dsimp only at hSw); go_simp; (try with_reducible rfl))); clear hcl; intro hcl; (try simp only [Act.put, List.getElem_toArray, List.getElem_cons_zero, List.getElem_cons_succ, List.setIfInBounds_toArray, List.set_cons_zero, List.set_cons_succ]))
                (refine wpM_take (i := 13) (v := ?_) rfl (by kernel_rfl) (by kernel_rfl) (by kernel_rfl) (by decide) (fun _ _ _ h => h) hcl hC (fun _ => hE) (Or.inl ⟨by rfl, ?_⟩) ?_; rotate_left; (· (intro w hSw; (try dsimp only at hSw); go_simp; (try with_reducible rfl))); clear hcl; intro hcl; (try simp only [Act.put, List.getElem_toArray, List.getElem_cons_zero, List.getElem_cons_succ, List.setIfInBounds_toArray, List.set_cons_zero, List.set_cons_succ]))
                (refine wpM_take (i := 14) (v := undef) rfl (by kernel_rfl) (by kernel_rfl) (by kernel_rfl) (by decide) (fun _ _ _ h => h) hcl hC (fun _ => hE) (Or.inr ⟨by rfl, rfl⟩) ?_; clear hcl; intro hcl; (try simp only [Act.put, List.getElem_toArray, List.getElem_cons_zero, List.getElem_cons_succ, List.setIfInBounds_toArray, List.set_cons_zero, List.set_cons_succ]))
                (refine wpM_take (i := 15) (v := undef) rfl (by kernel_rfl) (by kernel_rfl) (by kernel_rfl) (by decide) (fun _ _ _ h => h) hcl hC (fun _ => hE) (Or.inr ⟨by rfl, rfl⟩) ?_; clear hcl; intro hcl; (try simp only [Act.put, List.getElem_toArray, List.getElem_cons_zero, List.getElem_cons_succ, List.setIfInBounds_toArray, List.set_cons_zero, List.set_cons_succ]))
                (refine wpM_take (i := 16) (v := undef) rfl (by kernel_rfl) (by kernel_rfl) (by kernel_rfl) (by decide) (fun _ _ _ h => h) hcl hC (fun _ => hE) (Or.inr ⟨by rfl, rfl⟩) ?_; clear hcl; intro hcl; (try simp only [Act.put, List.getElem_toArray, List.getElem_cons_zero, List.getElem_cons_succ, List.setIfInBounds_toArray, List.set_cons_zero, List.set_cons_succ]))
                (refine wpM_take (i := 17) (v := undef) rfl (by kernel_rfl) (by kernel_rfl) (by kernel_rfl) (by decide) (fun _ _ _ h => h) hcl hC (fun _ => hE) (Or.inr ⟨by rfl, rfl⟩) ?_; clear hcl; intro hcl; (try simp only [Act.put, List.getElem_toArray, List.getElem_cons_zero, List.getElem_cons_succ, List.setIfInBounds_toArray, List.set_cons_zero, List.set_cons_succ]))
                (refine wpM_take (i := 18) (v := undef) rfl (by kernel_rfl) (by kernel_rfl) (by kernel_rfl) (by decide) (fun _ _ _ h => h) hcl hC (fun _ => hE) (Or.inr ⟨by rfl, rfl⟩) ?_; clear hcl; intro hcl; (try simp only [Act.put, List.getElem_toArray, List.getElem_cons_zero, List.getElem_cons_succ, List.setIfInBounds_toArray, List.set_cons_zero, List.set_cons_succ]))
                (refine wpM_take (i := 19) (v := undef) rfl (by kernel_rfl) (by kernel_rfl) (by kernel_rfl) (by decide) (fun _ _ _ h => h) hcl hC (fun _ => hE) (Or.inr ⟨by rfl, rfl⟩) ?_; clear hcl; intro hcl; (try simp only [Act.put, List.getElem_toArray, List.getElem_cons_zero, List.getElem_cons_succ, List.setIfInBounds_toArray, List.set_cons_zero, List.set_cons_succ]))
                (refine wpM_take (i := 20) (v := undef) rfl (by kernel_rfl) (by kernel_rfl) (by kernel_rfl) (by decide) (fun _ _ _ h => h) hcl hC (fun _ => hE) (Or.inr ⟨by rfl, rfl⟩) ?_; clear hcl; intro hcl; (try simp only [Act.put, List.getElem_toArray, List.getElem_cons_zero, List.getElem_cons_succ, List.setIfInBounds_toArray, List.set_cons_zero, List.set_cons_succ]))
                (refine wpM_take (i := 21) (v := undef) rfl (by kernel_rfl) (by kernel_rfl) (by kernel_rfl) (by decide) (fun _ _ _ h => h) hcl hC (fun _ => hE) (Or.inr ⟨by rfl, rfl⟩) ?_; clear hcl; intro hcl; (try simp only [Act.put, List.getElem_toArray, List.getElem_cons_zero, List.getElem_cons_succ, List.setIfInBounds_toArray, List.set_cons_zero, List.set_cons_succ]))
                (refine wpM_take (i := 22) (v := undef) rfl (by kernel_rfl) (by kernel_rfl) (by kernel_rfl) (by decide) (fun _ _ _ h => h) hcl hC (fun _ => hE) (Or.inr ⟨by rfl, rfl⟩) ?_; clear hcl; intro hcl; (try simp only [Act.put, List.getElem_toArray, List.getElem_cons_zero, List.getElem_cons_succ, List.setIfInBounds_toArray, List.set_cons_zero, List.set_cons_succ]))
                (refine wpM_take (i := 23) (v := undef) rfl (by kernel_rfl) (by kernel_rfl) (by kernel_rfl) (by decide) (fun _ _ _ h => h) hcl hC (fun _ => hE) (Or.inr ⟨by rfl, rfl⟩) ?_; clear hcl; intro hcl; (try simp only [Act.put, List.getElem_toArray, List.getElem_cons_zero, List.getElem_cons_succ, List.setIfInBounds_toArray, List.set_cons_zero, List.set_cons_succ]))
                (refine wpM_take (i := 24) (v := undef) rfl (by kernel_rfl) (by kernel_rfl) (by kernel_rfl) (by decide) (fun _ _ _ h => h) hcl hC (fun _ => hE) (Or.inr ⟨by rfl, rfl⟩) ?_; clear hcl; intro hcl; (try simp only [Act.put, List.getElem_toArray, List.getElem_cons_zero, List.getElem_cons_succ, List.setIfInBounds_toArray, List.set_cons_zero, List.set_cons_succ]))
                (refine wpM_take (i := 25) (v := ?_) rfl (by kernel_rfl) (by kernel_rfl) (by kernel_rfl) (by decide) (fun _ _ _ h => h) hcl hC (fun _ => hE) (Or.inl ⟨by rfl, ?_⟩) ?_; rotate_left; (· (intro w hSw; (try dsimp only at hSw); go_simp; (try with_reducible rfl))); clear hcl; intro hcl; (try simp only [Act.put, List.getElem_toArray, List.getElem_cons_zero, List.getElem_cons_succ, List.setIfInBounds_toArray, List.set_cons_zero, List.set_cons_succ]))
                (refine wpM_take (i := 26) (v := ?_) rfl (by kernel_rfl) (by kernel_rfl) (by kernel_rfl) (by decide) (fun _ _ _ h => h) hcl hC (fun _ => hE) (Or.inl ⟨by rfl, ?_⟩) ?_; rotate_left; (· (intro w hSw; (try dsimp only at hSw); go_simp; (try with_reducible rfl))); clear hcl; intro hcl; (try simp only [Act.put, List.getElem_toArray, List.getElem_cons_zero, List.getElem_cons_succ, List.setIfInBounds_toArray, List.set_cons_zero, List.set_cons_succ]))
                refine wpM_done (by kernel_rfl) ?_
                clear hcl
                try simp only [List.getElem_toArray, List.getElem_cons_zero, List.getElem_cons_succ, List.setIfInBounds_toArray, List.set_cons_zero, List.set_cons_succ]
                have hGr := hbw.trans (hC.1.mono hbw.size)
                have hGG := hb0.trans (hGr.mono hzW)
                clear hC b0 b1 b2 b3 b4 b5 b6 s0 s1 hltx
                go_wp2
                go_roundg (k + 1 - (j + 1))
                case measure => omega
                case rel => exact ⟨j + 1, by omega, rfl, by go_num, hN.out, hA0.out, hGr⟩
              · obtain ⟨i, hji⟩ : ∃ i, j = i + 1 := ⟨j - 1, by omega⟩
                have hjp : (0 : Int) < (j : Int) := by omega
                have hjd2 : decide (0 < j) = true := decide_eq_true (by omega)
                have hjd3 : 0 < j := by omega
                have hjd : decide ((0 : Int) < (j : Int)) = true := decide_eq_true (by omega)
                have hwi : IntKind.i64.wrap ((j : Int) - 1) = (i : Int) := by rw [IntWalk.i64_in _ (by omega)]; omega
                have hik : i < k := by omega
                have hiki : (i : Int) < (k : Int) := by omega
                obtain ⟨bX, oX, x, he, _, hxq, hcx⟩ := (hAr.out wr hG).at_ hik
                obtain ⟨rfl, rfl⟩ : bA = bX ∧ oA = oX := by simpa using he
                clear he
                have q0 := hcx 0 _ rfl
                have q1 := hcx 1 _ rfl
                have q2 := hcx 2 _ rfl
                rw [Nat.add_zero] at q0
                clear hcx
                have hcm := rcmpt_any x.1 u.1 (hxH.out x (List.mem_of_getElem? hxq)).1 huw.out
                have hxqH := Lib.hid hxq
                have hjiH := Lib.hid hji
                clear hxq hji hj0
                by_cases hge : 0 ≤ cmpT x.1 u.1
                · have hT : Hid (3 = r) := Lib.hid (by
                    rw [← hrH.out]
                    refine (mErr_three hnm.out ha1.out ha2.out (.inl (Bool.eq_false_iff.2 (fun ha => ?_)))).symm
                    have := (ascT_iff _).1 ha i x.1 u.1 (by rw [List.getElem?_map, hxqH.out]; rfl) (by rw [List.getElem?_map, ← hjiH.out, hqH.out]; rfl)
                    omega)
                  generalize cmpT x.1 u.1 = zz at hcm hge
                  have hcm := Lib.hid hcm
                  go_upto_region 17 with (fail)
                  obtain ⟨wb, hwb⟩ : ∃ wb, wr.alloc (.cells #[.int .i64 u.1.1.1, .int .u32 u.1.1.2, .int .i64 u.1.2, .string (bs u.2.1), .int .i64 u.2.2.1, .int .u32 u.2.2.2.1, .int .i64 u.2.2.2.2] 94) = wb := ⟨_, rfl⟩
                  have hbb : wb.heap[wr.heap.size]? = some (.cells #[.int .i64 u.1.1.1, .int .u32 u.1.1.2, .int .i64 u.1.2, .string (bs u.2.1), .int .i64 u.2.2.1, .int .u32 u.2.2.2.1, .int .i64 u.2.2.2.2] 94 (0, 0)) := by rw [← hwb]; exact heap_at _ _ rfl
                  have hvb : Below wr.heap.size wr wb := by rw [← hwb]; exact (Below.refl _ wr).alloc (Nat.le_refl _) _
                  rw [hwb]
                  clear hwb p0 p1 p2 p3 p4 p5 p6 s0 s1 hltx
                  have hbw := hbr.trans (hvb.mono hbr.size)
                  have hGw := hb0.trans (hbw.mono hzW)
                  have hlb := blk_lt hbb
                  have b0 := blk_cell hbb 0
                  have b1 := blk_cell hbb 1
                  have b2 := blk_cell hbb 2
                  have b3 := blk_cell hbb 3
                  have b4 := blk_cell hbb 4
                  have b5 := blk_cell hbb 5
                  have b6 := blk_cell hbb 6
                  simp at b0 b1 b2 b3 b4 b5 b6
                  have hsb := blk_below hbxH.out hbw
                  have hltx := blk_lt hsb
                  have s0 := blk_cell hsb 0
                  have s1 := blk_cell hsb 1
                  simp at s0 s1
                  clear hbb hsb
                  refine wp_region_M (fun w' => KQ wb.heap.size wb w') (fun _ => True) 99 (by kernel_rfl) (kq (Below.refl _ _).drew) trivial ?_
                  intro hcl
                  have hC : KQ wb.heap.size wb wb.drew := kq (Below.refl _ _).drew
                  have hE := trivial
                  (refine wpM_take (i := 0) (v := ?_) rfl (by kernel_rfl) (by kernel_rfl) (by kernel_rfl) (by decide) (fun _ _ _ h => h) hcl hC (fun _ => hE) (Or.inl ⟨by rfl, ?_⟩) ?_; rotate_left; (· (intro w hSw; (try dsimp only at hSw); go_simp; (try with_reducible rfl))); clear hcl; intro hcl; (try simp only [Act.put, List.getElem_toArray, List.getElem_cons_zero, List.setIfInBounds_toArray, List.set_cons_zero, List.set_cons_succ]))
                  refine wpM_only (i := 1) rfl (by kernel_rfl) hcl (fun K hK => ?_)
                  go_simp
                  refine (heu.out _).mono ?_
                  rintro e v1 ⟨rfl, hv1⟩
                  have hC' := kq_call hC (Nat.le_refl _) hv1
                  refine hK.out _ _ hC' trivial ?_
                  clear hK K
                  clear hcl
                  intro hcl
                  (try simp only [Act.put, List.getElem_toArray, List.getElem_cons_zero, List.getElem_cons_succ, List.setIfInBounds_toArray, List.set_cons_zero, List.set_cons_succ])
                  clear hC
                  have hC := hC'
                  clear hC'
                  (refine wpM_take (i := 2) (v := ?_) rfl (by kernel_rfl) (by kernel_rfl) (by kernel_rfl) (by decide) (fun _ _ _ h => h) hcl hC (fun _ => hE) (Or.inl ⟨by rfl, ?_⟩) ?_; rotate_left; (· (intro w hSw; (try dsimp only at hSw); go_simp; (try with_reducible rfl))); clear hcl; intro hcl; (try simp only [Act.put, List.getElem_toArray, List.getElem_cons_zero, List.getElem_cons_succ, List.setIfInBounds_toArray, List.set_cons_zero, List.set_cons_succ]))
                  (refine wpM_take (i := 3) (v := ?_) rfl (by kernel_rfl) (by kernel_rfl) (by kernel_rfl) (by decide) (fun _ _ _ h => h) hcl hC (fun _ => hE) (Or.inl ⟨by rfl, ?_⟩) ?_; rotate_left; (· (intro w hSw; (try dsimp only at hSw); go_simp; (try with_reducible rfl))); clear hcl; intro hcl; (try simp only [Act.put, List.getElem_toArray, List.getElem_cons_zero, List.getElem_cons_succ, List.setIfInBounds_toArray, List.set_cons_zero, List.set_cons_succ]))
                  replace q0 := (hvb.cell (p := ⟨bA, _, none⟩) hbA2).trans q0
                  replace q1 := (hvb.cell (p := ⟨bA, _, none⟩) hbA2).trans q1
                  replace q2 := (hvb.cell (p := ⟨bA, _, none⟩) hbA2).trans q2
                  have hltA : bA < wb.heap.size := Nat.lt_of_lt_of_le hbA2 hvb.size
                  (refine wpM_take (i := 4) (v := ?_) rfl (by kernel_rfl) (by kernel_rfl) (by kernel_rfl) (by decide) (fun _ _ _ h => h) hcl hC (fun _ => hE) (Or.inl ⟨by rfl, ?_⟩) ?_; rotate_left; (· (intro w hSw; (try dsimp only at hSw); go_simp; (try with_reducible rfl))); clear hcl; intro hcl; (try simp only [Act.put, List.getElem_toArray, List.getElem_cons_zero, List.getElem_cons_succ, List.setIfInBounds_toArray, List.set_cons_zero, List.set_cons_succ]))
                  (refine wpM_take (i := 5) (v := ?_) rfl (by kernel_rfl) (by kernel_rfl) (by kernel_rfl) (by decide) (fun _ _ _ h => h) hcl hC (fun _ => hE) (Or.inl ⟨by rfl, ?_⟩) ?_; rotate_left; (· (intro w hSw; (try dsimp only at hSw); go_simp; (try with_reducible rfl))); clear hcl; intro hcl; (try simp only [Act.put, List.getElem_toArray, List.getElem_cons_zero, List.getElem_cons_succ, List.setIfInBounds_toArray, List.set_cons_zero, List.set_cons_succ]))
                  (refine wpM_take (i := 6) (v := ?_) rfl (by kernel_rfl) (by kernel_rfl) (by kernel_rfl) (by decide) (fun _ _ _ h => h) hcl hC (fun _ => hE) (Or.inl ⟨by rfl, ?_⟩) ?_; rotate_left; (· (intro w hSw; (try dsimp only at hSw); go_simp; (try with_reducible rfl))); clear hcl; intro hcl; (try simp only [Act.put, List.getElem_toArray, List.getElem_cons_zero, List.getElem_cons_succ, List.setIfInBounds_toArray, List.set_cons_zero, List.set_cons_succ]))
                  (refine wpM_take (i := 7) (v := ?_) rfl (by kernel_rfl) (by kernel_rfl) (by kernel_rfl) (by decide) (fun _ _ _ h => h) hcl hC (fun _ => hE) (Or.inl ⟨by rfl, ?_⟩) ?_; rotate_left; (· (intro w hSw; (try dsimp only at hSw); go_simp; (try with_reducible rfl))); clear hcl; intro hcl; (try simp only [Act.put, List.getElem_toArray, List.getElem_cons_zero, List.getElem_cons_succ, List.setIfInBounds_toArray, List.set_cons_zero, List.set_cons_succ]))
                  refine wpM_only (i := 8) rfl (by kernel_rfl) hcl (fun K hK => ?_)
                  go_simp
                  refine (hhu.out _ (hGw.trans (hC.1.mono hGw.size))).mono ?_
                  rintro e v2 ⟨rfl, hv2⟩
                  have hC' := kq_call hC (Nat.le_refl _) hv2
                  refine hK.out _ _ hC' trivial ?_
                  clear hK K
                  clear hcl
                  intro hcl
                  (try simp only [Act.put, List.getElem_toArray, List.getElem_cons_zero, List.getElem_cons_succ, List.setIfInBounds_toArray, List.set_cons_zero, List.set_cons_succ])
                  clear hC
                  have hC := hC'
                  clear hC'
                  (refine wpM_take (i := 9) (v := ?_) rfl (by kernel_rfl) (by kernel_rfl) (by kernel_rfl) (by decide) (fun _ _ _ h => h) hcl hC (fun _ => hE) (Or.inl ⟨by rfl, ?_⟩) ?_; rotate_left; (· (intro w hSw; (try dsimp only at hSw); go_simp; (try with_reducible rfl))); clear hcl; intro hcl; (try simp only [Act.put, List.getElem_toArray, List.getElem_cons_zero, List.getElem_cons_succ, List.setIfInBounds_toArray, List.set_cons_zero, List.set_cons_succ]))
                  (refine wpM_take (i := 10) (v := ?_) rfl (by kernel_rfl) (by kernel_rfl) (by kernel_rfl) (by decide) (fun _ _ _ h => h) hcl hC (fun _ => hE) (Or.inl ⟨by rfl, ?_⟩) ?_; rotate_left; (· (intro w hSw; (try dsimp only at hSw); go_simp; (try with_reducible rfl))); clear hcl; intro hcl; (try simp only [Act.put, List.getElem_toArray, List.getElem_cons_zero, List.getElem_cons_succ, List.setIfInBounds_toArray, List.set_cons_zero, List.set_cons_succ]))
                  (refine wpM_take (i := 11) (v := ?_) rfl (by kernel_rfl) (by kernel_rfl) (by kernel_rfl) (by decide) (fun _ _ _ h => h) hcl hC (fun _ => hE) (Or.inl ⟨by rfl, ?_⟩) ?_; rotate_left; (· (intro w hSw; (try dsimp only at hSw); go_simp; (try with_reducible rfl))); clear hcl; intro hcl; (try simp only [Act.put, List.getElem_toArray, List.getElem_cons_zero, List.getElem_cons_succ, List.setIfInBounds_toArray, List.set_cons_zero, List.set_cons_succ]))
                  (refine wpM_take (i := 12) (v := ?_) rfl (by kernel_rfl) (by kernel_rfl) (by kernel_rfl) (by decide) (fun _ _ _ h => h) hcl hC (fun _ => hE) (Or.inl ⟨by rfl, ?_⟩) ?_; rotate_left; (· (intro w hSw; (try dsimp only at hSw); go_simp; (try with_reducible rfl))); clear hcl; intro hcl; (try simp only [Act.put, List.getElem_toArray, List.getElem_cons_zero, List.getElem_cons_succ, List.setIfInBounds_toArray, List.set_cons_zero, List.set_cons_succ]))
                  (refine wpM_take (i := 13) (v := ?_) rfl (by kernel_rfl) (by kernel_rfl) (by kernel_rfl) (by decide) (fun _ _ _ h => h) hcl hC (fun _ => hE) (Or.inl ⟨by rfl, ?_⟩) ?_; rotate_left; (· (intro w hSw; (try dsimp only at hSw); go_simp; (try with_reducible rfl))); clear hcl; intro hcl; (try simp only [Act.put, List.getElem_toArray, List.getElem_cons_zero, List.getElem_cons_succ, List.setIfInBounds_toArray, List.set_cons_zero, List.set_cons_succ]))
                  (refine wpM_take (i := 14) (v := ?_) rfl (by kernel_rfl) (by kernel_rfl) (by kernel_rfl) (by decide) (fun _ _ _ h => h) hcl hC (fun _ => hE) (Or.inl ⟨by rfl, ?_⟩) ?_; rotate_left; (· (intro w hSw; (try dsimp only at hSw); go_simp; (try with_reducible rfl))); clear hcl; intro hcl; (try simp only [Act.put, List.getElem_toArray, List.getElem_cons_zero, List.getElem_cons_succ, List.setIfInBounds_toArray, List.set_cons_zero, List.set_cons_succ]))
                  (refine wpM_take (i := 15) (v := ?_) rfl (by kernel_rfl) (by kernel_rfl) (by kernel_rfl) (by decide) (fun _ _ _ h => h) hcl hC (fun _ => hE) (Or.inl ⟨by rfl, ?_⟩) ?_; rotate_left; (· (intro w hSw; (try dsimp only at hSw); go_simp; (try with_reducible rfl))); clear hcl; intro hcl; (try simp only [Act.put, List.getElem_toArray, List.getElem_cons_zero, List.getElem_cons_succ, List.setIfInBounds_toArray, List.set_cons_zero, List.set_cons_succ]))
                  (refine wpM_take (i := 16) (v := ?_) rfl (by kernel_rfl) (by kernel_rfl) (by kernel_rfl) (by decide) (fun _ _ _ h => h) hcl hC (fun _ => hE) (Or.inl ⟨by rfl, ?_⟩) ?_; rotate_left; (· (intro w hSw; (try dsimp only at hSw); go_simp; (try with_reducible rfl))); clear hcl; intro hcl; (try simp only [Act.put, List.getElem_toArray, List.getElem_cons_zero, List.getElem_cons_succ, List.setIfInBounds_toArray, List.set_cons_zero, List.set_cons_succ]))
                  (refine wpM_take (i := 17) (v := ?_) rfl (by kernel_rfl) (by kernel_rfl) (by kernel_rfl) (by decide) (fun _ _ _ h => h) hcl hC (fun _ => hE) (Or.inl ⟨by rfl, ?_⟩) ?_; rotate_left; (· (intro w hSw; (try dsimp only at hSw); go_simp; (try with_reducible rfl))); clear hcl; intro hcl; (try simp only [Act.put, List.getElem_toArray, List.getElem_cons_zero, List.getElem_cons_succ, List.setIfInBounds_toArray, List.set_cons_zero, List.set_cons_succ]))
                  (refine wpM_take (i := 18) (v := ?_) rfl (by kernel_rfl) (by kernel_rfl) (by kernel_rfl) (by decide) (fun _ _ _ h => h) hcl hC (fun _ => hE) (Or.inl ⟨by rfl, ?_⟩) ?_; rotate_left; (· (intro w hSw; (try dsimp only at hSw); go_simp; (try with_reducible rfl))); clear hcl; intro hcl; (try simp only [Act.put, List.getElem_toArray, List.getElem_cons_zero, List.getElem_cons_succ, List.setIfInBounds_toArray, List.set_cons_zero, List.set_cons_succ]))
                  (refine wpM_take (i := 19) (v := ?_) rfl (by kernel_rfl) (by kernel_rfl) (by kernel_rfl) (by decide) (fun _ _ _ h => h) hcl hC (fun _ => hE) (Or.inl ⟨by rfl, ?_⟩) ?_; rotate_left; (· (intro w hSw; (try dsimp only at hSw); go_simp; (try with_reducible rfl))); clear hcl; intro hcl; (try simp only [Act.put, List.getElem_toArray, List.getElem_cons_zero, List.getElem_cons_succ, List.setIfInBounds_toArray, List.set_cons_zero, List.set_cons_succ]))
                  (refine wpM_take (i := 20) (v := ?_) rfl (by kernel_rfl) (by kernel_rfl) (by kernel_rfl) (by decide) (fun _ _ _ h => h) hcl hC (fun _ => hE) (Or.inl ⟨by rfl, ?_⟩) ?_; rotate_left; (· (intro w hSw; (try dsimp only at hSw); go_simp; (try with_reducible rfl))); clear hcl; intro hcl; (try simp only [Act.put, List.getElem_toArray, List.getElem_cons_zero, List.getElem_cons_succ, List.setIfInBounds_toArray, List.set_cons_zero, List.set_cons_succ]))
                  (refine wpM_take (i := 21) (v := ?_) rfl (by kernel_rfl) (by kernel_rfl) (by kernel_rfl) (by decide) (fun _ _ _ h => h) hcl hC (fun _ => hE) (Or.inl ⟨by rfl, ?_⟩) ?_; rotate_left; (· (intro w hSw; (try dsimp only at hSw); go_simp; (try with_reducible rfl))); clear hcl; intro hcl; (try simp only [Act.put, List.getElem_toArray, List.getElem_cons_zero, List.getElem_cons_succ, List.setIfInBounds_toArray, List.set_cons_zero, List.set_cons_succ]))
                  (refine wpM_take (i := 22) (v := ?_) rfl (by kernel_rfl) (by kernel_rfl) (by kernel_rfl) (by decide) (fun _ _ _ h => h) hcl hC (fun _ => hE) (Or.inl ⟨by rfl, ?_⟩) ?_; rotate_left; (· (intro w hSw; (try dsimp only at hSw); go_simp; (try with_reducible rfl))); clear hcl; intro hcl; (try simp only [Act.put, List.getElem_toArray, List.getElem_cons_zero, List.getElem_cons_succ, List.setIfInBounds_toArray, List.set_cons_zero, List.set_cons_succ]))
                  refine wpM_only (i := 23) rfl (by kernel_rfl) hcl (fun K hK => ?_)
                  go_simp
                  refine (hcm.out _).mono ?_
                  rintro e v3 ⟨rfl, hv3⟩
                  have hC' := kq_call hC (Nat.le_refl _) hv3
                  refine hK.out _ _ hC' trivial ?_
                  clear hK K
                  clear hcl
                  intro hcl
                  (try simp only [Act.put, List.getElem_toArray, List.getElem_cons_zero, List.getElem_cons_succ, List.setIfInBounds_toArray, List.set_cons_zero, List.set_cons_succ])
                  clear hC
                  have hC := hC'
                  clear hC'
                  (refine wpM_take (i := 24) (v := ?_) rfl (by kernel_rfl) (by kernel_rfl) (by kernel_rfl) (by decide) (fun _ _ _ h => h) hcl hC (fun _ => hE) (Or.inl ⟨by rfl, ?_⟩) ?_; rotate_left; (· (intro w hSw; (try dsimp only at hSw); go_simp; (try with_reducible rfl))); clear hcl; intro hcl; (try simp only [Act.put, List.getElem_toArray, List.getElem_cons_zero, List.getElem_cons_succ, List.setIfInBounds_toArray, List.set_cons_zero, List.set_cons_succ]))
                  (refine wpM_take (i := 25) (v := ?_) rfl (by kernel_rfl) (by kernel_rfl) (by kernel_rfl) (by decide) (fun _ _ _ h => h) hcl hC (fun _ => hE) (Or.inl ⟨by rfl, ?_⟩) ?_; rotate_left; (· (intro w hSw; (try dsimp only at hSw); go_simp; (try with_reducible rfl))); clear hcl; intro hcl; (try simp only [Act.put, List.getElem_toArray, List.getElem_cons_zero, List.getElem_cons_succ, List.setIfInBounds_toArray, List.set_cons_zero, List.set_cons_succ]))
                  (refine wpM_take (i := 26) (v := ?_) rfl (by kernel_rfl) (by kernel_rfl) (by kernel_rfl) (by decide) (fun _ _ _ h => h) hcl hC (fun _ => hE) (Or.inl ⟨by rfl, ?_⟩) ?_; rotate_left; (· (intro w hSw; (try dsimp only at hSw); go_simp; (try with_reducible rfl))); clear hcl; intro hcl; (try simp only [Act.put, List.getElem_toArray, List.getElem_cons_zero, List.getElem_cons_succ, List.setIfInBounds_toArray, List.set_cons_zero, List.set_cons_succ]))
                  refine wpM_done (by kernel_rfl) ?_
                  clear hcl
                  try simp only [List.getElem_toArray, List.getElem_cons_zero, List.getElem_cons_succ, List.setIfInBounds_toArray, List.set_cons_zero, List.set_cons_succ]
                  have hGr := hbw.trans (hC.1.mono hbw.size)
                  have hGG := hb0.trans (hGr.mono hzW)
                  clear hC b0 b1 b2 b3 b4 b5 b6 s0 s1 hltx
                  go_wp2
                  go_ret
                  exact ⟨ret_int hT.out, hGG⟩
                · have hA0 : Hid (∀ i (x y : Pm), i + 1 < j + 1 → xs[i]? = some x → xs[i + 1]? = some y → cmpT x.1 y.1 < 0) := Lib.hid (by
                    intro i' x' y' h1 h2 h3
                    rcases Nat.lt_or_ge (i' + 1) j with h4 | h4
                    · exact hascH.out i' x' y' h4 h2 h3
                    · have e1 : i' = i := by have := hjiH.out; omega
                      subst e1
                      rw [hxqH.out] at h2
                      rw [← hjiH.out, hqH.out] at h3
                      cases h2; cases h3
                      omega)
                  have hdz : decide (0 ≤ cmpT x.1 u.1) = false := decide_eq_false hge
                  generalize cmpT x.1 u.1 = zz at hcm hdz
                  have hcm := Lib.hid hcm
                  clear hge
                  go_upto_region 17 with (fail)
                  obtain ⟨wb, hwb⟩ : ∃ wb, wr.alloc (.cells #[.int .i64 u.1.1.1, .int .u32 u.1.1.2, .int .i64 u.1.2, .string (bs u.2.1), .int .i64 u.2.2.1, .int .u32 u.2.2.2.1, .int .i64 u.2.2.2.2] 94) = wb := ⟨_, rfl⟩
                  have hbb : wb.heap[wr.heap.size]? = some (.cells #[.int .i64 u.1.1.1, .int .u32 u.1.1.2, .int .i64 u.1.2, .string (bs u.2.1), .int .i64 u.2.2.1, .int .u32 u.2.2.2.1, .int .i64 u.2.2.2.2] 94 (0, 0)) := by rw [← hwb]; exact heap_at _ _ rfl
                  have hvb : Below wr.heap.size wr wb := by rw [← hwb]; exact (Below.refl _ wr).alloc (Nat.le_refl _) _
                  rw [hwb]
                  clear hwb p0 p1 p2 p3 p4 p5 p6 s0 s1 hltx
                  have hbw := hbr.trans (hvb.mono hbr.size)
                  have hGw := hb0.trans (hbw.mono hzW)
                  have hlb := blk_lt hbb
                  have b0 := blk_cell hbb 0
                  have b1 := blk_cell hbb 1
                  have b2 := blk_cell hbb 2
                  have b3 := blk_cell hbb 3
                  have b4 := blk_cell hbb 4
                  have b5 := blk_cell hbb 5
                  have b6 := blk_cell hbb 6
                  simp at b0 b1 b2 b3 b4 b5 b6
                  have hsb := blk_below hbxH.out hbw
                  have hltx := blk_lt hsb
                  have s0 := blk_cell hsb 0
                  have s1 := blk_cell hsb 1
                  simp at s0 s1
                  clear hbb hsb
                  refine wp_region_M (fun w' => KQ wb.heap.size wb w') (fun _ => True) 99 (by kernel_rfl) (kq (Below.refl _ _).drew) trivial ?_
                  intro hcl
                  have hC : KQ wb.heap.size wb wb.drew := kq (Below.refl _ _).drew
                  have hE := trivial
                  (refine wpM_take (i := 0) (v := ?_) rfl (by kernel_rfl) (by kernel_rfl) (by kernel_rfl) (by decide) (fun _ _ _ h => h) hcl hC (fun _ => hE) (Or.inl ⟨by rfl, ?_⟩) ?_; rotate_left; (· (intro w hSw; (try dsimp only at hSw); go_simp; (try with_reducible rfl))); clear hcl; intro hcl; (try simp only [Act.put, List.getElem_toArray, List.getElem_cons_zero, List.setIfInBounds_toArray, List.set_cons_zero, List.set_cons_succ]))
                  refine wpM_only (i := 1) rfl (by kernel_rfl) hcl (fun K hK => ?_)
                  go_simp
                  refine (heu.out _).mono ?_
                  rintro e v1 ⟨rfl, hv1⟩
                  have hC' := kq_call hC (Nat.le_refl _) hv1
                  refine hK.out _ _ hC' trivial ?_
                  clear hK K
                  clear hcl
                  intro hcl
                  (try simp only [Act.put, List.getElem_toArray, List.getElem_cons_zero, List.getElem_cons_succ, List.setIfInBounds_toArray, List.set_cons_zero, List.set_cons_succ])
                  clear hC
                  have hC := hC'
                  clear hC'
                  (refine wpM_take (i := 2) (v := ?_) rfl (by kernel_rfl) (by kernel_rfl) (by kernel_rfl) (by decide) (fun _ _ _ h => h) hcl hC (fun _ => hE) (Or.inl ⟨by rfl, ?_⟩) ?_; rotate_left; (· (intro w hSw; (try dsimp only at hSw); go_simp; (try with_reducible rfl))); clear hcl; intro hcl; (try simp only [Act.put, List.getElem_toArray, List.getElem_cons_zero, List.getElem_cons_succ, List.setIfInBounds_toArray, List.set_cons_zero, List.set_cons_succ]))
                  (refine wpM_take (i := 3) (v := ?_) rfl (by kernel_rfl) (by kernel_rfl) (by kernel_rfl) (by decide) (fun _ _ _ h => h) hcl hC (fun _ => hE) (Or.inl ⟨by rfl, ?_⟩) ?_; rotate_left; (· (intro w hSw; (try dsimp only at hSw); go_simp; (try with_reducible rfl))); clear hcl; intro hcl; (try simp only [Act.put, List.getElem_toArray, List.getElem_cons_zero, List.getElem_cons_succ, List.setIfInBounds_toArray, List.set_cons_zero, List.set_cons_succ]))
                  replace q0 := (hvb.cell (p := ⟨bA, _, none⟩) hbA2).trans q0
                  replace q1 := (hvb.cell (p := ⟨bA, _, none⟩) hbA2).trans q1
                  replace q2 := (hvb.cell (p := ⟨bA, _, none⟩) hbA2).trans q2
                  have hltA : bA < wb.heap.size := Nat.lt_of_lt_of_le hbA2 hvb.size
                  (refine wpM_take (i := 4) (v := ?_) rfl (by kernel_rfl) (by kernel_rfl) (by kernel_rfl) (by decide) (fun _ _ _ h => h) hcl hC (fun _ => hE) (Or.inl ⟨by rfl, ?_⟩) ?_; rotate_left; (· (intro w hSw; (try dsimp only at hSw); go_simp; (try with_reducible rfl))); clear hcl; intro hcl; (try simp only [Act.put, List.getElem_toArray, List.getElem_cons_zero, List.getElem_cons_succ, List.setIfInBounds_toArray, List.set_cons_zero, List.set_cons_succ]))
                  (refine wpM_take (i := 5) (v := ?_) rfl (by kernel_rfl) (by kernel_rfl) (by kernel_rfl) (by decide) (fun _ _ _ h => h) hcl hC (fun _ => hE) (Or.inl ⟨by rfl, ?_⟩) ?_; rotate_left; (· (intro w hSw; (try dsimp only at hSw); go_simp; (try with_reducible rfl))); clear hcl; intro hcl; (try simp only [Act.put, List.getElem_toArray, List.getElem_cons_zero, List.getElem_cons_succ, List.setIfInBounds_toArray, List.set_cons_zero, List.set_cons_succ]))
                  (refine wpM_take (i := 6) (v := ?_) rfl (by kernel_rfl) (by kernel_rfl) (by kernel_rfl) (by decide) (fun _ _ _ h => h) hcl hC (fun _ => hE) (Or.inl ⟨by rfl, ?_⟩) ?_; rotate_left; (· (intro w hSw; (try dsimp only at hSw); go_simp; (try with_reducible rfl))); clear hcl; intro hcl; (try simp only [Act.put, List.getElem_toArray, List.getElem_cons_zero, List.getElem_cons_succ, List.setIfInBounds_toArray, List.set_cons_zero, List.set_cons_succ]))
                  (refine wpM_take (i := 7) (v := ?_) rfl (by kernel_rfl) (by kernel_rfl) (by kernel_rfl) (by decide) (fun _ _ _ h => h) hcl hC (fun _ => hE) (Or.inl ⟨by rfl, ?_⟩) ?_; rotate_left; (· (intro w hSw; (try dsimp only at hSw); go_simp; (try with_reducible rfl))); clear hcl; intro hcl; (try simp only [Act.put, List.getElem_toArray, List.getElem_cons_zero, List.getElem_cons_succ, List.setIfInBounds_toArray, List.set_cons_zero, List.set_cons_succ]))
                  refine wpM_only (i := 8) rfl (by kernel_rfl) hcl (fun K hK => ?_)
                  go_simp
                  refine (hhu.out _ (hGw.trans (hC.1.mono hGw.size))).mono ?_
                  rintro e v2 ⟨rfl, hv2⟩
                  have hC' := kq_call hC (Nat.le_refl _) hv2
                  refine hK.out _ _ hC' trivial ?_
                  clear hK K
                  clear hcl
                  intro hcl
                  (try simp only [Act.put, List.getElem_toArray, List.getElem_cons_zero, List.getElem_cons_succ, List.setIfInBounds_toArray, List.set_cons_zero, List.set_cons_succ])
                  clear hC
                  have hC := hC'
                  clear hC'
                  (refine wpM_take (i := 9) (v := ?_) rfl (by kernel_rfl) (by kernel_rfl) (by kernel_rfl) (by decide) (fun _ _ _ h => h) hcl hC (fun _ => hE) (Or.inl ⟨by rfl, ?_⟩) ?_; rotate_left; (· (intro w hSw; (try dsimp only at hSw); go_simp; (try with_reducible rfl))); clear hcl; intro hcl; (try simp only [Act.put, List.getElem_toArray, List.getElem_cons_zero, List.getElem_cons_succ, List.setIfInBounds_toArray, List.set_cons_zero, List.set_cons_succ]))
                  (refine wpM_take (i := 10) (v := ?_) rfl (by kernel_rfl) (by kernel_rfl) (by kernel_rfl) (by decide) (fun _ _ _ h => h) hcl hC (fun _ => hE) (Or.inl ⟨by rfl, ?_⟩) ?_; rotate_left; (· (intro w hSw; (try dsimp only at hSw); go_simp; (try with_reducible rfl))); clear hcl; intro hcl; (try simp only [Act.put, List.getElem_toArray, List.getElem_cons_zero, List.getElem_cons_succ, List.setIfInBounds_toArray, List.set_cons_zero, List.set_cons_succ]))
                  (refine wpM_take (i := 11) (v := ?_) rfl (by kernel_rfl) (by kernel_rfl) (by kernel_rfl) (by decide) (fun _ _ _ h => h) hcl hC (fun _ => hE) (Or.inl ⟨by rfl, ?_⟩) ?_; rotate_left; (· (intro w hSw; (try dsimp only at hSw); go_simp; (try with_reducible rfl))); clear hcl; intro hcl; (try simp only [Act.put, List.getElem_toArray, List.getElem_cons_zero, List.getElem_cons_succ, List.setIfInBounds_toArray, List.set_cons_zero, List.set_cons_succ]))
                  (refine wpM_take (i := 12) (v := ?_) rfl (by kernel_rfl) (by kernel_rfl) (by kernel_rfl) (by decide) (fun _ _ _ h => h) hcl hC (fun _ => hE) (Or.inl ⟨by rfl, ?_⟩) ?_; rotate_left; (· (intro w hSw; (try dsimp only at hSw); go_simp; (try with_reducible rfl))); clear hcl; intro hcl; (try simp only [Act.put, List.getElem_toArray, List.getElem_cons_zero, List.getElem_cons_succ, List.setIfInBounds_toArray, List.set_cons_zero, List.set_cons_succ]))
                  (refine wpM_take (i := 13) (v := ?_) rfl (by kernel_rfl) (by kernel_rfl) (by kernel_rfl) (by decide) (fun _ _ _ h => h) hcl hC (fun _ => hE) (Or.inl ⟨by rfl, ?_⟩) ?_; rotate_left; (· (intro w hSw; (try dsimp only at hSw); go_simp; (try with_reducible rfl))); clear hcl; intro hcl; (try simp only [Act.put, List.getElem_toArray, List.getElem_cons_zero, List.getElem_cons_succ, List.setIfInBounds_toArray, List.set_cons_zero, List.set_cons_succ]))
                  (refine wpM_take (i := 14) (v := ?_) rfl (by kernel_rfl) (by kernel_rfl) (by kernel_rfl) (by decide) (fun _ _ _ h => h) hcl hC (fun _ => hE) (Or.inl ⟨by rfl, ?_⟩) ?_; rotate_left; (· (intro w hSw; (try dsimp only at hSw); go_simp; (try with_reducible rfl))); clear hcl; intro hcl; (try simp only [Act.put, List.getElem_toArray, List.getElem_cons_zero, List.getElem_cons_succ, List.setIfInBounds_toArray, List.set_cons_zero, List.set_cons_succ]))
                  (refine wpM_take (i := 15) (v := ?_) rfl (by kernel_rfl) (by kernel_rfl) (by kernel_rfl) (by decide) (fun _ _ _ h => h) hcl hC (fun _ => hE) (Or.inl ⟨by rfl, ?_⟩) ?_; rotate_left; (· (intro w hSw; (try dsimp only at hSw); go_simp; (try with_reducible rfl))); clear hcl; intro hcl; (try simp only [Act.put, List.getElem_toArray, List.getElem_cons_zero, List.getElem_cons_succ, List.setIfInBounds_toArray, List.set_cons_zero, List.set_cons_succ]))
                  (refine wpM_take (i := 16) (v := ?_) rfl (by kernel_rfl) (by kernel_rfl) (by kernel_rfl) (by decide) (fun _ _ _ h => h) hcl hC (fun _ => hE) (Or.inl ⟨by rfl, ?_⟩) ?_; rotate_left; (· (intro w hSw; (try dsimp only at hSw); go_simp; (try with_reducible rfl))); clear hcl; intro hcl; (try simp only [Act.put, List.getElem_toArray, List.getElem_cons_zero, List.getElem_cons_succ, List.setIfInBounds_toArray, List.set_cons_zero, List.set_cons_succ]))
                  (refine wpM_take (i := 17) (v := ?_) rfl (by kernel_rfl) (by kernel_rfl) (by kernel_rfl) (by decide) (fun _ _ _ h => h) hcl hC (fun _ => hE) (Or.inl ⟨by rfl, ?_⟩) ?_; rotate_left; (· (intro w hSw; (try dsimp only at hSw); go_simp; (try with_reducible rfl))); clear hcl; intro hcl; (try simp only [Act.put, List.getElem_toArray, List.getElem_cons_zero, List.getElem_cons_succ, List.setIfInBounds_toArray, List.set_cons_zero, List.set_cons_succ]))
                  (refine wpM_take (i := 18) (v := ?_) rfl (by kernel_rfl) (by kernel_rfl) (by kernel_rfl) (by decide) (fun _ _ _ h => h) hcl hC (fun _ => hE) (Or.inl ⟨by rfl, ?_⟩) ?_; rotate_left; (· (intro w hSw; (try dsimp only at hSw); go_simp; (try with_reducible rfl))); clear hcl; intro hcl; (try simp only [Act.put, List.getElem_toArray, List.getElem_cons_zero, List.getElem_cons_succ, List.setIfInBounds_toArray, List.set_cons_zero, List.set_cons_succ]))
                  (refine wpM_take (i := 19) (v := ?_) rfl (by kernel_rfl) (by kernel_rfl) (by kernel_rfl) (by decide) (fun _ _ _ h => h) hcl hC (fun _ => hE) (Or.inl ⟨by rfl, ?_⟩) ?_; rotate_left; (· (intro w hSw; (try dsimp only at hSw); go_simp; (try with_reducible rfl))); clear hcl; intro hcl; (try simp only [Act.put, List.getElem_toArray, List.getElem_cons_zero, List.getElem_cons_succ, List.setIfInBounds_toArray, List.set_cons_zero, List.set_cons_succ]))
                  (refine wpM_take (i := 20) (v := ?_) rfl (by kernel_rfl) (by kernel_rfl) (by kernel_rfl) (by decide) (fun _ _ _ h => h) hcl hC (fun _ => hE) (Or.inl ⟨by rfl, ?_⟩) ?_; rotate_left; (· (intro w hSw; (try dsimp only at hSw); go_simp; (try with_reducible rfl))); clear hcl; intro hcl; (try simp only [Act.put, List.getElem_toArray, List.getElem_cons_zero, List.getElem_cons_succ, List.setIfInBounds_toArray, List.set_cons_zero, List.set_cons_succ]))
                  (refine wpM_take (i := 21) (v := ?_) rfl (by kernel_rfl) (by kernel_rfl) (by kernel_rfl) (by decide) (fun _ _ _ h => h) hcl hC (fun _ => hE) (Or.inl ⟨by rfl, ?_⟩) ?_; rotate_left; (· (intro w hSw; (try dsimp only at hSw); go_simp; (try with_reducible rfl))); clear hcl; intro hcl; (try simp only [Act.put, List.getElem_toArray, List.getElem_cons_zero, List.getElem_cons_succ, List.setIfInBounds_toArray, List.set_cons_zero, List.set_cons_succ]))
                  (refine wpM_take (i := 22) (v := ?_) rfl (by kernel_rfl) (by kernel_rfl) (by kernel_rfl) (by decide) (fun _ _ _ h => h) hcl hC (fun _ => hE) (Or.inl ⟨by rfl, ?_⟩) ?_; rotate_left; (· (intro w hSw; (try dsimp only at hSw); go_simp; (try with_reducible rfl))); clear hcl; intro hcl; (try simp only [Act.put, List.getElem_toArray, List.getElem_cons_zero, List.getElem_cons_succ, List.setIfInBounds_toArray, List.set_cons_zero, List.set_cons_succ]))
                  refine wpM_only (i := 23) rfl (by kernel_rfl) hcl (fun K hK => ?_)
                  go_simp
                  refine (hcm.out _).mono ?_
                  rintro e v3 ⟨rfl, hv3⟩
                  have hC' := kq_call hC (Nat.le_refl _) hv3
                  refine hK.out _ _ hC' trivial ?_
                  clear hK K
                  clear hcl
                  intro hcl
                  (try simp only [Act.put, List.getElem_toArray, List.getElem_cons_zero, List.getElem_cons_succ, List.setIfInBounds_toArray, List.set_cons_zero, List.set_cons_succ])
                  clear hC
                  have hC := hC'
                  clear hC'
                  (refine wpM_take (i := 24) (v := ?_) rfl (by kernel_rfl) (by kernel_rfl) (by kernel_rfl) (by decide) (fun _ _ _ h => h) hcl hC (fun _ => hE) (Or.inl ⟨by rfl, ?_⟩) ?_; rotate_left; (· (intro w hSw; (try dsimp only at hSw); go_simp; (try with_reducible rfl))); clear hcl; intro hcl; (try simp only [Act.put, List.getElem_toArray, List.getElem_cons_zero, List.getElem_cons_succ, List.setIfInBounds_toArray, List.set_cons_zero, List.set_cons_succ]))
                  (refine wpM_take (i := 25) (v := ?_) rfl (by kernel_rfl) (by kernel_rfl) (by kernel_rfl) (by decide) (fun _ _ _ h => h) hcl hC (fun _ => hE) (Or.inl ⟨by rfl, ?_⟩) ?_; rotate_left; (· (intro w hSw; (try dsimp only at hSw); go_simp; (try with_reducible rfl))); clear hcl; intro hcl; (try simp only [Act.put, List.getElem_toArray, List.getElem_cons_zero, List.getElem_cons_succ, List.setIfInBounds_toArray, List.set_cons_zero, List.set_cons_succ]))
                  (refine wpM_take (i := 26) (v := ?_) rfl (by kernel_rfl) (by kernel_rfl) (by kernel_rfl) (by decide) (fun _ _ _ h => h) hcl hC (fun _ => hE) (Or.inl ⟨by rfl, ?_⟩) ?_; rotate_left; (· (intro w hSw; (try dsimp only at hSw); go_simp; (try with_reducible rfl))); clear hcl; intro hcl; (try simp only [Act.put, List.getElem_toArray, List.getElem_cons_zero, List.getElem_cons_succ, List.setIfInBounds_toArray, List.set_cons_zero, List.set_cons_succ]))
                  refine wpM_done (by kernel_rfl) ?_
                  clear hcl
                  try simp only [List.getElem_toArray, List.getElem_cons_zero, List.getElem_cons_succ, List.setIfInBounds_toArray, List.set_cons_zero, List.set_cons_succ]
                  have hGr := hbw.trans (hC.1.mono hbw.size)
                  have hGG := hb0.trans (hGr.mono hzW)
                  clear hC b0 b1 b2 b3 b4 b5 b6 s0 s1 hltx
                  go_wp2
                  go_roundg (k + 1 - (j + 1))
                  case measure => omega
                  case rel => exact ⟨j + 1, by omega, rfl, by go_num, hN.out, hA0.out, hGr⟩
            · obtain rfl : j = k := by omega
              have hnlq : ¬ (j : Int) < (j : Int) := by omega
              have ha3 : Hid (ascT (xs.map Prod.fst) = true) := Lib.hid (by
                rw [ascT_iff]
                intro i x y h1 h2
                rw [List.getElem?_map] at h1 h2
                obtain ⟨x', hx', rfl⟩ := Option.map_eq_some_iff.1 h1
                obtain ⟨y', hy', rfl⟩ := Option.map_eq_some_iff.1 h2
                have := (List.getElem?_eq_some_iff.1 hy').1
                exact hascH.out i x' y' (by have := hnl.out; omega) hx' hy')
              have ha4 : Hid (badP xs gs = false) := Lib.hid (by
                unfold badP
                rw [List.any_eq_false]
                intro a ha
                have := all_take_all hnoH.out hnl.out a ha
                rw [this]; decide)
              have hbr0 := hbr
              clear hnoH hascH hbr hG hz cf ch ck
              go_wp2_with fail
              clear s0 s1 hltx
              go_loopg [7] (q + 1) (fun g i wr => ∃ m' j' : Nat, j' = m' + 1 ∧ m' ≤ q ∧ g = q + 1 - m' ∧ i = .int .i64 (j' : Int) ∧ (∀ i x y, i < m' → gs[i]? = some x → gs[i + 1]? = some y → cmpT x y < 0) ∧ Below W.heap.size W wr)
              case atStart => exact ⟨0, 1, rfl, Nat.zero_le _, rfl, rfl, by intro i x y h; omega, hbr0⟩
              case round =>
                clear hbr0
                obtain ⟨m', j', hjm, hm', rfl, rfl, hasc, hbr⟩ := hrel
                have hG := hb0.trans (hbr.mono hzW)
                have hz := hG.size
                have hsr := blk_below hbxH.out hbr
                have hltx := blk_lt hsr
                have s0 := blk_cell hsr 0
                have s1 := blk_cell hsr 1
                simp at s0 s1
                have hascH := Lib.hid hasc
                clear hsr hasc
                by_cases hlt : j' < q
                · have hw : IntKind.i64.wrap ((j' : Int) - 1) = (m' : Int) := by rw [IntWalk.i64_in _ (by omega)]; omega
                  have hmn : m' < q := by omega
                  have hmni : (m' : Int) < (q : Int) := by omega
                  have hlti : (j' : Int) < (q : Int) := by omega
                  obtain ⟨bA, oA, x, rfl, hbA, hp, hcp⟩ := (hBr.out wr hG).at_ hmn
                  obtain ⟨bX, oX, y, he, _, hqq, hcq⟩ := (hBr.out wr hG).at_ hlt
                  obtain ⟨rfl, rfl⟩ : bA = bX ∧ oA = oX := by simpa using he
                  clear he
                  have p0 := hcp 0 _ rfl
                  have p1 := hcp 1 _ rfl
                  have p2 := hcp 2 _ rfl
                  have q0 := hcq 0 _ rfl
                  have q1 := hcq 1 _ rfl
                  have q2 := hcq 2 _ rfl
                  rw [Nat.add_zero] at p0 q0
                  clear hcp hcq
                  have hbA2 : bA < wr.heap.size := Nat.lt_of_lt_of_le hbA hz
                  have hcm := rcmpt_any x y (hgH.out x (List.mem_of_getElem? hp)) (hgH.out y (List.mem_of_getElem? hqq))
                  have hpH := Lib.hid hp
                  have hqs : Hid (gs[m' + 1]? = some y) := Lib.hid (by rw [← hjm]; exact hqq)
                  have hjmH := Lib.hid hjm
                  clear hp hqq hjm
                  have hq0 : KQ wr.heap.size wr wr := kq (Below.refl _ _)
                  by_cases hge : 0 ≤ cmpT x y
                  · have hT : Hid (3 = r) := Lib.hid (by
                      rw [← hrH.out]
                      refine (mErr_three hnm.out ha1.out ha2.out (.inr (.inl (Bool.eq_false_iff.2 (fun ha => ?_))))).symm
                      have := (ascT_iff _).1 ha m' x y hpH.out hqs.out
                      omega)
                    generalize cmpT x y = zz at hcm hge
                    have hcm := Lib.hid hcm
                    go_wp2_with fail
                    go_region_held3 (fun w' => KQ wr.heap.size wr w') (first
      | with_reducible exact kq_call (by assumption) (by simp) (by assumption)
      | with_reducible exact kq_alloc (by with_reducible assumption) (Nat.le_refl _) _
      | with_reducible exact kq_alloc (kq_drew (by assumption)) (Nat.le_refl _) _
      | ((with_reducible refine kq ?_); (repeat (first | (with_reducible exact Below.refl _ _) | (with_reducible refine Below.drew ?_) | (with_reducible refine Below.alloc ?_ (by simp) _) | (with_reducible refine Below.setCell ?_ (by simp) _) | (with_reducible exact (by assumption : KQ _ _ _).1))); done))
                      (first | (go_at_call 83; ((with_reducible refine (hcm.out _).mono ?_); rintro e v1 ⟨rfl, hv1⟩)))
                    have hF : KQ wr.heap.size wr v1 := by with_reducible assumption
                    have hGG := hG.trans (hF.1.mono hz)
                    clear hF
                    go_wp2
                    go_ret
                    exact ⟨ret_int hT.out, hGG⟩
                  · have hT : Hid (∀ i x y, i < m' + 1 → gs[i]? = some x → gs[i + 1]? = some y → cmpT x y < 0) := Lib.hid (by
                      intro i x' y' hi h1 h2
                      rcases Nat.lt_succ_iff_lt_or_eq.1 hi with h | rfl
                      · exact hascH.out i x' y' h h1 h2
                      · rw [hpH.out] at h1
                        rw [hqs.out] at h2
                        cases h1
                        cases h2
                        omega)
                    have hdz : decide (0 ≤ cmpT x y) = false := decide_eq_false hge
                    generalize cmpT x y = zz at hcm hdz
                    have hcm := Lib.hid hcm
                    clear hge
                    go_wp2_with fail
                    go_region_held3 (fun w' => KQ wr.heap.size wr w') (first
      | with_reducible exact kq_call (by assumption) (by simp) (by assumption)
      | with_reducible exact kq_alloc (by with_reducible assumption) (Nat.le_refl _) _
      | with_reducible exact kq_alloc (kq_drew (by assumption)) (Nat.le_refl _) _
      | ((with_reducible refine kq ?_); (repeat (first | (with_reducible exact Below.refl _ _) | (with_reducible refine Below.drew ?_) | (with_reducible refine Below.alloc ?_ (by simp) _) | (with_reducible refine Below.setCell ?_ (by simp) _) | (with_reducible exact (by assumption : KQ _ _ _).1))); done))
                      (first | (go_at_call 83; ((with_reducible refine (hcm.out _).mono ?_); rintro e v1 ⟨rfl, hv1⟩)))
                    have hF : KQ wr.heap.size wr v1 := by with_reducible assumption
                    have hGr := hbr.trans (hF.1.mono hbr.size)
                    clear hF
                    go_wp2
                    go_roundg (q + 1 - (m' + 1))
                    case measure => omega
                    case rel => exact ⟨m' + 1, j' + 1, by rw [← hjmH.out], by omega, rfl, by go_num, hT.out, hGr⟩
                · have hnlz : ¬ (j' : Int) < (q : Int) := by omega
                  have hT : Hid (0 = r) := Lib.hid (by
                    rw [← hrH.out]
                    refine (mErr_nil hnm.out ha1.out ha2.out ha3.out ?_ ha4.out).symm
                    rw [ascT_iff]
                    intro i x y h1 h2
                    have := (List.getElem?_eq_some_iff.1 h2).1
                    exact hascH.out i x y (by have := hml.out; omega) h1 h2)
                  clear hjm
                  go_wp2
                  go_ret
                  exact ⟨ret_int hT.out, hG⟩
end Go.Proofs.Ytadldndmmobpdaa
