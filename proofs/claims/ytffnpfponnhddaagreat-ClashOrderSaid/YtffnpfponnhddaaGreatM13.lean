/- The statements' own To, From and Great of maps. Maps of puts: what is wrong with one, by the program. -/
import Derived.Test.YtffnpfponnhddaaGreatN11
import Derived.Test.YtffnpfponnhddaaGreatOsT
namespace Go.Proofs.YtffnpfponnhddaaGreat
open Go.RowKit

theorem infoPutR : (Tryz.prog.info? 54).map (fun i => (i.zero, i.size, i.bytes)) = some (some (.agg #[.int .i64 0, .int .u32 0, .int .i64 0, .string ⟨#[]⟩, .int .i64 0, .int .u32 0, .int .i64 0]), 7, 64) := by kernel_rfl
theorem ePutR : ElemInfo Tryz.prog 33 54 7 64 := by
  obtain ⟨i, hi, h0, h1, h2⟩ := info_parts infoPutR
  exact ⟨Tryz.underlying33, ⟨i, _, hi, h0, h1, h2, rfl⟩, by decide⟩
theorem infoPutP : (Tryz.prog.info? 127).map (fun i => (i.zero, i.size, i.bytes)) = some (some (.agg #[.int .i64 0, .int .u32 0, .int .i64 0, .string ⟨#[]⟩, .int .i64 0, .int .u32 0, .int .i64 0]), 7, 64) := by kernel_rfl
theorem ePutP : ElemInfo Tryz.prog 60 127 7 64 := by
  obtain ⟨i, hi, h0, h1, h2⟩ := info_parts infoPutP
  exact ⟨Tryz.underlying60, ⟨i, _, hi, h0, h1, h2, rfl⟩, by decide⟩
set_option maxRecDepth 100000 in
theorem put_any (p : Pm) (w : World) :
    Calls Tryz.prog 43 #[.agg #[.int .i64 p.1.1.1, .int .u32 p.1.1.2, .int .i64 p.1.2, .string (bs p.2.1), .int .i64 p.2.2.1, .int .u32 p.2.2.2.1, .int .i64 p.2.2.2.2]] w fun e w' => e = .returned (.agg #[.int .i64 p.1.1.1, .int .u32 p.1.1.2, .int .i64 p.1.2, .string (bs p.2.1), .int .i64 p.2.2.1, .int .u32 p.2.2.2.1, .int .i64 p.2.2.2.2]) ∧ Below w.heap.size w w' := by
  go_enter Tryz.func43, Tryz.ntmps43
  go_wp2
  exact bodyPost_ret (v := .agg #[.int .i64 p.1.1.1, .int .u32 p.1.1.2, .int .i64 p.1.2, .string (bs p.2.1), .int .i64 p.2.2.1, .int .u32 p.2.2.2.1, .int .i64 p.2.2.2.2]) (by simp [results, Tryz.results43, go_sem]) rfl ⟨rfl, ((Below.refl _ w).alloc (Nat.le_refl _) _).alloc (by simp) _⟩
set_option maxRecDepth 100000 in
set_option maxHeartbeats 2000000 in
theorem mto_any (A : Option Addr) (n c : Nat) (xs : List Pm) (B : Option Addr) (m d : Nat) (gs : List Tm) (w : World) (hA : RdP w w.heap.size A n xs) (hB : RdT w w.heap.size B m gs) (hn : n ≤ 100000) (hm : m ≤ 100000) :
    Calls Tryz.prog 21 #[.agg #[.slice A n c, .slice B m d]] w fun e w' => ∃ A' c' B' d', e = .returned (.agg #[.slice A' n c', .slice B' m d']) ∧ Ow w' w.heap.size 127 (6 + 1) (.slice A' n c') (xs.map Pm.enc) ∧ Ow w' w.heap.size 45 3 (.slice B' m d') (gs.map Tm.enc) ∧ Below w.heap.size w w' := by
  have hlH := Lib.hid hA.len
  have hAr := Lib.hid (fun w' (h : Below w.heap.size w w') => hA.below h)
  have hBr := Lib.hid (fun w' (h : Below w.heap.size w w') => hB.below h)
  clear hA hB
  have hb0 : Below w.heap.size w (((w.alloc (.cells #[.slice A n c, .slice B m d] 35)).alloc (.cells #[.slice none 0 0, .slice none 0 0] 62)).alloc (.cells #[.slice none 0 0, .slice none 0 0] 62)) := (((Below.refl _ w).alloc (Nat.le_refl _) _).alloc (by simp) _).alloc (by simp; omega) _
  have hs0 : (((w.alloc (.cells #[.slice A n c, .slice B m d] 35)).alloc (.cells #[.slice none 0 0, .slice none 0 0] 62)).alloc (.cells #[.slice none 0 0, .slice none 0 0] 62)).heap[w.heap.size]? = some (.cells #[.slice A n c, .slice B m d] 35 (0, 0)) := heap_old _ (by simp; omega) (heap_old _ (by simp) (heap_at _ _ rfl))
  have hr0 : (((w.alloc (.cells #[.slice A n c, .slice B m d] 35)).alloc (.cells #[.slice none 0 0, .slice none 0 0] 62)).alloc (.cells #[.slice none 0 0, .slice none 0 0] 62)).heap[w.heap.size + 1]? = some (.cells #[.slice none 0 0, .slice none 0 0] 62 (0, 0)) := heap_old _ (by simp) (heap_at _ _ (by simp))
  have ho0 : (((w.alloc (.cells #[.slice A n c, .slice B m d] 35)).alloc (.cells #[.slice none 0 0, .slice none 0 0] 62)).alloc (.cells #[.slice none 0 0, .slice none 0 0] 62)).heap[w.heap.size + 1 + 1]? = some (.cells #[.slice none 0 0, .slice none 0 0] 62 (0, 0)) := heap_at _ _ (by simp)
  go_enter Tryz.func21, Tryz.ntmps21
  go_wp2_with fail
  go_loopg [4] (n + 1) (fun g i wr => ∃ (k : Nat) (A' : Option Addr) (c' : Nat), k ≤ n ∧ g = n + 1 - k ∧ i = .int .i64 (k : Int) ∧ wr.heap[w.heap.size]? = some (.cells #[.slice A n c, .slice B m d] 35 (0, 0)) ∧ wr.heap[w.heap.size + 1]? = some (.cells #[.slice none 0 0, .slice none 0 0] 62 (0, 0)) ∧ wr.heap[w.heap.size + 1 + 1]? = some (.cells #[.slice A' k c', .slice none 0 0] 62 (0, 0)) ∧ Ow wr (w.heap.size + 1 + 1 + 1) 127 (6 + 1) (.slice A' k c') ((xs.take k).map Pm.enc) ∧ Below w.heap.size w wr)
  case atStart => exact ⟨0, none, 0, Nat.zero_le _, rfl, rfl, hs0, hr0, ho0, Ow.nil_ _ _ _ _, hb0⟩
  case round =>
    clear hs0 hr0 ho0 hb0
    obtain ⟨k, A', c', hk, rfl, rfl, hs, hr, ho, hown, hbr⟩ := hrel
    have hz := hbr.size
    have hls := blk_lt hs
    have hlr := blk_lt hr
    have hlo := blk_lt ho
    have s0 := blk_cell hs 0
    have s1 := blk_cell hs 1
    have o0 := blk_cell ho 0
    have o1 := blk_cell ho 1
    have of := blk_frozen ho
    simp at s0 s1 o0 o1
    have hsH := Lib.hid hs
    have hrH := Lib.hid hr
    have hoH := Lib.hid ho
    clear hs hr ho
    by_cases hlt : k < n
    · obtain ⟨bA, oA, u, rfl, hbA, hq, hcp⟩ := (hAr.out wr hbr).at_ hlt
      have p0 := hcp 0 _ rfl
      have p1 := hcp 1 _ rfl
      have p2 := hcp 2 _ rfl
      have p3 := hcp 3 _ rfl
      have p4 := hcp 4 _ rfl
      have p5 := hcp 5 _ rfl
      have p6 := hcp 6 _ rfl
      rw [Nat.add_zero] at p0
      clear hcp
      have hst : Hid ((xs.take (k + 1)).map Pm.enc = (xs.take k).map Pm.enc ++ [[.int .i64 u.1.1.1, .int .u32 u.1.1.2, .int .i64 u.1.2, .string (bs u.2.1), .int .i64 u.2.2.1, .int .u32 u.2.2.2.1, .int .i64 u.2.2.2.2]]) := Lib.hid (by rw [List.take_add_one, hq]; simp [Pm.enc])
      have hlk : Hid (((xs.take k).map Pm.enc).length = k) := Lib.hid (by simp; have := hlH.out; omega)
      have hlti : (k : Int) < (n : Int) := by omega
      clear hq
      have hlen1 : ∀ y ∈ ([[.int .i64 u.1.1.1, .int .u32 u.1.1.2, .int .i64 u.1.2, .string (bs u.2.1), .int .i64 u.2.2.1, .int .u32 u.2.2.2.1, .int .i64 u.2.2.2.2]] : List (List Value)), y.length = 6 + 1 := by simp
      have hone1 : ∀ y ∈ ([[.int .i64 u.1.1.1, .int .u32 u.1.1.2, .int .i64 u.1.2, .string (bs u.2.1), .int .i64 u.2.2.1, .int .u32 u.2.2.2.1, .int .i64 u.2.2.2.2]] : List (List Value)), ∀ v ∈ y, v.oneCell' = true := by simp [Value.oneCell']
      have hbA2 : bA < w.heap.size + 1 + 1 := by omega
      go_wp2_with fail
      refine wp_region_M (fun w' => KQ (w.heap.size + 1 + 1) wr w') (fun w' => w'.cell? ⟨w.heap.size + 1 + 1, 0, none⟩ = some (.slice A' k c')) 11 (by kernel_rfl) (kq (Below.refl _ _).drew) o0 ?_
      intro hcl
      have hC : KQ (w.heap.size + 1 + 1) wr wr.drew := kq (Below.refl _ _).drew
      have hE : wr.drew.cell? ⟨w.heap.size + 1 + 1, 0, none⟩ = some (.slice A' k c') := o0
      (refine wpM_take (i := 0) (v := ?_) rfl (by kernel_rfl) (by kernel_rfl) (by kernel_rfl) (by decide) (fun _ _ _ h => h) hcl hC (fun _ => hE) (Or.inl ⟨by rfl, ?_⟩) ?_; rotate_left; (· (intro w hSw; (try dsimp only at hSw); go_simp; (try with_reducible rfl))); clear hcl; intro hcl; (try simp only [Act.put, List.getElem_toArray, List.getElem_cons_zero, List.setIfInBounds_toArray, List.set_cons_zero, List.set_cons_succ]))
      (refine wpM_take0c (i := 1) (j := 9) (v := ?_) rfl rfl rfl (by kernel_rfl) (by kernel_rfl) (by kernel_rfl) (by kernel_rfl) (by kernel_rfl) (by decide) (fun _ _ _ h => h) hcl hC (fun _ => hE) (Or.inl ⟨by rfl, ?_⟩) ?_; rotate_left; (· (intro w hSw; (try dsimp only at hSw); go_simp; (try with_reducible rfl))); clear hcl; intro hcl; (try simp only [Act.put, List.getElem_toArray, List.getElem_cons_zero, List.getElem_cons_succ, List.setIfInBounds_toArray, List.set_cons_zero, List.set_cons_succ]))
      (refine wpM_take (i := 2) (v := ?_) rfl (by kernel_rfl) (by kernel_rfl) (by kernel_rfl) (by decide) (fun _ _ _ h => h) hcl hC (fun _ => hE) (Or.inl ⟨by rfl, ?_⟩) ?_; rotate_left; (· (intro w hSw; (try dsimp only at hSw); go_simp; (try with_reducible rfl))); clear hcl; intro hcl; (try simp only [Act.put, List.getElem_toArray, List.getElem_cons_zero, List.getElem_cons_succ, List.setIfInBounds_toArray, List.set_cons_zero, List.set_cons_succ]))
      (refine wpM_take (i := 3) (v := ?_) rfl (by kernel_rfl) (by kernel_rfl) (by kernel_rfl) (by decide) (fun _ _ _ h => h) hcl hC (fun _ => hE) (Or.inl ⟨by rfl, ?_⟩) ?_; rotate_left; (· (intro w hSw; (try dsimp only at hSw); go_simp; (try with_reducible rfl))); clear hcl; intro hcl; (try simp only [Act.put, List.getElem_toArray, List.getElem_cons_zero, List.getElem_cons_succ, List.setIfInBounds_toArray, List.set_cons_zero, List.set_cons_succ]))
      (refine wpM_take (i := 4) (v := ?_) rfl (by kernel_rfl) (by kernel_rfl) (by kernel_rfl) (by decide) (fun _ _ _ h => h) hcl hC (fun _ => hE) (Or.inl ⟨by rfl, ?_⟩) ?_; rotate_left; (· (intro w hSw; (try dsimp only at hSw); go_simp; (try with_reducible rfl))); clear hcl; intro hcl; (try simp only [Act.put, List.getElem_toArray, List.getElem_cons_zero, List.getElem_cons_succ, List.setIfInBounds_toArray, List.set_cons_zero, List.set_cons_succ]))
      (refine wpM_take (i := 5) (v := ?_) rfl (by kernel_rfl) (by kernel_rfl) (by kernel_rfl) (by decide) (fun _ _ _ h => h) hcl hC (fun _ => hE) (Or.inl ⟨by rfl, ?_⟩) ?_; rotate_left; (· (intro w hSw; (try dsimp only at hSw); go_simp; (try with_reducible rfl))); clear hcl; intro hcl; (try simp only [Act.put, List.getElem_toArray, List.getElem_cons_zero, List.getElem_cons_succ, List.setIfInBounds_toArray, List.set_cons_zero, List.set_cons_succ]))
      (refine wpM_take (i := 6) (v := ?_) rfl (by kernel_rfl) (by kernel_rfl) (by kernel_rfl) (by decide) (fun _ _ _ h => h) hcl hC (fun _ => hE) (Or.inl ⟨by rfl, ?_⟩) ?_; rotate_left; (· (intro w hSw; (try dsimp only at hSw); go_simp; (try with_reducible rfl))); clear hcl; intro hcl; (try simp only [Act.put, List.getElem_toArray, List.getElem_cons_zero, List.getElem_cons_succ, List.setIfInBounds_toArray, List.set_cons_zero, List.set_cons_succ]))
      refine wpM_only (i := 7) rfl (by kernel_rfl) hcl (fun K hK => ?_)
      go_simp
      refine (put_any u _).mono ?_
      rintro e v1 ⟨rfl, hv1⟩
      have hW4 : v1.heap[w.heap.size + 1 + 1]? = some (.cells #[.slice A' k c', .slice none 0 0] 62 (0, 0)) := blk_below (heap_drew hoH.out) hv1
      have hs4 : v1.heap[w.heap.size]? = some (.cells #[.slice (some ⟨bA, oA, none⟩) n c, .slice B m d] 35 (0, 0)) := blk_below (heap_drew hsH.out) hv1
      have hr4 : v1.heap[w.heap.size + 1]? = some (.cells #[.slice none 0 0, .slice none 0 0] 62 (0, 0)) := blk_below (heap_drew hrH.out) hv1
      have hC4 : KQ (w.heap.size + 1 + 1) wr v1 := kq_call hC (by omega) hv1
      have hE4 : v1.cell? ⟨w.heap.size + 1 + 1, 0, none⟩ = some (.slice A' k c') := blk_cell hW4 0
      have hov : Ow v1 (w.heap.size + 1 + 1 + 1) 127 (6 + 1) (.slice A' k c') ((xs.take k).map Pm.enc) := (hown.below (Below.refl _ _).drew).below hv1
      refine hK.out _ _ hC4 hE4 ?_
      clear hK K
      clear hcl
      intro hcl
      (try simp only [Act.put, List.getElem_toArray, List.getElem_cons_zero, List.getElem_cons_succ, List.setIfInBounds_toArray, List.set_cons_zero, List.set_cons_succ])
      clear hC hE
      have hC := hC4
      have hE := hE4
      refine wpM_only (i := 8) rfl (by kernel_rfl) hcl (fun K hK => ?_)
      go_simp
      have hbO : Below v1.heap.size v1 (v1.alloc (.cells #[.int .i64 u.1.1.1, .int .u32 u.1.1.2, .int .i64 u.1.2, .string (bs u.2.1), .int .i64 u.2.2.1, .int .u32 u.2.2.2.1, .int .i64 u.2.2.2.2] 127)) := (Below.refl _ v1).alloc (Nat.le_refl _) _
      have hW5 := blk_below hW4 hbO
      have hs5 := blk_below hs4 hbO
      have hr5 := blk_below hr4 hbO
      have hC5 : KQ (w.heap.size + 1 + 1) wr (v1.alloc (.cells #[.int .i64 u.1.1.1, .int .u32 u.1.1.2, .int .i64 u.1.2, .string (bs u.2.1), .int .i64 u.2.2.1, .int .u32 u.2.2.2.1, .int .i64 u.2.2.2.2] 127)) := kq_call hC4 (by omega) hbO
      have hE5 := blk_cell hW5 0
      have hz1 := hv1.size
      refine hK.out _ _ hC5 hE5 ?_
      clear hK K
      clear hcl
      intro hcl
      (try simp only [Act.put, List.getElem_toArray, List.getElem_cons_zero, List.getElem_cons_succ, List.setIfInBounds_toArray, List.set_cons_zero, List.set_cons_succ])
      clear hC hE
      refine wpM_only (i := 9) rfl (by kernel_rfl) hcl (fun K hK => ?_)
      refine step_append_rd _ rfl _ _ _ rfl ePutP (base := w.heap.size + 1 + 1 + 1) (v := .slice A' k c') (xs := (xs.take k).map Pm.enc) rfl (hov.below hbO) rfl (Rd.one' [.int .i64 u.1.1.1, .int .u32 u.1.1.2, .int .i64 u.1.2, .string (bs u.2.1), .int .i64 u.2.2.1, .int .u32 u.2.2.2.1, .int .i64 u.2.2.2.2] rfl) hlen1 hone1 (by rw [hlk.out]; unfold maxLen; omega) (by rw [hlk.out]; omega) (by simp at *; omega) ?_
      intro A2 n2 c2 w4 hn2 hown4 hg4 hat4
      obtain rfl : n2 = k + 1 := by rw [hn2, hlk.out]
      clear hn2
      have hbk := hov.block
      have hW6 : w4.heap[w.heap.size + 1 + 1]? = some (.cells #[.slice A' k c', .slice none 0 0] 62 (0, 0)) := (hg4.block _ (blk_lt hW5) (fun e => by have := (hbk _ e.symm).1; omega)).trans hW5
      have hs6 : w4.heap[w.heap.size]? = some (.cells #[.slice (some ⟨bA, oA, none⟩) n c, .slice B m d] 35 (0, 0)) := (hg4.block _ (blk_lt hs5) (fun e => by have := (hbk _ e.symm).1; omega)).trans hs5
      have hr6 : w4.heap[w.heap.size + 1]? = some (.cells #[.slice none 0 0, .slice none 0 0] 62 (0, 0)) := (hg4.block _ (blk_lt hr5) (fun e => by have := (hbk _ e.symm).1; omega)).trans hr5
      have hC6 : KQ (w.heap.size + 1 + 1) wr w4 := kq_grown hC5 (by omega) hg4 (fun g e => by have := (hbk g e).1; omega)
      have hE6 : w4.cell? ⟨w.heap.size + 1 + 1, 0, none⟩ = some (.slice A' k c') := blk_cell hW6 0
      have hof6 := blk_frozen hW6
      have hG6 : Below w.heap.size w w4 := hbr.trans (hC6.1.mono (by omega))
      have hW6H := Lib.hid hW6
      have hs6H := Lib.hid hs6
      have hr6H := Lib.hid hr6
      clear hW6 hs6 hr6 hW5 hs5 hr5 hW4 hs4 hr4
      refine hK.out _ _ hC6 hE6 ?_
      clear hK K
      clear hcl
      intro hcl
      (try simp only [Act.put, List.getElem_toArray, List.getElem_cons_zero, List.getElem_cons_succ, List.setIfInBounds_toArray, List.set_cons_zero, List.set_cons_succ])
      have hC := hC6
      have hE := hE6
      (refine wpM_take (i := 10) (v := ?_) rfl (by kernel_rfl) (by kernel_rfl) (by kernel_rfl) (by decide) (fun _ _ _ h => h) hcl hC (fun _ => hE) (Or.inl ⟨by rfl, ?_⟩) ?_; rotate_left; (· (intro w hSw; (try dsimp only at hSw); go_simp; (try with_reducible rfl))); clear hcl; intro hcl; (try simp only [Act.put, List.getElem_toArray, List.getElem_cons_zero, List.getElem_cons_succ, List.setIfInBounds_toArray, List.set_cons_zero, List.set_cons_succ]))
      refine wpM_last (i := 11) rfl (by kernel_rfl) hcl (by kernel_rfl) (fun K hK => ?_)
      go_simp
      refine hK.out _ _ (kq_set hC6 (Nat.le_refl _) _) ?_
      clear hK K hcl
      intro hcl
      refine wpM_done (by kernel_rfl) ?_
      clear hcl
      try simp only [Act.put, List.getElem_toArray, List.getElem_cons_zero, List.getElem_cons_succ, List.setIfInBounds_toArray, List.set_cons_zero, List.set_cons_succ]
      clear hC hE hE6 hE5 hE4 o0 o1 s0 s1
      go_wp2
      go_roundg (n + 1 - (k + 1))
      case measure => omega
      case rel =>
        refine ⟨k + 1, A2, c2, by omega, rfl, by go_num, heap_set_ne (by dsimp only; omega) hs6H.out, heap_set_ne (by dsimp only; omega) hr6H.out, by rw [blk_set hW6H.out]; rfl, ?_, hG6.setCell (by dsimp only; omega) _⟩
        rw [hst.out]
        exact hown4.set_blk hW6H.out (by decide) 0 _
    · obtain rfl : k = n := by omega
      have hfin : Hid ((xs.take k).map Pm.enc = xs.map Pm.enc) := Lib.hid (by rw [List.take_of_length_le (by have := hlH.out; omega)])
      have hnli : ¬ (k : Int) < (k : Int) := by omega
      have hlg : (gs.map Tm.enc).length = m := by have := (hBr.out w (Below.refl _ _)).len; simpa using this
      have hBw := (hBr.out wr hbr)
      have hlgH := Lib.hid hlg
      clear hlg
      go_wp2_with (at_builtin; refine wpList_append_rd _ rfl _ _ _ rfl eTag (base := w.heap.size + 1 + 1 + 1) (v := .slice none 0 0) (xs := []) rfl (Ow.nil_ _ _ _ _) rfl hBw Tm.len Tm.one (by unfold maxLen; simp; omega) (by simp; omega) (by omega) ?_; intro A2 n2 c2 w4 hn2 hown4 hg4 hat4; (obtain rfl : n2 = m := (by rw [hn2]; simp)); (have hW6 : w4.heap[w.heap.size + 1 + 1]? = some (.cells #[.slice A' k c', .slice none 0 0] 62 (0, 0)) := (hg4.block _ hlo (by simp [Value.ownBlock])).trans hoH.out); (have hr6 : w4.heap[w.heap.size + 1]? = some (.cells #[.slice none 0 0, .slice none 0 0] 62 (0, 0)) := (hg4.block _ hlr (by simp [Value.ownBlock])).trans hrH.out); (have z0 := blk_cell hW6 0); (have z1 := blk_cell hW6 1); (have y0 := blk_cell hr6 0); (have y1 := blk_cell hr6 1); (simp at z0 z1 y0 y1); (have zf := blk_frozen hW6); (have yf := blk_frozen hr6); (have hlW := blk_lt hW6); (have hlR := blk_lt hr6); (have hW6H := Lib.hid hW6); (have hr6H := Lib.hid hr6); clear hn2 hW6 hr6)
      have hoA : Ow w4 (w.heap.size + 1 + 1 + 1) 127 (6 + 1) (.slice A' k c') (xs.map Pm.enc) := by rw [← hfin.out]; exact hown.other (Ow.nil_ wr (w.heap.size + 1 + 1 + 1) 45 3) (by decide) hg4
      have hoB : Ow w4 (w.heap.size + 1 + 1 + 1) 45 3 (.slice A2 n2 c2) (gs.map Tm.enc) := by simpa using hown4
      refine bodyPost_ret (v := .agg #[.slice A' k c', .slice A2 n2 c2]) (by simp [results, Tryz.results21, go_sem, y0, y1]) rfl ⟨A', c', A2, c2, rfl, ?_, ?_, ?_⟩
      · refine Ow.base (base := w.heap.size + 1 + 1 + 1) ?_ (by omega)
        repeat (with_reducible refine Ow.setCell ?_ (by simp) _)
        exact hoA
      · refine Ow.base (base := w.heap.size + 1 + 1 + 1) ?_ (by omega)
        repeat (with_reducible refine Ow.setCell ?_ (by simp) _)
        exact hoB
      · repeat (with_reducible refine Below.setCell ?_ (by first | (simp; done) | (simp; omega) | omega) _)
        exact hbr.grown hg4 hz (by simp [Value.ownBlock])
end Go.Proofs.YtffnpfponnhddaaGreat
namespace Go.Proofs.YtffnpfponnhddaaGreat
open Go.RowKit

theorem mErr_parts {xs : List Pm} {gs : List Tm} {n m : Nat} {b1 b2 b3 b4 : Bool} (hn : xs.length = n) (hm : gs.length = m) (h1 : (xs.map Prod.fst).any (fun t => !chkT t) = b1) (h2 : gs.any (fun t => !chkT t) = b2) (h3 : ascT (xs.map Prod.fst) = b3) (h4 : ascT gs = b4) :
    mErr xs gs = if 4096 < n ∨ 4096 < m then 8 else if b1 || b2 then 2 else if b3 && b4 then (if badP xs gs then 3 else 0) else 3 := by
  unfold mErr sErr
  rw [show (xs.map Prod.fst).all chkT = !(xs.map Prod.fst).any (fun t => !chkT t) by rw [List.all_eq_not_any_not], show gs.all chkT = !gs.any (fun t => !chkT t) by rw [List.all_eq_not_any_not], h1, h2, h3, h4, List.length_map, hn, hm]
  cases b1 <;> cases b2 <;> cases b3 <;> cases b4 <;> rfl

set_option maxRecDepth 100000 in
set_option maxHeartbeats 2000000 in
theorem mcheck_any (A : Option Addr) (n c : Nat) (xs : List Pm) (B : Option Addr) (m d : Nat) (gs : List Tm) (w : World) (hA : RdP w w.heap.size A n xs) (hB : RdT w w.heap.size B m gs) (hn : n ≤ maxLen) (hm : m ≤ maxLen) (hx : ∀ a ∈ xs, a.wf) (hg : ∀ t ∈ gs, t.wf) (hl : ∀ a ∈ xs, a.2.1.length ≤ maxLen) :
    Calls Tryz.prog 48 #[.agg #[.slice A n c, .slice B m d]] w fun e w' => e = .returned (.int .i64 (mErr xs gs)) ∧ Below w.heap.size w w' := by
  have hb0 : Below w.heap.size w (w.alloc (.cells #[.slice A n c, .slice B m d] 62)) := (Below.refl _ w).alloc (Nat.le_refl _) _
  have hbx : (w.alloc (.cells #[.slice A n c, .slice B m d] 62)).heap[w.heap.size]? = some (.cells #[.slice A n c, .slice B m d] 62 (0, 0)) := heap_at _ _ rfl
  generalize hW : w.alloc (.cells #[.slice A n c, .slice B m d] 62) = W at hb0 hbx
  have hbxH := Lib.hid hbx
  have hltx := blk_lt hbx
  have s0 := blk_cell hbx 0
  have s1 := blk_cell hbx 1
  simp at s0 s1
  have hnl := hA.len
  have hml := hB.len
  have hgx : ∀ t ∈ xs.map Prod.fst, t.wf := fun t ht => by obtain ⟨a, ha, rfl⟩ := List.mem_map.1 ht; exact (hx a ha).1
  have ct := Lib.hid (fun (h4 : n ≤ 100000) w' (h : Below w.heap.size w w') => mtags_any A n c xs w' ((hA.below h).more h.size) h4)
  have c1 := Lib.hid (fun T c' (h4 : n ≤ 100000) w' (h : RdT w' w'.heap.size T n (xs.map Prod.fst)) => cfT_gen 78 #[] (fun t => !chkT t) (fun _ _ => by kernel_rfl) w'.heap.size T n c' (xs.map Prod.fst) w' h hn (fun x hxm w'' _ => mnotag_any x (hgx x hxm) w'') (Nat.le_refl _))
  have c2 := Lib.hid (fun w' (h : Below w.heap.size w w') => cfT_gen 78 #[] (fun t => !chkT t) (fun _ _ => by kernel_rfl) w'.heap.size B m d gs w' ((hB.below h).more h.size) hm (fun x hxm w'' _ => mnotag_any x (hg x hxm) w'') (Nat.le_refl _))
  have c3 := Lib.hid (fun T c' w' (h : RdT w' w'.heap.size T n (xs.map Prod.fst)) => mrise_any T n c' (xs.map Prod.fst) w' h hn hgx)
  have c4 := Lib.hid (fun w' (h : Below w.heap.size w w') => mrise_any B m d gs w' ((hB.below h).more h.size) hm hg)
  have ch := Lib.hid (fun (hm4 : m ≤ 4096) (hasc : ascT gs = true) (p : Pm) w' (h : Below w.heap.size w w') => mhas_any B m d gs p.1 w' ((hB.below h).more h.size) (by omega) ((ascT_asc gs).1 hasc))
  have cr := Lib.hid (fun (p : Pm) (hp : p ∈ xs) => pright_any p (hx p hp) (hl p hp))
  have hAr := Lib.hid (fun w' (h : Below w.heap.size w w') => hA.below h)
  generalize hr : mErr xs gs = r
  obtain ⟨b1, h1⟩ : ∃ b, (xs.map Prod.fst).any (fun t => !chkT t) = b := ⟨_, rfl⟩
  obtain ⟨b2, h2⟩ : ∃ b, gs.any (fun t => !chkT t) = b := ⟨_, rfl⟩
  obtain ⟨b3, h3⟩ : ∃ b, ascT (xs.map Prod.fst) = b := ⟨_, rfl⟩
  obtain ⟨b4, h4⟩ : ∃ b, ascT gs = b := ⟨_, rfl⟩
  rw [mErr_parts hnl hml h1 h2 h3 h4] at hr
  rw [h1] at c1
  rw [h2] at c2
  rw [h3] at c3
  rw [h4] at c4 ch
  unfold maxLen at hn hm
  have hnlH := Lib.hid hnl
  clear h1 h2 h3 h4 hA hB hbx hx hg hl hnl hml hgx
  by_cases hn4 : (4096 : Int) < (n : Int)
  · rw [if_pos (by omega)] at hr
    subst hr
    go_enter Tryz.func48, Tryz.ntmps48
    go_wp2
    go_ret
    exact ⟨rfl, hb0⟩
  have hdn : decide ((4096 : Int) < (n : Int)) = false := decide_eq_false hn4
  by_cases hm4 : (4096 : Int) < (m : Int)
  · rw [if_pos (by omega)] at hr
    subst hr
    go_enter Tryz.func48, Tryz.ntmps48
    go_wp2
    go_ret
    exact ⟨rfl, hb0⟩
  have hdm : decide ((4096 : Int) < (m : Int)) = false := decide_eq_false hm4
  have hm5 : m ≤ 4096 := by omega
  have hn5 : n ≤ 100000 := by omega
  rw [if_neg (by omega)] at hr
  have hrH := Lib.hid hr
  clear hr
  go_enter Tryz.func48, Tryz.ntmps48
  go_wp2_with fail
  refine (ct.out hn5 _ hb0).mono ?_
  rintro e w0 ⟨T, c', rfl, oT, hv0⟩
  have hG0 := hb0.trans (hv0.mono hb0.size)
  have hs0 := blk_below hbxH.out hv0
  clear s0 s1
  have hltx := blk_lt hs0
  have s0 := blk_cell hs0 0
  have s1 := blk_cell hs0 1
  simp at s0 s1
  go_wp2_with fail
  refine (c1.out T c' hn5 _ oT.rd.1).mono ?_
  rintro e w1 ⟨rfl, hv1⟩
  have hG1 := hG0.trans (hv1.mono hG0.size)
  have hs1 := blk_below hs0 hv1
  have oT1 := oT.below hv1
  clear s0 s1
  have hltx := blk_lt hs1
  have s0 := blk_cell hs1 0
  have s1 := blk_cell hs1 1
  simp at s0 s1
  cases b1
  case true =>
    have hT : Hid (2 = r) := Lib.hid (by rw [← hrH.out]; rfl)
    go_wp2
    go_ret
    exact ⟨ret_int hT.out, hG1⟩
  go_wp2_with fail
  refine (c2.out _ hG1).mono ?_
  rintro e w2 ⟨rfl, hv2⟩
  have hG2 := hG1.trans (hv2.mono hG1.size)
  have hs2 := blk_below hs1 hv2
  have oT2 := oT1.below hv2
  clear s0 s1
  have hltx := blk_lt hs2
  have s0 := blk_cell hs2 0
  have s1 := blk_cell hs2 1
  simp at s0 s1
  cases b2
  case true =>
    have hT : Hid (2 = r) := Lib.hid (by rw [← hrH.out]; rfl)
    go_wp2
    go_ret
    exact ⟨ret_int hT.out, hG2⟩
  go_wp2_with fail
  refine (c3.out T c' _ oT2.rd.1).mono ?_
  rintro e w3 ⟨rfl, hv3⟩
  have hG3 := hG2.trans (hv3.mono hG2.size)
  have hs3 := blk_below hs2 hv3
  clear s0 s1
  have hltx := blk_lt hs3
  have s0 := blk_cell hs3 0
  have s1 := blk_cell hs3 1
  simp at s0 s1
  cases b3
  case false =>
    have hT : Hid (3 = r) := Lib.hid (by rw [← hrH.out]; rfl)
    go_wp2
    go_ret
    exact ⟨ret_int hT.out, hG3⟩
  go_wp2_with fail
  refine (c4.out _ hG3).mono ?_
  rintro e w4 ⟨rfl, hv4⟩
  have hG4 := hG3.trans (hv4.mono hG3.size)
  have hs4 := blk_below hs3 hv4
  clear s0 s1
  have hltx := blk_lt hs4
  have s0 := blk_cell hs4 0
  have s1 := blk_cell hs4 1
  simp at s0 s1
  cases b4
  case false =>
    have hT : Hid (3 = r) := Lib.hid (by rw [← hrH.out]; rfl)
    go_wp2
    go_ret
    exact ⟨ret_int hT.out, hG4⟩
  have hrB : Hid ((if badP xs gs then 3 else 0) = r) := Lib.hid (by rw [← hrH.out]; rfl)
  have ch' := Lib.hid (ch.out hm5 rfl)
  have hs4H := Lib.hid hs4
  clear hs0 hs1 hs2 hs3 hs4 oT oT1 oT2 c1 c2 c3 c4 ct ch hv0 hv1 hv2 hv3 hv4 hG0 hG1 hG2 hG3 hrH
  go_wp2_with fail
  clear s0 s1 hltx
  go_loopg [38] (n + 1) (fun g i wr => ∃ k : Nat, k ≤ n ∧ g = n + 1 - k ∧ i = .int .i64 (k : Int) ∧ (∀ u ∈ xs.take k, (!fitsP u || gs.contains u.1) = false) ∧ Below w4.heap.size w4 wr)
  case atStart => exact ⟨0, Nat.zero_le _, rfl, rfl, by simp, Below.refl _ _⟩
  case round =>
    obtain ⟨k, hk, rfl, rfl, hno, hbr⟩ := hrel
    have hG := hG4.trans (hbr.mono hG4.size)
    have hz := hG.size
    have hsr := blk_below hs4H.out hbr
    have hltx := blk_lt hsr
    have s0 := blk_cell hsr 0
    have s1 := blk_cell hsr 1
    simp at s0 s1
    by_cases hlt : k < n
    · obtain ⟨bA, oA, u, rfl, hbA, hq, hcp⟩ := (hAr.out wr hG).at_ hlt
      have p0 := hcp 0 _ rfl
      have p1 := hcp 1 _ rfl
      have p2 := hcp 2 _ rfl
      have p3 := hcp 3 _ rfl
      have p4 := hcp 4 _ rfl
      have p5 := hcp 5 _ rfl
      have p6 := hcp 6 _ rfl
      rw [Nat.add_zero] at p0
      clear hcp
      have hnoH := Lib.hid hno
      have hqH := Lib.hid hq
      have hbA2 : bA < wr.heap.size := Nat.lt_of_lt_of_le hbA hz
      have hlti : (k : Int) < (n : Int) := by omega
      have heu := Lib.hid (cr.out u (List.mem_of_getElem? hq))
      have hhu := Lib.hid (ch'.out u)
      have hsrH := Lib.hid hsr
      clear hno hq hsr
      obtain ⟨q, hqe⟩ : ∃ q, fitsP u = q := ⟨_, rfl⟩
      obtain ⟨z, hze⟩ : ∃ z, gs.contains u.1 = z := ⟨_, rfl⟩
      rw [hqe] at heu
      rw [hze] at hhu
      have hvb : Below wr.heap.size wr (wr.alloc (.cells #[.int .i64 u.1.1.1, .int .u32 u.1.1.2, .int .i64 u.1.2, .string (bs u.2.1), .int .i64 u.2.2.1, .int .u32 u.2.2.2.1, .int .i64 u.2.2.2.2] 127)) := (Below.refl _ wr).alloc (Nat.le_refl _) _
      have hbb : (wr.alloc (.cells #[.int .i64 u.1.1.1, .int .u32 u.1.1.2, .int .i64 u.1.2, .string (bs u.2.1), .int .i64 u.2.2.1, .int .u32 u.2.2.2.1, .int .i64 u.2.2.2.2] 127)).heap[wr.heap.size]? = some (.cells #[.int .i64 u.1.1.1, .int .u32 u.1.1.2, .int .i64 u.1.2, .string (bs u.2.1), .int .i64 u.2.2.1, .int .u32 u.2.2.2.1, .int .i64 u.2.2.2.2] 127 (0, 0)) := heap_at _ _ rfl
      go_wp2_with fail
      refine (heu.out _).mono ?_
      rintro e w5 ⟨rfl, hv5⟩
      have hGb := hbr.trans ((hvb.trans (hv5.mono hvb.size)).mono hbr.size)
      have hG5 := hG4.trans (hGb.mono hG4.size)
      have hs5 := blk_below hs4H.out hGb
      have hb5 := blk_below hbb hv5
      clear s0 s1 hltx
      have hltx := blk_lt hs5
      have s0 := blk_cell hs5 0
      have s1 := blk_cell hs5 1
      simp at s0 s1
      have hlb := blk_lt hb5
      have x0 := blk_cell hb5 0
      have x1 := blk_cell hb5 1
      have x2 := blk_cell hb5 2
      simp at x0 x1 x2
      clear hs5 hb5 hbb
      cases q
      · have hT : Hid (3 = r) := Lib.hid (by
          rw [← hrB.out, if_pos]
          exact List.any_eq_true.2 ⟨u, List.mem_of_getElem? hqH.out, by rw [hqe]; rfl⟩)
        clear hqe hze
        go_wp2
        go_ret
        exact ⟨ret_int hT.out, hG5⟩
      · go_wp2_with fail
        refine (hhu.out _ hG5).mono ?_
        rintro e w6 ⟨rfl, hv6⟩
        have hGr := hGb.trans (hv6.mono hGb.size)
        have hG6 := hG4.trans (hGr.mono hG4.size)
        cases z
        · have hT : Hid ((!fitsP u || gs.contains u.1) = false) := Lib.hid (by rw [hqe, hze]; rfl)
          clear hqe hze
          go_wp2
          go_roundg (n + 1 - (k + 1))
          case measure => omega
          case rel => exact ⟨k + 1, by omega, rfl, by go_num, all_take_succ hnoH.out hqH.out hT.out, hGr⟩
        · have hT : Hid (3 = r) := Lib.hid (by
            rw [← hrB.out, if_pos]
            exact List.any_eq_true.2 ⟨u, List.mem_of_getElem? hqH.out, by rw [hze]; simp⟩)
          clear hqe hze
          go_wp2
          go_ret
          exact ⟨ret_int hT.out, hG6⟩
    · have hT : Hid (0 = r) := Lib.hid (by
        rw [← hrB.out, if_neg]
        rw [Bool.not_eq_true]
        unfold badP
        rw [List.any_eq_false]
        intro a ha
        have := all_take_all (by rw [show k = n from by omega] at hno; exact hno) hnlH.out a ha
        rw [this]; decide)
      clear hno
      go_wp2
      go_ret
      exact ⟨ret_int hT.out, hG⟩
end Go.Proofs.YtffnpfponnhddaaGreat
