/- The statements' own To, From and Great of sets; the document's Same. -/
import Derived.Test.YtffnpfponnhddaaGreatN13
namespace Go.Proofs.YtffnpfponnhddaaGreat
open Go.RowKit

theorem infoAddR : (Tryz.prog.info? 52).map (fun i => (i.zero, i.size, i.bytes)) = some (some (.agg #[.int .i64 0, .int .u32 0, .int .i64 0, .string ⟨#[]⟩]), 4, 40) := by kernel_rfl
theorem eAddR : ElemInfo Tryz.prog 29 52 4 40 := by
  obtain ⟨i, hi, h0, h1, h2⟩ := info_parts infoAddR
  exact ⟨Tryz.underlying29, ⟨i, _, hi, h0, h1, h2, rfl⟩, by decide⟩
theorem infoAddP : (Tryz.prog.info? 123).map (fun i => (i.zero, i.size, i.bytes)) = some (some (.agg #[.int .i64 0, .int .u32 0, .int .i64 0, .string ⟨#[]⟩]), 4, 40) := by kernel_rfl
theorem eAddP : ElemInfo Tryz.prog 57 123 4 40 := by
  obtain ⟨i, hi, h0, h1, h2⟩ := info_parts infoAddP
  exact ⟨Tryz.underlying57, ⟨i, _, hi, h0, h1, h2, rfl⟩, by decide⟩
set_option maxRecDepth 100000 in
set_option maxHeartbeats 2000000 in
theorem oto_any (A : Option Addr) (n c : Nat) (xs : List Am) (B : Option Addr) (m d : Nat) (gs : List Tm) (w : World) (hA : RdA w w.heap.size A n xs) (hB : RdT w w.heap.size B m gs) (hn : n ≤ 100000) (hm : m ≤ 100000) :
    Calls Tryz.prog 20 #[.agg #[.slice A n c, .slice B m d]] w fun e w' => ∃ A' c' B' d', e = .returned (.agg #[.slice A' n c', .slice B' m d']) ∧ Ow w' w.heap.size 123 (3 + 1) (.slice A' n c') (xs.map Am.enc) ∧ Ow w' w.heap.size 45 3 (.slice B' m d') (gs.map Tm.enc) ∧ Below w.heap.size w w' := by
  have hlH := Lib.hid hA.len
  have hAr := Lib.hid (fun w' (h : Below w.heap.size w w') => hA.below h)
  have hBr := Lib.hid (fun w' (h : Below w.heap.size w w') => hB.below h)
  clear hA hB
  have hb0 : Below w.heap.size w (((w.alloc (.cells #[.slice A n c, .slice B m d] 32)).alloc (.cells #[.slice none 0 0, .slice none 0 0] 59)).alloc (.cells #[.slice none 0 0, .slice none 0 0] 59)) := (((Below.refl _ w).alloc (Nat.le_refl _) _).alloc (by simp) _).alloc (by simp; omega) _
  have hs0 : (((w.alloc (.cells #[.slice A n c, .slice B m d] 32)).alloc (.cells #[.slice none 0 0, .slice none 0 0] 59)).alloc (.cells #[.slice none 0 0, .slice none 0 0] 59)).heap[w.heap.size]? = some (.cells #[.slice A n c, .slice B m d] 32 (0, 0)) := heap_old _ (by simp; omega) (heap_old _ (by simp) (heap_at _ _ rfl))
  have hr0 : (((w.alloc (.cells #[.slice A n c, .slice B m d] 32)).alloc (.cells #[.slice none 0 0, .slice none 0 0] 59)).alloc (.cells #[.slice none 0 0, .slice none 0 0] 59)).heap[w.heap.size + 1]? = some (.cells #[.slice none 0 0, .slice none 0 0] 59 (0, 0)) := heap_old _ (by simp) (heap_at _ _ (by simp))
  have ho0 : (((w.alloc (.cells #[.slice A n c, .slice B m d] 32)).alloc (.cells #[.slice none 0 0, .slice none 0 0] 59)).alloc (.cells #[.slice none 0 0, .slice none 0 0] 59)).heap[w.heap.size + 1 + 1]? = some (.cells #[.slice none 0 0, .slice none 0 0] 59 (0, 0)) := heap_at _ _ (by simp)
  go_enter Tryz.func20, Tryz.ntmps20
  go_wp2_with fail
  go_loopg [4] (n + 1) (fun g i wr => ∃ (k : Nat) (A' : Option Addr) (c' : Nat), k ≤ n ∧ g = n + 1 - k ∧ i = .int .i64 (k : Int) ∧ wr.heap[w.heap.size]? = some (.cells #[.slice A n c, .slice B m d] 32 (0, 0)) ∧ wr.heap[w.heap.size + 1]? = some (.cells #[.slice none 0 0, .slice none 0 0] 59 (0, 0)) ∧ wr.heap[w.heap.size + 1 + 1]? = some (.cells #[.slice A' k c', .slice none 0 0] 59 (0, 0)) ∧ Ow wr (w.heap.size + 1 + 1 + 1) 123 (3 + 1) (.slice A' k c') ((xs.take k).map Am.enc) ∧ Below w.heap.size w wr)
  case atStart => exact ⟨0, none, 0, Nat.zero_le _, rfl, rfl, hs0, hr0, ho0, Ow.nil_ _ _ _ _, hb0⟩
  case round =>
    clear hs0 hr0 ho0 hb0
    obtain ⟨k, A', c', hk, rfl, rfl, hs, hr, ho, hown, hbr⟩ := hrel
    have hz := hbr.size
    have hls := blk_lt hs
    have hlr := blk_lt hr
    have hlo := blk_lt ho
    have s0 := blk_cell hs 0
    have s1 := blk_cell hs 1
    have o0 := blk_cell ho 0
    have o1 := blk_cell ho 1
    have of := blk_frozen ho
    simp at s0 s1 o0 o1
    have hsH := Lib.hid hs
    have hrH := Lib.hid hr
    have hoH := Lib.hid ho
    clear hs hr ho
    by_cases hlt : k < n
    · obtain ⟨bA, oA, u, rfl, hbA, hq, hcp⟩ := (hAr.out wr hbr).at_ hlt
      have p0 := hcp 0 _ rfl
      have p1 := hcp 1 _ rfl
      have p2 := hcp 2 _ rfl
      have p3 := hcp 3 _ rfl
      rw [Nat.add_zero] at p0
      clear hcp
      have hst : Hid ((xs.take (k + 1)).map Am.enc = (xs.take k).map Am.enc ++ [[.int .i64 u.1.1.1, .int .u32 u.1.1.2, .int .i64 u.1.2, .string (bs u.2)]]) := Lib.hid (by rw [List.take_add_one, hq]; simp [Am.enc])
      have hlk : Hid (((xs.take k).map Am.enc).length = k) := Lib.hid (by simp; have := hlH.out; omega)
      have hlti : (k : Int) < (n : Int) := by omega
      clear hq
      have hlen1 : ∀ y ∈ ([[.int .i64 u.1.1.1, .int .u32 u.1.1.2, .int .i64 u.1.2, .string (bs u.2)]] : List (List Value)), y.length = 3 + 1 := by simp
      have hone1 : ∀ y ∈ ([[.int .i64 u.1.1.1, .int .u32 u.1.1.2, .int .i64 u.1.2, .string (bs u.2)]] : List (List Value)), ∀ v ∈ y, v.oneCell' = true := by simp [Value.oneCell']
      have hbA2 : bA < w.heap.size + 1 + 1 := by omega
      go_wp2_with fail
      refine wp_region_M (fun w' => KQ (w.heap.size + 1 + 1) wr w') (fun w' => w'.cell? ⟨w.heap.size + 1 + 1, 0, none⟩ = some (.slice A' k c')) 18 (by kernel_rfl) (kq (Below.refl _ _).drew) o0 ?_
      intro hcl
      have hC : KQ (w.heap.size + 1 + 1) wr wr.drew := kq (Below.refl _ _).drew
      have hE : wr.drew.cell? ⟨w.heap.size + 1 + 1, 0, none⟩ = some (.slice A' k c') := o0
      (refine wpM_take (i := 0) (v := ?_) rfl (by kernel_rfl) (by kernel_rfl) (by kernel_rfl) (by decide) (fun _ _ _ h => h) hcl hC (fun _ => hE) (Or.inl ⟨by rfl, ?_⟩) ?_; rotate_left; (· (intro w hSw; (try dsimp only at hSw); go_simp; (try with_reducible rfl))); clear hcl; intro hcl; (try simp only [Act.put, List.getElem_toArray, List.getElem_cons_zero, List.setIfInBounds_toArray, List.set_cons_zero, List.set_cons_succ]))
      (refine wpM_take0c (i := 1) (j := 16) (v := ?_) rfl rfl rfl (by kernel_rfl) (by kernel_rfl) (by kernel_rfl) (by kernel_rfl) (by kernel_rfl) (by decide) (fun _ _ _ h => h) hcl hC (fun _ => hE) (Or.inl ⟨by rfl, ?_⟩) ?_; rotate_left; (· (intro w hSw; (try dsimp only at hSw); go_simp; (try with_reducible rfl))); clear hcl; intro hcl; (try simp only [Act.put, List.getElem_toArray, List.getElem_cons_zero, List.getElem_cons_succ, List.setIfInBounds_toArray, List.set_cons_zero, List.set_cons_succ]))
      (refine wpM_take (i := 2) (v := ?_) rfl (by kernel_rfl) (by kernel_rfl) (by kernel_rfl) (by decide) (fun _ _ _ h => h) hcl hC (fun _ => hE) (Or.inl ⟨by rfl, ?_⟩) ?_; rotate_left; (· (intro w hSw; (try dsimp only at hSw); go_simp; (try with_reducible rfl))); clear hcl; intro hcl; (try simp only [Act.put, List.getElem_toArray, List.getElem_cons_zero, List.getElem_cons_succ, List.setIfInBounds_toArray, List.set_cons_zero, List.set_cons_succ]))
      (refine wpM_take (i := 3) (v := ?_) rfl (by kernel_rfl) (by kernel_rfl) (by kernel_rfl) (by decide) (fun _ _ _ h => h) hcl hC (fun _ => hE) (Or.inl ⟨by rfl, ?_⟩) ?_; rotate_left; (· (intro w hSw; (try dsimp only at hSw); go_simp; (try with_reducible rfl))); clear hcl; intro hcl; (try simp only [Act.put, List.getElem_toArray, List.getElem_cons_zero, List.getElem_cons_succ, List.setIfInBounds_toArray, List.set_cons_zero, List.set_cons_succ]))
      (refine wpM_take (i := 4) (v := ?_) rfl (by kernel_rfl) (by kernel_rfl) (by kernel_rfl) (by decide) (fun _ _ _ h => h) hcl hC (fun _ => hE) (Or.inl ⟨by rfl, ?_⟩) ?_; rotate_left; (· (intro w hSw; (try dsimp only at hSw); go_simp; (try with_reducible rfl))); clear hcl; intro hcl; (try simp only [Act.put, List.getElem_toArray, List.getElem_cons_zero, List.getElem_cons_succ, List.setIfInBounds_toArray, List.set_cons_zero, List.set_cons_succ]))
      (refine wpM_take (i := 5) (v := ?_) rfl (by kernel_rfl) (by kernel_rfl) (by kernel_rfl) (by decide) (fun _ _ _ h => h) hcl hC (fun _ => hE) (Or.inl ⟨by rfl, ?_⟩) ?_; rotate_left; (· (intro w hSw; (try dsimp only at hSw); go_simp; (try with_reducible rfl))); clear hcl; intro hcl; (try simp only [Act.put, List.getElem_toArray, List.getElem_cons_zero, List.getElem_cons_succ, List.setIfInBounds_toArray, List.set_cons_zero, List.set_cons_succ]))
      (refine wpM_take (i := 6) (v := ?_) rfl (by kernel_rfl) (by kernel_rfl) (by kernel_rfl) (by decide) (fun _ _ _ h => h) hcl hC (fun _ => hE) (Or.inl ⟨by rfl, ?_⟩) ?_; rotate_left; (· (intro w hSw; (try dsimp only at hSw); go_simp; (try with_reducible rfl))); clear hcl; intro hcl; (try simp only [Act.put, List.getElem_toArray, List.getElem_cons_zero, List.getElem_cons_succ, List.setIfInBounds_toArray, List.set_cons_zero, List.set_cons_succ]))
      (refine wpM_take (i := 7) (v := ?_) rfl (by kernel_rfl) (by kernel_rfl) (by kernel_rfl) (by decide) (fun _ _ _ h => h) hcl hC (fun _ => hE) (Or.inl ⟨by rfl, ?_⟩) ?_; rotate_left; (· (intro w hSw; (try dsimp only at hSw); go_simp; (try with_reducible rfl))); clear hcl; intro hcl; (try simp only [Act.put, List.getElem_toArray, List.getElem_cons_zero, List.getElem_cons_succ, List.setIfInBounds_toArray, List.set_cons_zero, List.set_cons_succ]))
      (refine wpM_take (i := 8) (v := ?_) rfl (by kernel_rfl) (by kernel_rfl) (by kernel_rfl) (by decide) (fun _ _ _ h => h) hcl hC (fun _ => hE) (Or.inl ⟨by rfl, ?_⟩) ?_; rotate_left; (· (intro w hSw; (try dsimp only at hSw); go_simp; (try with_reducible rfl))); clear hcl; intro hcl; (try simp only [Act.put, List.getElem_toArray, List.getElem_cons_zero, List.getElem_cons_succ, List.setIfInBounds_toArray, List.set_cons_zero, List.set_cons_succ]))
      (refine wpM_take (i := 9) (v := ?_) rfl (by kernel_rfl) (by kernel_rfl) (by kernel_rfl) (by decide) (fun _ _ _ h => h) hcl hC (fun _ => hE) (Or.inl ⟨by rfl, ?_⟩) ?_; rotate_left; (· (intro w hSw; (try dsimp only at hSw); go_simp; (try with_reducible rfl))); clear hcl; intro hcl; (try simp only [Act.put, List.getElem_toArray, List.getElem_cons_zero, List.getElem_cons_succ, List.setIfInBounds_toArray, List.set_cons_zero, List.set_cons_succ]))
      (refine wpM_take (i := 10) (v := ?_) rfl (by kernel_rfl) (by kernel_rfl) (by kernel_rfl) (by decide) (fun _ _ _ h => h) hcl hC (fun _ => hE) (Or.inl ⟨by rfl, ?_⟩) ?_; rotate_left; (· (intro w hSw; (try dsimp only at hSw); go_simp; (try with_reducible rfl))); clear hcl; intro hcl; (try simp only [Act.put, List.getElem_toArray, List.getElem_cons_zero, List.getElem_cons_succ, List.setIfInBounds_toArray, List.set_cons_zero, List.set_cons_succ]))
      (refine wpM_take (i := 11) (v := ?_) rfl (by kernel_rfl) (by kernel_rfl) (by kernel_rfl) (by decide) (fun _ _ _ h => h) hcl hC (fun _ => hE) (Or.inl ⟨by rfl, ?_⟩) ?_; rotate_left; (· (intro w hSw; (try dsimp only at hSw); go_simp; (try with_reducible rfl))); clear hcl; intro hcl; (try simp only [Act.put, List.getElem_toArray, List.getElem_cons_zero, List.getElem_cons_succ, List.setIfInBounds_toArray, List.set_cons_zero, List.set_cons_succ]))
      (refine wpM_take (i := 12) (v := ?_) rfl (by kernel_rfl) (by kernel_rfl) (by kernel_rfl) (by decide) (fun _ _ _ h => h) hcl hC (fun _ => hE) (Or.inl ⟨by rfl, ?_⟩) ?_; rotate_left; (· (intro w hSw; (try dsimp only at hSw); go_simp; (try with_reducible rfl))); clear hcl; intro hcl; (try simp only [Act.put, List.getElem_toArray, List.getElem_cons_zero, List.getElem_cons_succ, List.setIfInBounds_toArray, List.set_cons_zero, List.set_cons_succ]))
      (refine wpM_take (i := 13) (v := ?_) rfl (by kernel_rfl) (by kernel_rfl) (by kernel_rfl) (by decide) (fun _ _ _ h => h) hcl hC (fun _ => hE) (Or.inl ⟨by rfl, ?_⟩) ?_; rotate_left; (· (intro w hSw; (try dsimp only at hSw); go_simp; (try with_reducible rfl))); clear hcl; intro hcl; (try simp only [Act.put, List.getElem_toArray, List.getElem_cons_zero, List.getElem_cons_succ, List.setIfInBounds_toArray, List.set_cons_zero, List.set_cons_succ]))
      (refine wpM_take (i := 14) (v := ?_) rfl (by kernel_rfl) (by kernel_rfl) (by kernel_rfl) (by decide) (fun _ _ _ h => h) hcl hC (fun _ => hE) (Or.inl ⟨by rfl, ?_⟩) ?_; rotate_left; (· (intro w hSw; (try dsimp only at hSw); go_simp; (try with_reducible rfl))); clear hcl; intro hcl; (try simp only [Act.put, List.getElem_toArray, List.getElem_cons_zero, List.getElem_cons_succ, List.setIfInBounds_toArray, List.set_cons_zero, List.set_cons_succ]))
      refine wpM_only (i := 15) rfl (by kernel_rfl) hcl (fun K hK => ?_)
      go_simp
      have hW5 : (wr.alloc (.cells #[.int .i64 u.1.1.1, .int .u32 u.1.1.2, .int .i64 u.1.2, .string (bs u.2)] 123)).drew.heap[w.heap.size + 1 + 1]? = some (.cells #[.slice A' k c', .slice none 0 0] 59 (0, 0)) := heap_drew (heap_old _ hlo hoH.out)
      have hC5 : KQ (w.heap.size + 1 + 1) wr (wr.alloc (.cells #[.int .i64 u.1.1.1, .int .u32 u.1.1.2, .int .i64 u.1.2, .string (bs u.2)] 123)).drew := kq_drew ((Below.refl _ _).alloc (by omega) _)
      have hE5 : (wr.alloc (.cells #[.int .i64 u.1.1.1, .int .u32 u.1.1.2, .int .i64 u.1.2, .string (bs u.2)] 123)).drew.cell? ⟨w.heap.size + 1 + 1, 0, none⟩ = some (.slice A' k c') := blk_cell hW5 0
      refine hK.out _ _ hC5 hE5 ?_
      clear hK K
      clear hcl
      intro hcl
      (try simp only [Act.put, List.getElem_toArray, List.getElem_cons_zero, List.getElem_cons_succ, List.setIfInBounds_toArray, List.set_cons_zero, List.set_cons_succ])
      clear hC hE
      have hbO : Below wr.heap.size wr (wr.alloc (.cells #[.int .i64 u.1.1.1, .int .u32 u.1.1.2, .int .i64 u.1.2, .string (bs u.2)] 123)).drew := ((Below.refl _ wr).alloc (Nat.le_refl _) _).drew
      refine wpM_only (i := 16) rfl (by kernel_rfl) hcl (fun K hK => ?_)
      refine step_append_rd _ rfl _ _ _ rfl eAddP (base := w.heap.size + 1 + 1 + 1) (v := .slice A' k c') (xs := (xs.take k).map Am.enc) rfl (hown.below hbO) rfl (Rd.one [.int .i64 u.1.1.1, .int .u32 u.1.1.2, .int .i64 u.1.2, .string (bs u.2)] rfl) hlen1 hone1 (by rw [hlk.out]; unfold maxLen; omega) (by rw [hlk.out]; omega) (by simp; omega) ?_
      intro A2 n2 c2 w4 hn2 hown4 hg4 hat4
      obtain rfl : n2 = k + 1 := by rw [hn2, hlk.out]
      clear hn2
      have hbk := hown.block
      have hW6 : w4.heap[w.heap.size + 1 + 1]? = some (.cells #[.slice A' k c', .slice none 0 0] 59 (0, 0)) := (hg4.block _ (by simp; omega) (fun e => by have := (hbk _ e.symm).1; omega)).trans hW5
      have hs6 : w4.heap[w.heap.size]? = some (.cells #[.slice (some ⟨bA, oA, none⟩) n c, .slice B m d] 32 (0, 0)) := (hg4.block _ (by simp; omega) (fun e => by have := (hbk _ e.symm).1; omega)).trans (heap_drew (heap_old _ hls hsH.out))
      have hr6 : w4.heap[w.heap.size + 1]? = some (.cells #[.slice none 0 0, .slice none 0 0] 59 (0, 0)) := (hg4.block _ (by simp; omega) (fun e => by have := (hbk _ e.symm).1; omega)).trans (heap_drew (heap_old _ hlr hrH.out))
      have hC6 : KQ (w.heap.size + 1 + 1) wr w4 := kq_grown hC5 (by omega) hg4 (fun g e => by have := (hbk g e).1; omega)
      have hE6 : w4.cell? ⟨w.heap.size + 1 + 1, 0, none⟩ = some (.slice A' k c') := blk_cell hW6 0
      have hof6 := blk_frozen hW6
      have hG6 : Below w.heap.size w w4 := hbr.trans (hC6.1.mono (by omega))
      have hW6H := Lib.hid hW6
      have hs6H := Lib.hid hs6
      have hr6H := Lib.hid hr6
      clear hW6 hs6 hr6 hW5
      refine hK.out _ _ hC6 hE6 ?_
      clear hK K
      clear hcl
      intro hcl
      (try simp only [Act.put, List.getElem_toArray, List.getElem_cons_zero, List.getElem_cons_succ, List.setIfInBounds_toArray, List.set_cons_zero, List.set_cons_succ])
      have hC := hC6
      have hE := hE6
      (refine wpM_take (i := 17) (v := ?_) rfl (by kernel_rfl) (by kernel_rfl) (by kernel_rfl) (by decide) (fun _ _ _ h => h) hcl hC (fun _ => hE) (Or.inl ⟨by rfl, ?_⟩) ?_; rotate_left; (· (intro w hSw; (try dsimp only at hSw); go_simp; (try with_reducible rfl))); clear hcl; intro hcl; (try simp only [Act.put, List.getElem_toArray, List.getElem_cons_zero, List.getElem_cons_succ, List.setIfInBounds_toArray, List.set_cons_zero, List.set_cons_succ]))
      refine wpM_last (i := 18) rfl (by kernel_rfl) hcl (by kernel_rfl) (fun K hK => ?_)
      go_simp
      refine hK.out _ _ (kq_set hC6 (Nat.le_refl _) _) ?_
      clear hK K hcl
      intro hcl
      refine wpM_done (by kernel_rfl) ?_
      clear hcl
      try simp only [Act.put, List.getElem_toArray, List.getElem_cons_zero, List.getElem_cons_succ, List.setIfInBounds_toArray, List.set_cons_zero, List.set_cons_succ]
      clear hC hE hE6 hE5 o0 o1 s0 s1
      go_wp2
      go_roundg (n + 1 - (k + 1))
      case measure => omega
      case rel =>
        refine ⟨k + 1, A2, c2, by omega, rfl, by go_num, heap_set_ne (by dsimp only; omega) hs6H.out, heap_set_ne (by dsimp only; omega) hr6H.out, by rw [blk_set hW6H.out]; rfl, ?_, hG6.setCell (by dsimp only; omega) _⟩
        rw [hst.out]
        exact hown4.set_blk hW6H.out (by decide) 0 _
    · obtain rfl : k = n := by omega
      have hfin : Hid ((xs.take k).map Am.enc = xs.map Am.enc) := Lib.hid (by rw [List.take_of_length_le (by have := hlH.out; omega)])
      have hnli : ¬ (k : Int) < (k : Int) := by omega
      have hlg : (gs.map Tm.enc).length = m := by have := (hBr.out w (Below.refl _ _)).len; simpa using this
      have hBw := (hBr.out wr hbr)
      have hlgH := Lib.hid hlg
      clear hlg
      go_wp2_with (at_builtin; refine wpList_append_rd _ rfl _ _ _ rfl eTag (base := w.heap.size + 1 + 1 + 1) (v := .slice none 0 0) (xs := []) rfl (Ow.nil_ _ _ _ _) rfl hBw Tm.len Tm.one (by unfold maxLen; simp; omega) (by simp; omega) (by omega) ?_; intro A2 n2 c2 w4 hn2 hown4 hg4 hat4; (obtain rfl : n2 = m := (by rw [hn2]; simp)); (have hW6 : w4.heap[w.heap.size + 1 + 1]? = some (.cells #[.slice A' k c', .slice none 0 0] 59 (0, 0)) := (hg4.block _ hlo (by simp [Value.ownBlock])).trans hoH.out); (have hr6 : w4.heap[w.heap.size + 1]? = some (.cells #[.slice none 0 0, .slice none 0 0] 59 (0, 0)) := (hg4.block _ hlr (by simp [Value.ownBlock])).trans hrH.out); (have z0 := blk_cell hW6 0); (have z1 := blk_cell hW6 1); (have y0 := blk_cell hr6 0); (have y1 := blk_cell hr6 1); (simp at z0 z1 y0 y1); (have zf := blk_frozen hW6); (have yf := blk_frozen hr6); (have hlW := blk_lt hW6); (have hlR := blk_lt hr6); (have hW6H := Lib.hid hW6); (have hr6H := Lib.hid hr6); clear hn2 hW6 hr6)
      have hoA : Ow w4 (w.heap.size + 1 + 1 + 1) 123 (3 + 1) (.slice A' k c') (xs.map Am.enc) := by rw [← hfin.out]; exact hown.other (Ow.nil_ wr (w.heap.size + 1 + 1 + 1) 45 3) (by decide) hg4
      have hoB : Ow w4 (w.heap.size + 1 + 1 + 1) 45 3 (.slice A2 n2 c2) (gs.map Tm.enc) := by simpa using hown4
      refine bodyPost_ret (v := .agg #[.slice A' k c', .slice A2 n2 c2]) (by simp [results, Tryz.results20, go_sem, y0, y1]) rfl ⟨A', c', A2, c2, rfl, ?_, ?_, ?_⟩
      · refine Ow.base (base := w.heap.size + 1 + 1 + 1) ?_ (by omega)
        repeat (with_reducible refine Ow.setCell ?_ (by simp) _)
        exact hoA
      · refine Ow.base (base := w.heap.size + 1 + 1 + 1) ?_ (by omega)
        repeat (with_reducible refine Ow.setCell ?_ (by simp) _)
        exact hoB
      · repeat (with_reducible refine Below.setCell ?_ (by first | (simp; done) | (simp; omega) | omega) _)
        exact hbr.grown hg4 hz (by simp [Value.ownBlock])
def grO (n m : Nat) : Bool := decide (200 < n ∨ 200 < m)
set_option maxRecDepth 100000 in
theorem ogreat_any (A : Option Addr) (n c : Nat) (B : Option Addr) (m d : Nat) (w : World) :
    Calls Tryz.prog 14 #[.agg #[.slice A n c, .slice B m d]] w fun e w' => e = .returned (.bool (grO n m)) ∧ Below w.heap.size w w' := by
  generalize hr : grO n m = r
  unfold grO at hr
  have hrH := Lib.hid hr
  clear hr
  have hB0 : Below w.heap.size w (w.alloc (.cells #[.slice A n c, .slice B m d] 32)) := (Below.refl _ w).alloc (Nat.le_refl _) _
  by_cases h1 : (200 : Int) < (n : Int)
  · have hT : Hid (true = r) := Lib.hid (by rw [← hrH.out]; symm; exact decide_eq_true (by omega))
    go_enter Tryz.func14, Tryz.ntmps14
    go_wp2
    go_ret
    exact ⟨ret_bool hT.out, hB0⟩
  · have hd1 : decide ((200 : Int) < (n : Int)) = false := decide_eq_false h1
    by_cases h2 : (200 : Int) < (m : Int)
    · have hT : Hid (true = r) := Lib.hid (by rw [← hrH.out]; symm; exact decide_eq_true (by omega))
      go_enter Tryz.func14, Tryz.ntmps14
      go_wp2
      go_ret
      exact ⟨ret_bool hT.out, hB0⟩
    · have hd2 : decide ((200 : Int) < (m : Int)) = false := decide_eq_false h2
      have hT : Hid (false = r) := Lib.hid (by rw [← hrH.out]; symm; exact decide_eq_false (by omega))
      go_enter Tryz.func14, Tryz.ntmps14
      go_wp2
      go_ret
      exact ⟨ret_bool hT.out, hB0⟩
end Go.Proofs.YtffnpfponnhddaaGreat
