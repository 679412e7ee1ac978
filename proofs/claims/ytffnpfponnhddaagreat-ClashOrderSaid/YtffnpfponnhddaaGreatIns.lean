/- slices.Insert of one addition. -/
import Derived.Test.YtffnpfponnhddaaGreatM3
import Derived.Test.YtffnpfponnhddaaGreatOsT
namespace Go.Proofs.YtffnpfponnhddaaGreat
open Go.RowKit

theorem List.getElem?_take_of_lt' {α : Type} {l : List α} {m i : Nat} {v : α} (h : (l.take m)[i]? = some v) : l[i]? = some v := by
  rw [List.getElem?_take] at h
  split at h
  · exact h
  · cases h
set_option maxRecDepth 100000 in
set_option maxHeartbeats 4000000 in
theorem insA_any (base : Nat) (A : Option Addr) (n c p : Nat) (xs : List Am) (x : Am) (vb : Nat) (w : World) (hown : Ow w base 123 4 (.slice A n c) (xs.map Am.enc)) (hn : n ≤ 100000) (hp : p ≤ n)
    (hv : w.heap[vb]? = some (.cells #[.int .i64 x.1.1.1, .int .u32 x.1.1.2, .int .i64 x.1.2, .string (bs x.2)] 123 (0, 0))) (hvb : ∀ q, (Value.slice A n c).ownBlock = some q → q ≠ vb) (hB : base ≤ w.heap.size) :
    Calls Tryz.prog 72 #[.slice A n c, .int .i64 (p : Int), .slice (some ⟨vb, 0, none⟩) 1 1] w
      fun e w' => ∃ A' c', e = .returned (.slice A' (n + 1) c') ∧ Ow w' base 123 4 (.slice A' (n + 1) c') ((xs.take p ++ x :: xs.drop p).map Am.enc) ∧ w.grownBy w' (Value.slice A n c).ownBlock := by
  generalize hR : (xs.take p ++ x :: xs.drop p).map Am.enc = R
  have hl : xs.length = n := by simpa using hown.rd.2.1
  have hnc := hown.rd.2.2.1
  have hcm := hown.rd.2.2.2
  have hlv := blk_lt hv
  have hcm2 : c ≤ 9223372036854775807 := by simpa [maxLen] using hcm
  by_cases hpn : p = n
  · subst hpn
    have hT : Hid (R = xs.map Am.enc ++ [[.int .i64 x.1.1.1, .int .u32 x.1.1.2, .int .i64 x.1.2, .string (bs x.2)]]) := Lib.hid (by rw [← hR, List.take_of_length_le (by omega), List.drop_eq_nil_of_le (by omega)]; simp [Am.enc])
    have hlH : Hid ((xs.map Am.enc).length = p) := Lib.hid (by rw [List.length_map]; exact hl)
    have hr := Lib.hid (Rd.one_at (sz := 4) [.int .i64 x.1.1.1, .int .u32 x.1.1.2, .int .i64 x.1.2, .string (bs x.2)] hv)
    have hlen1 : ∀ y ∈ ([[.int .i64 x.1.1.1, .int .u32 x.1.1.2, .int .i64 x.1.2, .string (bs x.2)]] : List (List Value)), y.length = 4 := by simp
    have hone1 : ∀ y ∈ ([[.int .i64 x.1.1.1, .int .u32 x.1.1.2, .int .i64 x.1.2, .string (bs x.2)]] : List (List Value)), ∀ v ∈ y, v.oneCell' = true := by simp [Value.oneCell']
    have hownH := Lib.hid hown
    clear hv hown hl hvb hR
    rcases Classical.em (c = p) with hcp | hcp
    · obtain rfl : c = p := hcp
      go_enter Tryz.func72, Tryz.ntmps72
      go_wp2_with (at_builtin; refine wpList_append_rd _ rfl _ _ _ rfl eAddP (base := base) (v := .slice A c c) (xs := xs.map Am.enc) rfl hownH.out rfl hr.out hlen1 hone1 (by rw [hlH.out]; unfold maxLen; omega) (by rw [hlH.out]; omega) hB ?_; intro A2 n2 c2 w4 hn2 hown2 hg4 hat2; (obtain rfl : n2 = c + 1 := by rw [hn2, hlH.out]); clear hn2 hat2)
      go_ret
      exact ⟨A2, c2, rfl, by rw [hT.out]; exact hown2, hg4⟩
    have hcp2 : ¬ p = c := fun e => hcp e.symm
    have hcq : (c == p) = false := by rw [beq_eq_false_iff_ne]; exact hcp
    go_enter Tryz.func72, Tryz.ntmps72
    go_wp2_with (at_builtin; refine wpList_append_rd _ rfl _ _ _ rfl eAddP (base := base) (v := .slice A p c) (xs := xs.map Am.enc) rfl hownH.out rfl hr.out hlen1 hone1 (by rw [hlH.out]; unfold maxLen; omega) (by rw [hlH.out]; omega) hB ?_; intro A2 n2 c2 w4 hn2 hown2 hg4 hat2; (obtain rfl : n2 = p + 1 := by rw [hn2, hlH.out]); clear hn2 hat2)
    go_ret
    exact ⟨A2, c2, rfl, by rw [hT.out]; exact hown2, hg4⟩
  have hpn2 : p < n := by omega
  have hpi : ((p : Int) == (n : Int)) = false := by rw [beq_eq_false_iff_ne]; omega
  have hpi2 : ¬ (p : Int) = (n : Int) := by omega
  rcases hown.2.2 with ⟨hv0, h0⟩ | ⟨g, cap, cur, hv0, hgb, hgg, hn1, hm1, hs1, ht1⟩
  · rw [List.length_map, hl] at h0
    omega
  injection hv0 with e1 e2 e3
  subst e1
  subst e3
  clear e2
  have hgv : g ≠ vb := hvb g rfl
  have hglt := blk_lt hgg
  have hown1 := hown.1
  rw [List.length_map, hl] at hn1 ht1
  have hfs := flat_split hown1 (p := p) (by rw [List.length_map, hl]; exact hp)
  rw [List.length_map, hl] at hfs
  obtain ⟨hX1, hX2, hX1l, hX2l⟩ := hfs
  obtain ⟨X1, hX1e⟩ : ∃ X1, X1 = ((xs.map Am.enc).take p).flatten := ⟨_, rfl⟩
  obtain ⟨X2, hX2e⟩ : ∃ X2, X2 = ((xs.map Am.enc).drop p).flatten := ⟨_, rfl⟩
  rw [← hX1e] at hX1 hX1l
  rw [← hX2e] at hX2 hX2l
  have hX2one : ∀ v ∈ X2, v.oneCell' = true := fun v hv => by
    rw [hX2e] at hv
    obtain ⟨y, hy, hvy⟩ := List.mem_flatten.1 hv
    exact Am.one y (List.mem_of_mem_drop hy) v hvy
  have hall : R.flatten = X1 ++ ([.int .i64 x.1.1.1, .int .u32 x.1.1.2, .int .i64 x.1.2, .string (bs x.2)] ++ X2) := by
    rw [← hR, hX1e, hX2e, List.map_append, List.map_cons, List.map_take, List.map_drop]
    simp [Am.enc]
  have hnew : ∀ y ∈ R, y.length = 4 := by rw [← hR]; exact Am.len
  have hnl : R.length = n + 1 := by
    rw [← hR, List.length_map, List.length_append, List.length_cons, List.length_take, List.length_drop]
    omega
  have hcl0 : cur.toList.length = c * 4 := by rw [Array.length_toList]; exact hs1
  have hct : cur.toList.take (p * 4) = X1 := by
    rw [hX1, ← ht1, List.take_take, Nat.min_eq_left (Nat.mul_le_mul_right _ hp)]
  have hgetX2 : ∀ j v, X2[j]? = some v → cur[p * 4 + j]? = some v := fun j v hj => by
    rw [hX2, ← ht1, List.getElem?_drop] at hj
    rw [← Array.getElem?_toList]
    exact List.getElem?_take_of_lt' hj
  have hcp1 : ¬ c = p := by omega
  have hcp2 : ¬ p = c := by omega
  have hcq : (c == p) = false := by rw [beq_eq_false_iff_ne]; omega
  have hpn3 : (p : Int) ≤ (n : Int) := by omega
  have hw1 : IntKind.i64.wrap ((p : Int) + 1) = (p : Int) + 1 := by rw [IntKind.wrap_i64]; omega
  have hw2 : IntKind.i64.wrap ((n : Int) + 1) = (n : Int) + 1 := by rw [IntKind.wrap_i64]; omega
  have htn : ((p : Int) + 1).toNat = p + 1 := by omega
  have htn2 : ((n : Int) + 1).toNat = n + 1 := by omega
  have hb1 : (0 : Int) ≤ (p : Int) + 1 := by omega
  have hb2 : (0 : Int) ≤ (n : Int) + 1 := by omega
  have hu : Tryz.prog.underlying 57 = some (.slice 123) := eAddP.slice
  have hsz : (Tryz.prog.info? 123).map (·.size) = some 4 := by
    obtain ⟨i, z, h1, _, h3, _, _⟩ := eAddP.info
    rw [h1, ← h3]; rfl
  by_cases hroom : n + 1 ≤ c
  · have hcr : decide ((c : Int) < (n : Int) + 1) = false := decide_eq_false (by omega)
    have hcr2 : ¬ (c : Int) < (n : Int) + 1 := by omega
    have hb3 : (n : Int) + 1 ≤ (c : Int) := by omega
    have hcp3 : ¬ c = p + 1 := by omega
    have hcp4 : ¬ p + 1 = c := by omega
    have hb4 : (p : Int) + 1 ≤ (n : Int) + 1 := by omega
    have hb5 : (p : Int) ≤ (n : Int) + 1 := by omega
    have hov : ∀ o lb cb, (callFunc 107 #[.slice (some ⟨vb, 0, none⟩) 1 1, .slice (some ⟨g, o, none⟩) lb cb]).run Tryz.prog w = .ok (.value (.bool false)) w := fun o lb cb => by
      rw [run_callFunc_extern Tryz.func107 (by kernel_rfl) (by kernel_rfl) (by kernel_rfl) (e := Extern.SlicesOverlaps.overlaps #[57, 57] #[4]) (by kernel_rfl),
        Lib.run_overlaps_apart w 57 4 123 hu 4 Tryz.sizeOf123 ⟨vb, 0, none⟩ ⟨g, o, none⟩ 1 1 lb cb (fun e => hgv e.symm) 123 123 4 cur.size (by simp [World.shape?, hv]) (by simp [World.shape?, hgg]) (by rw [hs1]; omega) (blk_frozen hv 0) (blk_frozen hv 4)]
      rfl
    have hnewH := Lib.hid hnew
    have hallH := Lib.hid hall
    have hctH := Lib.hid hct
    clear hown ht1 hall hnew hX1e hX2e hX1 hX2 hct
    go_enter Tryz.func72, Tryz.ntmps72
    go_wp2_with (simp only [hov])
    refine wp_region_M (fun _ => True) (fun _ => True) 99 (by kernel_rfl) trivial trivial ?_
    intro hcl
    have hC : True := trivial
    have hE : True := trivial
    (refine wpM_take (i := 0) (v := ?_) rfl (by kernel_rfl) (by kernel_rfl) (by kernel_rfl) (by decide) (fun _ _ _ h => h) hcl hC (fun _ => hE) (Or.inl ⟨by rfl, ?_⟩) ?_; rotate_left; (· (intro w hSw; (try dsimp only at hSw); go_simp; (try with_reducible rfl))); clear hcl; intro hcl; (try simp only [Act.put, List.getElem_toArray, List.getElem_cons_zero, List.setIfInBounds_toArray, List.set_cons_zero, List.set_cons_succ]))
    (refine wpM_take (i := 1) (v := ?_) rfl (by kernel_rfl) (by kernel_rfl) (by kernel_rfl) (by decide) (fun _ _ _ h => h) hcl hC (fun _ => hE) (Or.inl ⟨by rfl, ?_⟩) ?_; rotate_left; (· (intro w hSw; (try dsimp only at hSw); go_simp; (try with_reducible rfl))); clear hcl; intro hcl; (try simp only [Act.put, List.getElem_toArray, List.getElem_cons_zero, List.getElem_cons_succ, List.setIfInBounds_toArray, List.set_cons_zero, List.set_cons_succ]))
    (refine wpM_take (i := 2) (v := ?_) rfl (by kernel_rfl) (by kernel_rfl) (by kernel_rfl) (by decide) (fun _ _ _ h => h) hcl hC (fun _ => hE) (Or.inl ⟨by rfl, ?_⟩) ?_; rotate_left; (· (intro w hSw; (try dsimp only at hSw); go_simp; (try with_reducible rfl))); clear hcl; intro hcl; (try simp only [Act.put, List.getElem_toArray, List.getElem_cons_zero, List.getElem_cons_succ, List.setIfInBounds_toArray, List.set_cons_zero, List.set_cons_succ]))
    (refine wpM_take (i := 3) (v := ?_) rfl (by kernel_rfl) (by kernel_rfl) (by kernel_rfl) (by decide) (fun _ _ _ h => h) hcl hC (fun _ => hE) (Or.inl ⟨by rfl, ?_⟩) ?_; rotate_left; (· (intro w hSw; (try dsimp only at hSw); go_simp; (try with_reducible rfl))); clear hcl; intro hcl; (try simp only [Act.put, List.getElem_toArray, List.getElem_cons_zero, List.getElem_cons_succ, List.setIfInBounds_toArray, List.set_cons_zero, List.set_cons_succ]))
    (refine wpM_take (i := 4) (v := ?_) rfl (by kernel_rfl) (by kernel_rfl) (by kernel_rfl) (by decide) (fun _ _ _ h => h) hcl hC (fun _ => hE) (Or.inl ⟨by rfl, ?_⟩) ?_; rotate_left; (· (intro w hSw; (try dsimp only at hSw); go_simp; (try with_reducible rfl))); clear hcl; intro hcl; (try simp only [Act.put, List.getElem_toArray, List.getElem_cons_zero, List.getElem_cons_succ, List.setIfInBounds_toArray, List.set_cons_zero, List.set_cons_succ]))
    (refine wpM_take (i := 5) (v := ?_) rfl (by kernel_rfl) (by kernel_rfl) (by kernel_rfl) (by decide) (fun _ _ _ h => h) hcl hC (fun _ => hE) (Or.inl ⟨by rfl, ?_⟩) ?_; rotate_left; (· (intro w hSw; (try dsimp only at hSw); go_simp; (try with_reducible rfl))); clear hcl; intro hcl; (try simp only [Act.put, List.getElem_toArray, List.getElem_cons_zero, List.getElem_cons_succ, List.setIfInBounds_toArray, List.set_cons_zero, List.set_cons_succ]))
    (refine wpM_take (i := 6) (v := ?_) rfl (by kernel_rfl) (by kernel_rfl) (by kernel_rfl) (by decide) (fun _ _ _ h => h) hcl hC (fun _ => hE) (Or.inl ⟨by rfl, ?_⟩) ?_; rotate_left; (· (intro w hSw; (try dsimp only at hSw); go_simp; (try with_reducible rfl))); clear hcl; intro hcl; (try simp only [Act.put, List.getElem_toArray, List.getElem_cons_zero, List.getElem_cons_succ, List.setIfInBounds_toArray, List.set_cons_zero, List.set_cons_succ]))
    (refine wpM_take (i := 7) (v := ?_) rfl (by kernel_rfl) (by kernel_rfl) (by kernel_rfl) (by decide) (fun _ _ _ h => h) hcl hC (fun _ => hE) (Or.inl ⟨by rfl, ?_⟩) ?_; rotate_left; (· (intro w hSw; (try dsimp only at hSw); go_simp; (try with_reducible rfl))); clear hcl; intro hcl; (try simp only [Act.put, List.getElem_toArray, List.getElem_cons_zero, List.getElem_cons_succ, List.setIfInBounds_toArray, List.set_cons_zero, List.set_cons_succ]))
    refine wpM_only (i := 8) rfl (by kernel_rfl) hcl (fun K hK => ?_)
    refine step_copy_spliceK rfl (.tmp 73) (.tmp 76) 57 57 rfl 123 hu 4 (n - p) hsz g ((p + 1) * 4) (n - p) (c - (p + 1)) ⟨g, p * 4, none⟩ (n + 1 - p) (c - p) rfl rfl cur.toList 123 (by rw [Array.toArray_toList]; exact hgg) X2 (by simp only [Nat.min_def]; split <;> omega) hX2l.symm (fun j v hj => by rw [addr_add]; exact (blk_cell (heap_drew hgg) _).trans (hgetX2 j v hj)) (by rw [hcl0, hX2l]; omega) hX2one ?_
    intro w4 hW4 hg4
    refine hK.out _ _ trivial trivial ?_
    clear hK K
    clear hcl
    intro hcl
    (try simp only [Act.put, List.getElem_toArray, List.getElem_cons_zero, List.getElem_cons_succ, List.setIfInBounds_toArray, List.set_cons_zero, List.set_cons_succ])
    refine wpM_done (by kernel_rfl) ?_
    clear hcl hC hE
    (try simp only [Act.put, List.getElem_toArray, List.getElem_cons_zero, List.getElem_cons_succ, List.setIfInBounds_toArray, List.set_cons_zero, List.set_cons_succ])
    have hv4 : w4.heap[vb]? = some (.cells #[.int .i64 x.1.1.1, .int .u32 x.1.1.2, .int .i64 x.1.2, .string (bs x.2)] 123 (0, 0)) := (hg4.block vb (blk_lt (heap_drew hv)) (fun e => hgv (by injection e with e; exact e.symm))).trans (heap_drew hv)
    have hv4H := Lib.hid hv4
    have hl4 := Lib.hid (length_splice cur.toList ((p + 1) * 4) X2 (by rw [hcl0, hX2l]; omega))
    clear hv4
    have k1 : Hid (Nat.min 1 (n + 1 - p) = 1) := Lib.hid (by simp only [Nat.min_def]; split <;> omega)
    have k2 : Hid (p * 4 + ([.int .i64 x.1.1.1, .int .u32 x.1.1.2, .int .i64 x.1.2, .string (bs x.2)] : List Value).length ≤ (splice cur.toList ((p + 1) * 4) X2).length) := Lib.hid (by rw [hl4.out, hcl0]; show p * 4 + 4 ≤ c * 4; omega)
    have k3 : ∀ v ∈ ([.int .i64 x.1.1.1, .int .u32 x.1.1.2, .int .i64 x.1.2, .string (bs x.2)] : List Value), v.oneCell' = true := by simp [Value.oneCell']
    have k4 : Hid (∀ j v, ([.int .i64 x.1.1.1, .int .u32 x.1.1.2, .int .i64 x.1.2, .string (bs x.2)] : List Value)[j]? = some v → w4.cell? ((⟨vb, 0, none⟩ : Addr).add j) = some v) := Lib.hid (fun j v hj => by rw [addr_add]; exact (blk_cell hv4H.out _).trans (by simpa using hj))
    have hcp5 : Hid (((p + 1) * 4) = p * 4 + 4) := Lib.hid (by omega)
    go_wp2_with ((with_reducible show wpList _ _ _ _ _ _); refine wpList_copy_spliceK rfl (.tmp 80) (.tmp 81) 57 57 rfl 123 hu 4 1 hsz g (p * 4) (n + 1 - p) (c - p) ⟨vb, 0, none⟩ 1 1 rfl rfl (splice cur.toList ((p + 1) * 4) X2) 123 hW4.out [.int .i64 x.1.1.1, .int .u32 x.1.1.2, .int .i64 x.1.2, .string (bs x.2)] k1.out rfl k4.out k2.out k3 ?_; intro w5 hW5 hg5)
    go_ret
    have hl5 := length_splice (splice cur.toList ((p + 1) * 4) X2) (p * 4) [.int .i64 x.1.1.1, .int .u32 x.1.1.2, .int .i64 x.1.2, .string (bs x.2)] k2.out
    refine ⟨_, c, rfl, ⟨hnewH.out, flat_len hnewH.out, .inr ⟨g, c, _, by rw [hnl], hgb, hW5.out, by rw [hnl]; exact hroom, hcm, by rw [List.size_toArray, hl5, hl4.out, hcl0], ?_⟩⟩, gr_drew (gr_trans hg4 hg5)⟩
    rw [hnl, hallH.out]
    have h9 := splice_room cur.toList [.int .i64 x.1.1.1, .int .u32 x.1.1.2, .int .i64 x.1.2, .string (bs x.2)] X2 (p * 4) 4 rfl (by rw [hcl0, hX2l]; omega)
    rw [hctH.out, hX2l, ← hcp5.out, show (p + 1) * 4 + (n - p) * 4 = (n + 1) * 4 by omega] at h9
    exact h9
  · obtain rfl : c = n := by omega
    obtain ⟨i0, z0, hi0, hz0, hzs, hzb, hzc⟩ := eAddP.info
    have hcr : decide ((c : Int) < (c : Int) + 1) = true := decide_eq_true (by omega)
    have hcr2 : (c : Int) < (c : Int) + 1 := by omega
    have hw3 : IntKind.i64.wrap ((c : Int) + 1 - (p : Int)) = (c : Int) + 1 - (p : Int) := by rw [IntKind.wrap_i64]; omega
    have hkk : (c : Int) + 1 - (p : Int) = ((c + 1 - p : Nat) : Int) := by omega
    have hpc : (p : Int) ≤ (c : Int) := by omega
    have hold : (Builtin.firstCells i0.size p (.slice (some ⟨g, 0, none⟩) p c)).run Tryz.prog w.drew = .ok X1.toArray w.drew := by
      rw [hzs]
      exact run_firstCells_some w.drew 4 p ⟨g, 0, none⟩ p c X1 hX1l (fun j v hj => by
        rw [addr_add]
        refine (blk_cell (heap_drew hgg) _).trans ?_
        rw [← hct] at hj
        rw [Nat.zero_add, ← Array.getElem?_toList]
        exact List.getElem?_take_of_lt' hj)
    have hrz : ∀ ty, (Builtin.append_ #[57, 3] ty #[.slice (some ⟨g, 0, none⟩) p c, .int .i64 ((c + 1 - p : Nat) : Int)]).run Tryz.prog w =
        .ok (.slice (some ⟨w.heap.size, 0, none⟩) (c + 1) (grownCap w (c + 1) c 123)) (w.drew.alloc (.cells (X1.toArray ++ Builtin.zeroCells z0.cells (c + 1 - p) ++ Builtin.zeroCells z0.cells (grownCap w (c + 1) c 123 - (c + 1))) 123)) := fun ty => by
      have h := Lib.run_append_grow_zeros w 57 3 ty 123 i0 z0 .i64 .i64 hu Tryz.underlying3 hi0 hz0 (some ⟨g, 0, none⟩) p c X1 hold (c + 1 - p) (by omega) (by omega) (by omega) (by omega) (by rw [hzb]; omega) (by rw [hzb, show p + (c + 1 - p) = c + 1 by omega]; exact growslice_fits (by omega) (by omega))
      rw [show p + (c + 1 - p) = c + 1 by omega] at h
      exact h
    have hGn : c + 1 ≤ grownCap w (c + 1) c 123 := grownCap_ge w _ _ _
    have hGm := grownCap_le_maxLen w (c + 1) c 123 (by unfold maxLen; omega)
    generalize grownCap w (c + 1) c 123 = G at hrz hGn hGm
    have hG63 : G ≤ 9223372036854775807 := by simpa [maxLen] using hGm
    obtain ⟨ROW, hROW⟩ : ∃ ROW : List Value, ROW = X1 ++ ((Builtin.zeroCells z0.cells (c + 1 - p)).toList ++ (Builtin.zeroCells z0.cells (G - (c + 1))).toList) := ⟨_, rfl⟩
    have hRa : X1.toArray ++ Builtin.zeroCells z0.cells (c + 1 - p) ++ Builtin.zeroCells z0.cells (G - (c + 1)) = ROW.toArray := by rw [hROW]; apply Array.ext'; simp
    have hRl : ROW.length = G * 4 := by
      rw [hROW, List.length_append, List.length_append, hX1l]
      simp [Builtin.zeroCells, hzc]
      omega
    have hRt : ROW.take (p * 4) = X1 := by rw [hROW]; exact List.take_left' hX1l
    rw [hRa] at hrz
    have hg1 : w.grownBy (w.drew.alloc (.cells ROW.toArray 123)) (some g) := ⟨rfl, rfl, rfl, by simp, fun q hq _ => Below.heap_alloc _ _ _ hq⟩
    have hN : (w.drew.alloc (.cells ROW.toArray 123)).heap[w.heap.size]? = some (.cells ROW.toArray 123 (0, 0)) := heap_at _ _ rfl
    have hz1 : (w.drew.alloc (.cells ROW.toArray 123)).heap.size = w.heap.size + 1 := by simp
    have hv1 : (w.drew.alloc (.cells ROW.toArray 123)).heap[vb]? = some (.cells #[.int .i64 x.1.1.1, .int .u32 x.1.1.2, .int .i64 x.1.2, .string (bs x.2)] 123 (0, 0)) := heap_old _ hlv (heap_drew hv)
    have hgg1 : (w.drew.alloc (.cells ROW.toArray 123)).heap[g]? = some (.cells cur 123 (0, 0)) := heap_old _ hglt (heap_drew hgg)
    generalize (w.drew.alloc (.cells ROW.toArray 123)) = W1 at hrz hg1 hN hz1 hv1 hgg1
    have hnewH := Lib.hid hnew
    have hallH := Lib.hid hall
    have hctH := Lib.hid hct
    have hGp1 : ¬ G = p := by omega
    have hGp2 : ¬ G = p + 1 := by omega
    have hGp3 : ¬ p = G := by omega
    have hGp4 : ¬ p + 1 = G := by omega
    have hb4 : (p : Int) + 1 ≤ (c : Int) + 1 := by omega
    have hb5 : (p : Int) ≤ (c : Int) + 1 := by omega
    have hv1H := Lib.hid hv1
    have hggH := Lib.hid hgg1
    have hNH := Lib.hid hN
    have k1 : Hid (Nat.min 1 (c + 1 - p) = 1) := Lib.hid (by simp only [Nat.min_def]; split <;> omega)
    have k2 : Hid (p * 4 + ([.int .i64 x.1.1.1, .int .u32 x.1.1.2, .int .i64 x.1.2, .string (bs x.2)] : List Value).length ≤ ROW.length) := Lib.hid (by rw [hRl]; show p * 4 + 4 ≤ G * 4; omega)
    have k3 : ∀ v ∈ ([.int .i64 x.1.1.1, .int .u32 x.1.1.2, .int .i64 x.1.2, .string (bs x.2)] : List Value), v.oneCell' = true := by simp [Value.oneCell']
    have k4 : Hid (∀ j v, ([.int .i64 x.1.1.1, .int .u32 x.1.1.2, .int .i64 x.1.2, .string (bs x.2)] : List Value)[j]? = some v → W1.cell? ((⟨vb, 0, none⟩ : Addr).add j) = some v) := Lib.hid (fun j v hj => by rw [addr_add]; exact (blk_cell hv1H.out _).trans (by simpa using hj))
    have hcp5 : Hid (((p + 1) * 4) = p * 4 + 4) := Lib.hid (by omega)
    have hl5 := Lib.hid (length_splice ROW (p * 4) [.int .i64 x.1.1.1, .int .u32 x.1.1.2, .int .i64 x.1.2, .string (bs x.2)] k2.out)
    have hrzH := Lib.hid hrz
    have hRlH := Lib.hid hRl
    have hRtH := Lib.hid hRt
    have hold := trivial
    clear hown ht1 hall hnew hX1e hX2e hX1 hX2 hct hv1 hgg1 hN hRt hRl hROW hRa hrz hold
    go_enter Tryz.func72, Tryz.ntmps72
    go_wp2_with (first
      | (at_builtin; refine Lib.wpList_append_run _ rfl (.tmp 34) (.tmp 39) 57 3 rfl _ _ rfl rfl _ _ (hrzH.out _) ?_)
      | ((with_reducible show wpList _ _ _ _ _ _); refine wpList_copy_spliceK rfl (.tmp 43) (.tmp 44) 57 57 rfl 123 hu 4 1 hsz w.heap.size (p * 4) (c + 1 - p) (G - p) ⟨vb, 0, none⟩ 1 1 rfl rfl ROW 123 hNH.out [.int .i64 x.1.1.1, .int .u32 x.1.1.2, .int .i64 x.1.2, .string (bs x.2)] k1.out rfl k4.out k2.out k3 ?_; intro w5 hW5 hg5))
    have hgw : g ≠ w.heap.size := by omega
    have hgg5 : w5.heap[g]? = some (.cells cur 123 (0, 0)) := (hg5.block g (blk_lt hggH.out) (fun e => hgw (by injection e with e))).trans hggH.out
    refine wp_region_M (fun _ => True) (fun _ => True) 99 (by kernel_rfl) trivial trivial ?_
    intro hcl
    have hC : True := trivial
    have hE : True := trivial
    (refine wpM_take (i := 0) (v := ?_) rfl (by kernel_rfl) (by kernel_rfl) (by kernel_rfl) (by decide) (fun _ _ _ h => h) hcl hC (fun _ => hE) (Or.inl ⟨by rfl, ?_⟩) ?_; rotate_left; (· (intro w hSw; (try dsimp only at hSw); go_simp; (try with_reducible rfl))); clear hcl; intro hcl; (try simp only [Act.put, List.getElem_toArray, List.getElem_cons_zero, List.setIfInBounds_toArray, List.set_cons_zero, List.set_cons_succ]))
    (refine wpM_take (i := 1) (v := ?_) rfl (by kernel_rfl) (by kernel_rfl) (by kernel_rfl) (by decide) (fun _ _ _ h => h) hcl hC (fun _ => hE) (Or.inl ⟨by rfl, ?_⟩) ?_; rotate_left; (· (intro w hSw; (try dsimp only at hSw); go_simp; (try with_reducible rfl))); clear hcl; intro hcl; (try simp only [Act.put, List.getElem_toArray, List.getElem_cons_zero, List.getElem_cons_succ, List.setIfInBounds_toArray, List.set_cons_zero, List.set_cons_succ]))
    (refine wpM_take (i := 2) (v := ?_) rfl (by kernel_rfl) (by kernel_rfl) (by kernel_rfl) (by decide) (fun _ _ _ h => h) hcl hC (fun _ => hE) (Or.inl ⟨by rfl, ?_⟩) ?_; rotate_left; (· (intro w hSw; (try dsimp only at hSw); go_simp; (try with_reducible rfl))); clear hcl; intro hcl; (try simp only [Act.put, List.getElem_toArray, List.getElem_cons_zero, List.getElem_cons_succ, List.setIfInBounds_toArray, List.set_cons_zero, List.set_cons_succ]))
    (refine wpM_take (i := 3) (v := ?_) rfl (by kernel_rfl) (by kernel_rfl) (by kernel_rfl) (by decide) (fun _ _ _ h => h) hcl hC (fun _ => hE) (Or.inl ⟨by rfl, ?_⟩) ?_; rotate_left; (· (intro w hSw; (try dsimp only at hSw); go_simp; (try with_reducible rfl))); clear hcl; intro hcl; (try simp only [Act.put, List.getElem_toArray, List.getElem_cons_zero, List.getElem_cons_succ, List.setIfInBounds_toArray, List.set_cons_zero, List.set_cons_succ]))
    (refine wpM_take (i := 4) (v := ?_) rfl (by kernel_rfl) (by kernel_rfl) (by kernel_rfl) (by decide) (fun _ _ _ h => h) hcl hC (fun _ => hE) (Or.inl ⟨by rfl, ?_⟩) ?_; rotate_left; (· (intro w hSw; (try dsimp only at hSw); go_simp; (try with_reducible rfl))); clear hcl; intro hcl; (try simp only [Act.put, List.getElem_toArray, List.getElem_cons_zero, List.getElem_cons_succ, List.setIfInBounds_toArray, List.set_cons_zero, List.set_cons_succ]))
    (refine wpM_take (i := 5) (v := ?_) rfl (by kernel_rfl) (by kernel_rfl) (by kernel_rfl) (by decide) (fun _ _ _ h => h) hcl hC (fun _ => hE) (Or.inl ⟨by rfl, ?_⟩) ?_; rotate_left; (· (intro w hSw; (try dsimp only at hSw); go_simp; (try with_reducible rfl))); clear hcl; intro hcl; (try simp only [Act.put, List.getElem_toArray, List.getElem_cons_zero, List.getElem_cons_succ, List.setIfInBounds_toArray, List.set_cons_zero, List.set_cons_succ]))
    (refine wpM_take (i := 6) (v := ?_) rfl (by kernel_rfl) (by kernel_rfl) (by kernel_rfl) (by decide) (fun _ _ _ h => h) hcl hC (fun _ => hE) (Or.inl ⟨by rfl, ?_⟩) ?_; rotate_left; (· (intro w hSw; (try dsimp only at hSw); go_simp; (try with_reducible rfl))); clear hcl; intro hcl; (try simp only [Act.put, List.getElem_toArray, List.getElem_cons_zero, List.getElem_cons_succ, List.setIfInBounds_toArray, List.set_cons_zero, List.set_cons_succ]))
    (refine wpM_take (i := 7) (v := ?_) rfl (by kernel_rfl) (by kernel_rfl) (by kernel_rfl) (by decide) (fun _ _ _ h => h) hcl hC (fun _ => hE) (Or.inl ⟨by rfl, ?_⟩) ?_; rotate_left; (· (intro w hSw; (try dsimp only at hSw); go_simp; (try with_reducible rfl))); clear hcl; intro hcl; (try simp only [Act.put, List.getElem_toArray, List.getElem_cons_zero, List.getElem_cons_succ, List.setIfInBounds_toArray, List.set_cons_zero, List.set_cons_succ]))
    refine wpM_only (i := 8) rfl (by kernel_rfl) hcl (fun K hK => ?_)
    refine step_copy_spliceK rfl (.tmp 50) (.tmp 53) 57 57 rfl 123 hu 4 (c - p) hsz w.heap.size ((p + 1) * 4) (c - p) (G - (p + 1)) ⟨g, p * 4, none⟩ (c - p) (c - p) rfl rfl (splice ROW (p * 4) [.int .i64 x.1.1.1, .int .u32 x.1.1.2, .int .i64 x.1.2, .string (bs x.2)]) 123 (heap_drew hW5.out) X2 (Nat.min_self _) hX2l.symm (fun j v hj => by rw [addr_add]; exact (blk_cell (heap_drew hgg5) _).trans (hgetX2 j v hj)) (by rw [hl5.out, hRlH.out, hX2l]; omega) hX2one ?_
    intro w6 hW6 hg6
    refine hK.out _ _ trivial trivial ?_
    clear hK K
    clear hcl
    intro hcl
    (try simp only [Act.put, List.getElem_toArray, List.getElem_cons_zero, List.getElem_cons_succ, List.setIfInBounds_toArray, List.set_cons_zero, List.set_cons_succ])
    refine wpM_done (by kernel_rfl) ?_
    clear hcl hC hE
    (try simp only [Act.put, List.getElem_toArray, List.getElem_cons_zero, List.getElem_cons_succ, List.setIfInBounds_toArray, List.set_cons_zero, List.set_cons_succ])
    go_wp2
    go_ret
    have hl6 := length_splice (splice ROW (p * 4) [.int .i64 x.1.1.1, .int .u32 x.1.1.2, .int .i64 x.1.2, .string (bs x.2)]) ((p + 1) * 4) X2 (by rw [hl5.out, hRlH.out, hX2l]; omega)
    refine ⟨_, G, rfl, ⟨hnewH.out, flat_len hnewH.out, .inr ⟨w.heap.size, G, _, by rw [hnl], hB, hW6.out, by rw [hnl]; exact hGn, hGm, by rw [List.size_toArray, hl6, hl5.out, hRlH.out], ?_⟩⟩, gr_new (gr_new hg1 hg5 (Nat.le_refl _)) (gr_drew hg6) (Nat.le_refl _)⟩
    rw [hnl, hallH.out]
    have h9 := splice_new ROW [.int .i64 x.1.1.1, .int .u32 x.1.1.2, .int .i64 x.1.2, .string (bs x.2)] X2 (p * 4) 4 rfl (by rw [hRlH.out, hX2l]; omega)
    rw [hRtH.out, hX2l, ← hcp5.out, show (p + 1) * 4 + (c - p) * 4 = (c + 1) * 4 by omega] at h9
    exact h9
end Go.Proofs.YtffnpfponnhddaaGreat
