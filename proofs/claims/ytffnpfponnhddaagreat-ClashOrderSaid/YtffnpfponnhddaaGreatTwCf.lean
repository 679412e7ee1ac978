/- The statement ClashOrder, walked. -/
import Derived.Test.YtffnpfponnhddaaGreatN38
import Derived.Test.YtffnpfponnhddaaGreatCoM
import Derived.Test.YtffnpfponnhddaaGreatN44
import Derived.Test.YtffnpfponnhddaaGreatCoS
import Derived.Test.YtffnpfponnhddaaGreatCoU
namespace Go.Proofs.YtffnpfponnhddaaGreat
open Go.RowKit

set_option maxRecDepth 100000 in
set_option maxHeartbeats 16000000 in
theorem clashorder_any (o : Ob) (r : Rw) (a va : Int) (na : List UInt8) (b vb : Int) (nb : List UInt8) (w : World) (h1 : RdA w w.heap.size r.A r.n o.S.1) (h2 : RdT w w.heap.size r.B r.m o.S.2) (h3 : RdP w w.heap.size r.P r.k o.M.1) (h4 : RdT w w.heap.size r.Q r.l o.M.2) (hok : o.Ok) (hla : na.length ≤ maxLen) (hlb : nb.length ≤ maxLen)
    (ha : -9223372036854775808 ≤ a ∧ a ≤ 9223372036854775807) (hva : -9223372036854775808 ≤ va ∧ va ≤ 9223372036854775807) (hb : -9223372036854775808 ≤ b ∧ b ≤ 9223372036854775807) (hvb : -9223372036854775808 ≤ vb ∧ vb ≤ 9223372036854775807) :
    Calls Tryz.prog 3 #[.agg #[.int .i64 o.kd, .int .i64 o.rv, .int .u32 o.rt, .int .i64 o.ro, .int .i64 o.pl, .int .i64 o.mi, .slice r.A r.n r.c, .slice r.B r.m r.d, .slice r.P r.k r.e, .slice r.Q r.l r.f], .agg #[.int .i64 a, .string (bs na), .int .i64 va], .agg #[.int .i64 b, .string (bs nb), .int .i64 vb]] w fun e w' => e = .returned (.bool true) ∧ Below w.heap.size w w' := by
  have cW := Lib.hid (fun w' => works24_any w')
  have cG := Lib.hid (fun w' => greatK_any o r w')
  have cA := Lib.hid (fun w' => opto_any a va na w')
  have cB := Lib.hid (fun w' => opto_any b vb nb w')
  have cO := Lib.hid (fun w' => by have := ops_any a va b vb (bs na) (bs nb) w'; rw [bs_toL, bs_toL] at this; exact this)
  have h : grK r = false → ObIn w o r := fun hg => by
    unfold grK at hg
    simp at hg
    exact ⟨h1, h2, h3, h4, by omega, by omega, by omega, by omega⟩
  clear h1 h2 h3 h4
  have cDa := Lib.hid (fun o1 r1 n w' (hi : ObIn w' o1 r1) (ho : o1.Ok) (hn : n = 0 ∨ n = 1) => does_any o1 r1 a na va n w' hi ho hla hn ha hva)
  have cDb := Lib.hid (fun o1 r1 n w' (hi : ObIn w' o1 r1) (ho : o1.Ok) (hn : n = 0 ∨ n = 1) => does_any o1 r1 b nb vb n w' hi ho hlb hn hb hvb)
  have hokA := Lib.hid (fun (o1 o2 : Ob) n (hs : StepR o1 a na va n o2) (h1 : a ≠ 1) (ho : o1.Ok) (hn : n = 0 ∨ n = 1) => stepR_ok hs h1 ho hn hla hva)
  have hokB := Lib.hid (fun (o1 o2 : Ob) n (hs : StepR o1 b nb vb n o2) (h1 : b ≠ 1) (ho : o1.Ok) (hn : n = 0 ∨ n = 1) => stepR_ok hs h1 ho hn hlb hvb)
  have hRr := Lib.hid (fun (hg : grK r = false) w' (hh : Below w.heap.size w w') => (h hg).below hh)
  have hokH := Lib.hid hok
  have hna : (bs na).size = na.length := rfl
  have hnb : (bs nb).size = nb.length := rfl
  have hlaH := Lib.hid hla
  have hlbH := Lib.hid hlb
  have haH := Lib.hid ha
  have hvaH := Lib.hid hva
  have hbH := Lib.hid hb
  have hvbH := Lib.hid hvb
  clear h hok ha hva hb hvb hla hlb
  have hb0 : Below w.heap.size w (((w.alloc (.cells #[.int .i64 o.kd, .int .i64 o.rv, .int .u32 o.rt, .int .i64 o.ro, .int .i64 o.pl, .int .i64 o.mi, .slice r.A r.n r.c, .slice r.B r.m r.d, .slice r.P r.k r.e, .slice r.Q r.l r.f] 37)).alloc (.cells #[.int .i64 a, .string (bs na), .int .i64 va] 39)).alloc (.cells #[.int .i64 b, .string (bs nb), .int .i64 vb] 39)) := (((Below.refl _ w).alloc (by first | (simp; done) | (simp; omega) | omega) _).alloc (by first | (simp; done) | (simp; omega) | omega) _).alloc (by first | (simp; done) | (simp; omega) | omega) _
  have hx0 : (((w.alloc (.cells #[.int .i64 o.kd, .int .i64 o.rv, .int .u32 o.rt, .int .i64 o.ro, .int .i64 o.pl, .int .i64 o.mi, .slice r.A r.n r.c, .slice r.B r.m r.d, .slice r.P r.k r.e, .slice r.Q r.l r.f] 37)).alloc (.cells #[.int .i64 a, .string (bs na), .int .i64 va] 39)).alloc (.cells #[.int .i64 b, .string (bs nb), .int .i64 vb] 39)).heap[w.heap.size]? = some (.cells #[.int .i64 o.kd, .int .i64 o.rv, .int .u32 o.rt, .int .i64 o.ro, .int .i64 o.pl, .int .i64 o.mi, .slice r.A r.n r.c, .slice r.B r.m r.d, .slice r.P r.k r.e, .slice r.Q r.l r.f] 37 (0, 0)) := heap_old _ (by first | (simp; done) | (simp; omega) | omega) (heap_old _ (by first | (simp; done) | (simp; omega) | omega) (heap_at _ _ rfl))
  have hx1 : (((w.alloc (.cells #[.int .i64 o.kd, .int .i64 o.rv, .int .u32 o.rt, .int .i64 o.ro, .int .i64 o.pl, .int .i64 o.mi, .slice r.A r.n r.c, .slice r.B r.m r.d, .slice r.P r.k r.e, .slice r.Q r.l r.f] 37)).alloc (.cells #[.int .i64 a, .string (bs na), .int .i64 va] 39)).alloc (.cells #[.int .i64 b, .string (bs nb), .int .i64 vb] 39)).heap[w.heap.size + 1]? = some (.cells #[.int .i64 a, .string (bs na), .int .i64 va] 39 (0, 0)) := heap_old _ (by first | (simp; done) | (simp; omega) | omega) (heap_at _ _ (by simp))
  have hx2 : (((w.alloc (.cells #[.int .i64 o.kd, .int .i64 o.rv, .int .u32 o.rt, .int .i64 o.ro, .int .i64 o.pl, .int .i64 o.mi, .slice r.A r.n r.c, .slice r.B r.m r.d, .slice r.P r.k r.e, .slice r.Q r.l r.f] 37)).alloc (.cells #[.int .i64 a, .string (bs na), .int .i64 va] 39)).alloc (.cells #[.int .i64 b, .string (bs nb), .int .i64 vb] 39)).heap[w.heap.size + 1 + 1]? = some (.cells #[.int .i64 b, .string (bs nb), .int .i64 vb] 39 (0, 0)) := heap_at _ _ (by simp)
  have hzW : (((w.alloc (.cells #[.int .i64 o.kd, .int .i64 o.rv, .int .u32 o.rt, .int .i64 o.ro, .int .i64 o.pl, .int .i64 o.mi, .slice r.A r.n r.c, .slice r.B r.m r.d, .slice r.P r.k r.e, .slice r.Q r.l r.f] 37)).alloc (.cells #[.int .i64 a, .string (bs na), .int .i64 va] 39)).alloc (.cells #[.int .i64 b, .string (bs nb), .int .i64 vb] 39)).heap.size = w.heap.size + 1 + 1 + 1 := by simp
  generalize hW : (((w.alloc (.cells #[.int .i64 o.kd, .int .i64 o.rv, .int .u32 o.rt, .int .i64 o.ro, .int .i64 o.pl, .int .i64 o.mi, .slice r.A r.n r.c, .slice r.B r.m r.d, .slice r.P r.k r.e, .slice r.Q r.l r.f] 37)).alloc (.cells #[.int .i64 a, .string (bs na), .int .i64 va] 39)).alloc (.cells #[.int .i64 b, .string (bs nb), .int .i64 vb] 39)) = W at hb0 hx0 hx1 hx2 hzW
  have hk0 := Lib.hid hx0
  have hk1 := Lib.hid hx1
  have hk2 := Lib.hid hx2
  clear hx0 hx1 hx2
  go_enter Tryz.func3, Tryz.ntmps3
  go_wp2_with fail
  clear hW
  refine (cW.out _).mono ?_
  rintro e w1 ⟨rfl, hv1⟩
  have hy0 := blk_below hk0.out hv1
  have hl0 := blk_lt hy0
  have f0_0 := blk_cell hy0 0
  have f0_1 := blk_cell hy0 1
  have f0_2 := blk_cell hy0 2
  have f0_3 := blk_cell hy0 3
  have f0_4 := blk_cell hy0 4
  have f0_5 := blk_cell hy0 5
  have f0_6 := blk_cell hy0 6
  have f0_7 := blk_cell hy0 7
  have f0_8 := blk_cell hy0 8
  have f0_9 := blk_cell hy0 9
  have hy1 := blk_below hk1.out hv1
  have hl1 := blk_lt hy1
  have f1_0 := blk_cell hy1 0
  have f1_1 := blk_cell hy1 1
  have f1_2 := blk_cell hy1 2
  have hy2 := blk_below hk2.out hv1
  have hl2 := blk_lt hy2
  have f2_0 := blk_cell hy2 0
  have f2_1 := blk_cell hy2 1
  have f2_2 := blk_cell hy2 2
  simp at f0_0 f0_1 f0_2 f0_3 f0_4 f0_5 f0_6 f0_7 f0_8 f0_9 f1_0 f1_1 f1_2 f2_0 f2_1 f2_2
  clear hy0 hy1 hy2
  generalize hgr : grK r = z at cG
  cases z with
  | true =>
    go_upto_region 3 with (fail)
    refine wp_region_M (fun w' => KQ w1.heap.size w1 w') (fun _ => True) 99 (by kernel_rfl) (kq (Below.refl _ _).drew) trivial ?_
    intro hcl
    have hC : KQ w1.heap.size w1 w1.drew := kq (Below.refl _ _).drew
    have hE := trivial
    have hn1 := Nat.le_refl w1.heap.size
    (refine wpM_take (i := 0) (v := ?_) rfl (by kernel_rfl) (by kernel_rfl) (by kernel_rfl) (by decide) (fun _ _ _ h => h) hcl hC (fun _ => hE) (Or.inl ⟨by rfl, ?_⟩) ?_; rotate_left; (· (intro w hSw; (try dsimp only at hSw); go_simp; (try with_reducible rfl))); clear hcl; intro hcl; (try simp only [Act.put, List.getElem_toArray, List.getElem_cons_zero, List.setIfInBounds_toArray, List.set_cons_zero, List.set_cons_succ]))
    (refine wpM_take (i := 1) (v := ?_) rfl (by kernel_rfl) (by kernel_rfl) (by kernel_rfl) (by decide) (fun _ _ _ h => h) hcl hC (fun _ => hE) (Or.inl ⟨by rfl, ?_⟩) ?_; rotate_left; (· (intro w hSw; (try dsimp only at hSw); go_simp; (try with_reducible rfl))); clear hcl; intro hcl; (try simp only [Act.put, List.getElem_toArray, List.getElem_cons_zero, List.getElem_cons_succ, List.setIfInBounds_toArray, List.set_cons_zero, List.set_cons_succ]))
    refine wpM_only (i := 2) rfl (by kernel_rfl) hcl (fun K hK => ?_)
    go_simp
    refine (cG.out _).mono ?_
    rintro e v1 ⟨rfl, hx1⟩
    have hC1 := kq_call hC hn1 hx1
    refine hK.out _ _ hC1 trivial ?_
    clear hK K
    clear hcl
    intro hcl
    (try simp only [Act.put, List.getElem_toArray, List.getElem_cons_zero, List.getElem_cons_succ, List.setIfInBounds_toArray, List.set_cons_zero, List.set_cons_succ])
    clear hC
    have hC := hC1
    clear hC1
    (refine wpM_take (i := 3) (v := ?_) rfl (by kernel_rfl) (by kernel_rfl) (by kernel_rfl) (by decide) (fun _ _ _ h => h) hcl hC (fun _ => hE) (Or.inl ⟨by rfl, ?_⟩) ?_; rotate_left; (· (intro w hSw; (try dsimp only at hSw); go_simp; (try with_reducible rfl))); clear hcl; intro hcl; (try simp only [Act.put, List.getElem_toArray, List.getElem_cons_zero, List.getElem_cons_succ, List.setIfInBounds_toArray, List.set_cons_zero, List.set_cons_succ]))
    (refine wpM_take (i := 4) (v := undef) rfl (by kernel_rfl) (by kernel_rfl) (by kernel_rfl) (by decide) (fun _ _ _ h => h) hcl hC (fun _ => hE) (Or.inr ⟨by rfl, rfl⟩) ?_; clear hcl; intro hcl; (try simp only [Act.put, List.getElem_toArray, List.getElem_cons_zero, List.getElem_cons_succ, List.setIfInBounds_toArray, List.set_cons_zero, List.set_cons_succ]))
    (refine wpM_take (i := 5) (v := undef) rfl (by kernel_rfl) (by kernel_rfl) (by kernel_rfl) (by decide) (fun _ _ _ h => h) hcl hC (fun _ => hE) (Or.inr ⟨by rfl, rfl⟩) ?_; clear hcl; intro hcl; (try simp only [Act.put, List.getElem_toArray, List.getElem_cons_zero, List.getElem_cons_succ, List.setIfInBounds_toArray, List.set_cons_zero, List.set_cons_succ]))
    (refine wpM_take (i := 6) (v := undef) rfl (by kernel_rfl) (by kernel_rfl) (by kernel_rfl) (by decide) (fun _ _ _ h => h) hcl hC (fun _ => hE) (Or.inr ⟨by rfl, rfl⟩) ?_; clear hcl; intro hcl; (try simp only [Act.put, List.getElem_toArray, List.getElem_cons_zero, List.getElem_cons_succ, List.setIfInBounds_toArray, List.set_cons_zero, List.set_cons_succ]))
    (refine wpM_take (i := 7) (v := undef) rfl (by kernel_rfl) (by kernel_rfl) (by kernel_rfl) (by decide) (fun _ _ _ h => h) hcl hC (fun _ => hE) (Or.inr ⟨by rfl, rfl⟩) ?_; clear hcl; intro hcl; (try simp only [Act.put, List.getElem_toArray, List.getElem_cons_zero, List.getElem_cons_succ, List.setIfInBounds_toArray, List.set_cons_zero, List.set_cons_succ]))
    (refine wpM_take (i := 8) (v := ?_) rfl (by kernel_rfl) (by kernel_rfl) (by kernel_rfl) (by decide) (fun _ _ _ h => h) hcl hC (fun _ => hE) (Or.inl ⟨by rfl, ?_⟩) ?_; rotate_left; (· (intro w hSw; (try dsimp only at hSw); go_simp; (try with_reducible rfl))); clear hcl; intro hcl; (try simp only [Act.put, List.getElem_toArray, List.getElem_cons_zero, List.getElem_cons_succ, List.setIfInBounds_toArray, List.set_cons_zero, List.set_cons_succ]))
    (refine wpM_take (i := 9) (v := ?_) rfl (by kernel_rfl) (by kernel_rfl) (by kernel_rfl) (by decide) (fun _ _ _ h => h) hcl hC (fun _ => hE) (Or.inl ⟨by rfl, ?_⟩) ?_; rotate_left; (· (intro w hSw; (try dsimp only at hSw); go_simp; (try with_reducible rfl))); clear hcl; intro hcl; (try simp only [Act.put, List.getElem_toArray, List.getElem_cons_zero, List.getElem_cons_succ, List.setIfInBounds_toArray, List.set_cons_zero, List.set_cons_succ]))
    (refine wpM_take (i := 10) (v := undef) rfl (by kernel_rfl) (by kernel_rfl) (by kernel_rfl) (by decide) (fun _ _ _ h => h) hcl hC (fun _ => hE) (Or.inr ⟨by rfl, rfl⟩) ?_; clear hcl; intro hcl; (try simp only [Act.put, List.getElem_toArray, List.getElem_cons_zero, List.getElem_cons_succ, List.setIfInBounds_toArray, List.set_cons_zero, List.set_cons_succ]))
    (refine wpM_take (i := 11) (v := undef) rfl (by kernel_rfl) (by kernel_rfl) (by kernel_rfl) (by decide) (fun _ _ _ h => h) hcl hC (fun _ => hE) (Or.inr ⟨by rfl, rfl⟩) ?_; clear hcl; intro hcl; (try simp only [Act.put, List.getElem_toArray, List.getElem_cons_zero, List.getElem_cons_succ, List.setIfInBounds_toArray, List.set_cons_zero, List.set_cons_succ]))
    (refine wpM_take (i := 12) (v := undef) rfl (by kernel_rfl) (by kernel_rfl) (by kernel_rfl) (by decide) (fun _ _ _ h => h) hcl hC (fun _ => hE) (Or.inr ⟨by rfl, rfl⟩) ?_; clear hcl; intro hcl; (try simp only [Act.put, List.getElem_toArray, List.getElem_cons_zero, List.getElem_cons_succ, List.setIfInBounds_toArray, List.set_cons_zero, List.set_cons_succ]))
    (refine wpM_take (i := 13) (v := undef) rfl (by kernel_rfl) (by kernel_rfl) (by kernel_rfl) (by decide) (fun _ _ _ h => h) hcl hC (fun _ => hE) (Or.inr ⟨by rfl, rfl⟩) ?_; clear hcl; intro hcl; (try simp only [Act.put, List.getElem_toArray, List.getElem_cons_zero, List.getElem_cons_succ, List.setIfInBounds_toArray, List.set_cons_zero, List.set_cons_succ]))
    (refine wpM_take (i := 14) (v := ?_) rfl (by kernel_rfl) (by kernel_rfl) (by kernel_rfl) (by decide) (fun _ _ _ h => h) hcl hC (fun _ => hE) (Or.inl ⟨by rfl, ?_⟩) ?_; rotate_left; (· (intro w hSw; (try dsimp only at hSw); go_simp; (try with_reducible rfl))); clear hcl; intro hcl; (try simp only [Act.put, List.getElem_toArray, List.getElem_cons_zero, List.getElem_cons_succ, List.setIfInBounds_toArray, List.set_cons_zero, List.set_cons_succ]))
    (refine wpM_take (i := 15) (v := ?_) rfl (by kernel_rfl) (by kernel_rfl) (by kernel_rfl) (by decide) (fun _ _ _ h => h) hcl hC (fun _ => hE) (Or.inl ⟨by rfl, ?_⟩) ?_; rotate_left; (· (intro w hSw; (try dsimp only at hSw); go_simp; (try with_reducible rfl))); clear hcl; intro hcl; (try simp only [Act.put, List.getElem_toArray, List.getElem_cons_zero, List.getElem_cons_succ, List.setIfInBounds_toArray, List.set_cons_zero, List.set_cons_succ]))
    (refine wpM_take (i := 16) (v := undef) rfl (by kernel_rfl) (by kernel_rfl) (by kernel_rfl) (by decide) (fun _ _ _ h => h) hcl hC (fun _ => hE) (Or.inr ⟨by rfl, rfl⟩) ?_; clear hcl; intro hcl; (try simp only [Act.put, List.getElem_toArray, List.getElem_cons_zero, List.getElem_cons_succ, List.setIfInBounds_toArray, List.set_cons_zero, List.set_cons_succ]))
    (refine wpM_take (i := 18) (v := undef) rfl (by kernel_rfl) (by kernel_rfl) (by kernel_rfl) (by decide) (fun _ _ _ h => h) hcl hC (fun _ => hE) (Or.inr ⟨by rfl, rfl⟩) ?_; clear hcl; intro hcl; (try simp only [Act.put, List.getElem_toArray, List.getElem_cons_zero, List.getElem_cons_succ, List.setIfInBounds_toArray, List.set_cons_zero, List.set_cons_succ]))
    refine wpM_only (i := 17) rfl (by kernel_rfl) hcl (fun K hK => ?_)
    go_simp
    refine hK.out _ _ hC trivial ?_
    clear hK K
    clear hcl
    intro hcl
    (try simp only [Act.put, List.getElem_toArray, List.getElem_cons_zero, List.getElem_cons_succ, List.setIfInBounds_toArray, List.set_cons_zero, List.set_cons_succ])
    refine wpM_only (i := 19) rfl (by kernel_rfl) hcl (fun K hK => ?_)
    go_simp
    refine hK.out _ _ hC trivial ?_
    clear hK K
    clear hcl
    intro hcl
    (try simp only [Act.put, List.getElem_toArray, List.getElem_cons_zero, List.getElem_cons_succ, List.setIfInBounds_toArray, List.set_cons_zero, List.set_cons_succ])
    refine wpM_only (i := 20) rfl (by kernel_rfl) hcl (fun K hK => ?_)
    go_simp
    refine hK.out _ _ hC trivial ?_
    clear hK K
    clear hcl
    intro hcl
    (try simp only [Act.put, List.getElem_toArray, List.getElem_cons_zero, List.getElem_cons_succ, List.setIfInBounds_toArray, List.set_cons_zero, List.set_cons_succ])
    (refine wpM_take (i := 21) (v := ?_) rfl (by kernel_rfl) (by kernel_rfl) (by kernel_rfl) (by decide) (fun _ _ _ h => h) hcl hC (fun _ => hE) (Or.inl ⟨by rfl, ?_⟩) ?_; rotate_left; (· (intro w hSw; (try dsimp only at hSw); go_simp; (try with_reducible rfl))); clear hcl; intro hcl; (try simp only [Act.put, List.getElem_toArray, List.getElem_cons_zero, List.getElem_cons_succ, List.setIfInBounds_toArray, List.set_cons_zero, List.set_cons_succ]))
    refine wpM_done (by kernel_rfl) ?_
    clear hcl
    (try simp only [Act.put, List.getElem_toArray, List.getElem_cons_zero, List.getElem_cons_succ, List.setIfInBounds_toArray, List.set_cons_zero, List.set_cons_succ])
    have hv2 := hv1.trans (hC.1.mono hv1.size)
    clear hC hv1
    generalize v1 = w2 at hv2 ⊢
    have hG2 := hb0.trans (hv2.mono hb0.size)
    clear f0_0 f0_1 f0_2 f0_3 f0_4 f0_5 f0_6 f0_7 f0_8 f0_9 f1_0 f1_1 f1_2 f2_0 f2_1 f2_2 hl0 hl1 hl2
    go_wp2_with fail
    go_ret
    exact ⟨rfl, hG2⟩
  | false =>
  by_cases h1 : (500 : Int) < (na.length : Int)
  · have d1 : decide ((500 : Int) < (na.length : Int)) = true := decide_eq_true h1
    go_upto_region 3 with (fail)
    refine wp_region_M (fun w' => KQ w1.heap.size w1 w') (fun _ => True) 99 (by kernel_rfl) (kq (Below.refl _ _).drew) trivial ?_
    intro hcl
    have hC : KQ w1.heap.size w1 w1.drew := kq (Below.refl _ _).drew
    have hE := trivial
    have hn1 := Nat.le_refl w1.heap.size
    (refine wpM_take (i := 0) (v := ?_) rfl (by kernel_rfl) (by kernel_rfl) (by kernel_rfl) (by decide) (fun _ _ _ h => h) hcl hC (fun _ => hE) (Or.inl ⟨by rfl, ?_⟩) ?_; rotate_left; (· (intro w hSw; (try dsimp only at hSw); go_simp; (try with_reducible rfl))); clear hcl; intro hcl; (try simp only [Act.put, List.getElem_toArray, List.getElem_cons_zero, List.setIfInBounds_toArray, List.set_cons_zero, List.set_cons_succ]))
    (refine wpM_take (i := 1) (v := ?_) rfl (by kernel_rfl) (by kernel_rfl) (by kernel_rfl) (by decide) (fun _ _ _ h => h) hcl hC (fun _ => hE) (Or.inl ⟨by rfl, ?_⟩) ?_; rotate_left; (· (intro w hSw; (try dsimp only at hSw); go_simp; (try with_reducible rfl))); clear hcl; intro hcl; (try simp only [Act.put, List.getElem_toArray, List.getElem_cons_zero, List.getElem_cons_succ, List.setIfInBounds_toArray, List.set_cons_zero, List.set_cons_succ]))
    refine wpM_only (i := 2) rfl (by kernel_rfl) hcl (fun K hK => ?_)
    go_simp
    refine (cG.out _).mono ?_
    rintro e v1 ⟨rfl, hx1⟩
    have hC1 := kq_call hC hn1 hx1
    refine hK.out _ _ hC1 trivial ?_
    clear hK K
    clear hcl
    intro hcl
    (try simp only [Act.put, List.getElem_toArray, List.getElem_cons_zero, List.getElem_cons_succ, List.setIfInBounds_toArray, List.set_cons_zero, List.set_cons_succ])
    clear hC
    have hC := hC1
    clear hC1
    (refine wpM_take (i := 3) (v := ?_) rfl (by kernel_rfl) (by kernel_rfl) (by kernel_rfl) (by decide) (fun _ _ _ h => h) hcl hC (fun _ => hE) (Or.inl ⟨by rfl, ?_⟩) ?_; rotate_left; (· (intro w hSw; (try dsimp only at hSw); go_simp; (try with_reducible rfl))); clear hcl; intro hcl; (try simp only [Act.put, List.getElem_toArray, List.getElem_cons_zero, List.getElem_cons_succ, List.setIfInBounds_toArray, List.set_cons_zero, List.set_cons_succ]))
    (refine wpM_take (i := 4) (v := ?_) rfl (by kernel_rfl) (by kernel_rfl) (by kernel_rfl) (by decide) (fun _ _ _ h => h) hcl hC (fun _ => hE) (Or.inl ⟨by rfl, ?_⟩) ?_; rotate_left; (· (intro w hSw; (try dsimp only at hSw); go_simp; (try with_reducible rfl))); clear hcl; intro hcl; (try simp only [Act.put, List.getElem_toArray, List.getElem_cons_zero, List.getElem_cons_succ, List.setIfInBounds_toArray, List.set_cons_zero, List.set_cons_succ]))
    (refine wpM_take (i := 5) (v := ?_) rfl (by kernel_rfl) (by kernel_rfl) (by kernel_rfl) (by decide) (fun _ _ _ h => h) hcl hC (fun _ => hE) (Or.inl ⟨by rfl, ?_⟩) ?_; rotate_left; (· (intro w hSw; (try dsimp only at hSw); go_simp; (try with_reducible rfl))); clear hcl; intro hcl; (try simp only [Act.put, List.getElem_toArray, List.getElem_cons_zero, List.getElem_cons_succ, List.setIfInBounds_toArray, List.set_cons_zero, List.set_cons_succ]))
    (refine wpM_take (i := 6) (v := ?_) rfl (by kernel_rfl) (by kernel_rfl) (by kernel_rfl) (by decide) (fun _ _ _ h => h) hcl hC (fun _ => hE) (Or.inl ⟨by rfl, ?_⟩) ?_; rotate_left; (· (intro w hSw; (try dsimp only at hSw); go_simp; (try with_reducible rfl))); clear hcl; intro hcl; (try simp only [Act.put, List.getElem_toArray, List.getElem_cons_zero, List.getElem_cons_succ, List.setIfInBounds_toArray, List.set_cons_zero, List.set_cons_succ]))
    (refine wpM_take (i := 7) (v := ?_) rfl (by kernel_rfl) (by kernel_rfl) (by kernel_rfl) (by decide) (fun _ _ _ h => h) hcl hC (fun _ => hE) (Or.inl ⟨by rfl, ?_⟩) ?_; rotate_left; (· (intro w hSw; (try dsimp only at hSw); go_simp; (try with_reducible rfl))); clear hcl; intro hcl; (try simp only [Act.put, List.getElem_toArray, List.getElem_cons_zero, List.getElem_cons_succ, List.setIfInBounds_toArray, List.set_cons_zero, List.set_cons_succ]))
    (refine wpM_take (i := 8) (v := ?_) rfl (by kernel_rfl) (by kernel_rfl) (by kernel_rfl) (by decide) (fun _ _ _ h => h) hcl hC (fun _ => hE) (Or.inl ⟨by rfl, ?_⟩) ?_; rotate_left; (· (intro w hSw; (try dsimp only at hSw); go_simp; (try with_reducible rfl))); clear hcl; intro hcl; (try simp only [Act.put, List.getElem_toArray, List.getElem_cons_zero, List.getElem_cons_succ, List.setIfInBounds_toArray, List.set_cons_zero, List.set_cons_succ]))
    (refine wpM_take (i := 9) (v := ?_) rfl (by kernel_rfl) (by kernel_rfl) (by kernel_rfl) (by decide) (fun _ _ _ h => h) hcl hC (fun _ => hE) (Or.inl ⟨by rfl, ?_⟩) ?_; rotate_left; (· (intro w hSw; (try dsimp only at hSw); go_simp; (try with_reducible rfl))); clear hcl; intro hcl; (try simp only [Act.put, List.getElem_toArray, List.getElem_cons_zero, List.getElem_cons_succ, List.setIfInBounds_toArray, List.set_cons_zero, List.set_cons_succ]))
    (refine wpM_take (i := 10) (v := undef) rfl (by kernel_rfl) (by kernel_rfl) (by kernel_rfl) (by decide) (fun _ _ _ h => h) hcl hC (fun _ => hE) (Or.inr ⟨by rfl, rfl⟩) ?_; clear hcl; intro hcl; (try simp only [Act.put, List.getElem_toArray, List.getElem_cons_zero, List.getElem_cons_succ, List.setIfInBounds_toArray, List.set_cons_zero, List.set_cons_succ]))
    (refine wpM_take (i := 11) (v := undef) rfl (by kernel_rfl) (by kernel_rfl) (by kernel_rfl) (by decide) (fun _ _ _ h => h) hcl hC (fun _ => hE) (Or.inr ⟨by rfl, rfl⟩) ?_; clear hcl; intro hcl; (try simp only [Act.put, List.getElem_toArray, List.getElem_cons_zero, List.getElem_cons_succ, List.setIfInBounds_toArray, List.set_cons_zero, List.set_cons_succ]))
    (refine wpM_take (i := 12) (v := undef) rfl (by kernel_rfl) (by kernel_rfl) (by kernel_rfl) (by decide) (fun _ _ _ h => h) hcl hC (fun _ => hE) (Or.inr ⟨by rfl, rfl⟩) ?_; clear hcl; intro hcl; (try simp only [Act.put, List.getElem_toArray, List.getElem_cons_zero, List.getElem_cons_succ, List.setIfInBounds_toArray, List.set_cons_zero, List.set_cons_succ]))
    (refine wpM_take (i := 13) (v := undef) rfl (by kernel_rfl) (by kernel_rfl) (by kernel_rfl) (by decide) (fun _ _ _ h => h) hcl hC (fun _ => hE) (Or.inr ⟨by rfl, rfl⟩) ?_; clear hcl; intro hcl; (try simp only [Act.put, List.getElem_toArray, List.getElem_cons_zero, List.getElem_cons_succ, List.setIfInBounds_toArray, List.set_cons_zero, List.set_cons_succ]))
    (refine wpM_take (i := 14) (v := ?_) rfl (by kernel_rfl) (by kernel_rfl) (by kernel_rfl) (by decide) (fun _ _ _ h => h) hcl hC (fun _ => hE) (Or.inl ⟨by rfl, ?_⟩) ?_; rotate_left; (· (intro w hSw; (try dsimp only at hSw); go_simp; (try with_reducible rfl))); clear hcl; intro hcl; (try simp only [Act.put, List.getElem_toArray, List.getElem_cons_zero, List.getElem_cons_succ, List.setIfInBounds_toArray, List.set_cons_zero, List.set_cons_succ]))
    (refine wpM_take (i := 15) (v := ?_) rfl (by kernel_rfl) (by kernel_rfl) (by kernel_rfl) (by decide) (fun _ _ _ h => h) hcl hC (fun _ => hE) (Or.inl ⟨by rfl, ?_⟩) ?_; rotate_left; (· (intro w hSw; (try dsimp only at hSw); go_simp; (try with_reducible rfl))); clear hcl; intro hcl; (try simp only [Act.put, List.getElem_toArray, List.getElem_cons_zero, List.getElem_cons_succ, List.setIfInBounds_toArray, List.set_cons_zero, List.set_cons_succ]))
    (refine wpM_take (i := 16) (v := undef) rfl (by kernel_rfl) (by kernel_rfl) (by kernel_rfl) (by decide) (fun _ _ _ h => h) hcl hC (fun _ => hE) (Or.inr ⟨by rfl, rfl⟩) ?_; clear hcl; intro hcl; (try simp only [Act.put, List.getElem_toArray, List.getElem_cons_zero, List.getElem_cons_succ, List.setIfInBounds_toArray, List.set_cons_zero, List.set_cons_succ]))
    (refine wpM_take (i := 18) (v := undef) rfl (by kernel_rfl) (by kernel_rfl) (by kernel_rfl) (by decide) (fun _ _ _ h => h) hcl hC (fun _ => hE) (Or.inr ⟨by rfl, rfl⟩) ?_; clear hcl; intro hcl; (try simp only [Act.put, List.getElem_toArray, List.getElem_cons_zero, List.getElem_cons_succ, List.setIfInBounds_toArray, List.set_cons_zero, List.set_cons_succ]))
    refine wpM_only (i := 17) rfl (by kernel_rfl) hcl (fun K hK => ?_)
    go_simp
    refine hK.out _ _ hC trivial ?_
    clear hK K
    clear hcl
    intro hcl
    (try simp only [Act.put, List.getElem_toArray, List.getElem_cons_zero, List.getElem_cons_succ, List.setIfInBounds_toArray, List.set_cons_zero, List.set_cons_succ])
    refine wpM_only (i := 19) rfl (by kernel_rfl) hcl (fun K hK => ?_)
    go_simp
    refine hK.out _ _ hC trivial ?_
    clear hK K
    clear hcl
    intro hcl
    (try simp only [Act.put, List.getElem_toArray, List.getElem_cons_zero, List.getElem_cons_succ, List.setIfInBounds_toArray, List.set_cons_zero, List.set_cons_succ])
    refine wpM_only (i := 20) rfl (by kernel_rfl) hcl (fun K hK => ?_)
    go_simp
    refine hK.out _ _ hC trivial ?_
    clear hK K
    clear hcl
    intro hcl
    (try simp only [Act.put, List.getElem_toArray, List.getElem_cons_zero, List.getElem_cons_succ, List.setIfInBounds_toArray, List.set_cons_zero, List.set_cons_succ])
    (refine wpM_take (i := 21) (v := ?_) rfl (by kernel_rfl) (by kernel_rfl) (by kernel_rfl) (by decide) (fun _ _ _ h => h) hcl hC (fun _ => hE) (Or.inl ⟨by rfl, ?_⟩) ?_; rotate_left; (· (intro w hSw; (try dsimp only at hSw); go_simp; (try with_reducible rfl))); clear hcl; intro hcl; (try simp only [Act.put, List.getElem_toArray, List.getElem_cons_zero, List.getElem_cons_succ, List.setIfInBounds_toArray, List.set_cons_zero, List.set_cons_succ]))
    refine wpM_done (by kernel_rfl) ?_
    clear hcl
    (try simp only [Act.put, List.getElem_toArray, List.getElem_cons_zero, List.getElem_cons_succ, List.setIfInBounds_toArray, List.set_cons_zero, List.set_cons_succ])
    have hv2 := hv1.trans (hC.1.mono hv1.size)
    clear hC hv1
    generalize v1 = w2 at hv2 ⊢
    have hG2 := hb0.trans (hv2.mono hb0.size)
    clear f0_0 f0_1 f0_2 f0_3 f0_4 f0_5 f0_6 f0_7 f0_8 f0_9 f1_0 f1_1 f1_2 f2_0 f2_1 f2_2 hl0 hl1 hl2
    go_wp2_with fail
    go_ret
    exact ⟨rfl, hG2⟩
  have d1 : decide ((500 : Int) < (na.length : Int)) = false := decide_eq_false h1
  by_cases h2 : (500 : Int) < (nb.length : Int)
  · have d2 : decide ((500 : Int) < (nb.length : Int)) = true := decide_eq_true h2
    go_upto_region 3 with (fail)
    refine wp_region_M (fun w' => KQ w1.heap.size w1 w') (fun _ => True) 99 (by kernel_rfl) (kq (Below.refl _ _).drew) trivial ?_
    intro hcl
    have hC : KQ w1.heap.size w1 w1.drew := kq (Below.refl _ _).drew
    have hE := trivial
    have hn1 := Nat.le_refl w1.heap.size
    (refine wpM_take (i := 0) (v := ?_) rfl (by kernel_rfl) (by kernel_rfl) (by kernel_rfl) (by decide) (fun _ _ _ h => h) hcl hC (fun _ => hE) (Or.inl ⟨by rfl, ?_⟩) ?_; rotate_left; (· (intro w hSw; (try dsimp only at hSw); go_simp; (try with_reducible rfl))); clear hcl; intro hcl; (try simp only [Act.put, List.getElem_toArray, List.getElem_cons_zero, List.setIfInBounds_toArray, List.set_cons_zero, List.set_cons_succ]))
    (refine wpM_take (i := 1) (v := ?_) rfl (by kernel_rfl) (by kernel_rfl) (by kernel_rfl) (by decide) (fun _ _ _ h => h) hcl hC (fun _ => hE) (Or.inl ⟨by rfl, ?_⟩) ?_; rotate_left; (· (intro w hSw; (try dsimp only at hSw); go_simp; (try with_reducible rfl))); clear hcl; intro hcl; (try simp only [Act.put, List.getElem_toArray, List.getElem_cons_zero, List.getElem_cons_succ, List.setIfInBounds_toArray, List.set_cons_zero, List.set_cons_succ]))
    refine wpM_only (i := 2) rfl (by kernel_rfl) hcl (fun K hK => ?_)
    go_simp
    refine (cG.out _).mono ?_
    rintro e v1 ⟨rfl, hx1⟩
    have hC1 := kq_call hC hn1 hx1
    refine hK.out _ _ hC1 trivial ?_
    clear hK K
    clear hcl
    intro hcl
    (try simp only [Act.put, List.getElem_toArray, List.getElem_cons_zero, List.getElem_cons_succ, List.setIfInBounds_toArray, List.set_cons_zero, List.set_cons_succ])
    clear hC
    have hC := hC1
    clear hC1
    (refine wpM_take (i := 3) (v := ?_) rfl (by kernel_rfl) (by kernel_rfl) (by kernel_rfl) (by decide) (fun _ _ _ h => h) hcl hC (fun _ => hE) (Or.inl ⟨by rfl, ?_⟩) ?_; rotate_left; (· (intro w hSw; (try dsimp only at hSw); go_simp; (try with_reducible rfl))); clear hcl; intro hcl; (try simp only [Act.put, List.getElem_toArray, List.getElem_cons_zero, List.getElem_cons_succ, List.setIfInBounds_toArray, List.set_cons_zero, List.set_cons_succ]))
    (refine wpM_take (i := 4) (v := ?_) rfl (by kernel_rfl) (by kernel_rfl) (by kernel_rfl) (by decide) (fun _ _ _ h => h) hcl hC (fun _ => hE) (Or.inl ⟨by rfl, ?_⟩) ?_; rotate_left; (· (intro w hSw; (try dsimp only at hSw); go_simp; (try with_reducible rfl))); clear hcl; intro hcl; (try simp only [Act.put, List.getElem_toArray, List.getElem_cons_zero, List.getElem_cons_succ, List.setIfInBounds_toArray, List.set_cons_zero, List.set_cons_succ]))
    (refine wpM_take (i := 5) (v := ?_) rfl (by kernel_rfl) (by kernel_rfl) (by kernel_rfl) (by decide) (fun _ _ _ h => h) hcl hC (fun _ => hE) (Or.inl ⟨by rfl, ?_⟩) ?_; rotate_left; (· (intro w hSw; (try dsimp only at hSw); go_simp; (try with_reducible rfl))); clear hcl; intro hcl; (try simp only [Act.put, List.getElem_toArray, List.getElem_cons_zero, List.getElem_cons_succ, List.setIfInBounds_toArray, List.set_cons_zero, List.set_cons_succ]))
    (refine wpM_take (i := 6) (v := ?_) rfl (by kernel_rfl) (by kernel_rfl) (by kernel_rfl) (by decide) (fun _ _ _ h => h) hcl hC (fun _ => hE) (Or.inl ⟨by rfl, ?_⟩) ?_; rotate_left; (· (intro w hSw; (try dsimp only at hSw); go_simp; (try with_reducible rfl))); clear hcl; intro hcl; (try simp only [Act.put, List.getElem_toArray, List.getElem_cons_zero, List.getElem_cons_succ, List.setIfInBounds_toArray, List.set_cons_zero, List.set_cons_succ]))
    (refine wpM_take (i := 7) (v := ?_) rfl (by kernel_rfl) (by kernel_rfl) (by kernel_rfl) (by decide) (fun _ _ _ h => h) hcl hC (fun _ => hE) (Or.inl ⟨by rfl, ?_⟩) ?_; rotate_left; (· (intro w hSw; (try dsimp only at hSw); go_simp; (try with_reducible rfl))); clear hcl; intro hcl; (try simp only [Act.put, List.getElem_toArray, List.getElem_cons_zero, List.getElem_cons_succ, List.setIfInBounds_toArray, List.set_cons_zero, List.set_cons_succ]))
    (refine wpM_take (i := 8) (v := ?_) rfl (by kernel_rfl) (by kernel_rfl) (by kernel_rfl) (by decide) (fun _ _ _ h => h) hcl hC (fun _ => hE) (Or.inl ⟨by rfl, ?_⟩) ?_; rotate_left; (· (intro w hSw; (try dsimp only at hSw); go_simp; (try with_reducible rfl))); clear hcl; intro hcl; (try simp only [Act.put, List.getElem_toArray, List.getElem_cons_zero, List.getElem_cons_succ, List.setIfInBounds_toArray, List.set_cons_zero, List.set_cons_succ]))
    (refine wpM_take (i := 9) (v := ?_) rfl (by kernel_rfl) (by kernel_rfl) (by kernel_rfl) (by decide) (fun _ _ _ h => h) hcl hC (fun _ => hE) (Or.inl ⟨by rfl, ?_⟩) ?_; rotate_left; (· (intro w hSw; (try dsimp only at hSw); go_simp; (try with_reducible rfl))); clear hcl; intro hcl; (try simp only [Act.put, List.getElem_toArray, List.getElem_cons_zero, List.getElem_cons_succ, List.setIfInBounds_toArray, List.set_cons_zero, List.set_cons_succ]))
    (refine wpM_take (i := 10) (v := ?_) rfl (by kernel_rfl) (by kernel_rfl) (by kernel_rfl) (by decide) (fun _ _ _ h => h) hcl hC (fun _ => hE) (Or.inl ⟨by rfl, ?_⟩) ?_; rotate_left; (· (intro w hSw; (try dsimp only at hSw); go_simp; (try with_reducible rfl))); clear hcl; intro hcl; (try simp only [Act.put, List.getElem_toArray, List.getElem_cons_zero, List.getElem_cons_succ, List.setIfInBounds_toArray, List.set_cons_zero, List.set_cons_succ]))
    (refine wpM_take (i := 11) (v := ?_) rfl (by kernel_rfl) (by kernel_rfl) (by kernel_rfl) (by decide) (fun _ _ _ h => h) hcl hC (fun _ => hE) (Or.inl ⟨by rfl, ?_⟩) ?_; rotate_left; (· (intro w hSw; (try dsimp only at hSw); go_simp; (try with_reducible rfl))); clear hcl; intro hcl; (try simp only [Act.put, List.getElem_toArray, List.getElem_cons_zero, List.getElem_cons_succ, List.setIfInBounds_toArray, List.set_cons_zero, List.set_cons_succ]))
    (refine wpM_take (i := 12) (v := ?_) rfl (by kernel_rfl) (by kernel_rfl) (by kernel_rfl) (by decide) (fun _ _ _ h => h) hcl hC (fun _ => hE) (Or.inl ⟨by rfl, ?_⟩) ?_; rotate_left; (· (intro w hSw; (try dsimp only at hSw); go_simp; (try with_reducible rfl))); clear hcl; intro hcl; (try simp only [Act.put, List.getElem_toArray, List.getElem_cons_zero, List.getElem_cons_succ, List.setIfInBounds_toArray, List.set_cons_zero, List.set_cons_succ]))
    (refine wpM_take (i := 13) (v := ?_) rfl (by kernel_rfl) (by kernel_rfl) (by kernel_rfl) (by decide) (fun _ _ _ h => h) hcl hC (fun _ => hE) (Or.inl ⟨by rfl, ?_⟩) ?_; rotate_left; (· (intro w hSw; (try dsimp only at hSw); go_simp; (try with_reducible rfl))); clear hcl; intro hcl; (try simp only [Act.put, List.getElem_toArray, List.getElem_cons_zero, List.getElem_cons_succ, List.setIfInBounds_toArray, List.set_cons_zero, List.set_cons_succ]))
    (refine wpM_take (i := 14) (v := ?_) rfl (by kernel_rfl) (by kernel_rfl) (by kernel_rfl) (by decide) (fun _ _ _ h => h) hcl hC (fun _ => hE) (Or.inl ⟨by rfl, ?_⟩) ?_; rotate_left; (· (intro w hSw; (try dsimp only at hSw); go_simp; (try with_reducible rfl))); clear hcl; intro hcl; (try simp only [Act.put, List.getElem_toArray, List.getElem_cons_zero, List.getElem_cons_succ, List.setIfInBounds_toArray, List.set_cons_zero, List.set_cons_succ]))
    (refine wpM_take (i := 15) (v := ?_) rfl (by kernel_rfl) (by kernel_rfl) (by kernel_rfl) (by decide) (fun _ _ _ h => h) hcl hC (fun _ => hE) (Or.inl ⟨by rfl, ?_⟩) ?_; rotate_left; (· (intro w hSw; (try dsimp only at hSw); go_simp; (try with_reducible rfl))); clear hcl; intro hcl; (try simp only [Act.put, List.getElem_toArray, List.getElem_cons_zero, List.getElem_cons_succ, List.setIfInBounds_toArray, List.set_cons_zero, List.set_cons_succ]))
    (refine wpM_take (i := 16) (v := undef) rfl (by kernel_rfl) (by kernel_rfl) (by kernel_rfl) (by decide) (fun _ _ _ h => h) hcl hC (fun _ => hE) (Or.inr ⟨by rfl, rfl⟩) ?_; clear hcl; intro hcl; (try simp only [Act.put, List.getElem_toArray, List.getElem_cons_zero, List.getElem_cons_succ, List.setIfInBounds_toArray, List.set_cons_zero, List.set_cons_succ]))
    (refine wpM_take (i := 18) (v := undef) rfl (by kernel_rfl) (by kernel_rfl) (by kernel_rfl) (by decide) (fun _ _ _ h => h) hcl hC (fun _ => hE) (Or.inr ⟨by rfl, rfl⟩) ?_; clear hcl; intro hcl; (try simp only [Act.put, List.getElem_toArray, List.getElem_cons_zero, List.getElem_cons_succ, List.setIfInBounds_toArray, List.set_cons_zero, List.set_cons_succ]))
    refine wpM_only (i := 17) rfl (by kernel_rfl) hcl (fun K hK => ?_)
    go_simp
    refine hK.out _ _ hC trivial ?_
    clear hK K
    clear hcl
    intro hcl
    (try simp only [Act.put, List.getElem_toArray, List.getElem_cons_zero, List.getElem_cons_succ, List.setIfInBounds_toArray, List.set_cons_zero, List.set_cons_succ])
    refine wpM_only (i := 19) rfl (by kernel_rfl) hcl (fun K hK => ?_)
    go_simp
    refine hK.out _ _ hC trivial ?_
    clear hK K
    clear hcl
    intro hcl
    (try simp only [Act.put, List.getElem_toArray, List.getElem_cons_zero, List.getElem_cons_succ, List.setIfInBounds_toArray, List.set_cons_zero, List.set_cons_succ])
    refine wpM_only (i := 20) rfl (by kernel_rfl) hcl (fun K hK => ?_)
    go_simp
    refine hK.out _ _ hC trivial ?_
    clear hK K
    clear hcl
    intro hcl
    (try simp only [Act.put, List.getElem_toArray, List.getElem_cons_zero, List.getElem_cons_succ, List.setIfInBounds_toArray, List.set_cons_zero, List.set_cons_succ])
    (refine wpM_take (i := 21) (v := ?_) rfl (by kernel_rfl) (by kernel_rfl) (by kernel_rfl) (by decide) (fun _ _ _ h => h) hcl hC (fun _ => hE) (Or.inl ⟨by rfl, ?_⟩) ?_; rotate_left; (· (intro w hSw; (try dsimp only at hSw); go_simp; (try with_reducible rfl))); clear hcl; intro hcl; (try simp only [Act.put, List.getElem_toArray, List.getElem_cons_zero, List.getElem_cons_succ, List.setIfInBounds_toArray, List.set_cons_zero, List.set_cons_succ]))
    refine wpM_done (by kernel_rfl) ?_
    clear hcl
    (try simp only [Act.put, List.getElem_toArray, List.getElem_cons_zero, List.getElem_cons_succ, List.setIfInBounds_toArray, List.set_cons_zero, List.set_cons_succ])
    have hv2 := hv1.trans (hC.1.mono hv1.size)
    clear hC hv1
    generalize v1 = w2 at hv2 ⊢
    have hG2 := hb0.trans (hv2.mono hb0.size)
    clear f0_0 f0_1 f0_2 f0_3 f0_4 f0_5 f0_6 f0_7 f0_8 f0_9 f1_0 f1_1 f1_2 f2_0 f2_1 f2_2 hl0 hl1 hl2
    go_wp2_with fail
    go_ret
    exact ⟨rfl, hG2⟩
  have d2 : decide ((500 : Int) < (nb.length : Int)) = false := decide_eq_false h2
  generalize hop : opsB a b (na == nb) = z at cO
  cases z with
  | true =>
    go_upto_region 3 with (fail)
    refine wp_region_M (fun w' => KQ w1.heap.size w1 w') (fun _ => True) 99 (by kernel_rfl) (kq (Below.refl _ _).drew) trivial ?_
    intro hcl
    have hC : KQ w1.heap.size w1 w1.drew := kq (Below.refl _ _).drew
    have hE := trivial
    have hn1 := Nat.le_refl w1.heap.size
    (refine wpM_take (i := 0) (v := ?_) rfl (by kernel_rfl) (by kernel_rfl) (by kernel_rfl) (by decide) (fun _ _ _ h => h) hcl hC (fun _ => hE) (Or.inl ⟨by rfl, ?_⟩) ?_; rotate_left; (· (intro w hSw; (try dsimp only at hSw); go_simp; (try with_reducible rfl))); clear hcl; intro hcl; (try simp only [Act.put, List.getElem_toArray, List.getElem_cons_zero, List.setIfInBounds_toArray, List.set_cons_zero, List.set_cons_succ]))
    (refine wpM_take (i := 1) (v := ?_) rfl (by kernel_rfl) (by kernel_rfl) (by kernel_rfl) (by decide) (fun _ _ _ h => h) hcl hC (fun _ => hE) (Or.inl ⟨by rfl, ?_⟩) ?_; rotate_left; (· (intro w hSw; (try dsimp only at hSw); go_simp; (try with_reducible rfl))); clear hcl; intro hcl; (try simp only [Act.put, List.getElem_toArray, List.getElem_cons_zero, List.getElem_cons_succ, List.setIfInBounds_toArray, List.set_cons_zero, List.set_cons_succ]))
    refine wpM_only (i := 2) rfl (by kernel_rfl) hcl (fun K hK => ?_)
    go_simp
    refine (cG.out _).mono ?_
    rintro e v1 ⟨rfl, hx1⟩
    have hC1 := kq_call hC hn1 hx1
    refine hK.out _ _ hC1 trivial ?_
    clear hK K
    clear hcl
    intro hcl
    (try simp only [Act.put, List.getElem_toArray, List.getElem_cons_zero, List.getElem_cons_succ, List.setIfInBounds_toArray, List.set_cons_zero, List.set_cons_succ])
    clear hC
    have hC := hC1
    clear hC1
    (refine wpM_take (i := 3) (v := ?_) rfl (by kernel_rfl) (by kernel_rfl) (by kernel_rfl) (by decide) (fun _ _ _ h => h) hcl hC (fun _ => hE) (Or.inl ⟨by rfl, ?_⟩) ?_; rotate_left; (· (intro w hSw; (try dsimp only at hSw); go_simp; (try with_reducible rfl))); clear hcl; intro hcl; (try simp only [Act.put, List.getElem_toArray, List.getElem_cons_zero, List.getElem_cons_succ, List.setIfInBounds_toArray, List.set_cons_zero, List.set_cons_succ]))
    (refine wpM_take (i := 4) (v := ?_) rfl (by kernel_rfl) (by kernel_rfl) (by kernel_rfl) (by decide) (fun _ _ _ h => h) hcl hC (fun _ => hE) (Or.inl ⟨by rfl, ?_⟩) ?_; rotate_left; (· (intro w hSw; (try dsimp only at hSw); go_simp; (try with_reducible rfl))); clear hcl; intro hcl; (try simp only [Act.put, List.getElem_toArray, List.getElem_cons_zero, List.getElem_cons_succ, List.setIfInBounds_toArray, List.set_cons_zero, List.set_cons_succ]))
    (refine wpM_take (i := 5) (v := ?_) rfl (by kernel_rfl) (by kernel_rfl) (by kernel_rfl) (by decide) (fun _ _ _ h => h) hcl hC (fun _ => hE) (Or.inl ⟨by rfl, ?_⟩) ?_; rotate_left; (· (intro w hSw; (try dsimp only at hSw); go_simp; (try with_reducible rfl))); clear hcl; intro hcl; (try simp only [Act.put, List.getElem_toArray, List.getElem_cons_zero, List.getElem_cons_succ, List.setIfInBounds_toArray, List.set_cons_zero, List.set_cons_succ]))
    (refine wpM_take (i := 6) (v := ?_) rfl (by kernel_rfl) (by kernel_rfl) (by kernel_rfl) (by decide) (fun _ _ _ h => h) hcl hC (fun _ => hE) (Or.inl ⟨by rfl, ?_⟩) ?_; rotate_left; (· (intro w hSw; (try dsimp only at hSw); go_simp; (try with_reducible rfl))); clear hcl; intro hcl; (try simp only [Act.put, List.getElem_toArray, List.getElem_cons_zero, List.getElem_cons_succ, List.setIfInBounds_toArray, List.set_cons_zero, List.set_cons_succ]))
    (refine wpM_take (i := 7) (v := ?_) rfl (by kernel_rfl) (by kernel_rfl) (by kernel_rfl) (by decide) (fun _ _ _ h => h) hcl hC (fun _ => hE) (Or.inl ⟨by rfl, ?_⟩) ?_; rotate_left; (· (intro w hSw; (try dsimp only at hSw); go_simp; (try with_reducible rfl))); clear hcl; intro hcl; (try simp only [Act.put, List.getElem_toArray, List.getElem_cons_zero, List.getElem_cons_succ, List.setIfInBounds_toArray, List.set_cons_zero, List.set_cons_succ]))
    (refine wpM_take (i := 8) (v := ?_) rfl (by kernel_rfl) (by kernel_rfl) (by kernel_rfl) (by decide) (fun _ _ _ h => h) hcl hC (fun _ => hE) (Or.inl ⟨by rfl, ?_⟩) ?_; rotate_left; (· (intro w hSw; (try dsimp only at hSw); go_simp; (try with_reducible rfl))); clear hcl; intro hcl; (try simp only [Act.put, List.getElem_toArray, List.getElem_cons_zero, List.getElem_cons_succ, List.setIfInBounds_toArray, List.set_cons_zero, List.set_cons_succ]))
    (refine wpM_take (i := 9) (v := ?_) rfl (by kernel_rfl) (by kernel_rfl) (by kernel_rfl) (by decide) (fun _ _ _ h => h) hcl hC (fun _ => hE) (Or.inl ⟨by rfl, ?_⟩) ?_; rotate_left; (· (intro w hSw; (try dsimp only at hSw); go_simp; (try with_reducible rfl))); clear hcl; intro hcl; (try simp only [Act.put, List.getElem_toArray, List.getElem_cons_zero, List.getElem_cons_succ, List.setIfInBounds_toArray, List.set_cons_zero, List.set_cons_succ]))
    (refine wpM_take (i := 10) (v := ?_) rfl (by kernel_rfl) (by kernel_rfl) (by kernel_rfl) (by decide) (fun _ _ _ h => h) hcl hC (fun _ => hE) (Or.inl ⟨by rfl, ?_⟩) ?_; rotate_left; (· (intro w hSw; (try dsimp only at hSw); go_simp; (try with_reducible rfl))); clear hcl; intro hcl; (try simp only [Act.put, List.getElem_toArray, List.getElem_cons_zero, List.getElem_cons_succ, List.setIfInBounds_toArray, List.set_cons_zero, List.set_cons_succ]))
    (refine wpM_take (i := 11) (v := ?_) rfl (by kernel_rfl) (by kernel_rfl) (by kernel_rfl) (by decide) (fun _ _ _ h => h) hcl hC (fun _ => hE) (Or.inl ⟨by rfl, ?_⟩) ?_; rotate_left; (· (intro w hSw; (try dsimp only at hSw); go_simp; (try with_reducible rfl))); clear hcl; intro hcl; (try simp only [Act.put, List.getElem_toArray, List.getElem_cons_zero, List.getElem_cons_succ, List.setIfInBounds_toArray, List.set_cons_zero, List.set_cons_succ]))
    (refine wpM_take (i := 12) (v := ?_) rfl (by kernel_rfl) (by kernel_rfl) (by kernel_rfl) (by decide) (fun _ _ _ h => h) hcl hC (fun _ => hE) (Or.inl ⟨by rfl, ?_⟩) ?_; rotate_left; (· (intro w hSw; (try dsimp only at hSw); go_simp; (try with_reducible rfl))); clear hcl; intro hcl; (try simp only [Act.put, List.getElem_toArray, List.getElem_cons_zero, List.getElem_cons_succ, List.setIfInBounds_toArray, List.set_cons_zero, List.set_cons_succ]))
    (refine wpM_take (i := 13) (v := ?_) rfl (by kernel_rfl) (by kernel_rfl) (by kernel_rfl) (by decide) (fun _ _ _ h => h) hcl hC (fun _ => hE) (Or.inl ⟨by rfl, ?_⟩) ?_; rotate_left; (· (intro w hSw; (try dsimp only at hSw); go_simp; (try with_reducible rfl))); clear hcl; intro hcl; (try simp only [Act.put, List.getElem_toArray, List.getElem_cons_zero, List.getElem_cons_succ, List.setIfInBounds_toArray, List.set_cons_zero, List.set_cons_succ]))
    (refine wpM_take (i := 14) (v := ?_) rfl (by kernel_rfl) (by kernel_rfl) (by kernel_rfl) (by decide) (fun _ _ _ h => h) hcl hC (fun _ => hE) (Or.inl ⟨by rfl, ?_⟩) ?_; rotate_left; (· (intro w hSw; (try dsimp only at hSw); go_simp; (try with_reducible rfl))); clear hcl; intro hcl; (try simp only [Act.put, List.getElem_toArray, List.getElem_cons_zero, List.getElem_cons_succ, List.setIfInBounds_toArray, List.set_cons_zero, List.set_cons_succ]))
    (refine wpM_take (i := 15) (v := ?_) rfl (by kernel_rfl) (by kernel_rfl) (by kernel_rfl) (by decide) (fun _ _ _ h => h) hcl hC (fun _ => hE) (Or.inl ⟨by rfl, ?_⟩) ?_; rotate_left; (· (intro w hSw; (try dsimp only at hSw); go_simp; (try with_reducible rfl))); clear hcl; intro hcl; (try simp only [Act.put, List.getElem_toArray, List.getElem_cons_zero, List.getElem_cons_succ, List.setIfInBounds_toArray, List.set_cons_zero, List.set_cons_succ]))
    (refine wpM_take (i := 16) (v := ?_) rfl (by kernel_rfl) (by kernel_rfl) (by kernel_rfl) (by decide) (fun _ _ _ h => h) hcl hC (fun _ => hE) (Or.inl ⟨by rfl, ?_⟩) ?_; rotate_left; (· (intro w hSw; (try dsimp only at hSw); go_simp; (try with_reducible rfl))); clear hcl; intro hcl; (try simp only [Act.put, List.getElem_toArray, List.getElem_cons_zero, List.getElem_cons_succ, List.setIfInBounds_toArray, List.set_cons_zero, List.set_cons_succ]))
    (refine wpM_take (i := 18) (v := ?_) rfl (by kernel_rfl) (by kernel_rfl) (by kernel_rfl) (by decide) (fun _ _ _ h => h) hcl hC (fun _ => hE) (Or.inl ⟨by rfl, ?_⟩) ?_; rotate_left; (· (intro w hSw; (try dsimp only at hSw); go_simp; (try with_reducible rfl))); clear hcl; intro hcl; (try simp only [Act.put, List.getElem_toArray, List.getElem_cons_zero, List.getElem_cons_succ, List.setIfInBounds_toArray, List.set_cons_zero, List.set_cons_succ]))
    refine wpM_only (i := 17) rfl (by kernel_rfl) hcl (fun K hK => ?_)
    go_simp
    refine (cA.out _).mono ?_
    rintro e y17 ⟨rfl, hz17⟩
    have hC1 := kq_call hC hn1 hz17
    refine hK.out _ _ hC1 trivial ?_
    clear hK K
    clear hcl
    intro hcl
    (try simp only [Act.put, List.getElem_toArray, List.getElem_cons_zero, List.getElem_cons_succ, List.setIfInBounds_toArray, List.set_cons_zero, List.set_cons_succ])
    clear hC
    have hC := hC1
    clear hC1
    refine wpM_only (i := 19) rfl (by kernel_rfl) hcl (fun K hK => ?_)
    go_simp
    refine (cB.out _).mono ?_
    rintro e y19 ⟨rfl, hz19⟩
    have hC1 := kq_call hC hn1 hz19
    refine hK.out _ _ hC1 trivial ?_
    clear hK K
    clear hcl
    intro hcl
    (try simp only [Act.put, List.getElem_toArray, List.getElem_cons_zero, List.getElem_cons_succ, List.setIfInBounds_toArray, List.set_cons_zero, List.set_cons_succ])
    clear hC
    have hC := hC1
    clear hC1
    refine wpM_only (i := 20) rfl (by kernel_rfl) hcl (fun K hK => ?_)
    go_simp
    refine (cO.out _).mono ?_
    rintro e y20 ⟨rfl, hz20⟩
    have hC1 := kq_call hC hn1 hz20
    refine hK.out _ _ hC1 trivial ?_
    clear hK K
    clear hcl
    intro hcl
    (try simp only [Act.put, List.getElem_toArray, List.getElem_cons_zero, List.getElem_cons_succ, List.setIfInBounds_toArray, List.set_cons_zero, List.set_cons_succ])
    clear hC
    have hC := hC1
    clear hC1
    (refine wpM_take (i := 21) (v := ?_) rfl (by kernel_rfl) (by kernel_rfl) (by kernel_rfl) (by decide) (fun _ _ _ h => h) hcl hC (fun _ => hE) (Or.inl ⟨by rfl, ?_⟩) ?_; rotate_left; (· (intro w hSw; (try dsimp only at hSw); go_simp; (try with_reducible rfl))); clear hcl; intro hcl; (try simp only [Act.put, List.getElem_toArray, List.getElem_cons_zero, List.getElem_cons_succ, List.setIfInBounds_toArray, List.set_cons_zero, List.set_cons_succ]))
    refine wpM_done (by kernel_rfl) ?_
    clear hcl
    (try simp only [Act.put, List.getElem_toArray, List.getElem_cons_zero, List.getElem_cons_succ, List.setIfInBounds_toArray, List.set_cons_zero, List.set_cons_succ])
    have hv2 := hv1.trans (hC.1.mono hv1.size)
    clear hC hv1
    generalize y20 = w2 at hv2 ⊢
    have hG2 := hb0.trans (hv2.mono hb0.size)
    clear f0_0 f0_1 f0_2 f0_3 f0_4 f0_5 f0_6 f0_7 f0_8 f0_9 f1_0 f1_1 f1_2 f2_0 f2_1 f2_2 hl0 hl1 hl2
    go_wp2_with fail
    go_ret
    exact ⟨rfl, hG2⟩
  | false =>
  go_upto_region 3 with (fail)
  refine wp_region_M (fun w' => KQ w1.heap.size w1 w') (fun _ => True) 99 (by kernel_rfl) (kq (Below.refl _ _).drew) trivial ?_
  intro hcl
  have hC : KQ w1.heap.size w1 w1.drew := kq (Below.refl _ _).drew
  have hE := trivial
  have hn1 := Nat.le_refl w1.heap.size
  (refine wpM_take (i := 0) (v := ?_) rfl (by kernel_rfl) (by kernel_rfl) (by kernel_rfl) (by decide) (fun _ _ _ h => h) hcl hC (fun _ => hE) (Or.inl ⟨by rfl, ?_⟩) ?_; rotate_left; (· (intro w hSw; (try dsimp only at hSw); go_simp; (try with_reducible rfl))); clear hcl; intro hcl; (try simp only [Act.put, List.getElem_toArray, List.getElem_cons_zero, List.setIfInBounds_toArray, List.set_cons_zero, List.set_cons_succ]))
  (refine wpM_take (i := 1) (v := ?_) rfl (by kernel_rfl) (by kernel_rfl) (by kernel_rfl) (by decide) (fun _ _ _ h => h) hcl hC (fun _ => hE) (Or.inl ⟨by rfl, ?_⟩) ?_; rotate_left; (· (intro w hSw; (try dsimp only at hSw); go_simp; (try with_reducible rfl))); clear hcl; intro hcl; (try simp only [Act.put, List.getElem_toArray, List.getElem_cons_zero, List.getElem_cons_succ, List.setIfInBounds_toArray, List.set_cons_zero, List.set_cons_succ]))
  refine wpM_only (i := 2) rfl (by kernel_rfl) hcl (fun K hK => ?_)
  go_simp
  refine (cG.out _).mono ?_
  rintro e v1 ⟨rfl, hx1⟩
  have hC1 := kq_call hC hn1 hx1
  refine hK.out _ _ hC1 trivial ?_
  clear hK K
  clear hcl
  intro hcl
  (try simp only [Act.put, List.getElem_toArray, List.getElem_cons_zero, List.getElem_cons_succ, List.setIfInBounds_toArray, List.set_cons_zero, List.set_cons_succ])
  clear hC
  have hC := hC1
  clear hC1
  (refine wpM_take (i := 3) (v := ?_) rfl (by kernel_rfl) (by kernel_rfl) (by kernel_rfl) (by decide) (fun _ _ _ h => h) hcl hC (fun _ => hE) (Or.inl ⟨by rfl, ?_⟩) ?_; rotate_left; (· (intro w hSw; (try dsimp only at hSw); go_simp; (try with_reducible rfl))); clear hcl; intro hcl; (try simp only [Act.put, List.getElem_toArray, List.getElem_cons_zero, List.getElem_cons_succ, List.setIfInBounds_toArray, List.set_cons_zero, List.set_cons_succ]))
  (refine wpM_take (i := 4) (v := ?_) rfl (by kernel_rfl) (by kernel_rfl) (by kernel_rfl) (by decide) (fun _ _ _ h => h) hcl hC (fun _ => hE) (Or.inl ⟨by rfl, ?_⟩) ?_; rotate_left; (· (intro w hSw; (try dsimp only at hSw); go_simp; (try with_reducible rfl))); clear hcl; intro hcl; (try simp only [Act.put, List.getElem_toArray, List.getElem_cons_zero, List.getElem_cons_succ, List.setIfInBounds_toArray, List.set_cons_zero, List.set_cons_succ]))
  (refine wpM_take (i := 5) (v := ?_) rfl (by kernel_rfl) (by kernel_rfl) (by kernel_rfl) (by decide) (fun _ _ _ h => h) hcl hC (fun _ => hE) (Or.inl ⟨by rfl, ?_⟩) ?_; rotate_left; (· (intro w hSw; (try dsimp only at hSw); go_simp; (try with_reducible rfl))); clear hcl; intro hcl; (try simp only [Act.put, List.getElem_toArray, List.getElem_cons_zero, List.getElem_cons_succ, List.setIfInBounds_toArray, List.set_cons_zero, List.set_cons_succ]))
  (refine wpM_take (i := 6) (v := ?_) rfl (by kernel_rfl) (by kernel_rfl) (by kernel_rfl) (by decide) (fun _ _ _ h => h) hcl hC (fun _ => hE) (Or.inl ⟨by rfl, ?_⟩) ?_; rotate_left; (· (intro w hSw; (try dsimp only at hSw); go_simp; (try with_reducible rfl))); clear hcl; intro hcl; (try simp only [Act.put, List.getElem_toArray, List.getElem_cons_zero, List.getElem_cons_succ, List.setIfInBounds_toArray, List.set_cons_zero, List.set_cons_succ]))
  (refine wpM_take (i := 7) (v := ?_) rfl (by kernel_rfl) (by kernel_rfl) (by kernel_rfl) (by decide) (fun _ _ _ h => h) hcl hC (fun _ => hE) (Or.inl ⟨by rfl, ?_⟩) ?_; rotate_left; (· (intro w hSw; (try dsimp only at hSw); go_simp; (try with_reducible rfl))); clear hcl; intro hcl; (try simp only [Act.put, List.getElem_toArray, List.getElem_cons_zero, List.getElem_cons_succ, List.setIfInBounds_toArray, List.set_cons_zero, List.set_cons_succ]))
  (refine wpM_take (i := 8) (v := ?_) rfl (by kernel_rfl) (by kernel_rfl) (by kernel_rfl) (by decide) (fun _ _ _ h => h) hcl hC (fun _ => hE) (Or.inl ⟨by rfl, ?_⟩) ?_; rotate_left; (· (intro w hSw; (try dsimp only at hSw); go_simp; (try with_reducible rfl))); clear hcl; intro hcl; (try simp only [Act.put, List.getElem_toArray, List.getElem_cons_zero, List.getElem_cons_succ, List.setIfInBounds_toArray, List.set_cons_zero, List.set_cons_succ]))
  (refine wpM_take (i := 9) (v := ?_) rfl (by kernel_rfl) (by kernel_rfl) (by kernel_rfl) (by decide) (fun _ _ _ h => h) hcl hC (fun _ => hE) (Or.inl ⟨by rfl, ?_⟩) ?_; rotate_left; (· (intro w hSw; (try dsimp only at hSw); go_simp; (try with_reducible rfl))); clear hcl; intro hcl; (try simp only [Act.put, List.getElem_toArray, List.getElem_cons_zero, List.getElem_cons_succ, List.setIfInBounds_toArray, List.set_cons_zero, List.set_cons_succ]))
  (refine wpM_take (i := 10) (v := ?_) rfl (by kernel_rfl) (by kernel_rfl) (by kernel_rfl) (by decide) (fun _ _ _ h => h) hcl hC (fun _ => hE) (Or.inl ⟨by rfl, ?_⟩) ?_; rotate_left; (· (intro w hSw; (try dsimp only at hSw); go_simp; (try with_reducible rfl))); clear hcl; intro hcl; (try simp only [Act.put, List.getElem_toArray, List.getElem_cons_zero, List.getElem_cons_succ, List.setIfInBounds_toArray, List.set_cons_zero, List.set_cons_succ]))
  (refine wpM_take (i := 11) (v := ?_) rfl (by kernel_rfl) (by kernel_rfl) (by kernel_rfl) (by decide) (fun _ _ _ h => h) hcl hC (fun _ => hE) (Or.inl ⟨by rfl, ?_⟩) ?_; rotate_left; (· (intro w hSw; (try dsimp only at hSw); go_simp; (try with_reducible rfl))); clear hcl; intro hcl; (try simp only [Act.put, List.getElem_toArray, List.getElem_cons_zero, List.getElem_cons_succ, List.setIfInBounds_toArray, List.set_cons_zero, List.set_cons_succ]))
  (refine wpM_take (i := 12) (v := ?_) rfl (by kernel_rfl) (by kernel_rfl) (by kernel_rfl) (by decide) (fun _ _ _ h => h) hcl hC (fun _ => hE) (Or.inl ⟨by rfl, ?_⟩) ?_; rotate_left; (· (intro w hSw; (try dsimp only at hSw); go_simp; (try with_reducible rfl))); clear hcl; intro hcl; (try simp only [Act.put, List.getElem_toArray, List.getElem_cons_zero, List.getElem_cons_succ, List.setIfInBounds_toArray, List.set_cons_zero, List.set_cons_succ]))
  (refine wpM_take (i := 13) (v := ?_) rfl (by kernel_rfl) (by kernel_rfl) (by kernel_rfl) (by decide) (fun _ _ _ h => h) hcl hC (fun _ => hE) (Or.inl ⟨by rfl, ?_⟩) ?_; rotate_left; (· (intro w hSw; (try dsimp only at hSw); go_simp; (try with_reducible rfl))); clear hcl; intro hcl; (try simp only [Act.put, List.getElem_toArray, List.getElem_cons_zero, List.getElem_cons_succ, List.setIfInBounds_toArray, List.set_cons_zero, List.set_cons_succ]))
  (refine wpM_take (i := 14) (v := ?_) rfl (by kernel_rfl) (by kernel_rfl) (by kernel_rfl) (by decide) (fun _ _ _ h => h) hcl hC (fun _ => hE) (Or.inl ⟨by rfl, ?_⟩) ?_; rotate_left; (· (intro w hSw; (try dsimp only at hSw); go_simp; (try with_reducible rfl))); clear hcl; intro hcl; (try simp only [Act.put, List.getElem_toArray, List.getElem_cons_zero, List.getElem_cons_succ, List.setIfInBounds_toArray, List.set_cons_zero, List.set_cons_succ]))
  (refine wpM_take (i := 15) (v := ?_) rfl (by kernel_rfl) (by kernel_rfl) (by kernel_rfl) (by decide) (fun _ _ _ h => h) hcl hC (fun _ => hE) (Or.inl ⟨by rfl, ?_⟩) ?_; rotate_left; (· (intro w hSw; (try dsimp only at hSw); go_simp; (try with_reducible rfl))); clear hcl; intro hcl; (try simp only [Act.put, List.getElem_toArray, List.getElem_cons_zero, List.getElem_cons_succ, List.setIfInBounds_toArray, List.set_cons_zero, List.set_cons_succ]))
  (refine wpM_take (i := 16) (v := ?_) rfl (by kernel_rfl) (by kernel_rfl) (by kernel_rfl) (by decide) (fun _ _ _ h => h) hcl hC (fun _ => hE) (Or.inl ⟨by rfl, ?_⟩) ?_; rotate_left; (· (intro w hSw; (try dsimp only at hSw); go_simp; (try with_reducible rfl))); clear hcl; intro hcl; (try simp only [Act.put, List.getElem_toArray, List.getElem_cons_zero, List.getElem_cons_succ, List.setIfInBounds_toArray, List.set_cons_zero, List.set_cons_succ]))
  (refine wpM_take (i := 18) (v := ?_) rfl (by kernel_rfl) (by kernel_rfl) (by kernel_rfl) (by decide) (fun _ _ _ h => h) hcl hC (fun _ => hE) (Or.inl ⟨by rfl, ?_⟩) ?_; rotate_left; (· (intro w hSw; (try dsimp only at hSw); go_simp; (try with_reducible rfl))); clear hcl; intro hcl; (try simp only [Act.put, List.getElem_toArray, List.getElem_cons_zero, List.getElem_cons_succ, List.setIfInBounds_toArray, List.set_cons_zero, List.set_cons_succ]))
  refine wpM_only (i := 17) rfl (by kernel_rfl) hcl (fun K hK => ?_)
  go_simp
  refine (cA.out _).mono ?_
  rintro e y17 ⟨rfl, hz17⟩
  have hC1 := kq_call hC hn1 hz17
  refine hK.out _ _ hC1 trivial ?_
  clear hK K
  clear hcl
  intro hcl
  (try simp only [Act.put, List.getElem_toArray, List.getElem_cons_zero, List.getElem_cons_succ, List.setIfInBounds_toArray, List.set_cons_zero, List.set_cons_succ])
  clear hC
  have hC := hC1
  clear hC1
  refine wpM_only (i := 19) rfl (by kernel_rfl) hcl (fun K hK => ?_)
  go_simp
  refine (cB.out _).mono ?_
  rintro e y19 ⟨rfl, hz19⟩
  have hC1 := kq_call hC hn1 hz19
  refine hK.out _ _ hC1 trivial ?_
  clear hK K
  clear hcl
  intro hcl
  (try simp only [Act.put, List.getElem_toArray, List.getElem_cons_zero, List.getElem_cons_succ, List.setIfInBounds_toArray, List.set_cons_zero, List.set_cons_succ])
  clear hC
  have hC := hC1
  clear hC1
  refine wpM_only (i := 20) rfl (by kernel_rfl) hcl (fun K hK => ?_)
  go_simp
  refine (cO.out _).mono ?_
  rintro e y20 ⟨rfl, hz20⟩
  have hC1 := kq_call hC hn1 hz20
  refine hK.out _ _ hC1 trivial ?_
  clear hK K
  clear hcl
  intro hcl
  (try simp only [Act.put, List.getElem_toArray, List.getElem_cons_zero, List.getElem_cons_succ, List.setIfInBounds_toArray, List.set_cons_zero, List.set_cons_succ])
  clear hC
  have hC := hC1
  clear hC1
  (refine wpM_take (i := 21) (v := ?_) rfl (by kernel_rfl) (by kernel_rfl) (by kernel_rfl) (by decide) (fun _ _ _ h => h) hcl hC (fun _ => hE) (Or.inl ⟨by rfl, ?_⟩) ?_; rotate_left; (· (intro w hSw; (try dsimp only at hSw); go_simp; (try with_reducible rfl))); clear hcl; intro hcl; (try simp only [Act.put, List.getElem_toArray, List.getElem_cons_zero, List.getElem_cons_succ, List.setIfInBounds_toArray, List.set_cons_zero, List.set_cons_succ]))
  refine wpM_done (by kernel_rfl) ?_
  clear hcl
  (try simp only [Act.put, List.getElem_toArray, List.getElem_cons_zero, List.getElem_cons_succ, List.setIfInBounds_toArray, List.set_cons_zero, List.set_cons_succ])
  have hv2 := hv1.trans (hC.1.mono hv1.size)
  clear hC hv1
  generalize y20 = w2 at hv2 ⊢
  have hG2 := hb0.trans (hv2.mono hb0.size)
  clear f0_0 f0_1 f0_2 f0_3 f0_4 f0_5 f0_6 f0_7 f0_8 f0_9 f1_0 f1_1 f1_2 f2_0 f2_1 f2_2 hl0 hl1 hl2
  have hy0 := blk_below hk0.out hv2
  have hl0 := blk_lt hy0
  have f0_0 := blk_cell hy0 0
  have f0_1 := blk_cell hy0 1
  have f0_2 := blk_cell hy0 2
  have f0_3 := blk_cell hy0 3
  have f0_4 := blk_cell hy0 4
  have f0_5 := blk_cell hy0 5
  have f0_6 := blk_cell hy0 6
  have f0_7 := blk_cell hy0 7
  have f0_8 := blk_cell hy0 8
  have f0_9 := blk_cell hy0 9
  have hy1 := blk_below hk1.out hv2
  have hl1 := blk_lt hy1
  have f1_0 := blk_cell hy1 0
  have f1_1 := blk_cell hy1 1
  have f1_2 := blk_cell hy1 2
  have hy2 := blk_below hk2.out hv2
  have hl2 := blk_lt hy2
  have f2_0 := blk_cell hy2 0
  have f2_1 := blk_cell hy2 1
  have f2_2 := blk_cell hy2 2
  simp at f0_0 f0_1 f0_2 f0_3 f0_4 f0_5 f0_6 f0_7 f0_8 f0_9 f1_0 f1_1 f1_2 f2_0 f2_1 f2_2
  clear hy0 hy1 hy2
  have hRow := hRr.out hgr _ hG2
  obtain ⟨hra, hrb, hrp, hrq, hbn, hbm, hbk, hbl⟩ := hRow
  obtain ⟨rA, rn, rc, rB, rm, rd, rP, rk, re, rQ, rl, rf⟩ := r
  dsimp only at hra hrb hrp hrq hbn hbm hbk hbl
  have hfz : True := trivial
  have hlen0 := hra.len
  go_wp2_with fail
  go_loopg [7] (rn + 1) (fun g i wr => (∃ k : Nat, k ≤ rn ∧ g = rn + 1 - k ∧ i = .int .i64 (k : Int) ∧ ∀ x ∈ (o.S.1).take k, x.1.1.1 ≠ 7) ∧ w2 = wr)
  case atStart => exact ⟨⟨0, Nat.zero_le _, rfl, rfl, by simp⟩, rfl⟩
  case round =>
    obtain ⟨⟨k, hk, rfl, rfl, htk⟩, rfl⟩ := hrel
    by_cases hlt : k < rn
    · obtain ⟨bA, oA, u, rfl, hbA, hq, hcp⟩ := hra.at_ hlt
      have p0 := hcp 0 _ rfl
      have p1 := hcp 1 _ rfl
      have p2 := hcp 2 _ rfl
      have p3 := hcp 3 _ rfl
      rw [Nat.add_zero] at p0
      clear hcp
      have hlti : (k : Int) < (rn : Int) := by omega
      have hqH := Lib.hid hq
      clear hq
      by_cases hu : u.1.1.1 = 7
      · have hd : (u.1.1.1 == 7) = true := by simpa using hu
        clear htk hu hqH
        go_wp2_with fail
        go_ret
        exact ⟨rfl, hG2⟩
      have hd : (u.1.1.1 == 7) = false := by simpa using hu
      have hst : Hid (∀ x ∈ (o.S.1).take (k + 1), x.1.1.1 ≠ 7) := Lib.hid (by
        rw [List.take_add_one, hqH.out]
        intro x hx
        rcases List.mem_append.1 hx with hx | hx
        · exact htk x hx
        · obtain rfl : x = u := by simpa using hx
          exact hu)
      clear htk hu hqH
      go_wp2_with fail
      go_roundg (rn + 1 - (k + 1))
      case measure => omega
      case rel => exact ⟨⟨k + 1, by omega, rfl, by go_num, hst.out⟩, rfl⟩
    · obtain rfl : rn = k := by omega
      have hnli : ¬ (rn : Int) < (rn : Int) := by omega
      have hall0 : Hid (∀ x ∈ o.S.1, x.1.1.1 ≠ 7) := Lib.hid (by rw [List.take_of_length_le (by omega)] at htk; exact htk)
      clear htk
      have hlen1 := hrb.len
      go_wp2_with fail
      go_loopg [8] (rm + 1) (fun g i wr => (∃ k : Nat, k ≤ rm ∧ g = rm + 1 - k ∧ i = .int .i64 (k : Int) ∧ ∀ x ∈ (o.S.2).take k, x.1.1 ≠ 7) ∧ w2 = wr)
      case atStart => exact ⟨⟨0, Nat.zero_le _, rfl, rfl, by simp⟩, rfl⟩
      case round =>
        obtain ⟨⟨k, hk, rfl, rfl, htk⟩, rfl⟩ := hrel
        by_cases hlt : k < rm
        · obtain ⟨bA, oA, u, rfl, hbA, hq, hcp⟩ := hrb.at_ hlt
          have p0 := hcp 0 _ rfl
          have p1 := hcp 1 _ rfl
          have p2 := hcp 2 _ rfl
          rw [Nat.add_zero] at p0
          clear hcp
          have hlti : (k : Int) < (rm : Int) := by omega
          have hqH := Lib.hid hq
          clear hq
          by_cases hu : u.1.1 = 7
          · have hd : (u.1.1 == 7) = true := by simpa using hu
            clear htk hu hqH
            go_wp2_with fail
            go_ret
            exact ⟨rfl, hG2⟩
          have hd : (u.1.1 == 7) = false := by simpa using hu
          have hst : Hid (∀ x ∈ (o.S.2).take (k + 1), x.1.1 ≠ 7) := Lib.hid (by
            rw [List.take_add_one, hqH.out]
            intro x hx
            rcases List.mem_append.1 hx with hx | hx
            · exact htk x hx
            · obtain rfl : x = u := by simpa using hx
              exact hu)
          clear htk hu hqH
          go_wp2_with fail
          go_roundg (rm + 1 - (k + 1))
          case measure => omega
          case rel => exact ⟨⟨k + 1, by omega, rfl, by go_num, hst.out⟩, rfl⟩
        · obtain rfl : rm = k := by omega
          have hnli : ¬ (rm : Int) < (rm : Int) := by omega
          have hall1 : Hid (∀ x ∈ o.S.2, x.1.1 ≠ 7) := Lib.hid (by rw [List.take_of_length_le (by omega)] at htk; exact htk)
          clear htk
          have hlen2 := hrp.len
          go_wp2_with fail
          go_loopg [9] (rk + 1) (fun g i wr => (∃ k : Nat, k ≤ rk ∧ g = rk + 1 - k ∧ i = .int .i64 (k : Int) ∧ ∀ x ∈ (o.M.1).take k, ¬ (x.1.1.1 = 7 ∨ x.2.2.2.2 = 7)) ∧ w2 = wr)
          case atStart => exact ⟨⟨0, Nat.zero_le _, rfl, rfl, by simp⟩, rfl⟩
          case round =>
            obtain ⟨⟨k, hk, rfl, rfl, htk⟩, rfl⟩ := hrel
            by_cases hlt : k < rk
            · obtain ⟨bA, oA, u, rfl, hbA, hq, hcp⟩ := hrp.at_ hlt
              have p0 := hcp 0 _ rfl
              have p1 := hcp 1 _ rfl
              have p2 := hcp 2 _ rfl
              have p3 := hcp 3 _ rfl
              have p4 := hcp 4 _ rfl
              have p5 := hcp 5 _ rfl
              have p6 := hcp 6 _ rfl
              rw [Nat.add_zero] at p0
              clear hcp
              have hlti : (k : Int) < (rk : Int) := by omega
              have hqH := Lib.hid hq
              clear hq
              by_cases hu : (u.1.1.1 = 7 ∨ u.2.2.2.2 = 7)
              · by_cases hu1 : u.1.1.1 = 7
                · have hd : (u.1.1.1 == 7) = true := by simpa using hu1
                  clear htk hu hu1 hqH
                  go_wp2_with fail
                  go_ret
                  exact ⟨rfl, hG2⟩
                · have hd : (u.1.1.1 == 7) = false := by simpa using hu1
                  have hd2 : (u.2.2.2.2 == 7) = true := by simpa using hu.resolve_left hu1
                  clear htk hu hu1 hqH
                  go_wp2_with fail
                  go_ret
                  exact ⟨rfl, hG2⟩
              have hd : (u.1.1.1 == 7) = false := by simpa using (fun h => hu (.inl h) : ¬ u.1.1.1 = 7)
              have hd2 : (u.2.2.2.2 == 7) = false := by simpa using (fun h => hu (.inr h) : ¬ u.2.2.2.2 = 7)
              have hst : Hid (∀ x ∈ (o.M.1).take (k + 1), ¬ (x.1.1.1 = 7 ∨ x.2.2.2.2 = 7)) := Lib.hid (by
                rw [List.take_add_one, hqH.out]
                intro x hx
                rcases List.mem_append.1 hx with hx | hx
                · exact htk x hx
                · obtain rfl : x = u := by simpa using hx
                  exact hu)
              clear htk hu hqH
              go_wp2_with fail
              go_roundg (rk + 1 - (k + 1))
              case measure => omega
              case rel => exact ⟨⟨k + 1, by omega, rfl, by go_num, hst.out⟩, rfl⟩
            · obtain rfl : rk = k := by omega
              have hnli : ¬ (rk : Int) < (rk : Int) := by omega
              have hall2 : Hid (∀ x ∈ o.M.1, ¬ (x.1.1.1 = 7 ∨ x.2.2.2.2 = 7)) := Lib.hid (by rw [List.take_of_length_le (by omega)] at htk; exact htk)
              clear htk
              have hlen3 := hrq.len
              go_wp2_with fail
              go_loopg [10] (rl + 1) (fun g i wr => (∃ k : Nat, k ≤ rl ∧ g = rl + 1 - k ∧ i = .int .i64 (k : Int) ∧ ∀ x ∈ (o.M.2).take k, x.1.1 ≠ 7) ∧ w2 = wr)
              case atStart => exact ⟨⟨0, Nat.zero_le _, rfl, rfl, by simp⟩, rfl⟩
              case round =>
                obtain ⟨⟨k, hk, rfl, rfl, htk⟩, rfl⟩ := hrel
                by_cases hlt : k < rl
                · obtain ⟨bA, oA, u, rfl, hbA, hq, hcp⟩ := hrq.at_ hlt
                  have p0 := hcp 0 _ rfl
                  have p1 := hcp 1 _ rfl
                  have p2 := hcp 2 _ rfl
                  rw [Nat.add_zero] at p0
                  clear hcp
                  have hlti : (k : Int) < (rl : Int) := by omega
                  have hqH := Lib.hid hq
                  clear hq
                  by_cases hu : u.1.1 = 7
                  · have hd : (u.1.1 == 7) = true := by simpa using hu
                    clear htk hu hqH
                    go_wp2_with fail
                    go_ret
                    exact ⟨rfl, hG2⟩
                  have hd : (u.1.1 == 7) = false := by simpa using hu
                  have hst : Hid (∀ x ∈ (o.M.2).take (k + 1), x.1.1 ≠ 7) := Lib.hid (by
                    rw [List.take_add_one, hqH.out]
                    intro x hx
                    rcases List.mem_append.1 hx with hx | hx
                    · exact htk x hx
                    · obtain rfl : x = u := by simpa using hx
                      exact hu)
                  clear htk hu hqH
                  go_wp2_with fail
                  go_roundg (rl + 1 - (k + 1))
                  case measure => omega
                  case rel => exact ⟨⟨k + 1, by omega, rfl, by go_num, hst.out⟩, rfl⟩
                · obtain rfl : rl = k := by omega
                  have hnli : ¬ (rl : Int) < (rl : Int) := by omega
                  have hall3 : Hid (∀ x ∈ o.M.2, x.1.1 ≠ 7) := Lib.hid (by rw [List.take_of_length_le (by omega)] at htk; exact htk)
                  clear htk
                  have hfar : Hid (Far o) := Lib.hid ⟨hall0.out, hall1.out, fun x hx h => hall2.out x hx (.inl h), hall3.out⟩
                  clear hall0 hall1 hall2 hall3 hra hrb hrp hrq cW cG cO
                  go_upto_region 25 with (fail)
                  refine dregA_any _ _ (by kernel_rfl) w2 w.heap.size (w.heap.size + 1) o ⟨rA, rn, rc, rB, rm, rd, rP, rk, re, rQ, rl, rf⟩ a va na (blk_below hk0.out hv2) (blk_below hk1.out hv2) (hRr.out hgr _ hG2) hokH.out hlaH.out haH.out hvaH.out (fun _ _ _ _ _ h => h) ?_
                  intro v0 v1 v2 v3 v4 v5 v6 v7 g x rx ok u1 hgg hXb hXs hu1
                  have hv3 := hv2.trans (hu1.mono hv2.size)
                  have hG3 := hG2.trans (hu1.mono hG2.size)
                  have hXbH := Lib.hid hXb
                  have hXsH := Lib.hid hXs
                  clear hXb hXs
                  go_upto_region 26 with (fail)
                  refine dregB_any _ _ (by kernel_rfl) u1 w.heap.size (w.heap.size + 1 + 1) o ⟨rA, rn, rc, rB, rm, rd, rP, rk, re, rQ, rl, rf⟩ b vb nb (blk_below hk0.out hv3) (blk_below hk2.out hv3) (hRr.out hgr _ hG3) hokH.out hlbH.out hbH.out hvbH.out (fun _ _ _ _ _ h => h) ?_
                  intro v8 v9 v10 v11 v12 v13 v14 v15 g2 y ry is u2 hgg2 hYb hYs hu2
                  have hv4 := hv3.trans (hu2.mono hv3.size)
                  have hG4 := hG3.trans (hu2.mono hG3.size)
                  have hXb4 := Lib.hid (blk_below hXbH.out hu2)
                  have hYbH := Lib.hid hYb
                  have hgl := blk_lt hXbH.out
                  have hgW : W.heap.size ≤ g := Nat.le_trans hv2.size hgg
                  have hgW2 : W.heap.size ≤ g2 := Nat.le_trans hv3.size hgg2
                  have hgne : g ≠ g2 := by omega
                  clear hYb
                  clear f0_0 f0_1 f0_2 f0_3 f0_4 f0_5 f0_6 f0_7 f0_8 f0_9 f1_0 f1_1 f1_2 f2_0 f2_1 f2_2 hl0 hl1 hl2
                  have hy0 := blk_below hk0.out hv4
                  have hl0 := blk_lt hy0
                  have f0_0 := blk_cell hy0 0
                  have f0_1 := blk_cell hy0 1
                  have f0_2 := blk_cell hy0 2
                  have f0_3 := blk_cell hy0 3
                  have f0_4 := blk_cell hy0 4
                  have f0_5 := blk_cell hy0 5
                  have f0_6 := blk_cell hy0 6
                  have f0_7 := blk_cell hy0 7
                  have f0_8 := blk_cell hy0 8
                  have f0_9 := blk_cell hy0 9
                  have hy1 := blk_below hk1.out hv4
                  have hl1 := blk_lt hy1
                  have f1_0 := blk_cell hy1 0
                  have f1_1 := blk_cell hy1 1
                  have f1_2 := blk_cell hy1 2
                  have hy2 := blk_below hk2.out hv4
                  have hl2 := blk_lt hy2
                  have f2_0 := blk_cell hy2 0
                  have f2_1 := blk_cell hy2 1
                  have f2_2 := blk_cell hy2 2
                  simp at f0_0 f0_1 f0_2 f0_3 f0_4 f0_5 f0_6 f0_7 f0_8 f0_9 f1_0 f1_1 f1_2 f2_0 f2_1 f2_2
                  clear hy0 hy1 hy2
                  cases ok with
                  | false =>
                    go_wp2_with fail
                    go_ret
                    exact ⟨rfl, hG4⟩
                  | true =>
                  cases is with
                  | false =>
                    go_wp2_with fail
                    go_ret
                    exact ⟨rfl, hG4⟩
                  | true =>
                  obtain ⟨t1, i1, y1⟩ := hXsH.out rfl
                  obtain ⟨t3, i3, y3⟩ := hYs rfl
                  have hnr := noreg hop t1 t3
                  have okx := hokA.out o x 0 t1 hnr.1 hokH.out (.inl rfl)
                  have oky := hokB.out o y 1 t3 hnr.2 hokH.out (.inr rfl)
                  have i1 := i1.below hu2
                  have y1 := y1.below hu2
                  have hX2 := hXb4.out
                  have hY2 := hYbH.out
                  have hT1 := Lib.hid (And.intro t1 t3)
                  have hokB2 := hokB
                  clear hXsH hYs t1 t3 hokA hokB
                  go_upto_region 29 with (fail)
                  refine dregC_any _ _ (by kernel_rfl) u2 g (w.heap.size + 1 + 1) W.heap.size x rx b vb nb hX2 (blk_below hk2.out hv4) i1 okx hgW (by omega) hlbH.out hbH.out hvbH.out (fun _ _ _ _ _ h => h) ?_
                  intro v16 v17 v18 v19 v20 v21 v22 x2 rx2 ok2 u3 hX3 hQ3 hF3 hZ3 hu3
                  have hv5 := hv4.trans hu3
                  have hG5 := hb0.trans (hv5.mono hb0.size)
                  have hY3 := (hF3 g2 (blk_lt hY2) hgne.symm).trans hY2
                  have hyk := ObIn.keptB i3 y3 hX2 (by decide) (by decide) (by decide) hF3 hZ3
                  clear i1 y1 i3 y3 hX2 hY2 hF3 hu3
                  go_upto_region 30 with (fail)
                  refine dregD_any _ _ (by kernel_rfl) u3 g2 (w.heap.size + 1) W.heap.size y ry a va na hY3 (blk_below hk1.out hv5) hyk.1 oky hgW2 (by omega) hlaH.out haH.out hvaH.out (fun _ _ _ _ _ h => h) ?_
                  intro v23 v24 v25 v26 v27 v28 v29 y2 ry2 is2 u4 hY4 hQ4 hF4 hZ4 hu4
                  have hv6 := hv5.trans hu4
                  have hG6 := hb0.trans (hv6.mono hb0.size)
                  have hX4 := (hF4 g (blk_lt hX3) hgne).trans hX3
                  cases ok2 with
                  | false =>
                    clear f0_0 f0_1 f0_2 f0_3 f0_4 f0_5 f0_6 f0_7 f0_8 f0_9 f1_0 f1_1 f1_2 f2_0 f2_1 f2_2 hl0 hl1 hl2
                    go_wp2_with fail
                    go_ret
                    exact ⟨rfl, hG6⟩
                  | true =>
                  cases is2 with
                  | false =>
                    clear f0_0 f0_1 f0_2 f0_3 f0_4 f0_5 f0_6 f0_7 f0_8 f0_9 f1_0 f1_1 f1_2 f2_0 f2_1 f2_2 hl0 hl1 hl2
                    go_wp2_with fail
                    go_ret
                    exact ⟨rfl, hG6⟩
                  | true =>
                  obtain ⟨t2, i2, y2t⟩ := hQ3 rfl
                  obtain ⟨t4, i4, y4t⟩ := hQ4 rfl
                  have hxk := ObIn.keptB i2 y2t hY3 (by decide) (by decide) (by decide) hF4 hZ4
                  have hsame := order_end hfar.out hop hT1.out.1 t2 hT1.out.2 t4
                  subst hsame
                  have okz := hokB2.out x x2 1 t2 hnr.2 okx (.inr rfl)
                  clear f0_0 f0_1 f0_2 f0_3 f0_4 f0_5 f0_6 f0_7 f0_8 f0_9 f1_0 f1_1 f1_2 f2_0 f2_1 f2_2 hl0 hl1 hl2 hQ3 hQ4 hF4 hZ4 i2 y2t hX3 hY3 t2 t4 hyk hu4
                  have hlg1 := blk_lt hX4
                  have hlg2 := blk_lt hY4
                  have c0 := blk_cell hX4 0
                  have c1 := blk_cell hX4 1
                  have c2 := blk_cell hX4 2
                  have c3 := blk_cell hX4 3
                  have c4 := blk_cell hX4 4
                  have c5 := blk_cell hX4 5
                  have c6 := blk_cell hX4 6
                  have c7 := blk_cell hX4 7
                  have c8 := blk_cell hX4 8
                  have c9 := blk_cell hX4 9
                  have d0 := blk_cell hY4 0
                  have d1 := blk_cell hY4 1
                  have d2 := blk_cell hY4 2
                  have d3 := blk_cell hY4 3
                  have d4 := blk_cell hY4 4
                  have d5 := blk_cell hY4 5
                  have d6 := blk_cell hY4 6
                  have d7 := blk_cell hY4 7
                  have d8 := blk_cell hY4 8
                  have d9 := blk_cell hY4 9
                  simp at c0 c1 c2 c3 c4 c5 c6 c7 c8 c9 d0 d1 d2 d3 d4 d5 d6 d7 d8 d9
                  go_upto_region 33 with (fail)
                  have cS1 := Lib.hid (fun w' (h : Below u4.heap.size u4 w') => say_any x2 rx2 w' (hxk.1.below h) okz)
                  have cS2 := Lib.hid (fun w' (h : Below u4.heap.size u4 w') => say_any x2 ry2 w' (i4.below h) okz)
                  refine wp_region_M (fun w' => KQ u4.heap.size u4 w') (fun _ => True) 99 (by kernel_rfl) (kq (Below.refl _ _).drew) trivial ?_
                  intro hcl
                  have hC : KQ u4.heap.size u4 u4.drew := kq (Below.refl _ _).drew
                  have hE := trivial
                  have hn1 := Nat.le_refl u4.heap.size
                  (refine wpM_take (i := 0) (v := ?_) rfl (by kernel_rfl) (by kernel_rfl) (by kernel_rfl) (by decide) (fun _ _ _ h => h) hcl hC (fun _ => hE) (Or.inl ⟨by rfl, ?_⟩) ?_; rotate_left; (· (intro w hSw; (try dsimp only at hSw); go_simp; (try with_reducible rfl))); clear hcl; intro hcl; (try simp only [Act.put, List.getElem_toArray, List.getElem_cons_zero, List.setIfInBounds_toArray, List.set_cons_zero, List.set_cons_succ]))
                  (refine wpM_take (i := 3) (v := ?_) rfl (by kernel_rfl) (by kernel_rfl) (by kernel_rfl) (by decide) (fun _ _ _ h => h) hcl hC (fun _ => hE) (Or.inl ⟨by rfl, ?_⟩) ?_; rotate_left; (· (intro w hSw; (try dsimp only at hSw); go_simp; (try with_reducible rfl))); clear hcl; intro hcl; (try simp only [Act.put, List.getElem_toArray, List.getElem_cons_zero, List.getElem_cons_succ, List.setIfInBounds_toArray, List.set_cons_zero, List.set_cons_succ]))
                  refine wpM_only (i := 1) rfl (by kernel_rfl) hcl (fun K hK => ?_)
                  go_simp
                  refine (cS1.out _ hC.1).mono ?_
                  rintro e s1 ⟨A1, m1, k1, rfl, q1, hm1, hz1⟩
                  have hC1 := kq_call hC hn1 hz1
                  refine hK.out _ _ hC1 trivial ?_
                  clear hK K
                  clear hcl
                  intro hcl
                  (try simp only [Act.put, List.getElem_toArray, List.getElem_cons_zero, List.getElem_cons_succ, List.setIfInBounds_toArray, List.set_cons_zero, List.set_cons_succ])
                  clear hC
                  have hC := hC1
                  clear hC1
                  refine wpM_only (i := 2) rfl (by kernel_rfl) hcl (fun K hK => ?_)
                  go_simp
                  refine (fromV_any _ _ A1 m1 k1 _ _ q1 hm1).mono ?_
                  rintro e s2 ⟨A2, k2, rfl, q2, hz2⟩
                  have hC1 := kq_call hC hn1 hz2
                  refine hK.out _ _ hC1 trivial ?_
                  clear hK K
                  clear hcl
                  intro hcl
                  (try simp only [Act.put, List.getElem_toArray, List.getElem_cons_zero, List.getElem_cons_succ, List.setIfInBounds_toArray, List.set_cons_zero, List.set_cons_succ])
                  clear hC
                  have hC := hC1
                  clear hC1
                  refine wpM_only (i := 4) rfl (by kernel_rfl) hcl (fun K hK => ?_)
                  go_simp
                  refine (cS2.out _ hC.1).mono ?_
                  rintro e s3 ⟨A3, m3, k3, rfl, q3, hm3, hz3⟩
                  have q2 := (q2.below hz3).more hz3.size
                  have hC1 := kq_call hC hn1 hz3
                  refine hK.out _ _ hC1 trivial ?_
                  clear hK K
                  clear hcl
                  intro hcl
                  (try simp only [Act.put, List.getElem_toArray, List.getElem_cons_zero, List.getElem_cons_succ, List.setIfInBounds_toArray, List.set_cons_zero, List.set_cons_succ])
                  clear hC
                  have hC := hC1
                  clear hC1
                  refine wpM_only (i := 5) rfl (by kernel_rfl) hcl (fun K hK => ?_)
                  go_simp
                  refine (fromV_any _ _ A3 m3 k3 _ _ q3 hm3).mono ?_
                  rintro e s4 ⟨A4, k4, rfl, q4, hz4⟩
                  have q2 := (q2.below hz4).more hz4.size
                  have hC1 := kq_call hC hn1 hz4
                  refine hK.out _ _ hC1 trivial ?_
                  clear hK K
                  clear hcl
                  intro hcl
                  (try simp only [Act.put, List.getElem_toArray, List.getElem_cons_zero, List.getElem_cons_succ, List.setIfInBounds_toArray, List.set_cons_zero, List.set_cons_succ])
                  clear hC
                  have hC := hC1
                  clear hC1
                  refine wpM_only (i := 6) rfl (by kernel_rfl) hcl (fun K hK => ?_)
                  go_simp
                  refine (sameV_any _ _ A2 A4 m1 m3 k2 k4 _ _ q2 q4 hm1).mono ?_
                  rintro e s5 ⟨rfl, hz5⟩
                  have hC1 := kq_call hC hn1 hz5
                  refine hK.out _ _ hC1 trivial ?_
                  clear hK K
                  clear hcl
                  intro hcl
                  (try simp only [Act.put, List.getElem_toArray, List.getElem_cons_zero, List.getElem_cons_succ, List.setIfInBounds_toArray, List.set_cons_zero, List.set_cons_succ])
                  clear hC
                  have hC := hC1
                  clear hC1
                  (refine wpM_take (i := 7) (v := ?_) rfl (by kernel_rfl) (by kernel_rfl) (by kernel_rfl) (by decide) (fun _ _ _ h => h) hcl hC (fun _ => hE) (Or.inl ⟨by rfl, ?_⟩) ?_; rotate_left; (· (intro w hSw; (try dsimp only at hSw); go_simp; (try with_reducible rfl))); clear hcl; intro hcl; (try simp only [Act.put, List.getElem_toArray, List.getElem_cons_zero, List.getElem_cons_succ, List.setIfInBounds_toArray, List.set_cons_zero, List.set_cons_succ]))
                  refine wpM_done (by kernel_rfl) ?_
                  clear hcl
                  (try simp only [Act.put, List.getElem_toArray, List.getElem_cons_zero, List.getElem_cons_succ, List.setIfInBounds_toArray, List.set_cons_zero, List.set_cons_succ])
                  have hG7 := hG6.trans (hC.1.mono hG6.size)
                  clear c0 c1 c2 c3 c4 c5 c6 c7 c8 c9 d0 d1 d2 d3 d4 d5 d6 d7 d8 d9 cS1 cS2
                  go_wp2_with fail
                  go_ret
                  exact ⟨rfl, hG7⟩
end Go.Proofs.YtffnpfponnhddaaGreat
