/- ClashOrder's region 26, over whatever frame. -/
import Derived.Test.YtffnpfponnhddaaGreatCoJ
import Derived.Test.YtffnpfponnhddaaGreatCoM
import Derived.Test.YtffnpfponnhddaaGreatN44
import Derived.Test.YtffnpfponnhddaaGreatCoR
namespace Go.Proofs.YtffnpfponnhddaaGreat
open Go.RowKit

noncomputable def mregK26 : Code := ((Tryz.f3.body.bind (regionAt 26)).getD .skip)
set_option maxRecDepth 1000000 in
set_option maxHeartbeats 16000000 in
theorem dregB_any {u0 u1 u2 u4 u6 u7 u8 u9 u10 u11 u12 u13 u14 u15 u16 u17 u18 u19 u20 u21 u22 u23 u24 u25 u26 u27 u28 u29 u30 u31 u32 u33 u34 u35 u36 u37 u38 u39 u40 u41 u42 u43 u44 u45 u46 u47 u48 u49 u50 u51 u52 u53 u54 u55 u56 u57 u58 u59 u60 u61 u62 u63 u64 u65 u66 u67 u68 u69 u70 u71 u72 u73 u74 u75 u76 u77 u78 u79 u80 u81 u82 u83 u84 u85 u86 u87 u88 u89 u90 u91 u92 u93 u94 u95 u96 u97 u98 u99 u100 u101 u102 u103 u104 u105 u106 u107 u108 u109 u110 u111 u112 u113 u114 u115 u116 u117 u118 u119 u120 u121 u122 u123 u124 u125 u126 u127 u128 u129 u130 u131 u132 u133 u134 u135 u136 u137 u138 u139 u140 u141 u142 u143 u144 u145 u146 u147 u148 u149 u150 u151 u152 u153 u154 u155 u156 u157 u158 u159 u160 u161 u162 u163 u164 u165 u166 u167 u168 : Value} (Q : Exit → Act → World → Prop) (code : Code) (hcode : code = mregK26) (w : World) (gs gp : Nat) (o : Ob) (r : Rw) (b vb : Int) (nb : List UInt8)
    (hS : w.heap[gs]? = some (.cells #[.int .i64 o.kd, .int .i64 o.rv, .int .u32 o.rt, .int .i64 o.ro, .int .i64 o.pl, .int .i64 o.mi, .slice r.A r.n r.c, .slice r.B r.m r.d, .slice r.P r.k r.e, .slice r.Q r.l r.f] 37 (0, 0))) (hO : w.heap[gp]? = some (.cells #[.int .i64 b, .string (bs nb), .int .i64 vb] 39 (0, 0))) (hi : ObIn w o r) (hok : o.Ok)
    (hl : nb.length ≤ maxLen) (ha : -9223372036854775808 ≤ b ∧ b ≤ 9223372036854775807) (hv : -9223372036854775808 ≤ vb ∧ vb ≤ 9223372036854775807)
    (hPan : ∀ c (a : Act) (d : Nat) y w, Q (.panic c) (a.put (some d) y) w → Q (.panic c) a w)
    (hQ : ∀ (v0 v1 v2 v3 v4 v5 v6 v7 : Value) (g : Nat) (y : Ob) (ry : Rw) (is : Bool) (wN : World), w.heap.size ≤ g → wN.heap[g]? = some (.cells #[.int .i64 y.kd, .int .i64 y.rv, .int .u32 y.rt, .int .i64 y.ro, .int .i64 y.pl, .int .i64 y.mi, .slice ry.A ry.n ry.c, .slice ry.B ry.m ry.d, .slice ry.P ry.k ry.e, .slice ry.Q ry.l ry.f] 64 (0, 0)) → (is = true → StepR o b nb vb 1 y ∧ ObIn wN y ry ∧ ObTy wN ry) → Below w.heap.size w wN → Q .normal ⟨#[u0, u1, u2, (.pointer (some ⟨gs, 0, none⟩)), u4, (.pointer (some ⟨gp, 0, none⟩)), u6, u7, u8, u9, u10, u11, u12, (.pointer (some ⟨g, 0, none⟩)), (.bool is), u15, u16, u17, u18, u19, u20, u21, u22, u23, u24, u25, u26, u27, u28, u29, u30, u31, u32, u33, u34, u35, u36, u37, u38, u39, u40, u41, u42, u43, u44, u45, u46, u47, u48, u49, u50, u51, u52, u53, u54, u55, u56, u57, u58, u59, u60, u61, u62, u63, u64, u65, u66, u67, u68, u69, u70, u71, u72, u73, u74, u75, u76, u77, u78, u79, u80, u81, u82, u83, u84, u85, u86, u87, u88, u89, u90, u91, u92, u93, u94, u95, u96, u97, u98, u99, u100, u101, u102, u103, u104, u105, u106, u107, u108, u109, u110, u111, u112, u113, u114, u115, u116, u117, u118, u119, u120, u121, u122, u123, u124, u125, u126, u127, v0, v1, v2, v3, v4, v5, v6, v7, u136, u137, u138, u139, u140, u141, u142, u143, u144, u145, u146, u147, u148, u149, u150, u151, u152, u153, u154, u155, u156, u157, u158, u159, u160, u161, u162, u163, u164, u165, u166, u167, u168], []⟩ wN) :
    Code.wp Tryz.prog code Q ⟨#[u0, u1, u2, (.pointer (some ⟨gs, 0, none⟩)), u4, (.pointer (some ⟨gp, 0, none⟩)), u6, u7, u8, u9, u10, u11, u12, u13, u14, u15, u16, u17, u18, u19, u20, u21, u22, u23, u24, u25, u26, u27, u28, u29, u30, u31, u32, u33, u34, u35, u36, u37, u38, u39, u40, u41, u42, u43, u44, u45, u46, u47, u48, u49, u50, u51, u52, u53, u54, u55, u56, u57, u58, u59, u60, u61, u62, u63, u64, u65, u66, u67, u68, u69, u70, u71, u72, u73, u74, u75, u76, u77, u78, u79, u80, u81, u82, u83, u84, u85, u86, u87, u88, u89, u90, u91, u92, u93, u94, u95, u96, u97, u98, u99, u100, u101, u102, u103, u104, u105, u106, u107, u108, u109, u110, u111, u112, u113, u114, u115, u116, u117, u118, u119, u120, u121, u122, u123, u124, u125, u126, u127, u128, u129, u130, u131, u132, u133, u134, u135, u136, u137, u138, u139, u140, u141, u142, u143, u144, u145, u146, u147, u148, u149, u150, u151, u152, u153, u154, u155, u156, u157, u158, u159, u160, u161, u162, u163, u164, u165, u166, u167, u168], []⟩ w := by
  subst hcode
  dsimp only at hQ ⊢
  have hQQ := Lib.hid hQ
  have hokH := Lib.hid hok
  have cA := Lib.hid (fun w' => opto_any b vb nb w')
  have cT := Lib.hid (fun w' (hh : Below w.heap.size w w') => to14_any o r w' (hi.below hh))
  have cDa := Lib.hid (fun o1 r1 n w' (hi : ObIn w' o1 r1) (ho : o1.Ok) (hn : n = 0 ∨ n = 1) => does_any o1 r1 b nb vb n w' hi ho hl hn ha hv)
  have hls := blk_lt hS
  have hlo := blk_lt hO
  have f0 := blk_cell hS 0
  have f1 := blk_cell hS 1
  have f2 := blk_cell hS 2
  have f3 := blk_cell hS 3
  have f4 := blk_cell hS 4
  have f5 := blk_cell hS 5
  have f6 := blk_cell hS 6
  have f7 := blk_cell hS 7
  have f8 := blk_cell hS 8
  have f9 := blk_cell hS 9
  have e0 := blk_cell hO 0
  have e1 := blk_cell hO 1
  have e2 := blk_cell hO 2
  simp at f0 f1 f2 f3 f4 f5 f6 f7 f8 f9 e0 e1 e2
  clear hQ hok hi hl ha hv hS hO
  conv => arg 2; whnf
  refine wp_region_M (fun w' => KQ w.heap.size w w') (fun _ => True) 99 (by kernel_rfl) (kq (Below.refl _ _).drew) trivial ?_
  intro hcl
  have hC : KQ w.heap.size w w.drew := kq (Below.refl _ _).drew
  have hE := trivial
  have hn1 := Nat.le_refl w.heap.size
  (refine wpM_take (i := 0) (v := ?_) rfl (by kernel_rfl) (by kernel_rfl) (by kernel_rfl) (by decide) (fun c a w h => hPan c a _ _ w h) hcl hC (fun _ => hE) (Or.inl ⟨by rfl, ?_⟩) ?_; rotate_left; (· (intro w hSw; (try dsimp only at hSw); go_simp; (try with_reducible rfl))); clear hcl; intro hcl; (try simp only [Act.put, List.getElem_toArray, List.getElem_cons_zero, List.setIfInBounds_toArray, List.set_cons_zero, List.set_cons_succ]))
  (refine wpM_take (i := 2) (v := ?_) rfl (by kernel_rfl) (by kernel_rfl) (by kernel_rfl) (by decide) (fun c a w h => hPan c a _ _ w h) hcl hC (fun _ => hE) (Or.inl ⟨by rfl, ?_⟩) ?_; rotate_left; (· (intro w hSw; (try dsimp only at hSw); go_simp; (try with_reducible rfl))); clear hcl; intro hcl; (try simp only [Act.put, List.getElem_toArray, List.getElem_cons_zero, List.getElem_cons_succ, List.setIfInBounds_toArray, List.set_cons_zero, List.set_cons_succ]))
  refine wpM_two (i := 1) (j := 8) rfl rfl (by kernel_rfl) hcl (fun K hK => ?_) (fun K hK => ?_)
  · go_simp
    refine (cT.out _ hC.1).mono ?_
    rintro e v1 ⟨r1, rfl, hi1, ht1, hv1⟩
    have hC1 := kq_call hC hn1 hv1
    refine hK.out _ _ hC1 trivial ?_
    clear hK K
    clear hcl
    intro hcl
    (try simp only [Act.put, List.getElem_toArray, List.getElem_cons_zero, List.getElem_cons_succ, List.setIfInBounds_toArray, List.set_cons_zero, List.set_cons_succ])
    clear hC
    have hC := hC1
    clear hC1
    refine wpM_two (i := 3) (j := 8) rfl rfl (by kernel_rfl) hcl (fun K hK => ?_) (fun K hK => ?_)
    · go_simp
      refine (cA.out _).mono ?_
      rintro e v2 ⟨rfl, hv2⟩
      replace hi1 := hi1.below hv2
      have hC1 := kq_call hC hn1 hv2
      refine hK.out _ _ hC1 trivial ?_
      clear hK K
      clear hcl
      intro hcl
      (try simp only [Act.put, List.getElem_toArray, List.getElem_cons_zero, List.getElem_cons_succ, List.setIfInBounds_toArray, List.set_cons_zero, List.set_cons_succ])
      clear hC
      have hC := hC1
      clear hC1
      refine wpM_two (i := 4) (j := 8) rfl rfl (by kernel_rfl) hcl (fun K hK => ?_) (fun K hK => ?_)
      · go_simp
        refine (cDa.out o r1 1 _ hi1 hokH.out (.inr rfl)).mono ?_
        rintro e v3 ⟨y, ry, is, rfl, hv3, hP⟩
        have hC1 := kq_call hC hn1 hv3
        refine hK.out _ _ hC1 trivial ?_
        clear hK K
        clear hcl
        intro hcl
        (try simp only [Act.put, List.getElem_toArray, List.getElem_cons_zero, List.getElem_cons_succ, List.setIfInBounds_toArray, List.set_cons_zero, List.set_cons_succ])
        clear hC
        have hC := hC1
        clear hC1
        (refine wpM_take (i := 5) (v := ?_) rfl (by kernel_rfl) (by kernel_rfl) (by kernel_rfl) (by decide) (fun c a w h => hPan c a _ _ w h) hcl hC (fun _ => hE) (Or.inl ⟨by rfl, ?_⟩) ?_; rotate_left; (· (intro w hSw; (try dsimp only at hSw); go_simp; (try with_reducible rfl))); clear hcl; intro hcl; (try simp only [Act.put, List.getElem_toArray, List.getElem_cons_zero, List.getElem_cons_succ, List.setIfInBounds_toArray, List.set_cons_zero, List.set_cons_succ]))
        (refine wpM_take (i := 6) (v := ?_) rfl (by kernel_rfl) (by kernel_rfl) (by kernel_rfl) (by decide) (fun c a w h => hPan c a _ _ w h) hcl hC (fun _ => hE) (Or.inl ⟨by rfl, ?_⟩) ?_; rotate_left; (· (intro w hSw; (try dsimp only at hSw); go_simp; (try with_reducible rfl))); clear hcl; intro hcl; (try simp only [Act.put, List.getElem_toArray, List.getElem_cons_zero, List.getElem_cons_succ, List.setIfInBounds_toArray, List.set_cons_zero, List.set_cons_succ]))
        (refine wpM_take (i := 7) (v := ?_) rfl (by kernel_rfl) (by kernel_rfl) (by kernel_rfl) (by decide) (fun c a w h => hPan c a _ _ w h) hcl hC (fun _ => hE) (Or.inl ⟨by rfl, ?_⟩) ?_; rotate_left; (· (intro w hSw; (try dsimp only at hSw); go_simp; (try with_reducible rfl))); clear hcl; intro hcl; (try simp only [Act.put, List.getElem_toArray, List.getElem_cons_zero, List.getElem_cons_succ, List.setIfInBounds_toArray, List.set_cons_zero, List.set_cons_succ]))
        have hC5 := hC
        have hCA : KQ w.heap.size w (v3.alloc (.cells #[.int .i64 0, .int .i64 0, .int .u32 0, .int .i64 0, .int .i64 0, .int .i64 0, .slice none 0 0, .slice none 0 0, .slice none 0 0, .slice none 0 0] 64)) := kq (hC.1.alloc hC.1.size _)
        have hx : (v3.alloc (.cells #[.int .i64 0, .int .i64 0, .int .u32 0, .int .i64 0, .int .i64 0, .int .i64 0, .slice none 0 0, .slice none 0 0, .slice none 0 0, .slice none 0 0] 64)).heap[v3.heap.size]? = some (.cells #[.int .i64 0, .int .i64 0, .int .u32 0, .int .i64 0, .int .i64 0, .int .i64 0, .slice none 0 0, .slice none 0 0, .slice none 0 0, .slice none 0 0] 64 (0, 0)) := heap_at _ _ rfl
        refine wpM_only (i := 8) rfl (by kernel_rfl) hcl (fun K hK => ?_)
        go_simp
        refine hK.out _ _ hCA trivial ?_
        clear hK K
        clear hcl
        intro hcl
        (try simp only [Act.put, List.getElem_toArray, List.getElem_cons_zero, List.getElem_cons_succ, List.setIfInBounds_toArray, List.set_cons_zero, List.set_cons_succ])
        clear hC
        have hC := hCA
        clear hCA
        have hlx := blk_lt hx
        have hfx := blk_frozen hx
        have x0 := blk_cell hx 0
        have x1 := blk_cell hx 1
        have x2 := blk_cell hx 2
        have x3 := blk_cell hx 3
        have x4 := blk_cell hx 4
        have x5 := blk_cell hx 5
        have x6 := blk_cell hx 6
        have x7 := blk_cell hx 7
        have x8 := blk_cell hx 8
        have x9 := blk_cell hx 9
        simp at x0 x1 x2 x3 x4 x5 x6 x7 x8 x9
        have hbZ : Below v3.heap.size v3 (v3.alloc (.cells #[.int .i64 y.kd, .int .i64 y.rv, .int .u32 y.rt, .int .i64 y.ro, .int .i64 y.pl, .int .i64 y.mi, .slice ry.A ry.n ry.c, .slice ry.B ry.m ry.d, .slice ry.P ry.k ry.e, .slice ry.Q ry.l ry.f] 64)) := (Below.refl _ _).alloc (Nat.le_refl _) _
        have hC3 : KQ w.heap.size w (v3.alloc (.cells #[.int .i64 y.kd, .int .i64 y.rv, .int .u32 y.rt, .int .i64 y.ro, .int .i64 y.pl, .int .i64 y.mi, .slice ry.A ry.n ry.c, .slice ry.B ry.m ry.d, .slice ry.P ry.k ry.e, .slice ry.Q ry.l ry.f] 64)) := kq (hC5.1.alloc hC5.1.size _)
        refine wpM_only (i := 9) rfl (by kernel_rfl) hcl (fun K hK => ?_)
        go_simp
        refine hK.out _ _ hC3 trivial ?_
        clear hK K
        clear hcl
        intro hcl
        (try simp only [Act.put, List.getElem_toArray, List.getElem_cons_zero, List.getElem_cons_succ, List.setIfInBounds_toArray, List.set_cons_zero, List.set_cons_succ])
        clear hC
        have hC := hC3
        (refine wpM_take (i := 10) (v := ?_) rfl (by kernel_rfl) (by kernel_rfl) (by kernel_rfl) (by decide) (fun c a w h => hPan c a _ _ w h) hcl hC (fun _ => hE) (Or.inl ⟨by rfl, ?_⟩) ?_; rotate_left; (· (intro w hSw; (try dsimp only at hSw); go_simp; (try with_reducible rfl))); clear hcl; intro hcl; (try simp only [Act.put, List.getElem_toArray, List.getElem_cons_zero, List.getElem_cons_succ, List.setIfInBounds_toArray, List.set_cons_zero, List.set_cons_succ]))
        refine wpM_done (by kernel_rfl) ?_
        clear hcl
        (try simp only [Act.put, List.getElem_toArray, List.getElem_cons_zero, List.getElem_cons_succ, List.setIfInBounds_toArray, List.set_cons_zero, List.set_cons_succ])
        exact hQQ.out _ _ _ _ _ _ _ _ v3.heap.size y ry is _ hC5.1.size (heap_at _ _ rfl) (fun hok => ⟨(hP hok).1, (hP hok).2.1.below hbZ, (hP hok).2.2.below hbZ⟩) hC3.1
      · go_simp
        have hbA : Below v2.heap.size v2 (v2.alloc (.cells #[.int .i64 0, .int .i64 0, .int .u32 0, .int .i64 0, .int .i64 0, .int .i64 0, .slice none 0 0, .slice none 0 0, .slice none 0 0, .slice none 0 0] 64)) := (Below.refl _ _).alloc (Nat.le_refl _) _
        have hCA : KQ w.heap.size w (v2.alloc (.cells #[.int .i64 0, .int .i64 0, .int .u32 0, .int .i64 0, .int .i64 0, .int .i64 0, .slice none 0 0, .slice none 0 0, .slice none 0 0, .slice none 0 0] 64)) := kq (hC.1.trans (hbA.mono hC.1.size))
        have hx : (v2.alloc (.cells #[.int .i64 0, .int .i64 0, .int .u32 0, .int .i64 0, .int .i64 0, .int .i64 0, .slice none 0 0, .slice none 0 0, .slice none 0 0, .slice none 0 0] 64)).heap[v2.heap.size]? = some (.cells #[.int .i64 0, .int .i64 0, .int .u32 0, .int .i64 0, .int .i64 0, .int .i64 0, .slice none 0 0, .slice none 0 0, .slice none 0 0, .slice none 0 0] 64 (0, 0)) := heap_at _ _ rfl
        have hgu : w.heap.size ≤ v2.heap.size := hC.1.size
        replace hi1 := hi1.below hbA
        refine hK.out _ _ hCA trivial ?_
        clear hK K
        clear hcl
        intro hcl
        (try simp only [Act.put, List.getElem_toArray, List.getElem_cons_zero, List.getElem_cons_succ, List.setIfInBounds_toArray, List.set_cons_zero, List.set_cons_succ])
        clear hC
        have hC := hCA
        clear hCA
        refine wpM_only (i := 4) rfl (by kernel_rfl) hcl (fun K hK => ?_)
        go_simp
        refine (cDa.out o r1 1 _ hi1 hokH.out (.inr rfl)).mono ?_
        rintro e v3 ⟨y, ry, is, rfl, hv3, hP⟩
        have hC1 := kq_call hC hn1 hv3
        replace hx := blk_below hx hv3
        refine hK.out _ _ hC1 trivial ?_
        clear hK K
        clear hcl
        intro hcl
        (try simp only [Act.put, List.getElem_toArray, List.getElem_cons_zero, List.getElem_cons_succ, List.setIfInBounds_toArray, List.set_cons_zero, List.set_cons_succ])
        clear hC
        have hC := hC1
        clear hC1
        (refine wpM_take (i := 5) (v := ?_) rfl (by kernel_rfl) (by kernel_rfl) (by kernel_rfl) (by decide) (fun c a w h => hPan c a _ _ w h) hcl hC (fun _ => hE) (Or.inl ⟨by rfl, ?_⟩) ?_; rotate_left; (· (intro w hSw; (try dsimp only at hSw); go_simp; (try with_reducible rfl))); clear hcl; intro hcl; (try simp only [Act.put, List.getElem_toArray, List.getElem_cons_zero, List.getElem_cons_succ, List.setIfInBounds_toArray, List.set_cons_zero, List.set_cons_succ]))
        (refine wpM_take (i := 6) (v := ?_) rfl (by kernel_rfl) (by kernel_rfl) (by kernel_rfl) (by decide) (fun c a w h => hPan c a _ _ w h) hcl hC (fun _ => hE) (Or.inl ⟨by rfl, ?_⟩) ?_; rotate_left; (· (intro w hSw; (try dsimp only at hSw); go_simp; (try with_reducible rfl))); clear hcl; intro hcl; (try simp only [Act.put, List.getElem_toArray, List.getElem_cons_zero, List.getElem_cons_succ, List.setIfInBounds_toArray, List.set_cons_zero, List.set_cons_succ]))
        (refine wpM_take (i := 7) (v := ?_) rfl (by kernel_rfl) (by kernel_rfl) (by kernel_rfl) (by decide) (fun c a w h => hPan c a _ _ w h) hcl hC (fun _ => hE) (Or.inl ⟨by rfl, ?_⟩) ?_; rotate_left; (· (intro w hSw; (try dsimp only at hSw); go_simp; (try with_reducible rfl))); clear hcl; intro hcl; (try simp only [Act.put, List.getElem_toArray, List.getElem_cons_zero, List.getElem_cons_succ, List.setIfInBounds_toArray, List.set_cons_zero, List.set_cons_succ]))
        have hlx := blk_lt hx
        have hfx := blk_frozen hx
        have x0 := blk_cell hx 0
        have x1 := blk_cell hx 1
        have x2 := blk_cell hx 2
        have x3 := blk_cell hx 3
        have x4 := blk_cell hx 4
        have x5 := blk_cell hx 5
        have x6 := blk_cell hx 6
        have x7 := blk_cell hx 7
        have x8 := blk_cell hx 8
        have x9 := blk_cell hx 9
        simp at x0 x1 x2 x3 x4 x5 x6 x7 x8 x9
        have hS : ((((((((((v3.setCell ⟨v2.heap.size, 0, none⟩ (.int .i64 y.kd)).setCell ⟨v2.heap.size, 1, none⟩ (.int .i64 y.rv)).setCell ⟨v2.heap.size, 2, none⟩ (.int .u32 y.rt)).setCell ⟨v2.heap.size, 3, none⟩ (.int .i64 y.ro)).setCell ⟨v2.heap.size, 4, none⟩ (.int .i64 y.pl)).setCell ⟨v2.heap.size, 5, none⟩ (.int .i64 y.mi)).setCell ⟨v2.heap.size, 6, none⟩ (.slice ry.A ry.n ry.c)).setCell ⟨v2.heap.size, 7, none⟩ (.slice ry.B ry.m ry.d)).setCell ⟨v2.heap.size, 8, none⟩ (.slice ry.P ry.k ry.e)).setCell ⟨v2.heap.size, 9, none⟩ (.slice ry.Q ry.l ry.f)).heap[v2.heap.size]? = some (.cells #[.int .i64 y.kd, .int .i64 y.rv, .int .u32 y.rt, .int .i64 y.ro, .int .i64 y.pl, .int .i64 y.mi, .slice ry.A ry.n ry.c, .slice ry.B ry.m ry.d, .slice ry.P ry.k ry.e, .slice ry.Q ry.l ry.f] 64 (0, 0)) := by simpa using (blk_set (blk_set (blk_set (blk_set (blk_set (blk_set (blk_set (blk_set (blk_set (blk_set hx 0 (.int .i64 y.kd)) 1 (.int .i64 y.rv)) 2 (.int .u32 y.rt)) 3 (.int .i64 y.ro)) 4 (.int .i64 y.pl)) 5 (.int .i64 y.mi)) 6 (.slice ry.A ry.n ry.c)) 7 (.slice ry.B ry.m ry.d)) 8 (.slice ry.P ry.k ry.e)) 9 (.slice ry.Q ry.l ry.f))
        have hQ := Lib.hid (fun (hok : is = true) => ObIn.other (w' := ((((((((((v3.setCell ⟨v2.heap.size, 0, none⟩ (.int .i64 y.kd)).setCell ⟨v2.heap.size, 1, none⟩ (.int .i64 y.rv)).setCell ⟨v2.heap.size, 2, none⟩ (.int .u32 y.rt)).setCell ⟨v2.heap.size, 3, none⟩ (.int .i64 y.ro)).setCell ⟨v2.heap.size, 4, none⟩ (.int .i64 y.pl)).setCell ⟨v2.heap.size, 5, none⟩ (.int .i64 y.mi)).setCell ⟨v2.heap.size, 6, none⟩ (.slice ry.A ry.n ry.c)).setCell ⟨v2.heap.size, 7, none⟩ (.slice ry.B ry.m ry.d)).setCell ⟨v2.heap.size, 8, none⟩ (.slice ry.P ry.k ry.e)).setCell ⟨v2.heap.size, 9, none⟩ (.slice ry.Q ry.l ry.f))) (hP hok).2.1 (hP hok).2.2 hx (by decide) (by decide) (by decide) (fun b hb => by repeat (first | rw [heap_set_of b hb] | rfl)) (by simp))
        have hSt := Lib.hid (fun (hok : is = true) => (hP hok).1)
        have hC3 : KQ w.heap.size w ((((((((((v3.setCell ⟨v2.heap.size, 0, none⟩ (.int .i64 y.kd)).setCell ⟨v2.heap.size, 1, none⟩ (.int .i64 y.rv)).setCell ⟨v2.heap.size, 2, none⟩ (.int .u32 y.rt)).setCell ⟨v2.heap.size, 3, none⟩ (.int .i64 y.ro)).setCell ⟨v2.heap.size, 4, none⟩ (.int .i64 y.pl)).setCell ⟨v2.heap.size, 5, none⟩ (.int .i64 y.mi)).setCell ⟨v2.heap.size, 6, none⟩ (.slice ry.A ry.n ry.c)).setCell ⟨v2.heap.size, 7, none⟩ (.slice ry.B ry.m ry.d)).setCell ⟨v2.heap.size, 8, none⟩ (.slice ry.P ry.k ry.e)).setCell ⟨v2.heap.size, 9, none⟩ (.slice ry.Q ry.l ry.f)) := (kq_set (kq_set (kq_set (kq_set (kq_set (kq_set (kq_set (kq_set (kq_set (kq_set hC hgu (.int .i64 y.kd)) hgu (.int .i64 y.rv)) hgu (.int .u32 y.rt)) hgu (.int .i64 y.ro)) hgu (.int .i64 y.pl)) hgu (.int .i64 y.mi)) hgu (.slice ry.A ry.n ry.c)) hgu (.slice ry.B ry.m ry.d)) hgu (.slice ry.P ry.k ry.e)) hgu (.slice ry.Q ry.l ry.f))
        refine wpM_only (i := 9) rfl (by kernel_rfl) hcl (fun K hK => ?_)
        go_simp
        refine hK.out _ _ hC3 trivial ?_
        clear hK K hP
        clear hcl
        intro hcl
        (try simp only [Act.put, List.getElem_toArray, List.getElem_cons_zero, List.getElem_cons_succ, List.setIfInBounds_toArray, List.set_cons_zero, List.set_cons_succ])
        clear hC
        have hC := hC3
        (refine wpM_take (i := 10) (v := ?_) rfl (by kernel_rfl) (by kernel_rfl) (by kernel_rfl) (by decide) (fun c a w h => hPan c a _ _ w h) hcl hC (fun _ => hE) (Or.inl ⟨by rfl, ?_⟩) ?_; rotate_left; (· (intro w hSw; (try dsimp only at hSw); go_simp; (try with_reducible rfl))); clear hcl; intro hcl; (try simp only [Act.put, List.getElem_toArray, List.getElem_cons_zero, List.getElem_cons_succ, List.setIfInBounds_toArray, List.set_cons_zero, List.set_cons_succ]))
        refine wpM_done (by kernel_rfl) ?_
        clear hcl
        (try simp only [Act.put, List.getElem_toArray, List.getElem_cons_zero, List.getElem_cons_succ, List.setIfInBounds_toArray, List.set_cons_zero, List.set_cons_succ])
        exact hQQ.out _ _ _ _ _ _ _ _ v2.heap.size y ry is _ hgu hS (fun hok => ⟨hSt.out hok, (hQ.out hok).1, (hQ.out hok).2⟩) hC3.1
    · go_simp
      have hbA : Below v1.heap.size v1 (v1.alloc (.cells #[.int .i64 0, .int .i64 0, .int .u32 0, .int .i64 0, .int .i64 0, .int .i64 0, .slice none 0 0, .slice none 0 0, .slice none 0 0, .slice none 0 0] 64)) := (Below.refl _ _).alloc (Nat.le_refl _) _
      have hCA : KQ w.heap.size w (v1.alloc (.cells #[.int .i64 0, .int .i64 0, .int .u32 0, .int .i64 0, .int .i64 0, .int .i64 0, .slice none 0 0, .slice none 0 0, .slice none 0 0, .slice none 0 0] 64)) := kq (hC.1.trans (hbA.mono hC.1.size))
      have hx : (v1.alloc (.cells #[.int .i64 0, .int .i64 0, .int .u32 0, .int .i64 0, .int .i64 0, .int .i64 0, .slice none 0 0, .slice none 0 0, .slice none 0 0, .slice none 0 0] 64)).heap[v1.heap.size]? = some (.cells #[.int .i64 0, .int .i64 0, .int .u32 0, .int .i64 0, .int .i64 0, .int .i64 0, .slice none 0 0, .slice none 0 0, .slice none 0 0, .slice none 0 0] 64 (0, 0)) := heap_at _ _ rfl
      have hgu : w.heap.size ≤ v1.heap.size := hC.1.size
      replace hi1 := hi1.below hbA
      refine hK.out _ _ hCA trivial ?_
      clear hK K
      clear hcl
      intro hcl
      (try simp only [Act.put, List.getElem_toArray, List.getElem_cons_zero, List.getElem_cons_succ, List.setIfInBounds_toArray, List.set_cons_zero, List.set_cons_succ])
      clear hC
      have hC := hCA
      clear hCA
      refine wpM_only (i := 3) rfl (by kernel_rfl) hcl (fun K hK => ?_)
      go_simp
      refine (cA.out _).mono ?_
      rintro e v2 ⟨rfl, hv2⟩
      replace hi1 := hi1.below hv2
      have hC1 := kq_call hC hn1 hv2
      replace hx := blk_below hx hv2
      refine hK.out _ _ hC1 trivial ?_
      clear hK K
      clear hcl
      intro hcl
      (try simp only [Act.put, List.getElem_toArray, List.getElem_cons_zero, List.getElem_cons_succ, List.setIfInBounds_toArray, List.set_cons_zero, List.set_cons_succ])
      clear hC
      have hC := hC1
      clear hC1
      refine wpM_only (i := 4) rfl (by kernel_rfl) hcl (fun K hK => ?_)
      go_simp
      refine (cDa.out o r1 1 _ hi1 hokH.out (.inr rfl)).mono ?_
      rintro e v3 ⟨y, ry, is, rfl, hv3, hP⟩
      have hC1 := kq_call hC hn1 hv3
      replace hx := blk_below hx hv3
      refine hK.out _ _ hC1 trivial ?_
      clear hK K
      clear hcl
      intro hcl
      (try simp only [Act.put, List.getElem_toArray, List.getElem_cons_zero, List.getElem_cons_succ, List.setIfInBounds_toArray, List.set_cons_zero, List.set_cons_succ])
      clear hC
      have hC := hC1
      clear hC1
      (refine wpM_take (i := 5) (v := ?_) rfl (by kernel_rfl) (by kernel_rfl) (by kernel_rfl) (by decide) (fun c a w h => hPan c a _ _ w h) hcl hC (fun _ => hE) (Or.inl ⟨by rfl, ?_⟩) ?_; rotate_left; (· (intro w hSw; (try dsimp only at hSw); go_simp; (try with_reducible rfl))); clear hcl; intro hcl; (try simp only [Act.put, List.getElem_toArray, List.getElem_cons_zero, List.getElem_cons_succ, List.setIfInBounds_toArray, List.set_cons_zero, List.set_cons_succ]))
      (refine wpM_take (i := 6) (v := ?_) rfl (by kernel_rfl) (by kernel_rfl) (by kernel_rfl) (by decide) (fun c a w h => hPan c a _ _ w h) hcl hC (fun _ => hE) (Or.inl ⟨by rfl, ?_⟩) ?_; rotate_left; (· (intro w hSw; (try dsimp only at hSw); go_simp; (try with_reducible rfl))); clear hcl; intro hcl; (try simp only [Act.put, List.getElem_toArray, List.getElem_cons_zero, List.getElem_cons_succ, List.setIfInBounds_toArray, List.set_cons_zero, List.set_cons_succ]))
      (refine wpM_take (i := 7) (v := ?_) rfl (by kernel_rfl) (by kernel_rfl) (by kernel_rfl) (by decide) (fun c a w h => hPan c a _ _ w h) hcl hC (fun _ => hE) (Or.inl ⟨by rfl, ?_⟩) ?_; rotate_left; (· (intro w hSw; (try dsimp only at hSw); go_simp; (try with_reducible rfl))); clear hcl; intro hcl; (try simp only [Act.put, List.getElem_toArray, List.getElem_cons_zero, List.getElem_cons_succ, List.setIfInBounds_toArray, List.set_cons_zero, List.set_cons_succ]))
      have hlx := blk_lt hx
      have hfx := blk_frozen hx
      have x0 := blk_cell hx 0
      have x1 := blk_cell hx 1
      have x2 := blk_cell hx 2
      have x3 := blk_cell hx 3
      have x4 := blk_cell hx 4
      have x5 := blk_cell hx 5
      have x6 := blk_cell hx 6
      have x7 := blk_cell hx 7
      have x8 := blk_cell hx 8
      have x9 := blk_cell hx 9
      simp at x0 x1 x2 x3 x4 x5 x6 x7 x8 x9
      have hS : ((((((((((v3.setCell ⟨v1.heap.size, 0, none⟩ (.int .i64 y.kd)).setCell ⟨v1.heap.size, 1, none⟩ (.int .i64 y.rv)).setCell ⟨v1.heap.size, 2, none⟩ (.int .u32 y.rt)).setCell ⟨v1.heap.size, 3, none⟩ (.int .i64 y.ro)).setCell ⟨v1.heap.size, 4, none⟩ (.int .i64 y.pl)).setCell ⟨v1.heap.size, 5, none⟩ (.int .i64 y.mi)).setCell ⟨v1.heap.size, 6, none⟩ (.slice ry.A ry.n ry.c)).setCell ⟨v1.heap.size, 7, none⟩ (.slice ry.B ry.m ry.d)).setCell ⟨v1.heap.size, 8, none⟩ (.slice ry.P ry.k ry.e)).setCell ⟨v1.heap.size, 9, none⟩ (.slice ry.Q ry.l ry.f)).heap[v1.heap.size]? = some (.cells #[.int .i64 y.kd, .int .i64 y.rv, .int .u32 y.rt, .int .i64 y.ro, .int .i64 y.pl, .int .i64 y.mi, .slice ry.A ry.n ry.c, .slice ry.B ry.m ry.d, .slice ry.P ry.k ry.e, .slice ry.Q ry.l ry.f] 64 (0, 0)) := by simpa using (blk_set (blk_set (blk_set (blk_set (blk_set (blk_set (blk_set (blk_set (blk_set (blk_set hx 0 (.int .i64 y.kd)) 1 (.int .i64 y.rv)) 2 (.int .u32 y.rt)) 3 (.int .i64 y.ro)) 4 (.int .i64 y.pl)) 5 (.int .i64 y.mi)) 6 (.slice ry.A ry.n ry.c)) 7 (.slice ry.B ry.m ry.d)) 8 (.slice ry.P ry.k ry.e)) 9 (.slice ry.Q ry.l ry.f))
      have hQ := Lib.hid (fun (hok : is = true) => ObIn.other (w' := ((((((((((v3.setCell ⟨v1.heap.size, 0, none⟩ (.int .i64 y.kd)).setCell ⟨v1.heap.size, 1, none⟩ (.int .i64 y.rv)).setCell ⟨v1.heap.size, 2, none⟩ (.int .u32 y.rt)).setCell ⟨v1.heap.size, 3, none⟩ (.int .i64 y.ro)).setCell ⟨v1.heap.size, 4, none⟩ (.int .i64 y.pl)).setCell ⟨v1.heap.size, 5, none⟩ (.int .i64 y.mi)).setCell ⟨v1.heap.size, 6, none⟩ (.slice ry.A ry.n ry.c)).setCell ⟨v1.heap.size, 7, none⟩ (.slice ry.B ry.m ry.d)).setCell ⟨v1.heap.size, 8, none⟩ (.slice ry.P ry.k ry.e)).setCell ⟨v1.heap.size, 9, none⟩ (.slice ry.Q ry.l ry.f))) (hP hok).2.1 (hP hok).2.2 hx (by decide) (by decide) (by decide) (fun b hb => by repeat (first | rw [heap_set_of b hb] | rfl)) (by simp))
      have hSt := Lib.hid (fun (hok : is = true) => (hP hok).1)
      have hC3 : KQ w.heap.size w ((((((((((v3.setCell ⟨v1.heap.size, 0, none⟩ (.int .i64 y.kd)).setCell ⟨v1.heap.size, 1, none⟩ (.int .i64 y.rv)).setCell ⟨v1.heap.size, 2, none⟩ (.int .u32 y.rt)).setCell ⟨v1.heap.size, 3, none⟩ (.int .i64 y.ro)).setCell ⟨v1.heap.size, 4, none⟩ (.int .i64 y.pl)).setCell ⟨v1.heap.size, 5, none⟩ (.int .i64 y.mi)).setCell ⟨v1.heap.size, 6, none⟩ (.slice ry.A ry.n ry.c)).setCell ⟨v1.heap.size, 7, none⟩ (.slice ry.B ry.m ry.d)).setCell ⟨v1.heap.size, 8, none⟩ (.slice ry.P ry.k ry.e)).setCell ⟨v1.heap.size, 9, none⟩ (.slice ry.Q ry.l ry.f)) := (kq_set (kq_set (kq_set (kq_set (kq_set (kq_set (kq_set (kq_set (kq_set (kq_set hC hgu (.int .i64 y.kd)) hgu (.int .i64 y.rv)) hgu (.int .u32 y.rt)) hgu (.int .i64 y.ro)) hgu (.int .i64 y.pl)) hgu (.int .i64 y.mi)) hgu (.slice ry.A ry.n ry.c)) hgu (.slice ry.B ry.m ry.d)) hgu (.slice ry.P ry.k ry.e)) hgu (.slice ry.Q ry.l ry.f))
      refine wpM_only (i := 9) rfl (by kernel_rfl) hcl (fun K hK => ?_)
      go_simp
      refine hK.out _ _ hC3 trivial ?_
      clear hK K hP
      clear hcl
      intro hcl
      (try simp only [Act.put, List.getElem_toArray, List.getElem_cons_zero, List.getElem_cons_succ, List.setIfInBounds_toArray, List.set_cons_zero, List.set_cons_succ])
      clear hC
      have hC := hC3
      (refine wpM_take (i := 10) (v := ?_) rfl (by kernel_rfl) (by kernel_rfl) (by kernel_rfl) (by decide) (fun c a w h => hPan c a _ _ w h) hcl hC (fun _ => hE) (Or.inl ⟨by rfl, ?_⟩) ?_; rotate_left; (· (intro w hSw; (try dsimp only at hSw); go_simp; (try with_reducible rfl))); clear hcl; intro hcl; (try simp only [Act.put, List.getElem_toArray, List.getElem_cons_zero, List.getElem_cons_succ, List.setIfInBounds_toArray, List.set_cons_zero, List.set_cons_succ]))
      refine wpM_done (by kernel_rfl) ?_
      clear hcl
      (try simp only [Act.put, List.getElem_toArray, List.getElem_cons_zero, List.getElem_cons_succ, List.setIfInBounds_toArray, List.set_cons_zero, List.set_cons_succ])
      exact hQQ.out _ _ _ _ _ _ _ _ v1.heap.size y ry is _ hgu hS (fun hok => ⟨hSt.out hok, (hQ.out hok).1, (hQ.out hok).2⟩) hC3.1
  · go_simp
    have hbA : Below w.heap.size w (w.alloc (.cells #[.int .i64 0, .int .i64 0, .int .u32 0, .int .i64 0, .int .i64 0, .int .i64 0, .slice none 0 0, .slice none 0 0, .slice none 0 0, .slice none 0 0] 64)).drew := ((Below.refl _ _).alloc (Nat.le_refl _) _).drew
    have hCA : KQ w.heap.size w (w.alloc (.cells #[.int .i64 0, .int .i64 0, .int .u32 0, .int .i64 0, .int .i64 0, .int .i64 0, .slice none 0 0, .slice none 0 0, .slice none 0 0, .slice none 0 0] 64)).drew := kq (hbA)
    have hx : (w.alloc (.cells #[.int .i64 0, .int .i64 0, .int .u32 0, .int .i64 0, .int .i64 0, .int .i64 0, .slice none 0 0, .slice none 0 0, .slice none 0 0, .slice none 0 0] 64)).drew.heap[w.heap.size]? = some (.cells #[.int .i64 0, .int .i64 0, .int .u32 0, .int .i64 0, .int .i64 0, .int .i64 0, .slice none 0 0, .slice none 0 0, .slice none 0 0, .slice none 0 0] 64 (0, 0)) := heap_drew (heap_at _ _ rfl)
    have hgu : w.heap.size ≤ w.heap.size := Nat.le_refl _
    skip
    refine hK.out _ _ hCA trivial ?_
    clear hK K
    clear hcl
    intro hcl
    (try simp only [Act.put, List.getElem_toArray, List.getElem_cons_zero, List.getElem_cons_succ, List.setIfInBounds_toArray, List.set_cons_zero, List.set_cons_succ])
    clear hC
    have hC := hCA
    clear hCA
    refine wpM_only (i := 1) rfl (by kernel_rfl) hcl (fun K hK => ?_)
    go_simp
    refine (cT.out _ hC.1).mono ?_
    rintro e v1 ⟨r1, rfl, hi1, ht1, hv1⟩
    have hC1 := kq_call hC hn1 hv1
    replace hx := blk_below hx hv1
    refine hK.out _ _ hC1 trivial ?_
    clear hK K
    clear hcl
    intro hcl
    (try simp only [Act.put, List.getElem_toArray, List.getElem_cons_zero, List.getElem_cons_succ, List.setIfInBounds_toArray, List.set_cons_zero, List.set_cons_succ])
    clear hC
    have hC := hC1
    clear hC1
    refine wpM_only (i := 3) rfl (by kernel_rfl) hcl (fun K hK => ?_)
    go_simp
    refine (cA.out _).mono ?_
    rintro e v2 ⟨rfl, hv2⟩
    replace hi1 := hi1.below hv2
    have hC1 := kq_call hC hn1 hv2
    replace hx := blk_below hx hv2
    refine hK.out _ _ hC1 trivial ?_
    clear hK K
    clear hcl
    intro hcl
    (try simp only [Act.put, List.getElem_toArray, List.getElem_cons_zero, List.getElem_cons_succ, List.setIfInBounds_toArray, List.set_cons_zero, List.set_cons_succ])
    clear hC
    have hC := hC1
    clear hC1
    refine wpM_only (i := 4) rfl (by kernel_rfl) hcl (fun K hK => ?_)
    go_simp
    refine (cDa.out o r1 1 _ hi1 hokH.out (.inr rfl)).mono ?_
    rintro e v3 ⟨y, ry, is, rfl, hv3, hP⟩
    have hC1 := kq_call hC hn1 hv3
    replace hx := blk_below hx hv3
    refine hK.out _ _ hC1 trivial ?_
    clear hK K
    clear hcl
    intro hcl
    (try simp only [Act.put, List.getElem_toArray, List.getElem_cons_zero, List.getElem_cons_succ, List.setIfInBounds_toArray, List.set_cons_zero, List.set_cons_succ])
    clear hC
    have hC := hC1
    clear hC1
    (refine wpM_take (i := 5) (v := ?_) rfl (by kernel_rfl) (by kernel_rfl) (by kernel_rfl) (by decide) (fun c a w h => hPan c a _ _ w h) hcl hC (fun _ => hE) (Or.inl ⟨by rfl, ?_⟩) ?_; rotate_left; (· (intro w hSw; (try dsimp only at hSw); go_simp; (try with_reducible rfl))); clear hcl; intro hcl; (try simp only [Act.put, List.getElem_toArray, List.getElem_cons_zero, List.getElem_cons_succ, List.setIfInBounds_toArray, List.set_cons_zero, List.set_cons_succ]))
    (refine wpM_take (i := 6) (v := ?_) rfl (by kernel_rfl) (by kernel_rfl) (by kernel_rfl) (by decide) (fun c a w h => hPan c a _ _ w h) hcl hC (fun _ => hE) (Or.inl ⟨by rfl, ?_⟩) ?_; rotate_left; (· (intro w hSw; (try dsimp only at hSw); go_simp; (try with_reducible rfl))); clear hcl; intro hcl; (try simp only [Act.put, List.getElem_toArray, List.getElem_cons_zero, List.getElem_cons_succ, List.setIfInBounds_toArray, List.set_cons_zero, List.set_cons_succ]))
    (refine wpM_take (i := 7) (v := ?_) rfl (by kernel_rfl) (by kernel_rfl) (by kernel_rfl) (by decide) (fun c a w h => hPan c a _ _ w h) hcl hC (fun _ => hE) (Or.inl ⟨by rfl, ?_⟩) ?_; rotate_left; (· (intro w hSw; (try dsimp only at hSw); go_simp; (try with_reducible rfl))); clear hcl; intro hcl; (try simp only [Act.put, List.getElem_toArray, List.getElem_cons_zero, List.getElem_cons_succ, List.setIfInBounds_toArray, List.set_cons_zero, List.set_cons_succ]))
    have hlx := blk_lt hx
    have hfx := blk_frozen hx
    have x0 := blk_cell hx 0
    have x1 := blk_cell hx 1
    have x2 := blk_cell hx 2
    have x3 := blk_cell hx 3
    have x4 := blk_cell hx 4
    have x5 := blk_cell hx 5
    have x6 := blk_cell hx 6
    have x7 := blk_cell hx 7
    have x8 := blk_cell hx 8
    have x9 := blk_cell hx 9
    simp at x0 x1 x2 x3 x4 x5 x6 x7 x8 x9
    have hS : ((((((((((v3.setCell ⟨w.heap.size, 0, none⟩ (.int .i64 y.kd)).setCell ⟨w.heap.size, 1, none⟩ (.int .i64 y.rv)).setCell ⟨w.heap.size, 2, none⟩ (.int .u32 y.rt)).setCell ⟨w.heap.size, 3, none⟩ (.int .i64 y.ro)).setCell ⟨w.heap.size, 4, none⟩ (.int .i64 y.pl)).setCell ⟨w.heap.size, 5, none⟩ (.int .i64 y.mi)).setCell ⟨w.heap.size, 6, none⟩ (.slice ry.A ry.n ry.c)).setCell ⟨w.heap.size, 7, none⟩ (.slice ry.B ry.m ry.d)).setCell ⟨w.heap.size, 8, none⟩ (.slice ry.P ry.k ry.e)).setCell ⟨w.heap.size, 9, none⟩ (.slice ry.Q ry.l ry.f)).heap[w.heap.size]? = some (.cells #[.int .i64 y.kd, .int .i64 y.rv, .int .u32 y.rt, .int .i64 y.ro, .int .i64 y.pl, .int .i64 y.mi, .slice ry.A ry.n ry.c, .slice ry.B ry.m ry.d, .slice ry.P ry.k ry.e, .slice ry.Q ry.l ry.f] 64 (0, 0)) := by simpa using (blk_set (blk_set (blk_set (blk_set (blk_set (blk_set (blk_set (blk_set (blk_set (blk_set hx 0 (.int .i64 y.kd)) 1 (.int .i64 y.rv)) 2 (.int .u32 y.rt)) 3 (.int .i64 y.ro)) 4 (.int .i64 y.pl)) 5 (.int .i64 y.mi)) 6 (.slice ry.A ry.n ry.c)) 7 (.slice ry.B ry.m ry.d)) 8 (.slice ry.P ry.k ry.e)) 9 (.slice ry.Q ry.l ry.f))
    have hQ := Lib.hid (fun (hok : is = true) => ObIn.other (w' := ((((((((((v3.setCell ⟨w.heap.size, 0, none⟩ (.int .i64 y.kd)).setCell ⟨w.heap.size, 1, none⟩ (.int .i64 y.rv)).setCell ⟨w.heap.size, 2, none⟩ (.int .u32 y.rt)).setCell ⟨w.heap.size, 3, none⟩ (.int .i64 y.ro)).setCell ⟨w.heap.size, 4, none⟩ (.int .i64 y.pl)).setCell ⟨w.heap.size, 5, none⟩ (.int .i64 y.mi)).setCell ⟨w.heap.size, 6, none⟩ (.slice ry.A ry.n ry.c)).setCell ⟨w.heap.size, 7, none⟩ (.slice ry.B ry.m ry.d)).setCell ⟨w.heap.size, 8, none⟩ (.slice ry.P ry.k ry.e)).setCell ⟨w.heap.size, 9, none⟩ (.slice ry.Q ry.l ry.f))) (hP hok).2.1 (hP hok).2.2 hx (by decide) (by decide) (by decide) (fun b hb => by repeat (first | rw [heap_set_of b hb] | rfl)) (by simp))
    have hSt := Lib.hid (fun (hok : is = true) => (hP hok).1)
    have hC3 : KQ w.heap.size w ((((((((((v3.setCell ⟨w.heap.size, 0, none⟩ (.int .i64 y.kd)).setCell ⟨w.heap.size, 1, none⟩ (.int .i64 y.rv)).setCell ⟨w.heap.size, 2, none⟩ (.int .u32 y.rt)).setCell ⟨w.heap.size, 3, none⟩ (.int .i64 y.ro)).setCell ⟨w.heap.size, 4, none⟩ (.int .i64 y.pl)).setCell ⟨w.heap.size, 5, none⟩ (.int .i64 y.mi)).setCell ⟨w.heap.size, 6, none⟩ (.slice ry.A ry.n ry.c)).setCell ⟨w.heap.size, 7, none⟩ (.slice ry.B ry.m ry.d)).setCell ⟨w.heap.size, 8, none⟩ (.slice ry.P ry.k ry.e)).setCell ⟨w.heap.size, 9, none⟩ (.slice ry.Q ry.l ry.f)) := (kq_set (kq_set (kq_set (kq_set (kq_set (kq_set (kq_set (kq_set (kq_set (kq_set hC hgu (.int .i64 y.kd)) hgu (.int .i64 y.rv)) hgu (.int .u32 y.rt)) hgu (.int .i64 y.ro)) hgu (.int .i64 y.pl)) hgu (.int .i64 y.mi)) hgu (.slice ry.A ry.n ry.c)) hgu (.slice ry.B ry.m ry.d)) hgu (.slice ry.P ry.k ry.e)) hgu (.slice ry.Q ry.l ry.f))
    refine wpM_only (i := 9) rfl (by kernel_rfl) hcl (fun K hK => ?_)
    go_simp
    refine hK.out _ _ hC3 trivial ?_
    clear hK K hP
    clear hcl
    intro hcl
    (try simp only [Act.put, List.getElem_toArray, List.getElem_cons_zero, List.getElem_cons_succ, List.setIfInBounds_toArray, List.set_cons_zero, List.set_cons_succ])
    clear hC
    have hC := hC3
    (refine wpM_take (i := 10) (v := ?_) rfl (by kernel_rfl) (by kernel_rfl) (by kernel_rfl) (by decide) (fun c a w h => hPan c a _ _ w h) hcl hC (fun _ => hE) (Or.inl ⟨by rfl, ?_⟩) ?_; rotate_left; (· (intro w hSw; (try dsimp only at hSw); go_simp; (try with_reducible rfl))); clear hcl; intro hcl; (try simp only [Act.put, List.getElem_toArray, List.getElem_cons_zero, List.getElem_cons_succ, List.setIfInBounds_toArray, List.set_cons_zero, List.set_cons_succ]))
    refine wpM_done (by kernel_rfl) ?_
    clear hcl
    (try simp only [Act.put, List.getElem_toArray, List.getElem_cons_zero, List.getElem_cons_succ, List.setIfInBounds_toArray, List.set_cons_zero, List.set_cons_succ])
    exact hQQ.out _ _ _ _ _ _ _ _ w.heap.size y ry is _ hgu hS (fun hok => ⟨hSt.out hok, (hQ.out hok).1, (hQ.out hok).2⟩) hC3.1
end Go.Proofs.YtffnpfponnhddaaGreat
