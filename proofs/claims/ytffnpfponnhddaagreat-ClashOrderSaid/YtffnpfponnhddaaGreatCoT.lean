/- ClashOrder's region 29, over whatever frame. -/
import Derived.Test.YtffnpfponnhddaaGreatCoR
namespace Go.Proofs.YtffnpfponnhddaaGreat
open Go.RowKit

theorem TyR.keptB {w w' : World} {e : TypeId} {A : Option Addr} {n g : Nat} (h : TyR w e A n) (hg : ∀ cs, w.heap[g]? ≠ some (.cells cs e (0, 0))) (hk : ∀ b, b < w.heap.size → b ≠ g → w'.heap[b]? = w.heap[b]?) : TyR w' e A n := fun hn => by
  obtain ⟨b, o, cs, h1, h2⟩ := h hn
  exact ⟨b, o, cs, h1, (hk b (blk_lt h2) (fun e => hg cs (e ▸ h2))).trans h2⟩
theorem Rd.keptB {w w' : World} {B sz : Nat} {e : TypeId} {A : Option Addr} {n g : Nat} {xs : List (List Value)} (h : Rd w B sz A n xs) (ht : TyR w e A n) (hg : ∀ cs, w.heap[g]? ≠ some (.cells cs e (0, 0))) (hk : ∀ b, b < w.heap.size → b ≠ g → w'.heap[b]? = w.heap[b]?) : Rd w' B sz A n xs := by
  refine ⟨h.1, fun h0 => ?_⟩
  obtain ⟨g', o, he, hgB, hc⟩ := h.2 h0
  obtain ⟨b, o', cs, h1, h2⟩ := ht h0
  rw [he] at h1
  injection h1 with h1
  injection h1 with h1 _
  subst h1
  have hne : g' ≠ g := fun e => hg cs (e ▸ h2)
  refine ⟨g', o, he, hgB, fun i x hi j u hu => ?_⟩
  rw [← hc i x hi j u hu]
  simp [World.cell?, hk g' (blk_lt h2) hne]
theorem ObIn.keptB {w w' : World} {o : Ob} {r : Rw} {g : Nat} {cs0 : Array Value} {t : TypeId} (h : ObIn w o r) (ht : ObTy w r) (hg : w.heap[g]? = some (.cells cs0 t (0, 0))) (n1 : t ≠ 123) (n2 : t ≠ 45) (n3 : t ≠ 127)
    (hk : ∀ b, b < w.heap.size → b ≠ g → w'.heap[b]? = w.heap[b]?) (hz : w.heap.size ≤ w'.heap.size) : ObIn w' o r ∧ ObTy w' r := by
  have e1 : ∀ cs, w.heap[g]? ≠ some (.cells cs 123 (0, 0)) := fun cs h => by rw [hg] at h; injection h with h; injection h with _ h _; exact n1 h
  have e2 : ∀ cs, w.heap[g]? ≠ some (.cells cs 45 (0, 0)) := fun cs h => by rw [hg] at h; injection h with h; injection h with _ h _; exact n2 h
  have e3 : ∀ cs, w.heap[g]? ≠ some (.cells cs 127 (0, 0)) := fun cs h => by rw [hg] at h; injection h with h; injection h with _ h _; exact n3 h
  exact ⟨⟨Rd.more (Rd.keptB h.ra ht.ta e1 hk) hz, Rd.more (Rd.keptB h.rb ht.tb e2 hk) hz, Rd.more (Rd.keptB h.rp ht.tp e3 hk) hz, Rd.more (Rd.keptB h.rq ht.tq e2 hk) hz, h.hn, h.hm, h.hk, h.hl⟩, ⟨ht.ta.keptB e1 hk, ht.tb.keptB e2 hk, ht.tp.keptB e3 hk, ht.tq.keptB e2 hk⟩⟩
noncomputable def mregK29 : Code := ((Tryz.f3.body.bind (regionAt 29)).getD .skip)
set_option maxRecDepth 1000000 in
set_option maxHeartbeats 16000000 in
theorem dregC_any {u0 u1 u2 u3 u4 u6 u7 u8 u9 u10 u12 u13 u14 u15 u16 u17 u18 u19 u20 u21 u22 u23 u24 u25 u26 u27 u28 u29 u30 u31 u32 u33 u34 u35 u36 u37 u38 u39 u40 u41 u42 u43 u44 u45 u46 u47 u48 u49 u50 u51 u52 u53 u54 u55 u56 u57 u58 u59 u60 u61 u62 u63 u64 u65 u66 u67 u68 u69 u70 u71 u72 u73 u74 u75 u76 u77 u78 u79 u80 u81 u82 u83 u84 u85 u86 u87 u88 u89 u90 u91 u92 u93 u94 u95 u96 u97 u98 u99 u100 u101 u102 u103 u104 u105 u106 u107 u108 u109 u110 u111 u112 u113 u114 u115 u116 u117 u118 u119 u120 u121 u122 u123 u124 u125 u126 u127 u128 u129 u130 u131 u132 u133 u134 u135 u136 u137 u138 u139 u140 u141 u142 u143 u144 u145 u146 u147 u148 u149 u150 u151 u152 u153 u154 u155 u156 u157 u158 u159 u160 u161 u162 u163 u164 u165 u166 u167 u168 : Value} (Q : Exit → Act → World → Prop) (code : Code) (hcode : code = mregK29) (w : World) (g gp n : Nat) (x : Ob) (rx : Rw) (b vb : Int) (nb : List UInt8)
    (hS : w.heap[g]? = some (.cells #[.int .i64 x.kd, .int .i64 x.rv, .int .u32 x.rt, .int .i64 x.ro, .int .i64 x.pl, .int .i64 x.mi, .slice rx.A rx.n rx.c, .slice rx.B rx.m rx.d, .slice rx.P rx.k rx.e, .slice rx.Q rx.l rx.f] 64 (0, 0))) (hO : w.heap[gp]? = some (.cells #[.int .i64 b, .string (bs nb), .int .i64 vb] 39 (0, 0))) (hi : ObIn w x rx) (hok : x.Ok) (hng : n ≤ g) (hgp : gp < n)
    (hl : nb.length ≤ maxLen) (ha : -9223372036854775808 ≤ b ∧ b ≤ 9223372036854775807) (hv : -9223372036854775808 ≤ vb ∧ vb ≤ 9223372036854775807)
    (hPan : ∀ c (a : Act) (d : Nat) y w, Q (.panic c) (a.put (some d) y) w → Q (.panic c) a w)
    (hQ : ∀ (v0 v1 v2 v3 v4 v5 v6 : Value) (x2 : Ob) (rx2 : Rw) (ok : Bool) (wN : World), wN.heap[g]? = some (.cells #[.int .i64 x2.kd, .int .i64 x2.rv, .int .u32 x2.rt, .int .i64 x2.ro, .int .i64 x2.pl, .int .i64 x2.mi, .slice rx2.A rx2.n rx2.c, .slice rx2.B rx2.m rx2.d, .slice rx2.P rx2.k rx2.e, .slice rx2.Q rx2.l rx2.f] 64 (0, 0)) → (ok = true → StepR x b nb vb 1 x2 ∧ ObIn wN x2 rx2 ∧ ObTy wN rx2) → (∀ b, b < w.heap.size → b ≠ g → wN.heap[b]? = w.heap[b]?) → w.heap.size ≤ wN.heap.size → Below n w wN → Q .normal ⟨#[u0, u1, u2, u3, u4, (.pointer (some ⟨gp, 0, none⟩)), u6, u7, u8, u9, u10, (.pointer (some ⟨g, 0, none⟩)), (.bool ok), u13, u14, u15, u16, u17, u18, u19, u20, u21, u22, u23, u24, u25, u26, u27, u28, u29, u30, u31, u32, u33, u34, u35, u36, u37, u38, u39, u40, u41, u42, u43, u44, u45, u46, u47, u48, u49, u50, u51, u52, u53, u54, u55, u56, u57, u58, u59, u60, u61, u62, u63, u64, u65, u66, u67, u68, u69, u70, u71, u72, u73, u74, u75, u76, u77, u78, u79, u80, u81, u82, u83, u84, u85, u86, u87, u88, u89, u90, u91, u92, u93, u94, u95, u96, u97, u98, u99, u100, u101, u102, u103, u104, u105, u106, u107, u108, u109, u110, u111, u112, u113, u114, u115, u116, u117, u118, u119, u120, u121, u122, u123, u124, u125, u126, u127, u128, u129, u130, u131, u132, u133, u134, u135, u136, u137, u138, u139, u140, u141, v0, v1, v2, v3, v4, v5, v6, u149, u150, u151, u152, u153, u154, u155, u156, u157, u158, u159, u160, u161, u162, u163, u164, u165, u166, u167, u168], []⟩ wN) :
    Code.wp Tryz.prog code Q ⟨#[u0, u1, u2, u3, u4, (.pointer (some ⟨gp, 0, none⟩)), u6, u7, u8, u9, u10, (.pointer (some ⟨g, 0, none⟩)), u12, u13, u14, u15, u16, u17, u18, u19, u20, u21, u22, u23, u24, u25, u26, u27, u28, u29, u30, u31, u32, u33, u34, u35, u36, u37, u38, u39, u40, u41, u42, u43, u44, u45, u46, u47, u48, u49, u50, u51, u52, u53, u54, u55, u56, u57, u58, u59, u60, u61, u62, u63, u64, u65, u66, u67, u68, u69, u70, u71, u72, u73, u74, u75, u76, u77, u78, u79, u80, u81, u82, u83, u84, u85, u86, u87, u88, u89, u90, u91, u92, u93, u94, u95, u96, u97, u98, u99, u100, u101, u102, u103, u104, u105, u106, u107, u108, u109, u110, u111, u112, u113, u114, u115, u116, u117, u118, u119, u120, u121, u122, u123, u124, u125, u126, u127, u128, u129, u130, u131, u132, u133, u134, u135, u136, u137, u138, u139, u140, u141, u142, u143, u144, u145, u146, u147, u148, u149, u150, u151, u152, u153, u154, u155, u156, u157, u158, u159, u160, u161, u162, u163, u164, u165, u166, u167, u168], []⟩ w := by
  subst hcode
  dsimp only at hQ ⊢
  have hQQ := Lib.hid hQ
  have hokH := Lib.hid hok
  have cB := Lib.hid (fun w' => opto_any b vb nb w')
  have cDb := Lib.hid (fun w' (hi : ObIn w' x rx) => does_any x rx b nb vb 1 w' hi hok hl (.inr rfl) ha hv)
  have hls := blk_lt hS
  have hlo := blk_lt hO
  have hn1 : n ≤ w.heap.size := by omega
  have hiH := Lib.hid hi
  have hSH := Lib.hid hS
  have e0 := blk_cell hO 0
  have e1 := blk_cell hO 1
  have e2 := blk_cell hO 2
  simp at e0 e1 e2
  have hSd := heap_drew hS
  clear hQ hok hi hl ha hv hS hO
  conv => arg 2; whnf
  refine wp_region_M (fun w' => KQ n w w') (fun w' => w'.heap[g]? = some (.cells #[.int .i64 x.kd, .int .i64 x.rv, .int .u32 x.rt, .int .i64 x.ro, .int .i64 x.pl, .int .i64 x.mi, .slice rx.A rx.n rx.c, .slice rx.B rx.m rx.d, .slice rx.P rx.k rx.e, .slice rx.Q rx.l rx.f] 64 (0, 0))) 7 (by kernel_rfl) (kq (Below.refl _ _).drew) hSd ?_
  intro hcl
  have hC : KQ n w w.drew := kq (Below.refl _ _).drew
  have hE : w.drew.heap[g]? = some (.cells #[.int .i64 x.kd, .int .i64 x.rv, .int .u32 x.rt, .int .i64 x.ro, .int .i64 x.pl, .int .i64 x.mi, .slice rx.A rx.n rx.c, .slice rx.B rx.m rx.d, .slice rx.P rx.k rx.e, .slice rx.Q rx.l rx.f] 64 (0, 0)) := hSd
  (refine wpM_take (i := 1) (v := ?_) rfl (by kernel_rfl) (by kernel_rfl) (by kernel_rfl) (by decide) (fun c a w h => hPan c a _ _ w h) hcl hC (fun _ => hE) (Or.inl ⟨by rfl, ?_⟩) ?_; rotate_left; (· (intro w hSw; (try dsimp only at hSw); go_simp; (try with_reducible rfl))); clear hcl; intro hcl; (try simp only [Act.put, List.getElem_toArray, List.getElem_cons_zero, List.getElem_cons_succ, List.setIfInBounds_toArray, List.set_cons_zero, List.set_cons_succ]))
  refine wpM_take0c (i := 0) (j := 3) (v := .agg #[.int .i64 x.kd, .int .i64 x.rv, .int .u32 x.rt, .int .i64 x.ro, .int .i64 x.pl, .int .i64 x.mi, .slice rx.A rx.n rx.c, .slice rx.B rx.m rx.d, .slice rx.P rx.k rx.e, .slice rx.Q rx.l rx.f]) rfl rfl rfl (by kernel_rfl) (by kernel_rfl) (by kernel_rfl) (by kernel_rfl) (by kernel_rfl) (by decide) (fun c a w h => hPan c a _ _ w h) hcl hC (fun _ => hE) (yields_row (by kernel_rfl) rfl (g) rfl 64 #[.int .i64 x.kd, .int .i64 x.rv, .int .u32 x.rt, .int .i64 x.ro, .int .i64 x.pl, .int .i64 x.mi, .slice rx.A rx.n rx.c, .slice rx.B rx.m rx.d, .slice rx.P rx.k rx.e, .slice rx.Q rx.l rx.f] (0, 0) _ (fun w' h => h.2) Tryz.underlying64 rfl (by kernel_rfl)) ?_
  clear hcl
  intro hcl
  (try simp only [Act.put, List.getElem_toArray, List.getElem_cons_zero, List.setIfInBounds_toArray, List.set_cons_zero, List.set_cons_succ])
  refine wpM_only (i := 2) rfl (by kernel_rfl) hcl (fun K hK => ?_)
  go_simp
  refine (cB.out _).mono ?_
  rintro e w1 ⟨rfl, hz1⟩
  have hC1 := kq_call hC hn1 hz1
  have hE1 := blk_below hE hz1
  refine hK.out _ _ hC1 hE1 ?_
  clear hK K
  clear hcl
  intro hcl
  (try simp only [Act.put, List.getElem_toArray, List.getElem_cons_zero, List.getElem_cons_succ, List.setIfInBounds_toArray, List.set_cons_zero, List.set_cons_succ])
  clear hC hE
  have hC := hC1
  have hE := hE1
  clear hC1 hE1
  refine wpM_only (i := 3) rfl (by kernel_rfl) hcl (fun K hK => ?_)
  go_simp
  refine (cDb.out _ ((hiH.out.below (Below.refl _ _).drew).below hz1)).mono ?_
  rintro e w2 ⟨x2, rx2, ok, rfl, hz2, hP⟩
  have hC1 := kq_call hC hn1 hz2
  have hE1 := blk_below hE hz2
  refine hK.out _ _ hC1 hE1 ?_
  clear hK K
  clear hcl
  intro hcl
  (try simp only [Act.put, List.getElem_toArray, List.getElem_cons_zero, List.getElem_cons_succ, List.setIfInBounds_toArray, List.set_cons_zero, List.set_cons_succ])
  clear hC hE
  have hC := hC1
  have hE := hE1
  clear hC1 hE1
  (refine wpM_take (i := 4) (v := ?_) rfl (by kernel_rfl) (by kernel_rfl) (by kernel_rfl) (by decide) (fun c a w h => hPan c a _ _ w h) hcl hC (fun _ => hE) (Or.inl ⟨by rfl, ?_⟩) ?_; rotate_left; (· (intro w hSw; (try dsimp only at hSw); go_simp; (try with_reducible rfl))); clear hcl; intro hcl; (try simp only [Act.put, List.getElem_toArray, List.getElem_cons_zero, List.getElem_cons_succ, List.setIfInBounds_toArray, List.set_cons_zero, List.set_cons_succ]))
  (refine wpM_take (i := 5) (v := ?_) rfl (by kernel_rfl) (by kernel_rfl) (by kernel_rfl) (by decide) (fun c a w h => hPan c a _ _ w h) hcl hC (fun _ => hE) (Or.inl ⟨by rfl, ?_⟩) ?_; rotate_left; (· (intro w hSw; (try dsimp only at hSw); go_simp; (try with_reducible rfl))); clear hcl; intro hcl; (try simp only [Act.put, List.getElem_toArray, List.getElem_cons_zero, List.getElem_cons_succ, List.setIfInBounds_toArray, List.set_cons_zero, List.set_cons_succ]))
  (refine wpM_take (i := 6) (v := ?_) rfl (by kernel_rfl) (by kernel_rfl) (by kernel_rfl) (by decide) (fun c a w h => hPan c a _ _ w h) hcl hC (fun _ => hE) (Or.inl ⟨by rfl, ?_⟩) ?_; rotate_left; (· (intro w hSw; (try dsimp only at hSw); go_simp; (try with_reducible rfl))); clear hcl; intro hcl; (try simp only [Act.put, List.getElem_toArray, List.getElem_cons_zero, List.getElem_cons_succ, List.setIfInBounds_toArray, List.set_cons_zero, List.set_cons_succ]))
  have hS : ((((((((((w2.setCell ⟨g, 0, none⟩ (.int .i64 x2.kd)).setCell ⟨g, 1, none⟩ (.int .i64 x2.rv)).setCell ⟨g, 2, none⟩ (.int .u32 x2.rt)).setCell ⟨g, 3, none⟩ (.int .i64 x2.ro)).setCell ⟨g, 4, none⟩ (.int .i64 x2.pl)).setCell ⟨g, 5, none⟩ (.int .i64 x2.mi)).setCell ⟨g, 6, none⟩ (.slice rx2.A rx2.n rx2.c)).setCell ⟨g, 7, none⟩ (.slice rx2.B rx2.m rx2.d)).setCell ⟨g, 8, none⟩ (.slice rx2.P rx2.k rx2.e)).setCell ⟨g, 9, none⟩ (.slice rx2.Q rx2.l rx2.f)).heap[g]? = some (.cells #[.int .i64 x2.kd, .int .i64 x2.rv, .int .u32 x2.rt, .int .i64 x2.ro, .int .i64 x2.pl, .int .i64 x2.mi, .slice rx2.A rx2.n rx2.c, .slice rx2.B rx2.m rx2.d, .slice rx2.P rx2.k rx2.e, .slice rx2.Q rx2.l rx2.f] 64 (0, 0)) := by simpa using (blk_set (blk_set (blk_set (blk_set (blk_set (blk_set (blk_set (blk_set (blk_set (blk_set hE 0 (.int .i64 x2.kd)) 1 (.int .i64 x2.rv)) 2 (.int .u32 x2.rt)) 3 (.int .i64 x2.ro)) 4 (.int .i64 x2.pl)) 5 (.int .i64 x2.mi)) 6 (.slice rx2.A rx2.n rx2.c)) 7 (.slice rx2.B rx2.m rx2.d)) 8 (.slice rx2.P rx2.k rx2.e)) 9 (.slice rx2.Q rx2.l rx2.f))
  have hQ := Lib.hid (fun (hok : ok = true) => ObIn.other (w' := ((((((((((w2.setCell ⟨g, 0, none⟩ (.int .i64 x2.kd)).setCell ⟨g, 1, none⟩ (.int .i64 x2.rv)).setCell ⟨g, 2, none⟩ (.int .u32 x2.rt)).setCell ⟨g, 3, none⟩ (.int .i64 x2.ro)).setCell ⟨g, 4, none⟩ (.int .i64 x2.pl)).setCell ⟨g, 5, none⟩ (.int .i64 x2.mi)).setCell ⟨g, 6, none⟩ (.slice rx2.A rx2.n rx2.c)).setCell ⟨g, 7, none⟩ (.slice rx2.B rx2.m rx2.d)).setCell ⟨g, 8, none⟩ (.slice rx2.P rx2.k rx2.e)).setCell ⟨g, 9, none⟩ (.slice rx2.Q rx2.l rx2.f))) (hP hok).2.1 (hP hok).2.2 hE (by decide) (by decide) (by decide) (fun b hb => by repeat (first | rw [heap_set_of b hb] | rfl)) (by simp))
  have hSt := Lib.hid (fun (hok : ok = true) => (hP hok).1)
  have hC3 : KQ n w ((((((((((w2.setCell ⟨g, 0, none⟩ (.int .i64 x2.kd)).setCell ⟨g, 1, none⟩ (.int .i64 x2.rv)).setCell ⟨g, 2, none⟩ (.int .u32 x2.rt)).setCell ⟨g, 3, none⟩ (.int .i64 x2.ro)).setCell ⟨g, 4, none⟩ (.int .i64 x2.pl)).setCell ⟨g, 5, none⟩ (.int .i64 x2.mi)).setCell ⟨g, 6, none⟩ (.slice rx2.A rx2.n rx2.c)).setCell ⟨g, 7, none⟩ (.slice rx2.B rx2.m rx2.d)).setCell ⟨g, 8, none⟩ (.slice rx2.P rx2.k rx2.e)).setCell ⟨g, 9, none⟩ (.slice rx2.Q rx2.l rx2.f)) := (kq_set (kq_set (kq_set (kq_set (kq_set (kq_set (kq_set (kq_set (kq_set (kq_set hC hng (.int .i64 x2.kd)) hng (.int .i64 x2.rv)) hng (.int .u32 x2.rt)) hng (.int .i64 x2.ro)) hng (.int .i64 x2.pl)) hng (.int .i64 x2.mi)) hng (.slice rx2.A rx2.n rx2.c)) hng (.slice rx2.B rx2.m rx2.d)) hng (.slice rx2.P rx2.k rx2.e)) hng (.slice rx2.Q rx2.l rx2.f))
  have hF : ∀ b, b < w.heap.size → b ≠ g → ((((((((((w2.setCell ⟨g, 0, none⟩ (.int .i64 x2.kd)).setCell ⟨g, 1, none⟩ (.int .i64 x2.rv)).setCell ⟨g, 2, none⟩ (.int .u32 x2.rt)).setCell ⟨g, 3, none⟩ (.int .i64 x2.ro)).setCell ⟨g, 4, none⟩ (.int .i64 x2.pl)).setCell ⟨g, 5, none⟩ (.int .i64 x2.mi)).setCell ⟨g, 6, none⟩ (.slice rx2.A rx2.n rx2.c)).setCell ⟨g, 7, none⟩ (.slice rx2.B rx2.m rx2.d)).setCell ⟨g, 8, none⟩ (.slice rx2.P rx2.k rx2.e)).setCell ⟨g, 9, none⟩ (.slice rx2.Q rx2.l rx2.f)).heap[b]? = w.heap[b]? := fun b hb hbg => by
    (repeat rw [heap_set_of b hbg])
    exact (hz2.block b (Nat.lt_of_lt_of_le hb hz1.size)).trans (hz1.block b hb)
  have hZ : w.heap.size ≤ ((((((((((w2.setCell ⟨g, 0, none⟩ (.int .i64 x2.kd)).setCell ⟨g, 1, none⟩ (.int .i64 x2.rv)).setCell ⟨g, 2, none⟩ (.int .u32 x2.rt)).setCell ⟨g, 3, none⟩ (.int .i64 x2.ro)).setCell ⟨g, 4, none⟩ (.int .i64 x2.pl)).setCell ⟨g, 5, none⟩ (.int .i64 x2.mi)).setCell ⟨g, 6, none⟩ (.slice rx2.A rx2.n rx2.c)).setCell ⟨g, 7, none⟩ (.slice rx2.B rx2.m rx2.d)).setCell ⟨g, 8, none⟩ (.slice rx2.P rx2.k rx2.e)).setCell ⟨g, 9, none⟩ (.slice rx2.Q rx2.l rx2.f)).heap.size := by
    rw [show ((((((((((w2.setCell ⟨g, 0, none⟩ (.int .i64 x2.kd)).setCell ⟨g, 1, none⟩ (.int .i64 x2.rv)).setCell ⟨g, 2, none⟩ (.int .u32 x2.rt)).setCell ⟨g, 3, none⟩ (.int .i64 x2.ro)).setCell ⟨g, 4, none⟩ (.int .i64 x2.pl)).setCell ⟨g, 5, none⟩ (.int .i64 x2.mi)).setCell ⟨g, 6, none⟩ (.slice rx2.A rx2.n rx2.c)).setCell ⟨g, 7, none⟩ (.slice rx2.B rx2.m rx2.d)).setCell ⟨g, 8, none⟩ (.slice rx2.P rx2.k rx2.e)).setCell ⟨g, 9, none⟩ (.slice rx2.Q rx2.l rx2.f)).heap.size = w2.heap.size by simp]
    exact Nat.le_trans hz1.size hz2.size
  have hlx := blk_lt hE
  have hfx := blk_frozen hE
  have c0 := blk_cell hE 0
  have c1 := blk_cell hE 1
  have c2 := blk_cell hE 2
  have c3 := blk_cell hE 3
  have c4 := blk_cell hE 4
  have c5 := blk_cell hE 5
  have c6 := blk_cell hE 6
  have c7 := blk_cell hE 7
  have c8 := blk_cell hE 8
  have c9 := blk_cell hE 9
  simp at c0 c1 c2 c3 c4 c5 c6 c7 c8 c9
  refine wpM_last (i := 7) rfl (by kernel_rfl) hcl (by kernel_rfl) (fun K hK => ?_)
  go_simp
  generalize ((((((((((w2.setCell ⟨g, 0, none⟩ (.int .i64 x2.kd)).setCell ⟨g, 1, none⟩ (.int .i64 x2.rv)).setCell ⟨g, 2, none⟩ (.int .u32 x2.rt)).setCell ⟨g, 3, none⟩ (.int .i64 x2.ro)).setCell ⟨g, 4, none⟩ (.int .i64 x2.pl)).setCell ⟨g, 5, none⟩ (.int .i64 x2.mi)).setCell ⟨g, 6, none⟩ (.slice rx2.A rx2.n rx2.c)).setCell ⟨g, 7, none⟩ (.slice rx2.B rx2.m rx2.d)).setCell ⟨g, 8, none⟩ (.slice rx2.P rx2.k rx2.e)).setCell ⟨g, 9, none⟩ (.slice rx2.Q rx2.l rx2.f)) = w3 at hS hQ hC3 hF hZ ⊢
  refine hK.out _ _ hC3 ?_
  clear hK K hP
  clear hcl
  intro hcl
  (try simp only [Act.put, List.getElem_toArray, List.getElem_cons_zero, List.getElem_cons_succ, List.setIfInBounds_toArray, List.set_cons_zero, List.set_cons_succ])
  clear hC hE
  have hC := hC3
  (refine wpM_takeX (i := 8) (v := ?_) rfl (by kernel_rfl) (by kernel_rfl) (by kernel_rfl) (by decide) (fun c a w h => hPan c a _ _ w h) hcl hC (by kernel_rfl) (Or.inl ⟨by rfl, ?_⟩) ?_; rotate_left; (· (intro w hSw; (try dsimp only at hSw); go_simp; (try with_reducible rfl))); clear hcl; intro hcl; (try simp only [Act.put, List.getElem_toArray, List.getElem_cons_zero, List.getElem_cons_succ, List.setIfInBounds_toArray, List.set_cons_zero, List.set_cons_succ]))
  refine wpM_done (by kernel_rfl) ?_
  clear hcl
  (try simp only [Act.put, List.getElem_toArray, List.getElem_cons_zero, List.getElem_cons_succ, List.setIfInBounds_toArray, List.set_cons_zero, List.set_cons_succ])
  exact hQQ.out _ _ _ _ _ _ _ x2 rx2 ok w3 hS (fun hok => ⟨hSt.out hok, (hQ.out hok).1, (hQ.out hok).2⟩) hF hZ hC3.1
end Go.Proofs.YtffnpfponnhddaaGreat
