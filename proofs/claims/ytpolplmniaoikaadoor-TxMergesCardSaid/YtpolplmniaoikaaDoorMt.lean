/- The three appends of the document's Merge of transactions, each by itself, over whatever frame. -/
import Derived.Test.YtpolplmniaoikaaDoorMn
import Derived.Test.YtpolplmniaoikaaDoorM46
import Derived.Test.YtpolplmniaoikaaDoorM41
namespace Go.Proofs.YtpolplmniaoikaaDoor
open Go.RowKit

/-- A region of a text by its number. -/
def regionAt (n : Nat) : Code → Option Code
  | .region m a b => if m = n then some (.region m a b) else none
  | .loop c => regionAt n c
  | .seq a b => match regionAt n a with
    | some c => some c
    | none => regionAt n b
  | .block _ c => regionAt n c
  | .scope c => regionAt n c
  | .cond _ a b => match regionAt n a with
    | some c => some c
    | none => regionAt n b
  | _ => none
noncomputable def mreg15 : Code := ((Tryd.f7.body.bind (regionAt 15)).getD .skip)
set_option maxRecDepth 1000000 in
set_option maxHeartbeats 16000000 in
theorem mapp15_any {u0 u1 u3 u4 u5 u6 u9 u10 u11 u12 u13 u14 u15 u16 u17 u18 u19 u20 u21 u22 u23 u24 u25 u26 u27 u28 u29 u30 u31 u32 u33 u34 u35 u36 u37 u38 u39 u40 u41 u42 u43 u44 u45 u46 u47 u48 u49 u50 u51 u52 u53 u54 u55 u56 u57 u58 u59 u60 u61 u62 u63 u64 u65 u66 u67 u68 u69 u70 u71 u72 u73 u74 u75 u76 u77 u78 u79 u80 u81 u82 u83 u84 u85 u86 u87 u88 u89 u90 u91 u92 u93 u94 u95 u96 u97 u98 u99 u100 u101 u102 u103 u104 u105 u106 u107 u108 u109 u110 u111 u112 u113 u114 u115 u116 u117 u118 u119 u120 u121 u122 u123 u124 u125 u126 u127 u128 u129 u130 u131 u132 u133 u134 u135 u136 u137 u138 u139 u140 u141 u142 u143 u144 u145 u146 u147 u148 u149 u150 u151 u152 u153 u154 u155 u156 u157 u158 u159 u160 u161 u162 u163 u164 u165 u166 u167 u168 u169 u170 u171 u172 : Value} (Q : Exit → Act → World → Prop) (code : Code) (hcode : code = mreg15) (wz : World) (sb ob k n c n' c' : Nat) (A A' : Option Addr) (ps rs : List Pe) (p : Pe) (x : Im) (v : Vm) (t : Bool)
    (hq : wz.cell? ⟨sb, 11, none⟩ = some (.slice A n c)) (hA : RdE wz ob A n ps) (hk : k < n) (hp : ps[k]? = some p) (hn' : n' ≤ 32) (hsb : sb < ob) (_hn : n ≤ 400)
    (hblk : wz.heap[ob]? = some (.cells #[.int .i64 x.1, .int .u32 x.2, .int .u32 v.d0, .int .u32 v.d1, .int .u32 v.d2, .int .u32 v.d3, .int .u32 v.d4, .int .u32 v.d5, .int .u32 v.d6, .int .u32 v.d7, .bool t, .slice A' n' c'] 29 (0, 0))) (hown : Ow wz (ob + 1) 50 10 (.slice A' n' c') (rs.map Pe.enc))
    (hPan : ∀ c (a : Act) (d : Nat) y w, Q (.panic c) (a.put (some d) y) w → Q (.panic c) a w)
    (hQ : ∀ (v0 v1 v2 v3 v4 v5 v6 v7 v8 v9 : Value) (A2 : Option Addr) (c2 : Nat) (wN : World), wN.heap[ob]? = some (.cells #[.int .i64 x.1, .int .u32 x.2, .int .u32 v.d0, .int .u32 v.d1, .int .u32 v.d2, .int .u32 v.d3, .int .u32 v.d4, .int .u32 v.d5, .int .u32 v.d6, .int .u32 v.d7, .bool t, .slice A2 (n' + 1) c2] 29 (0, 0)) → Ow wN (ob + 1) 50 10 (.slice A2 (n' + 1) c2) ((rs ++ [p]).map Pe.enc) → Below ob wz wN → Q .normal ⟨#[u0, u1, (.pointer (some ⟨sb, 0, none⟩)), u3, u4, u5, u6, (.pointer (some ⟨ob, 0, none⟩)), (.int .i64 (k : Int)), u9, u10, u11, u12, u13, u14, u15, u16, u17, u18, u19, u20, u21, u22, u23, u24, u25, u26, u27, u28, u29, u30, u31, u32, u33, u34, u35, u36, u37, u38, u39, u40, u41, u42, u43, u44, u45, u46, u47, u48, u49, u50, u51, u52, u53, u54, u55, u56, u57, u58, u59, u60, u61, u62, u63, u64, u65, u66, u67, u68, u69, u70, u71, u72, u73, u74, u75, u76, u77, u78, u79, u80, u81, u82, u83, u84, u85, u86, u87, u88, u89, u90, u91, u92, u93, u94, u95, u96, u97, u98, u99, u100, u101, u102, u103, v0, v1, v2, v3, v4, v5, v6, v7, v8, v9, u114, u115, u116, u117, u118, u119, u120, u121, u122, u123, u124, u125, u126, u127, u128, u129, u130, u131, u132, u133, u134, u135, u136, u137, u138, u139, u140, u141, u142, u143, u144, u145, u146, u147, u148, u149, u150, u151, u152, u153, u154, u155, u156, u157, u158, u159, u160, u161, u162, u163, u164, u165, u166, u167, u168, u169, u170, u171, u172], []⟩ wN) :
    Code.wp Tryd.prog code Q ⟨#[u0, u1, (.pointer (some ⟨sb, 0, none⟩)), u3, u4, u5, u6, (.pointer (some ⟨ob, 0, none⟩)), (.int .i64 (k : Int)), u9, u10, u11, u12, u13, u14, u15, u16, u17, u18, u19, u20, u21, u22, u23, u24, u25, u26, u27, u28, u29, u30, u31, u32, u33, u34, u35, u36, u37, u38, u39, u40, u41, u42, u43, u44, u45, u46, u47, u48, u49, u50, u51, u52, u53, u54, u55, u56, u57, u58, u59, u60, u61, u62, u63, u64, u65, u66, u67, u68, u69, u70, u71, u72, u73, u74, u75, u76, u77, u78, u79, u80, u81, u82, u83, u84, u85, u86, u87, u88, u89, u90, u91, u92, u93, u94, u95, u96, u97, u98, u99, u100, u101, u102, u103, u104, u105, u106, u107, u108, u109, u110, u111, u112, u113, u114, u115, u116, u117, u118, u119, u120, u121, u122, u123, u124, u125, u126, u127, u128, u129, u130, u131, u132, u133, u134, u135, u136, u137, u138, u139, u140, u141, u142, u143, u144, u145, u146, u147, u148, u149, u150, u151, u152, u153, u154, u155, u156, u157, u158, u159, u160, u161, u162, u163, u164, u165, u166, u167, u168, u169, u170, u171, u172], []⟩ wz := by
  obtain ⟨bA, oA, pt, hA4, hbA, hpt, hcp⟩ := hA.1.at_ hk
  obtain rfl : pt = p := Option.some.inj (hpt.symm.trans hp)
  subst hA4
  have p0 := hcp 0 _ rfl
  have p1 := hcp 1 _ rfl
  have p2 := hcp 2 _ rfl
  have p3 := hcp 3 _ rfl
  have p4 := hcp 4 _ rfl
  have p5 := hcp 5 _ rfl
  have p6 := hcp 6 _ rfl
  have p7 := hcp 7 _ rfl
  have p8 := hcp 8 _ rfl
  have p9 := hcp 9 _ rfl
  rw [Nat.add_zero] at p0
  clear hcp
  have hki : (k : Int) < (n : Int) := by omega
  have hk0 : (0 : Int) ≤ (k : Int) := by omega
  have hrl : rs.length = n' := by simpa using hown.rd.2.1
  have hlo0 := blk_lt hblk
  have hwo : sb < ob := hsb
  have hblkH := Lib.hid hblk
  have hqlH := Lib.hid hrl
  have o11 := blk_cell hblk 11
  simp at o11
  clear hblk hrl hA hp hpt
  subst hcode
  conv => arg 2; whnf
  have hC : KQ ob wz wz.drew := kq (Below.refl _ _).drew
  refine wp_region_M (fun w' => KQ ob wz w') (fun w' => w'.cell? ⟨ob, 11, none⟩ = some (.slice A' n' c')) 8 (by kernel_rfl) hC o11 ?_
  intro hcl
  have hC : KQ ob wz wz.drew := kq (Below.refl _ _).drew
  have hE : wz.drew.cell? ⟨ob, 11, none⟩ = some (.slice A' n' c') := o11
  (refine wpM_take (i := 0) (v := ?_) rfl (by kernel_rfl) (by kernel_rfl) (by kernel_rfl) (by decide) (fun c a w h => hPan c a _ _ w h) hcl hC (fun _ => hE) (Or.inl ⟨by rfl, ?_⟩) ?_; rotate_left; (· (intro w hSw; (try dsimp only at hSw); go_simp; (try with_reducible rfl))); clear hcl; intro hcl; (try simp only [Act.put, List.getElem_toArray, List.getElem_cons_zero, List.setIfInBounds_toArray, List.set_cons_zero, List.set_cons_succ]))
  (refine wpM_take0 (i := 1) (v := ?_) rfl rfl (by kernel_rfl) (by kernel_rfl) (by kernel_rfl) (by kernel_rfl) (by decide) (fun c a w h => hPan c a _ _ w h) hcl hC (fun _ => hE) (Or.inl ⟨by rfl, ?_⟩) ?_; rotate_left; (· (intro w hSw; (try dsimp only at hSw); go_simp; (try with_reducible rfl))); clear hcl; intro hcl; (try simp only [Act.put, List.getElem_toArray, List.getElem_cons_zero, List.getElem_cons_succ, List.setIfInBounds_toArray, List.set_cons_zero, List.set_cons_succ]))
  (refine wpM_take (i := 2) (v := ?_) rfl (by kernel_rfl) (by kernel_rfl) (by kernel_rfl) (by decide) (fun c a w h => hPan c a _ _ w h) hcl hC (fun _ => hE) (Or.inl ⟨by rfl, ?_⟩) ?_; rotate_left; (· (intro w hSw; (try dsimp only at hSw); go_simp; (try with_reducible rfl))); clear hcl; intro hcl; (try simp only [Act.put, List.getElem_toArray, List.getElem_cons_zero, List.getElem_cons_succ, List.setIfInBounds_toArray, List.set_cons_zero, List.set_cons_succ]))
  (refine wpM_take (i := 3) (v := ?_) rfl (by kernel_rfl) (by kernel_rfl) (by kernel_rfl) (by decide) (fun c a w h => hPan c a _ _ w h) hcl hC (fun _ => hE) (Or.inl ⟨by rfl, ?_⟩) ?_; rotate_left; (· (intro w hSw; (try dsimp only at hSw); go_simp; (try with_reducible rfl))); clear hcl; intro hcl; (try simp only [Act.put, List.getElem_toArray, List.getElem_cons_zero, List.getElem_cons_succ, List.setIfInBounds_toArray, List.set_cons_zero, List.set_cons_succ]))
  (refine wpM_take (i := 4) (v := ?_) rfl (by kernel_rfl) (by kernel_rfl) (by kernel_rfl) (by decide) (fun c a w h => hPan c a _ _ w h) hcl hC (fun _ => hE) (Or.inl ⟨by rfl, ?_⟩) ?_; rotate_left; (· (intro w hSw; (try dsimp only at hSw); go_simp; (try with_reducible rfl))); clear hcl; intro hcl; (try simp only [Act.put, List.getElem_toArray, List.getElem_cons_zero, List.getElem_cons_succ, List.setIfInBounds_toArray, List.set_cons_zero, List.set_cons_succ]))
  (refine wpM_take (i := 5) (v := ?_) rfl (by kernel_rfl) (by kernel_rfl) (by kernel_rfl) (by decide) (fun c a w h => hPan c a _ _ w h) hcl hC (fun _ => hE) (Or.inl ⟨by rfl, ?_⟩) ?_; rotate_left; (· (intro w hSw; (try dsimp only at hSw); go_simp; (try with_reducible rfl))); clear hcl; intro hcl; (try simp only [Act.put, List.getElem_toArray, List.getElem_cons_zero, List.getElem_cons_succ, List.setIfInBounds_toArray, List.set_cons_zero, List.set_cons_succ]))
  (refine wpM_take (i := 6) (v := ?_) rfl (by kernel_rfl) (by kernel_rfl) (by kernel_rfl) (by decide) (fun c a w h => hPan c a _ _ w h) hcl hC (fun _ => hE) (Or.inl ⟨by rfl, ?_⟩) ?_; rotate_left; (· (intro w hSw; (try dsimp only at hSw); go_simp; (try with_reducible rfl))); clear hcl; intro hcl; (try simp only [Act.put, List.getElem_toArray, List.getElem_cons_zero, List.getElem_cons_succ, List.setIfInBounds_toArray, List.set_cons_zero, List.set_cons_succ]))
  refine wpM_only (i := 7) rfl (by kernel_rfl) hcl (fun K hK => ?_)
  go_simp
  have hv3 : Below wz.heap.size wz (wz.alloc (.cells #[.string (bs pt.key), .int .i64 pt.e.act, .string (bs pt.e.name), .int .i64 pt.e.val, .int .i64 pt.e.tag.1.1, .int .u32 pt.e.tag.1.2, .int .i64 pt.e.tag.2, .int .u32 pt.e.st.1, .int .i64 pt.e.st.2, .slice pt.A pt.l pt.c] 50)).drew := ((Below.refl _ _).alloc (Nat.le_refl _) _).drew
  have hC3 : KQ ob wz (wz.alloc (.cells #[.string (bs pt.key), .int .i64 pt.e.act, .string (bs pt.e.name), .int .i64 pt.e.val, .int .i64 pt.e.tag.1.1, .int .u32 pt.e.tag.1.2, .int .i64 pt.e.tag.2, .int .u32 pt.e.st.1, .int .i64 pt.e.st.2, .slice pt.A pt.l pt.c] 50)).drew := kq (hv3.mono (by omega))
  have hblk3 := blk_below hblkH.out hv3
  have hE3 := blk_cell hblk3 11
  simp at hE3
  refine hK.out _ _ hC3 hE3 ?_
  clear hK K hE hC hcl
  intro hcl
  have hC := hC3
  (try simp only [Act.put, List.setIfInBounds_toArray, List.set_cons_zero, List.set_cons_succ])
  have hown3 := hown.below hv3
  have hlo := blk_lt hblk3
  refine wpM_last (i := 8) rfl (by kernel_rfl) hcl (by kernel_rfl) (fun K hK => ?_)
  refine step_append_rd _ rfl _ _ _ rfl ePartD (base := ob + 1) (v := .slice A' n' c') (xs := rs.map Pe.enc) rfl hown3 rfl (Rd.one [.string (bs pt.key), .int .i64 pt.e.act, .string (bs pt.e.name), .int .i64 pt.e.val, .int .i64 pt.e.tag.1.1, .int .u32 pt.e.tag.1.2, .int .i64 pt.e.tag.2, .int .u32 pt.e.st.1, .int .i64 pt.e.st.2, .slice pt.A pt.l pt.c] rfl) (by simp) (by simp [Value.oneCell'])
    (by rw [List.length_map, hqlH.out]; unfold maxLen; omega) (by rw [List.length_map, hqlH.out]; omega) (by simp; omega) ?_
  intro A2 n2 c2 w4 hn2 hown4 hg4 hat4
  obtain rfl : n2 = n' + 1 := by rw [hn2, List.length_map, hqlH.out]
  clear hn2
  have hblk4 : w4.heap[ob]? = some (.cells #[.int .i64 x.1, .int .u32 x.2, .int .u32 v.d0, .int .u32 v.d1, .int .u32 v.d2, .int .u32 v.d3, .int .u32 v.d4, .int .u32 v.d5, .int .u32 v.d6, .int .u32 v.d7, .bool t, .slice A' n' c'] 29 (0, 0)) := (hg4.block _ hlo (fun e => by have := (hown3.block _ e.symm).1; omega)).trans hblk3
  have hfr4 := blk_frozen hblk4
  have hlt4 := blk_lt hblk4
  have o114 := blk_cell hblk4 11
  simp at o114
  have hb4 : Below ob wz w4 := (hv3.mono (by omega)).grown hg4 (by simp; omega) (fun g e => by have := (hown3.block g e).1; omega)
  refine hK.out _ _ (kq hb4) ?_
  clear hK K hC hcl
  intro hcl
  have hC := kq hb4
  (try simp only [Act.put, List.setIfInBounds_toArray])
  (refine wpM_takeX (i := 9) (v := ?_) rfl (by kernel_rfl) (by kernel_rfl) (by kernel_rfl) (by decide) (fun c a w h => hPan c a _ _ w h) hcl hC (by kernel_rfl) (Or.inl ⟨by rfl, ?_⟩) ?_; rotate_left; (· (intro w hSw; (try dsimp only at hSw); go_simp; (try with_reducible rfl))); clear hcl; intro hcl; (try simp only [Act.put, List.getElem_toArray, List.getElem_cons_zero, List.getElem_cons_succ, List.setIfInBounds_toArray, List.set_cons_zero, List.set_cons_succ]))
  refine wpM_last (i := 10) rfl (by kernel_rfl) hcl (by kernel_rfl) (fun K hK => ?_)
  go_simp
  refine hK.out _ _ (kq (hb4.setCell (by simp) _)) ?_
  clear hK K hC hcl
  intro hcl
  refine wpM_done (by kernel_rfl) ?_
  clear hcl
  exact hQ _ _ _ _ _ _ _ _ _ _ A2 c2 _ (by rw [blk_set hblk4 11]; simp) (Ow.setCell (by rw [List.map_append]; exact hown4) (a := ⟨ob, 11, none⟩) (by show ob < ob + 1; omega) _) (hb4.setCell (by simp) _)
noncomputable def mreg18 : Code := ((Tryd.f7.body.bind (regionAt 18)).getD .skip)
set_option maxRecDepth 1000000 in
set_option maxHeartbeats 16000000 in
theorem mapp18_any {u0 u1 u2 u4 u5 u6 u8 u10 u11 u12 u13 u14 u15 u16 u17 u18 u19 u20 u21 u22 u23 u24 u25 u26 u27 u28 u29 u30 u31 u32 u33 u34 u35 u36 u37 u38 u39 u40 u41 u42 u43 u44 u45 u46 u47 u48 u49 u50 u51 u52 u53 u54 u55 u56 u57 u58 u59 u60 u61 u62 u63 u64 u65 u66 u67 u68 u69 u70 u71 u72 u73 u74 u75 u76 u77 u78 u79 u80 u81 u82 u83 u84 u85 u86 u87 u88 u89 u90 u91 u92 u93 u94 u95 u96 u97 u98 u99 u100 u101 u102 u103 u104 u105 u106 u107 u108 u109 u110 u111 u112 u113 u114 u115 u116 u117 u118 u119 u120 u121 u122 u123 u124 u125 u126 u127 u128 u129 u130 u131 u132 u133 u134 u135 u136 u137 u138 u139 u140 u141 u142 u143 u144 u145 u146 u147 u148 u149 u150 u151 u152 u153 u154 u155 u156 u157 u158 u159 u160 u161 u162 u163 u164 u165 u166 u167 u168 u169 u170 u171 u172 : Value} (Q : Exit → Act → World → Prop) (code : Code) (hcode : code = mreg18) (wz : World) (sb ob k n c n' c' : Nat) (A A' : Option Addr) (ps rs : List Pe) (p : Pe) (x : Im) (v : Vm) (t : Bool)
    (hq : wz.cell? ⟨sb, 11, none⟩ = some (.slice A n c)) (hA : RdE wz ob A n ps) (hk : k < n) (hp : ps[k]? = some p) (hn' : n' ≤ 32) (hsb : sb < ob) (_hn : n ≤ 400)
    (hblk : wz.heap[ob]? = some (.cells #[.int .i64 x.1, .int .u32 x.2, .int .u32 v.d0, .int .u32 v.d1, .int .u32 v.d2, .int .u32 v.d3, .int .u32 v.d4, .int .u32 v.d5, .int .u32 v.d6, .int .u32 v.d7, .bool t, .slice A' n' c'] 29 (0, 0))) (hown : Ow wz (ob + 1) 50 10 (.slice A' n' c') (rs.map Pe.enc))
    (hPan : ∀ c (a : Act) (d : Nat) y w, Q (.panic c) (a.put (some d) y) w → Q (.panic c) a w)
    (hQ : ∀ (v0 v1 v2 v3 v4 v5 v6 v7 v8 v9 : Value) (A2 : Option Addr) (c2 : Nat) (wN : World), wN.heap[ob]? = some (.cells #[.int .i64 x.1, .int .u32 x.2, .int .u32 v.d0, .int .u32 v.d1, .int .u32 v.d2, .int .u32 v.d3, .int .u32 v.d4, .int .u32 v.d5, .int .u32 v.d6, .int .u32 v.d7, .bool t, .slice A2 (n' + 1) c2] 29 (0, 0)) → Ow wN (ob + 1) 50 10 (.slice A2 (n' + 1) c2) ((rs ++ [p]).map Pe.enc) → Below ob wz wN → Q .normal ⟨#[u0, u1, u2, (.pointer (some ⟨sb, 0, none⟩)), u4, u5, u6, (.pointer (some ⟨ob, 0, none⟩)), u8, (.int .i64 (k : Int)), u10, u11, u12, u13, u14, u15, u16, u17, u18, u19, u20, u21, u22, u23, u24, u25, u26, u27, u28, u29, u30, u31, u32, u33, u34, u35, u36, u37, u38, u39, u40, u41, u42, u43, u44, u45, u46, u47, u48, u49, u50, u51, u52, u53, u54, u55, u56, u57, u58, u59, u60, u61, u62, u63, u64, u65, u66, u67, u68, u69, u70, u71, u72, u73, u74, u75, u76, u77, u78, u79, u80, u81, u82, u83, u84, u85, u86, u87, u88, u89, u90, u91, u92, u93, u94, u95, u96, u97, u98, u99, u100, u101, u102, u103, u104, u105, u106, u107, u108, u109, u110, u111, u112, u113, u114, u115, u116, u117, u118, u119, u120, u121, u122, u123, u124, u125, u126, u127, u128, u129, u130, u131, u132, u133, u134, u135, u136, u137, u138, u139, u140, v0, v1, v2, v3, v4, v5, v6, v7, v8, v9, u151, u152, u153, u154, u155, u156, u157, u158, u159, u160, u161, u162, u163, u164, u165, u166, u167, u168, u169, u170, u171, u172], []⟩ wN) :
    Code.wp Tryd.prog code Q ⟨#[u0, u1, u2, (.pointer (some ⟨sb, 0, none⟩)), u4, u5, u6, (.pointer (some ⟨ob, 0, none⟩)), u8, (.int .i64 (k : Int)), u10, u11, u12, u13, u14, u15, u16, u17, u18, u19, u20, u21, u22, u23, u24, u25, u26, u27, u28, u29, u30, u31, u32, u33, u34, u35, u36, u37, u38, u39, u40, u41, u42, u43, u44, u45, u46, u47, u48, u49, u50, u51, u52, u53, u54, u55, u56, u57, u58, u59, u60, u61, u62, u63, u64, u65, u66, u67, u68, u69, u70, u71, u72, u73, u74, u75, u76, u77, u78, u79, u80, u81, u82, u83, u84, u85, u86, u87, u88, u89, u90, u91, u92, u93, u94, u95, u96, u97, u98, u99, u100, u101, u102, u103, u104, u105, u106, u107, u108, u109, u110, u111, u112, u113, u114, u115, u116, u117, u118, u119, u120, u121, u122, u123, u124, u125, u126, u127, u128, u129, u130, u131, u132, u133, u134, u135, u136, u137, u138, u139, u140, u141, u142, u143, u144, u145, u146, u147, u148, u149, u150, u151, u152, u153, u154, u155, u156, u157, u158, u159, u160, u161, u162, u163, u164, u165, u166, u167, u168, u169, u170, u171, u172], []⟩ wz := by
  obtain ⟨bA, oA, pt, hA4, hbA, hpt, hcp⟩ := hA.1.at_ hk
  obtain rfl : pt = p := Option.some.inj (hpt.symm.trans hp)
  subst hA4
  have p0 := hcp 0 _ rfl
  have p1 := hcp 1 _ rfl
  have p2 := hcp 2 _ rfl
  have p3 := hcp 3 _ rfl
  have p4 := hcp 4 _ rfl
  have p5 := hcp 5 _ rfl
  have p6 := hcp 6 _ rfl
  have p7 := hcp 7 _ rfl
  have p8 := hcp 8 _ rfl
  have p9 := hcp 9 _ rfl
  rw [Nat.add_zero] at p0
  clear hcp
  have hki : (k : Int) < (n : Int) := by omega
  have hk0 : (0 : Int) ≤ (k : Int) := by omega
  have hrl : rs.length = n' := by simpa using hown.rd.2.1
  have hlo0 := blk_lt hblk
  have hwo : sb < ob := hsb
  have hblkH := Lib.hid hblk
  have hqlH := Lib.hid hrl
  have o11 := blk_cell hblk 11
  simp at o11
  clear hblk hrl hA hp hpt
  subst hcode
  conv => arg 2; whnf
  have hC : KQ ob wz wz.drew := kq (Below.refl _ _).drew
  refine wp_region_M (fun w' => KQ ob wz w') (fun w' => w'.cell? ⟨ob, 11, none⟩ = some (.slice A' n' c')) 8 (by kernel_rfl) hC o11 ?_
  intro hcl
  have hC : KQ ob wz wz.drew := kq (Below.refl _ _).drew
  have hE : wz.drew.cell? ⟨ob, 11, none⟩ = some (.slice A' n' c') := o11
  (refine wpM_take (i := 0) (v := ?_) rfl (by kernel_rfl) (by kernel_rfl) (by kernel_rfl) (by decide) (fun c a w h => hPan c a _ _ w h) hcl hC (fun _ => hE) (Or.inl ⟨by rfl, ?_⟩) ?_; rotate_left; (· (intro w hSw; (try dsimp only at hSw); go_simp; (try with_reducible rfl))); clear hcl; intro hcl; (try simp only [Act.put, List.getElem_toArray, List.getElem_cons_zero, List.setIfInBounds_toArray, List.set_cons_zero, List.set_cons_succ]))
  (refine wpM_take0 (i := 1) (v := ?_) rfl rfl (by kernel_rfl) (by kernel_rfl) (by kernel_rfl) (by kernel_rfl) (by decide) (fun c a w h => hPan c a _ _ w h) hcl hC (fun _ => hE) (Or.inl ⟨by rfl, ?_⟩) ?_; rotate_left; (· (intro w hSw; (try dsimp only at hSw); go_simp; (try with_reducible rfl))); clear hcl; intro hcl; (try simp only [Act.put, List.getElem_toArray, List.getElem_cons_zero, List.getElem_cons_succ, List.setIfInBounds_toArray, List.set_cons_zero, List.set_cons_succ]))
  (refine wpM_take (i := 2) (v := ?_) rfl (by kernel_rfl) (by kernel_rfl) (by kernel_rfl) (by decide) (fun c a w h => hPan c a _ _ w h) hcl hC (fun _ => hE) (Or.inl ⟨by rfl, ?_⟩) ?_; rotate_left; (· (intro w hSw; (try dsimp only at hSw); go_simp; (try with_reducible rfl))); clear hcl; intro hcl; (try simp only [Act.put, List.getElem_toArray, List.getElem_cons_zero, List.getElem_cons_succ, List.setIfInBounds_toArray, List.set_cons_zero, List.set_cons_succ]))
  (refine wpM_take (i := 3) (v := ?_) rfl (by kernel_rfl) (by kernel_rfl) (by kernel_rfl) (by decide) (fun c a w h => hPan c a _ _ w h) hcl hC (fun _ => hE) (Or.inl ⟨by rfl, ?_⟩) ?_; rotate_left; (· (intro w hSw; (try dsimp only at hSw); go_simp; (try with_reducible rfl))); clear hcl; intro hcl; (try simp only [Act.put, List.getElem_toArray, List.getElem_cons_zero, List.getElem_cons_succ, List.setIfInBounds_toArray, List.set_cons_zero, List.set_cons_succ]))
  (refine wpM_take (i := 4) (v := ?_) rfl (by kernel_rfl) (by kernel_rfl) (by kernel_rfl) (by decide) (fun c a w h => hPan c a _ _ w h) hcl hC (fun _ => hE) (Or.inl ⟨by rfl, ?_⟩) ?_; rotate_left; (· (intro w hSw; (try dsimp only at hSw); go_simp; (try with_reducible rfl))); clear hcl; intro hcl; (try simp only [Act.put, List.getElem_toArray, List.getElem_cons_zero, List.getElem_cons_succ, List.setIfInBounds_toArray, List.set_cons_zero, List.set_cons_succ]))
  (refine wpM_take (i := 5) (v := ?_) rfl (by kernel_rfl) (by kernel_rfl) (by kernel_rfl) (by decide) (fun c a w h => hPan c a _ _ w h) hcl hC (fun _ => hE) (Or.inl ⟨by rfl, ?_⟩) ?_; rotate_left; (· (intro w hSw; (try dsimp only at hSw); go_simp; (try with_reducible rfl))); clear hcl; intro hcl; (try simp only [Act.put, List.getElem_toArray, List.getElem_cons_zero, List.getElem_cons_succ, List.setIfInBounds_toArray, List.set_cons_zero, List.set_cons_succ]))
  (refine wpM_take (i := 6) (v := ?_) rfl (by kernel_rfl) (by kernel_rfl) (by kernel_rfl) (by decide) (fun c a w h => hPan c a _ _ w h) hcl hC (fun _ => hE) (Or.inl ⟨by rfl, ?_⟩) ?_; rotate_left; (· (intro w hSw; (try dsimp only at hSw); go_simp; (try with_reducible rfl))); clear hcl; intro hcl; (try simp only [Act.put, List.getElem_toArray, List.getElem_cons_zero, List.getElem_cons_succ, List.setIfInBounds_toArray, List.set_cons_zero, List.set_cons_succ]))
  refine wpM_only (i := 7) rfl (by kernel_rfl) hcl (fun K hK => ?_)
  go_simp
  have hv3 : Below wz.heap.size wz (wz.alloc (.cells #[.string (bs pt.key), .int .i64 pt.e.act, .string (bs pt.e.name), .int .i64 pt.e.val, .int .i64 pt.e.tag.1.1, .int .u32 pt.e.tag.1.2, .int .i64 pt.e.tag.2, .int .u32 pt.e.st.1, .int .i64 pt.e.st.2, .slice pt.A pt.l pt.c] 50)).drew := ((Below.refl _ _).alloc (Nat.le_refl _) _).drew
  have hC3 : KQ ob wz (wz.alloc (.cells #[.string (bs pt.key), .int .i64 pt.e.act, .string (bs pt.e.name), .int .i64 pt.e.val, .int .i64 pt.e.tag.1.1, .int .u32 pt.e.tag.1.2, .int .i64 pt.e.tag.2, .int .u32 pt.e.st.1, .int .i64 pt.e.st.2, .slice pt.A pt.l pt.c] 50)).drew := kq (hv3.mono (by omega))
  have hblk3 := blk_below hblkH.out hv3
  have hE3 := blk_cell hblk3 11
  simp at hE3
  refine hK.out _ _ hC3 hE3 ?_
  clear hK K hE hC hcl
  intro hcl
  have hC := hC3
  (try simp only [Act.put, List.setIfInBounds_toArray, List.set_cons_zero, List.set_cons_succ])
  have hown3 := hown.below hv3
  have hlo := blk_lt hblk3
  refine wpM_last (i := 8) rfl (by kernel_rfl) hcl (by kernel_rfl) (fun K hK => ?_)
  refine step_append_rd _ rfl _ _ _ rfl ePartD (base := ob + 1) (v := .slice A' n' c') (xs := rs.map Pe.enc) rfl hown3 rfl (Rd.one [.string (bs pt.key), .int .i64 pt.e.act, .string (bs pt.e.name), .int .i64 pt.e.val, .int .i64 pt.e.tag.1.1, .int .u32 pt.e.tag.1.2, .int .i64 pt.e.tag.2, .int .u32 pt.e.st.1, .int .i64 pt.e.st.2, .slice pt.A pt.l pt.c] rfl) (by simp) (by simp [Value.oneCell'])
    (by rw [List.length_map, hqlH.out]; unfold maxLen; omega) (by rw [List.length_map, hqlH.out]; omega) (by simp; omega) ?_
  intro A2 n2 c2 w4 hn2 hown4 hg4 hat4
  obtain rfl : n2 = n' + 1 := by rw [hn2, List.length_map, hqlH.out]
  clear hn2
  have hblk4 : w4.heap[ob]? = some (.cells #[.int .i64 x.1, .int .u32 x.2, .int .u32 v.d0, .int .u32 v.d1, .int .u32 v.d2, .int .u32 v.d3, .int .u32 v.d4, .int .u32 v.d5, .int .u32 v.d6, .int .u32 v.d7, .bool t, .slice A' n' c'] 29 (0, 0)) := (hg4.block _ hlo (fun e => by have := (hown3.block _ e.symm).1; omega)).trans hblk3
  have hfr4 := blk_frozen hblk4
  have hlt4 := blk_lt hblk4
  have o114 := blk_cell hblk4 11
  simp at o114
  have hb4 : Below ob wz w4 := (hv3.mono (by omega)).grown hg4 (by simp; omega) (fun g e => by have := (hown3.block g e).1; omega)
  refine hK.out _ _ (kq hb4) ?_
  clear hK K hC hcl
  intro hcl
  have hC := kq hb4
  (try simp only [Act.put, List.setIfInBounds_toArray])
  (refine wpM_takeX (i := 9) (v := ?_) rfl (by kernel_rfl) (by kernel_rfl) (by kernel_rfl) (by decide) (fun c a w h => hPan c a _ _ w h) hcl hC (by kernel_rfl) (Or.inl ⟨by rfl, ?_⟩) ?_; rotate_left; (· (intro w hSw; (try dsimp only at hSw); go_simp; (try with_reducible rfl))); clear hcl; intro hcl; (try simp only [Act.put, List.getElem_toArray, List.getElem_cons_zero, List.getElem_cons_succ, List.setIfInBounds_toArray, List.set_cons_zero, List.set_cons_succ]))
  refine wpM_last (i := 10) rfl (by kernel_rfl) hcl (by kernel_rfl) (fun K hK => ?_)
  go_simp
  refine hK.out _ _ (kq (hb4.setCell (by simp) _)) ?_
  clear hK K hC hcl
  intro hcl
  refine wpM_done (by kernel_rfl) ?_
  clear hcl
  exact hQ _ _ _ _ _ _ _ _ _ _ A2 c2 _ (by rw [blk_set hblk4 11]; simp) (Ow.setCell (by rw [List.map_append]; exact hown4) (a := ⟨ob, 11, none⟩) (by show ob < ob + 1; omega) _) (hb4.setCell (by simp) _)
noncomputable def mreg11 : Code := ((Tryd.f7.body.bind (regionAt 11)).getD .skip)
set_option maxRecDepth 1000000 in
set_option maxHeartbeats 16000000 in
theorem mapp11_any {u0 u1 u3 u4 u5 u6 u9 u10 u11 u12 u13 u14 u15 u16 u17 u18 u19 u20 u21 u22 u23 u24 u25 u26 u27 u28 u29 u30 u31 u32 u33 u34 u35 u36 u37 u38 u39 u40 u41 u42 u43 u44 u45 u46 u47 u48 u49 u50 u51 u52 u53 u54 u55 u56 u57 u58 u59 u60 u61 u62 u63 u64 u65 u66 u67 u68 u69 u70 u71 u72 u73 u74 u75 u76 u77 u78 u79 u80 u81 u82 u83 u84 u85 u86 u87 u88 u89 u90 u91 u92 u93 u94 u95 u96 u97 u98 u99 u100 u101 u102 u103 u104 u105 u106 u107 u108 u109 u110 u111 u112 u113 u114 u115 u116 u117 u118 u119 u120 u121 u122 u123 u124 u125 u126 u127 u128 u129 u130 u131 u132 u133 u134 u135 u136 u137 u138 u139 u140 u141 u142 u143 u144 u145 u146 u147 u148 u149 u150 u151 u152 u153 u154 u155 u156 u157 u158 u159 u160 u161 u162 u163 u164 u165 u166 u167 u168 u169 u170 u171 u172 : Value} (Q : Exit → Act → World → Prop) (code : Code) (hcode : code = mreg11) (wz : World) (sb ob k n c n' c' : Nat) (A A' : Option Addr) (ps rs : List Pe) (p : Pe) (x : Im) (v : Vm) (t : Bool)
    (hq : wz.cell? ⟨sb, 11, none⟩ = some (.slice A n c)) (hA : RdE wz ob A n ps) (hk : k < n) (hp : ps[k]? = some p) (hn' : n' ≤ 32) (hsb : sb < ob) (_hn : n ≤ 400)
    (hblk : wz.heap[ob]? = some (.cells #[.int .i64 x.1, .int .u32 x.2, .int .u32 v.d0, .int .u32 v.d1, .int .u32 v.d2, .int .u32 v.d3, .int .u32 v.d4, .int .u32 v.d5, .int .u32 v.d6, .int .u32 v.d7, .bool t, .slice A' n' c'] 29 (0, 0))) (hown : Ow wz (ob + 1) 50 10 (.slice A' n' c') (rs.map Pe.enc))
    (hPan : ∀ c (a : Act) (d : Nat) y w, Q (.panic c) (a.put (some d) y) w → Q (.panic c) a w)
    (hQ : ∀ (v0 v1 v2 v3 v4 v5 v6 v7 v8 v9 : Value) (A2 : Option Addr) (c2 : Nat) (wN : World), wN.heap[ob]? = some (.cells #[.int .i64 x.1, .int .u32 x.2, .int .u32 v.d0, .int .u32 v.d1, .int .u32 v.d2, .int .u32 v.d3, .int .u32 v.d4, .int .u32 v.d5, .int .u32 v.d6, .int .u32 v.d7, .bool t, .slice A2 (n' + 1) c2] 29 (0, 0)) → Ow wN (ob + 1) 50 10 (.slice A2 (n' + 1) c2) ((rs ++ [p]).map Pe.enc) → Below ob wz wN → Q .normal ⟨#[u0, u1, (.pointer (some ⟨sb, 0, none⟩)), u3, u4, u5, u6, (.pointer (some ⟨ob, 0, none⟩)), (.int .i64 (k : Int)), u9, u10, u11, u12, u13, u14, u15, u16, u17, u18, u19, u20, u21, u22, u23, u24, u25, u26, u27, u28, u29, u30, u31, u32, u33, u34, u35, u36, u37, u38, u39, u40, u41, u42, u43, u44, u45, u46, u47, u48, u49, u50, u51, u52, u53, u54, u55, u56, u57, v0, v1, v2, v3, v4, v5, v6, v7, v8, v9, u68, u69, u70, u71, u72, u73, u74, u75, u76, u77, u78, u79, u80, u81, u82, u83, u84, u85, u86, u87, u88, u89, u90, u91, u92, u93, u94, u95, u96, u97, u98, u99, u100, u101, u102, u103, u104, u105, u106, u107, u108, u109, u110, u111, u112, u113, u114, u115, u116, u117, u118, u119, u120, u121, u122, u123, u124, u125, u126, u127, u128, u129, u130, u131, u132, u133, u134, u135, u136, u137, u138, u139, u140, u141, u142, u143, u144, u145, u146, u147, u148, u149, u150, u151, u152, u153, u154, u155, u156, u157, u158, u159, u160, u161, u162, u163, u164, u165, u166, u167, u168, u169, u170, u171, u172], []⟩ wN) :
    Code.wp Tryd.prog code Q ⟨#[u0, u1, (.pointer (some ⟨sb, 0, none⟩)), u3, u4, u5, u6, (.pointer (some ⟨ob, 0, none⟩)), (.int .i64 (k : Int)), u9, u10, u11, u12, u13, u14, u15, u16, u17, u18, u19, u20, u21, u22, u23, u24, u25, u26, u27, u28, u29, u30, u31, u32, u33, u34, u35, u36, u37, u38, u39, u40, u41, u42, u43, u44, u45, u46, u47, u48, u49, u50, u51, u52, u53, u54, u55, u56, u57, u58, u59, u60, u61, u62, u63, u64, u65, u66, u67, u68, u69, u70, u71, u72, u73, u74, u75, u76, u77, u78, u79, u80, u81, u82, u83, u84, u85, u86, u87, u88, u89, u90, u91, u92, u93, u94, u95, u96, u97, u98, u99, u100, u101, u102, u103, u104, u105, u106, u107, u108, u109, u110, u111, u112, u113, u114, u115, u116, u117, u118, u119, u120, u121, u122, u123, u124, u125, u126, u127, u128, u129, u130, u131, u132, u133, u134, u135, u136, u137, u138, u139, u140, u141, u142, u143, u144, u145, u146, u147, u148, u149, u150, u151, u152, u153, u154, u155, u156, u157, u158, u159, u160, u161, u162, u163, u164, u165, u166, u167, u168, u169, u170, u171, u172], []⟩ wz := by
  obtain ⟨bA, oA, pt, hA4, hbA, hpt, hcp⟩ := hA.1.at_ hk
  obtain rfl : pt = p := Option.some.inj (hpt.symm.trans hp)
  subst hA4
  have p0 := hcp 0 _ rfl
  have p1 := hcp 1 _ rfl
  have p2 := hcp 2 _ rfl
  have p3 := hcp 3 _ rfl
  have p4 := hcp 4 _ rfl
  have p5 := hcp 5 _ rfl
  have p6 := hcp 6 _ rfl
  have p7 := hcp 7 _ rfl
  have p8 := hcp 8 _ rfl
  have p9 := hcp 9 _ rfl
  rw [Nat.add_zero] at p0
  clear hcp
  have hki : (k : Int) < (n : Int) := by omega
  have hk0 : (0 : Int) ≤ (k : Int) := by omega
  have hrl : rs.length = n' := by simpa using hown.rd.2.1
  have hlo0 := blk_lt hblk
  have hwo : sb < ob := hsb
  have hblkH := Lib.hid hblk
  have hqlH := Lib.hid hrl
  have o11 := blk_cell hblk 11
  simp at o11
  clear hblk hrl hA hp hpt
  subst hcode
  conv => arg 2; whnf
  have hC : KQ ob wz wz.drew := kq (Below.refl _ _).drew
  refine wp_region_M (fun w' => KQ ob wz w') (fun w' => w'.cell? ⟨ob, 11, none⟩ = some (.slice A' n' c')) 8 (by kernel_rfl) hC o11 ?_
  intro hcl
  have hC : KQ ob wz wz.drew := kq (Below.refl _ _).drew
  have hE : wz.drew.cell? ⟨ob, 11, none⟩ = some (.slice A' n' c') := o11
  (refine wpM_take (i := 0) (v := ?_) rfl (by kernel_rfl) (by kernel_rfl) (by kernel_rfl) (by decide) (fun c a w h => hPan c a _ _ w h) hcl hC (fun _ => hE) (Or.inl ⟨by rfl, ?_⟩) ?_; rotate_left; (· (intro w hSw; (try dsimp only at hSw); go_simp; (try with_reducible rfl))); clear hcl; intro hcl; (try simp only [Act.put, List.getElem_toArray, List.getElem_cons_zero, List.setIfInBounds_toArray, List.set_cons_zero, List.set_cons_succ]))
  (refine wpM_take0 (i := 1) (v := ?_) rfl rfl (by kernel_rfl) (by kernel_rfl) (by kernel_rfl) (by kernel_rfl) (by decide) (fun c a w h => hPan c a _ _ w h) hcl hC (fun _ => hE) (Or.inl ⟨by rfl, ?_⟩) ?_; rotate_left; (· (intro w hSw; (try dsimp only at hSw); go_simp; (try with_reducible rfl))); clear hcl; intro hcl; (try simp only [Act.put, List.getElem_toArray, List.getElem_cons_zero, List.getElem_cons_succ, List.setIfInBounds_toArray, List.set_cons_zero, List.set_cons_succ]))
  (refine wpM_take (i := 2) (v := ?_) rfl (by kernel_rfl) (by kernel_rfl) (by kernel_rfl) (by decide) (fun c a w h => hPan c a _ _ w h) hcl hC (fun _ => hE) (Or.inl ⟨by rfl, ?_⟩) ?_; rotate_left; (· (intro w hSw; (try dsimp only at hSw); go_simp; (try with_reducible rfl))); clear hcl; intro hcl; (try simp only [Act.put, List.getElem_toArray, List.getElem_cons_zero, List.getElem_cons_succ, List.setIfInBounds_toArray, List.set_cons_zero, List.set_cons_succ]))
  (refine wpM_take (i := 3) (v := ?_) rfl (by kernel_rfl) (by kernel_rfl) (by kernel_rfl) (by decide) (fun c a w h => hPan c a _ _ w h) hcl hC (fun _ => hE) (Or.inl ⟨by rfl, ?_⟩) ?_; rotate_left; (· (intro w hSw; (try dsimp only at hSw); go_simp; (try with_reducible rfl))); clear hcl; intro hcl; (try simp only [Act.put, List.getElem_toArray, List.getElem_cons_zero, List.getElem_cons_succ, List.setIfInBounds_toArray, List.set_cons_zero, List.set_cons_succ]))
  (refine wpM_take (i := 4) (v := ?_) rfl (by kernel_rfl) (by kernel_rfl) (by kernel_rfl) (by decide) (fun c a w h => hPan c a _ _ w h) hcl hC (fun _ => hE) (Or.inl ⟨by rfl, ?_⟩) ?_; rotate_left; (· (intro w hSw; (try dsimp only at hSw); go_simp; (try with_reducible rfl))); clear hcl; intro hcl; (try simp only [Act.put, List.getElem_toArray, List.getElem_cons_zero, List.getElem_cons_succ, List.setIfInBounds_toArray, List.set_cons_zero, List.set_cons_succ]))
  (refine wpM_take (i := 5) (v := ?_) rfl (by kernel_rfl) (by kernel_rfl) (by kernel_rfl) (by decide) (fun c a w h => hPan c a _ _ w h) hcl hC (fun _ => hE) (Or.inl ⟨by rfl, ?_⟩) ?_; rotate_left; (· (intro w hSw; (try dsimp only at hSw); go_simp; (try with_reducible rfl))); clear hcl; intro hcl; (try simp only [Act.put, List.getElem_toArray, List.getElem_cons_zero, List.getElem_cons_succ, List.setIfInBounds_toArray, List.set_cons_zero, List.set_cons_succ]))
  (refine wpM_take (i := 6) (v := ?_) rfl (by kernel_rfl) (by kernel_rfl) (by kernel_rfl) (by decide) (fun c a w h => hPan c a _ _ w h) hcl hC (fun _ => hE) (Or.inl ⟨by rfl, ?_⟩) ?_; rotate_left; (· (intro w hSw; (try dsimp only at hSw); go_simp; (try with_reducible rfl))); clear hcl; intro hcl; (try simp only [Act.put, List.getElem_toArray, List.getElem_cons_zero, List.getElem_cons_succ, List.setIfInBounds_toArray, List.set_cons_zero, List.set_cons_succ]))
  refine wpM_only (i := 7) rfl (by kernel_rfl) hcl (fun K hK => ?_)
  go_simp
  have hv3 : Below wz.heap.size wz (wz.alloc (.cells #[.string (bs pt.key), .int .i64 pt.e.act, .string (bs pt.e.name), .int .i64 pt.e.val, .int .i64 pt.e.tag.1.1, .int .u32 pt.e.tag.1.2, .int .i64 pt.e.tag.2, .int .u32 pt.e.st.1, .int .i64 pt.e.st.2, .slice pt.A pt.l pt.c] 50)).drew := ((Below.refl _ _).alloc (Nat.le_refl _) _).drew
  have hC3 : KQ ob wz (wz.alloc (.cells #[.string (bs pt.key), .int .i64 pt.e.act, .string (bs pt.e.name), .int .i64 pt.e.val, .int .i64 pt.e.tag.1.1, .int .u32 pt.e.tag.1.2, .int .i64 pt.e.tag.2, .int .u32 pt.e.st.1, .int .i64 pt.e.st.2, .slice pt.A pt.l pt.c] 50)).drew := kq (hv3.mono (by omega))
  have hblk3 := blk_below hblkH.out hv3
  have hE3 := blk_cell hblk3 11
  simp at hE3
  refine hK.out _ _ hC3 hE3 ?_
  clear hK K hE hC hcl
  intro hcl
  have hC := hC3
  (try simp only [Act.put, List.setIfInBounds_toArray, List.set_cons_zero, List.set_cons_succ])
  have hown3 := hown.below hv3
  have hlo := blk_lt hblk3
  refine wpM_last (i := 8) rfl (by kernel_rfl) hcl (by kernel_rfl) (fun K hK => ?_)
  refine step_append_rd _ rfl _ _ _ rfl ePartD (base := ob + 1) (v := .slice A' n' c') (xs := rs.map Pe.enc) rfl hown3 rfl (Rd.one [.string (bs pt.key), .int .i64 pt.e.act, .string (bs pt.e.name), .int .i64 pt.e.val, .int .i64 pt.e.tag.1.1, .int .u32 pt.e.tag.1.2, .int .i64 pt.e.tag.2, .int .u32 pt.e.st.1, .int .i64 pt.e.st.2, .slice pt.A pt.l pt.c] rfl) (by simp) (by simp [Value.oneCell'])
    (by rw [List.length_map, hqlH.out]; unfold maxLen; omega) (by rw [List.length_map, hqlH.out]; omega) (by simp; omega) ?_
  intro A2 n2 c2 w4 hn2 hown4 hg4 hat4
  obtain rfl : n2 = n' + 1 := by rw [hn2, List.length_map, hqlH.out]
  clear hn2
  have hblk4 : w4.heap[ob]? = some (.cells #[.int .i64 x.1, .int .u32 x.2, .int .u32 v.d0, .int .u32 v.d1, .int .u32 v.d2, .int .u32 v.d3, .int .u32 v.d4, .int .u32 v.d5, .int .u32 v.d6, .int .u32 v.d7, .bool t, .slice A' n' c'] 29 (0, 0)) := (hg4.block _ hlo (fun e => by have := (hown3.block _ e.symm).1; omega)).trans hblk3
  have hfr4 := blk_frozen hblk4
  have hlt4 := blk_lt hblk4
  have o114 := blk_cell hblk4 11
  simp at o114
  have hb4 : Below ob wz w4 := (hv3.mono (by omega)).grown hg4 (by simp; omega) (fun g e => by have := (hown3.block g e).1; omega)
  refine hK.out _ _ (kq hb4) ?_
  clear hK K hC hcl
  intro hcl
  have hC := kq hb4
  (try simp only [Act.put, List.setIfInBounds_toArray])
  (refine wpM_takeX (i := 9) (v := ?_) rfl (by kernel_rfl) (by kernel_rfl) (by kernel_rfl) (by decide) (fun c a w h => hPan c a _ _ w h) hcl hC (by kernel_rfl) (Or.inl ⟨by rfl, ?_⟩) ?_; rotate_left; (· (intro w hSw; (try dsimp only at hSw); go_simp; (try with_reducible rfl))); clear hcl; intro hcl; (try simp only [Act.put, List.getElem_toArray, List.getElem_cons_zero, List.getElem_cons_succ, List.setIfInBounds_toArray, List.set_cons_zero, List.set_cons_succ]))
  refine wpM_last (i := 10) rfl (by kernel_rfl) hcl (by kernel_rfl) (fun K hK => ?_)
  go_simp
  refine hK.out _ _ (kq (hb4.setCell (by simp) _)) ?_
  clear hK K hC hcl
  intro hcl
  refine wpM_done (by kernel_rfl) ?_
  clear hcl
  exact hQ _ _ _ _ _ _ _ _ _ _ A2 c2 _ (by rw [blk_set hblk4 11]; simp) (Ow.setCell (by rw [List.map_append]; exact hown4) (a := ⟨ob, 11, none⟩) (by show ob < ob + 1; omega) _) (hb4.setCell (by simp) _)
end Go.Proofs.YtpolplmniaoikaaDoor
