/- The three tests of the document's Merge of transactions, each by itself, over whatever frame. -/
import Derived.Test.YtpolplmniaoikaaDoorMt
import Derived.Deep.QuietTactic
import Derived.BigQuiet
namespace Go.Proofs.YtpolplmniaoikaaDoor
open Go.RowKit

noncomputable def mreg14 : Code := ((Tryd.f7.body.bind (regionAt 14)).getD .skip)
set_option maxRecDepth 1000000 in
set_option maxHeartbeats 16000000 in
theorem mtest14_any {u0 u1 u4 u5 u6 u7 u10 u11 u12 u13 u14 u15 u16 u17 u18 u19 u20 u21 u22 u23 u24 u25 u26 u27 u28 u29 u30 u31 u32 u33 u34 u35 u36 u37 u38 u39 u40 u41 u42 u43 u44 u45 u46 u47 u48 u49 u50 u51 u52 u53 u54 u55 u56 u57 u58 u59 u60 u61 u62 u63 u64 u65 u66 u67 u68 u69 u70 u71 u72 u73 u74 u75 u76 u77 u78 u79 u80 u81 u82 u83 u84 u85 u86 u87 u88 u89 u90 u91 u92 u93 u94 u95 u96 u97 u98 u99 u100 u101 u102 u103 u104 u105 u106 u107 u108 u109 u110 u111 u112 u113 u114 u115 u116 u117 u118 u119 u120 u121 u122 u123 u124 u125 u126 u127 u128 u129 u130 u131 u132 u133 u134 u135 u136 u137 u138 u139 u140 u141 u142 u143 u144 u145 u146 u147 u148 u149 u150 u151 u152 u153 u154 u155 u156 u157 u158 u159 u160 u161 u162 u163 u164 u165 u166 u167 u168 u169 u170 u171 u172 : Value} (Q : Exit → Act → World → Prop) (code : Code) (hcode : code = mreg14) (wz : World) (sa sb a b n m c d : Nat) (A B : Option Addr) (ps qs : List Pe) (G : Bool)
    (hq : wz.cell? ⟨sa, 11, none⟩ = some (.slice A n c)) (hr : wz.cell? ⟨sb, 11, none⟩ = some (.slice B m d)) (_hsa : sa < wz.heap.size) (_hsb : sb < wz.heap.size) (hA : RdE wz wz.heap.size A n ps) (hB : RdE wz wz.heap.size B m qs) (_ha : a ≤ n) (_hb : b ≤ m) (_hn : n ≤ 400) (_hm : m ≤ 400)
    (hG : (b = m ∧ G = true) ∨ (b < m ∧ a = n ∧ G = false) ∨ (b < m ∧ a < n ∧ ∃ p z, ps[a]? = some p ∧ qs[b]? = some z ∧ decide (p.e.tag.2 < z.e.tag.2) = G))
    (hPan : ∀ c (a : Act) (d : Nat) y w, Q (.panic c) (a.put (some d) y) w → Q (.panic c) a w)
    (hQ : ∀ (v73 v74 v75 v76 v77 v78 v79 v80 v81 v82 v83 v84 v85 v86 v87 v88 v89 v90 v91 v92 v93 v94 v95 v96 v97 v98 v99 v100 v101 v102 v103 : Value) (wN : World), Below wz.heap.size wz wN → Q .normal ⟨#[u0, u1, (.pointer (some ⟨sa, 0, none⟩)), (.pointer (some ⟨sb, 0, none⟩)), u4, u5, u6, u7, (.int .i64 (a : Int)), (.int .i64 (b : Int)), u10, u11, u12, u13, u14, u15, u16, u17, u18, u19, u20, u21, u22, u23, u24, u25, u26, u27, u28, u29, u30, u31, u32, u33, u34, u35, u36, u37, u38, u39, u40, u41, u42, u43, u44, u45, u46, u47, u48, u49, u50, u51, u52, u53, u54, u55, u56, u57, u58, u59, u60, u61, u62, u63, u64, u65, u66, u67, u68, u69, u70, u71, (.bool G), v73, v74, v75, v76, v77, v78, v79, v80, v81, v82, v83, v84, v85, v86, v87, v88, v89, v90, v91, v92, v93, v94, v95, v96, v97, v98, v99, v100, v101, v102, v103, u104, u105, u106, u107, u108, u109, u110, u111, u112, u113, u114, u115, u116, u117, u118, u119, u120, u121, u122, u123, u124, u125, u126, u127, u128, u129, u130, u131, u132, u133, u134, u135, u136, u137, u138, u139, u140, u141, u142, u143, u144, u145, u146, u147, u148, u149, u150, u151, u152, u153, u154, u155, u156, u157, u158, u159, u160, u161, u162, u163, u164, u165, u166, u167, u168, u169, u170, u171, u172], []⟩ wN) :
    Code.wp Tryd.prog code Q ⟨#[u0, u1, (.pointer (some ⟨sa, 0, none⟩)), (.pointer (some ⟨sb, 0, none⟩)), u4, u5, u6, u7, (.int .i64 (a : Int)), (.int .i64 (b : Int)), u10, u11, u12, u13, u14, u15, u16, u17, u18, u19, u20, u21, u22, u23, u24, u25, u26, u27, u28, u29, u30, u31, u32, u33, u34, u35, u36, u37, u38, u39, u40, u41, u42, u43, u44, u45, u46, u47, u48, u49, u50, u51, u52, u53, u54, u55, u56, u57, u58, u59, u60, u61, u62, u63, u64, u65, u66, u67, u68, u69, u70, u71, u72, u73, u74, u75, u76, u77, u78, u79, u80, u81, u82, u83, u84, u85, u86, u87, u88, u89, u90, u91, u92, u93, u94, u95, u96, u97, u98, u99, u100, u101, u102, u103, u104, u105, u106, u107, u108, u109, u110, u111, u112, u113, u114, u115, u116, u117, u118, u119, u120, u121, u122, u123, u124, u125, u126, u127, u128, u129, u130, u131, u132, u133, u134, u135, u136, u137, u138, u139, u140, u141, u142, u143, u144, u145, u146, u147, u148, u149, u150, u151, u152, u153, u154, u155, u156, u157, u158, u159, u160, u161, u162, u163, u164, u165, u166, u167, u168, u169, u170, u171, u172], []⟩ wz := by
  subst hcode
  dsimp only at hQ ⊢
  have hQH := Lib.hid hQ
  have hPH := Lib.hid hPan
  clear hQ hPan
  have ha0 : (0 : Int) ≤ (a : Int) := by omega
  have hb0 : (0 : Int) ≤ (b : Int) := by omega
  rcases hG with ⟨hbm, rfl⟩ | ⟨hbl, han, rfl⟩ | ⟨hbl, hal, p, z, hp, hz, hG⟩
  · have hbnl : ¬ (b : Int) < (m : Int) := by omega
    have hbme : ((b : Int) == (m : Int)) = true := by rw [hbm]; simp
    clear hbm hA hB
    conv => arg 2; whnf
    go_quiet (fail)
    exact hQH.out _ _ _ _ _ _ _ _ _ _ _ _ _ _ _ _ _ _ _ _ _ _ _ _ _ _ _ _ _ _ _ _ (by first | exact below_drX (Below.refl _ _) _ | exact Below.refl _ _)
  · have hbli : (b : Int) < (m : Int) := by omega
    have hanl : ¬ (a : Int) < (n : Int) := by omega
    have hbme : ((b : Int) == (m : Int)) = false := by simp; omega
    clear han hA hB
    conv => arg 2; whnf
    go_quiet (fail)
    exact hQH.out _ _ _ _ _ _ _ _ _ _ _ _ _ _ _ _ _ _ _ _ _ _ _ _ _ _ _ _ _ _ _ _ (by first | exact below_drX (Below.refl _ _) _ | exact Below.refl _ _)
  · obtain ⟨bA, oA, p', hA4, hbA, hp', hcp⟩ := hA.1.at_ hal
    obtain rfl : p' = p := Option.some.inj (hp'.symm.trans hp)
    subst hA4
    obtain ⟨bB, oB, z', hB4, hbB, hz', hcz⟩ := hB.1.at_ hbl
    obtain rfl : z' = z := Option.some.inj (hz'.symm.trans hz)
    subst hB4
    have p6 := hcp 6 _ rfl
    have z6 := hcz 6 _ rfl
    have hali : (a : Int) < (n : Int) := by omega
    have hbli : (b : Int) < (m : Int) := by omega
    have hbme : ((b : Int) == (m : Int)) = false := by simp; omega
    have hane : ((a : Int) == (n : Int)) = false := by simp; omega
    clear hcp hcz hp hz hp' hz' hA hB
    cases G with
    | true =>
      conv => arg 2; whnf
      go_quiet (fail)
      exact hQH.out _ _ _ _ _ _ _ _ _ _ _ _ _ _ _ _ _ _ _ _ _ _ _ _ _ _ _ _ _ _ _ _ (by first | exact below_drX (Below.refl _ _) _ | exact Below.refl _ _)
    | false =>
      conv => arg 2; whnf
      go_quiet (fail)
      exact hQH.out _ _ _ _ _ _ _ _ _ _ _ _ _ _ _ _ _ _ _ _ _ _ _ _ _ _ _ _ _ _ _ _ (by first | exact below_drX (Below.refl _ _) _ | exact Below.refl _ _)
noncomputable def mreg17 : Code := ((Tryd.f7.body.bind (regionAt 17)).getD .skip)
set_option maxRecDepth 1000000 in
set_option maxHeartbeats 16000000 in
theorem mtest17_any {u0 u1 u4 u5 u6 u7 u10 u11 u12 u13 u14 u15 u16 u17 u18 u19 u20 u21 u22 u23 u24 u25 u26 u27 u28 u29 u30 u31 u32 u33 u34 u35 u36 u37 u38 u39 u40 u41 u42 u43 u44 u45 u46 u47 u48 u49 u50 u51 u52 u53 u54 u55 u56 u57 u58 u59 u60 u61 u62 u63 u64 u65 u66 u67 u68 u69 u70 u71 u72 u73 u74 u75 u76 u77 u78 u79 u80 u81 u82 u83 u84 u85 u86 u87 u88 u89 u90 u91 u92 u93 u94 u95 u96 u97 u98 u99 u100 u101 u102 u103 u104 u105 u106 u107 u108 u109 u110 u111 u112 u113 u114 u115 u116 u117 u118 u119 u120 u121 u122 u123 u124 u125 u126 u127 u128 u129 u130 u131 u132 u133 u134 u135 u136 u137 u138 u139 u140 u141 u142 u143 u144 u145 u146 u147 u148 u149 u150 u151 u152 u153 u154 u155 u156 u157 u158 u159 u160 u161 u162 u163 u164 u165 u166 u167 u168 u169 u170 u171 u172 : Value} (Q : Exit → Act → World → Prop) (code : Code) (hcode : code = mreg17) (wz : World) (sa sb a b n m c d : Nat) (A B : Option Addr) (ps qs : List Pe) (G : Bool)
    (hq : wz.cell? ⟨sa, 11, none⟩ = some (.slice A n c)) (hr : wz.cell? ⟨sb, 11, none⟩ = some (.slice B m d)) (_hsa : sa < wz.heap.size) (_hsb : sb < wz.heap.size) (hA : RdE wz wz.heap.size A n ps) (hB : RdE wz wz.heap.size B m qs) (_ha : a ≤ n) (_hb : b ≤ m) (_hn : n ≤ 400) (_hm : m ≤ 400)
    (hG : (a = n ∧ G = true) ∨ (b < m ∧ a < n ∧ ∃ p z, ps[a]? = some p ∧ qs[b]? = some z ∧ decide (z.e.tag.2 < p.e.tag.2) = G))
    (hPan : ∀ c (a : Act) (d : Nat) y w, Q (.panic c) (a.put (some d) y) w → Q (.panic c) a w)
    (hQ : ∀ (v117 v118 v119 v120 v121 v122 v123 v124 v125 v126 v127 v128 v129 v130 v131 v132 v133 v134 v135 v136 v137 v138 v139 v140 : Value) (wN : World), Below wz.heap.size wz wN → Q .normal ⟨#[u0, u1, (.pointer (some ⟨sa, 0, none⟩)), (.pointer (some ⟨sb, 0, none⟩)), u4, u5, u6, u7, (.int .i64 (a : Int)), (.int .i64 (b : Int)), u10, u11, u12, u13, u14, u15, u16, u17, u18, u19, u20, u21, u22, u23, u24, u25, u26, u27, u28, u29, u30, u31, u32, u33, u34, u35, u36, u37, u38, u39, u40, u41, u42, u43, u44, u45, u46, u47, u48, u49, u50, u51, u52, u53, u54, u55, u56, u57, u58, u59, u60, u61, u62, u63, u64, u65, u66, u67, u68, u69, u70, u71, u72, u73, u74, u75, u76, u77, u78, u79, u80, u81, u82, u83, u84, u85, u86, u87, u88, u89, u90, u91, u92, u93, u94, u95, u96, u97, u98, u99, u100, u101, u102, u103, u104, u105, u106, u107, u108, u109, u110, u111, u112, u113, u114, u115, (.bool G), v117, v118, v119, v120, v121, v122, v123, v124, v125, v126, v127, v128, v129, v130, v131, v132, v133, v134, v135, v136, v137, v138, v139, v140, u141, u142, u143, u144, u145, u146, u147, u148, u149, u150, u151, u152, u153, u154, u155, u156, u157, u158, u159, u160, u161, u162, u163, u164, u165, u166, u167, u168, u169, u170, u171, u172], []⟩ wN) :
    Code.wp Tryd.prog code Q ⟨#[u0, u1, (.pointer (some ⟨sa, 0, none⟩)), (.pointer (some ⟨sb, 0, none⟩)), u4, u5, u6, u7, (.int .i64 (a : Int)), (.int .i64 (b : Int)), u10, u11, u12, u13, u14, u15, u16, u17, u18, u19, u20, u21, u22, u23, u24, u25, u26, u27, u28, u29, u30, u31, u32, u33, u34, u35, u36, u37, u38, u39, u40, u41, u42, u43, u44, u45, u46, u47, u48, u49, u50, u51, u52, u53, u54, u55, u56, u57, u58, u59, u60, u61, u62, u63, u64, u65, u66, u67, u68, u69, u70, u71, u72, u73, u74, u75, u76, u77, u78, u79, u80, u81, u82, u83, u84, u85, u86, u87, u88, u89, u90, u91, u92, u93, u94, u95, u96, u97, u98, u99, u100, u101, u102, u103, u104, u105, u106, u107, u108, u109, u110, u111, u112, u113, u114, u115, u116, u117, u118, u119, u120, u121, u122, u123, u124, u125, u126, u127, u128, u129, u130, u131, u132, u133, u134, u135, u136, u137, u138, u139, u140, u141, u142, u143, u144, u145, u146, u147, u148, u149, u150, u151, u152, u153, u154, u155, u156, u157, u158, u159, u160, u161, u162, u163, u164, u165, u166, u167, u168, u169, u170, u171, u172], []⟩ wz := by
  subst hcode
  dsimp only at hQ ⊢
  have hQH := Lib.hid hQ
  have hPH := Lib.hid hPan
  clear hQ hPan
  have ha0 : (0 : Int) ≤ (a : Int) := by omega
  have hb0 : (0 : Int) ≤ (b : Int) := by omega
  rcases hG with ⟨han, rfl⟩ | ⟨hbl, hal, p, z, hp, hz, hG⟩
  · have hane : ((a : Int) == (n : Int)) = true := by rw [han]; simp
    clear han hA hB
    conv => arg 2; whnf
    go_quiet (fail)
    exact hQH.out _ _ _ _ _ _ _ _ _ _ _ _ _ _ _ _ _ _ _ _ _ _ _ _ _ (by first | exact below_drX (Below.refl _ _) _ | exact Below.refl _ _)
  · obtain ⟨bA, oA, p', hA4, hbA, hp', hcp⟩ := hA.1.at_ hal
    obtain rfl : p' = p := Option.some.inj (hp'.symm.trans hp)
    subst hA4
    obtain ⟨bB, oB, z', hB4, hbB, hz', hcz⟩ := hB.1.at_ hbl
    obtain rfl : z' = z := Option.some.inj (hz'.symm.trans hz)
    subst hB4
    have p6 := hcp 6 _ rfl
    have z6 := hcz 6 _ rfl
    have hali : (a : Int) < (n : Int) := by omega
    have hbli : (b : Int) < (m : Int) := by omega
    have hbme : ((b : Int) == (m : Int)) = false := by simp; omega
    have hane : ((a : Int) == (n : Int)) = false := by simp; omega
    clear hcp hcz hp hz hp' hz' hA hB
    cases G with
    | true =>
      conv => arg 2; whnf
      go_quiet (fail)
      exact hQH.out _ _ _ _ _ _ _ _ _ _ _ _ _ _ _ _ _ _ _ _ _ _ _ _ _ (by first | exact below_drX (Below.refl _ _) _ | exact Below.refl _ _)
    | false =>
      conv => arg 2; whnf
      go_quiet (fail)
      exact hQH.out _ _ _ _ _ _ _ _ _ _ _ _ _ _ _ _ _ _ _ _ _ _ _ _ _ (by first | exact below_drX (Below.refl _ _) _ | exact Below.refl _ _)
noncomputable def mreg20 : Code := ((Tryd.f7.body.bind (regionAt 20)).getD .skip)
set_option maxRecDepth 1000000 in
set_option maxHeartbeats 16000000 in
theorem mtest20_any {u0 u1 u4 u5 u6 u7 u10 u11 u12 u13 u14 u15 u16 u17 u18 u19 u20 u21 u22 u23 u24 u25 u26 u27 u28 u29 u30 u31 u32 u33 u34 u35 u36 u37 u38 u39 u40 u41 u42 u43 u44 u45 u46 u47 u48 u49 u50 u51 u52 u53 u54 u55 u56 u57 u58 u59 u60 u61 u62 u63 u64 u65 u66 u67 u68 u69 u70 u71 u72 u73 u74 u75 u76 u77 u78 u79 u80 u81 u82 u83 u84 u85 u86 u87 u88 u89 u90 u91 u92 u93 u94 u95 u96 u97 u98 u99 u100 u101 u102 u103 u104 u105 u106 u107 u108 u109 u110 u111 u112 u113 u114 u115 u116 u117 u118 u119 u120 u121 u122 u123 u124 u125 u126 u127 u128 u129 u130 u131 u132 u133 u134 u135 u136 u137 u138 u139 u140 u141 u142 u143 u144 u145 u146 u147 u148 u149 u150 u151 u152 u153 u154 u155 u156 u157 u158 u159 u160 u161 u162 u163 u164 u165 u166 u167 u168 u169 u170 u171 u172 : Value} (Q : Exit → Act → World → Prop) (code : Code) (hcode : code = mreg20) (wz : World) (sa sb a b n m c d : Nat) (A B : Option Addr) (ps qs : List Pe) (p z : Pe) (G : Bool)
    (hq : wz.cell? ⟨sa, 11, none⟩ = some (.slice A n c)) (hr : wz.cell? ⟨sb, 11, none⟩ = some (.slice B m d)) (hsa : sa < wz.heap.size) (hsb : sb < wz.heap.size) (hA : RdE wz wz.heap.size A n ps) (hB : RdE wz wz.heap.size B m qs) (hal : a < n) (hbl : b < m) (_hn : n ≤ 400) (_hm : m ≤ 400)
    (hp : ps[a]? = some p) (hz : qs[b]? = some z) (hpl : p.l ≤ 100000) (hzl : z.l ≤ 100000)
    (hG : decide (p.core = z.core) = !G)
    (hPan : ∀ c (a : Act) (d : Nat) y w, Q (.panic c) (a.put (some d) y) w → Q (.panic c) a w)
    (hQ : ∀ (v154 v155 v156 v157 v158 v159 v160 v161 v162 v163 v164 v165 : Value) (wN : World), Below wz.heap.size wz wN → Q .normal ⟨#[u0, u1, (.pointer (some ⟨sa, 0, none⟩)), (.pointer (some ⟨sb, 0, none⟩)), u4, u5, u6, u7, (.int .i64 (a : Int)), (.int .i64 (b : Int)), u10, u11, u12, u13, u14, u15, u16, u17, u18, u19, u20, u21, u22, u23, u24, u25, u26, u27, u28, u29, u30, u31, u32, u33, u34, u35, u36, u37, u38, u39, u40, u41, u42, u43, u44, u45, u46, u47, u48, u49, u50, u51, u52, u53, u54, u55, u56, u57, u58, u59, u60, u61, u62, u63, u64, u65, u66, u67, u68, u69, u70, u71, u72, u73, u74, u75, u76, u77, u78, u79, u80, u81, u82, u83, u84, u85, u86, u87, u88, u89, u90, u91, u92, u93, u94, u95, u96, u97, u98, u99, u100, u101, u102, u103, u104, u105, u106, u107, u108, u109, u110, u111, u112, u113, u114, u115, u116, u117, u118, u119, u120, u121, u122, u123, u124, u125, u126, u127, u128, u129, u130, u131, u132, u133, u134, u135, u136, u137, u138, u139, u140, u141, u142, u143, u144, u145, u146, u147, u148, u149, u150, u151, u152, (.bool G), v154, v155, v156, v157, v158, v159, v160, v161, v162, v163, v164, v165, u166, u167, u168, u169, u170, u171, u172], []⟩ wN) :
    Code.wp Tryd.prog code Q ⟨#[u0, u1, (.pointer (some ⟨sa, 0, none⟩)), (.pointer (some ⟨sb, 0, none⟩)), u4, u5, u6, u7, (.int .i64 (a : Int)), (.int .i64 (b : Int)), u10, u11, u12, u13, u14, u15, u16, u17, u18, u19, u20, u21, u22, u23, u24, u25, u26, u27, u28, u29, u30, u31, u32, u33, u34, u35, u36, u37, u38, u39, u40, u41, u42, u43, u44, u45, u46, u47, u48, u49, u50, u51, u52, u53, u54, u55, u56, u57, u58, u59, u60, u61, u62, u63, u64, u65, u66, u67, u68, u69, u70, u71, u72, u73, u74, u75, u76, u77, u78, u79, u80, u81, u82, u83, u84, u85, u86, u87, u88, u89, u90, u91, u92, u93, u94, u95, u96, u97, u98, u99, u100, u101, u102, u103, u104, u105, u106, u107, u108, u109, u110, u111, u112, u113, u114, u115, u116, u117, u118, u119, u120, u121, u122, u123, u124, u125, u126, u127, u128, u129, u130, u131, u132, u133, u134, u135, u136, u137, u138, u139, u140, u141, u142, u143, u144, u145, u146, u147, u148, u149, u150, u151, u152, u153, u154, u155, u156, u157, u158, u159, u160, u161, u162, u163, u164, u165, u166, u167, u168, u169, u170, u171, u172], []⟩ wz := by
  subst hcode
  dsimp only at hQ ⊢
  have hQH := Lib.hid hQ
  clear hQ
  have ha0 : (0 : Int) ≤ (a : Int) := by omega
  have hb0 : (0 : Int) ≤ (b : Int) := by omega
  have hpo := hA.2 p (List.mem_of_getElem? hp)
  have hzo := hB.2 z (List.mem_of_getElem? hz)
  obtain ⟨bA, oA, p', hA4, hbA, hp', hcp⟩ := hA.1.at_ hal
  obtain rfl : p' = p := Option.some.inj (hp'.symm.trans hp)
  subst hA4
  obtain ⟨bB, oB, z', hB4, hbB, hz', hcz⟩ := hB.1.at_ hbl
  obtain rfl : z' = z := Option.some.inj (hz'.symm.trans hz)
  subst hB4
  have p0 := hcp 0 _ rfl
  have p1 := hcp 1 _ rfl
  have p2 := hcp 2 _ rfl
  have p3 := hcp 3 _ rfl
  have p4 := hcp 4 _ rfl
  have p5 := hcp 5 _ rfl
  have p6 := hcp 6 _ rfl
  have p7 := hcp 7 _ rfl
  have p8 := hcp 8 _ rfl
  have p9 := hcp 9 _ rfl
  have z0 := hcz 0 _ rfl
  have z1 := hcz 1 _ rfl
  have z2 := hcz 2 _ rfl
  have z3 := hcz 3 _ rfl
  have z4 := hcz 4 _ rfl
  have z5 := hcz 5 _ rfl
  have z6 := hcz 6 _ rfl
  have z7 := hcz 7 _ rfl
  have z8 := hcz 8 _ rfl
  have z9 := hcz 9 _ rfl
  rw [Nat.add_zero] at p0 z0
  have hali : (a : Int) < (n : Int) := by omega
  have hbli : (b : Int) < (m : Int) := by omega
  have hsd := samePv_dec p'.core z'.core
  rw [hG] at hsd
  have cP := Lib.hid (fun w' (h : Below wz.heap.size wz w') => samep_any p' z' w' ((hpo.below h).more h.size) ((hzo.below h).more h.size) (Nat.le_trans hpl (by decide)) (Nat.le_trans hzl (by decide)))
  rw [hsd] at cP
  clear hcp hcz hp hz hp' hz' hA hB hpo hzo hsd hG
  conv => arg 2; whnf
  refine wp_region_M (fun w' => KQ wz.heap.size wz w') (fun _ => True) 99 (by kernel_rfl) (kq (Below.refl _ _).drew) trivial ?_
  intro hcl
  have hC : KQ wz.heap.size wz wz.drew := kq (Below.refl _ _).drew
  have hE := trivial
  (refine wpM_take (i := 0) (v := ?_) rfl (by kernel_rfl) (by kernel_rfl) (by kernel_rfl) (by decide) (fun c a w h => hPan c a _ _ w h) hcl hC (fun _ => hE) (Or.inl ⟨by rfl, ?_⟩) ?_; rotate_left; (· (intro w hSw; (try dsimp only at hSw); go_simp; (try with_reducible rfl))); clear hcl; intro hcl; (try simp only [Act.put, List.getElem_toArray, List.getElem_cons_zero, List.setIfInBounds_toArray, List.set_cons_zero, List.set_cons_succ]))
  (refine wpM_take (i := 1) (v := ?_) rfl (by kernel_rfl) (by kernel_rfl) (by kernel_rfl) (by decide) (fun c a w h => hPan c a _ _ w h) hcl hC (fun _ => hE) (Or.inl ⟨by rfl, ?_⟩) ?_; rotate_left; (· (intro w hSw; (try dsimp only at hSw); go_simp; (try with_reducible rfl))); clear hcl; intro hcl; (try simp only [Act.put, List.getElem_toArray, List.getElem_cons_zero, List.getElem_cons_succ, List.setIfInBounds_toArray, List.set_cons_zero, List.set_cons_succ]))
  (refine wpM_take (i := 2) (v := ?_) rfl (by kernel_rfl) (by kernel_rfl) (by kernel_rfl) (by decide) (fun c a w h => hPan c a _ _ w h) hcl hC (fun _ => hE) (Or.inl ⟨by rfl, ?_⟩) ?_; rotate_left; (· (intro w hSw; (try dsimp only at hSw); go_simp; (try with_reducible rfl))); clear hcl; intro hcl; (try simp only [Act.put, List.getElem_toArray, List.getElem_cons_zero, List.getElem_cons_succ, List.setIfInBounds_toArray, List.set_cons_zero, List.set_cons_succ]))
  (refine wpM_take (i := 3) (v := ?_) rfl (by kernel_rfl) (by kernel_rfl) (by kernel_rfl) (by decide) (fun c a w h => hPan c a _ _ w h) hcl hC (fun _ => hE) (Or.inl ⟨by rfl, ?_⟩) ?_; rotate_left; (· (intro w hSw; (try dsimp only at hSw); go_simp; (try with_reducible rfl))); clear hcl; intro hcl; (try simp only [Act.put, List.getElem_toArray, List.getElem_cons_zero, List.getElem_cons_succ, List.setIfInBounds_toArray, List.set_cons_zero, List.set_cons_succ]))
  (refine wpM_take (i := 4) (v := ?_) rfl (by kernel_rfl) (by kernel_rfl) (by kernel_rfl) (by decide) (fun c a w h => hPan c a _ _ w h) hcl hC (fun _ => hE) (Or.inl ⟨by rfl, ?_⟩) ?_; rotate_left; (· (intro w hSw; (try dsimp only at hSw); go_simp; (try with_reducible rfl))); clear hcl; intro hcl; (try simp only [Act.put, List.getElem_toArray, List.getElem_cons_zero, List.getElem_cons_succ, List.setIfInBounds_toArray, List.set_cons_zero, List.set_cons_succ]))
  (refine wpM_take (i := 5) (v := ?_) rfl (by kernel_rfl) (by kernel_rfl) (by kernel_rfl) (by decide) (fun c a w h => hPan c a _ _ w h) hcl hC (fun _ => hE) (Or.inl ⟨by rfl, ?_⟩) ?_; rotate_left; (· (intro w hSw; (try dsimp only at hSw); go_simp; (try with_reducible rfl))); clear hcl; intro hcl; (try simp only [Act.put, List.getElem_toArray, List.getElem_cons_zero, List.getElem_cons_succ, List.setIfInBounds_toArray, List.set_cons_zero, List.set_cons_succ]))
  (refine wpM_take (i := 6) (v := ?_) rfl (by kernel_rfl) (by kernel_rfl) (by kernel_rfl) (by decide) (fun c a w h => hPan c a _ _ w h) hcl hC (fun _ => hE) (Or.inl ⟨by rfl, ?_⟩) ?_; rotate_left; (· (intro w hSw; (try dsimp only at hSw); go_simp; (try with_reducible rfl))); clear hcl; intro hcl; (try simp only [Act.put, List.getElem_toArray, List.getElem_cons_zero, List.getElem_cons_succ, List.setIfInBounds_toArray, List.set_cons_zero, List.set_cons_succ]))
  (refine wpM_take (i := 7) (v := ?_) rfl (by kernel_rfl) (by kernel_rfl) (by kernel_rfl) (by decide) (fun c a w h => hPan c a _ _ w h) hcl hC (fun _ => hE) (Or.inl ⟨by rfl, ?_⟩) ?_; rotate_left; (· (intro w hSw; (try dsimp only at hSw); go_simp; (try with_reducible rfl))); clear hcl; intro hcl; (try simp only [Act.put, List.getElem_toArray, List.getElem_cons_zero, List.getElem_cons_succ, List.setIfInBounds_toArray, List.set_cons_zero, List.set_cons_succ]))
  (refine wpM_take (i := 8) (v := ?_) rfl (by kernel_rfl) (by kernel_rfl) (by kernel_rfl) (by decide) (fun c a w h => hPan c a _ _ w h) hcl hC (fun _ => hE) (Or.inl ⟨by rfl, ?_⟩) ?_; rotate_left; (· (intro w hSw; (try dsimp only at hSw); go_simp; (try with_reducible rfl))); clear hcl; intro hcl; (try simp only [Act.put, List.getElem_toArray, List.getElem_cons_zero, List.getElem_cons_succ, List.setIfInBounds_toArray, List.set_cons_zero, List.set_cons_succ]))
  (refine wpM_take (i := 9) (v := ?_) rfl (by kernel_rfl) (by kernel_rfl) (by kernel_rfl) (by decide) (fun c a w h => hPan c a _ _ w h) hcl hC (fun _ => hE) (Or.inl ⟨by rfl, ?_⟩) ?_; rotate_left; (· (intro w hSw; (try dsimp only at hSw); go_simp; (try with_reducible rfl))); clear hcl; intro hcl; (try simp only [Act.put, List.getElem_toArray, List.getElem_cons_zero, List.getElem_cons_succ, List.setIfInBounds_toArray, List.set_cons_zero, List.set_cons_succ]))
  refine wpM_only (i := 10) rfl (by kernel_rfl) hcl (fun K hK => ?_)
  go_simp
  refine (cP.out _ hC.1).mono ?_
  rintro e v1 ⟨rfl, hv1'⟩
  have hC' := kq_call hC (Nat.le_refl _) hv1'
  refine hK.out _ _ hC' trivial ?_
  clear hK K
  clear hcl
  intro hcl
  (try simp only [Act.put, List.getElem_toArray, List.getElem_cons_zero, List.getElem_cons_succ, List.setIfInBounds_toArray, List.set_cons_zero, List.set_cons_succ])
  clear hC
  have hC := hC'
  clear hC'
  (refine wpM_take (i := 11) (v := ?_) rfl (by kernel_rfl) (by kernel_rfl) (by kernel_rfl) (by decide) (fun c a w h => hPan c a _ _ w h) hcl hC (fun _ => hE) (Or.inl ⟨by rfl, ?_⟩) ?_; rotate_left; (· (intro w hSw; (try dsimp only at hSw); go_simp; (try with_reducible rfl))); clear hcl; intro hcl; (try simp only [Act.put, List.getElem_toArray, List.getElem_cons_zero, List.getElem_cons_succ, List.setIfInBounds_toArray, List.set_cons_zero, List.set_cons_succ]))
  (refine wpM_take (i := 12) (v := ?_) rfl (by kernel_rfl) (by kernel_rfl) (by kernel_rfl) (by decide) (fun c a w h => hPan c a _ _ w h) hcl hC (fun _ => hE) (Or.inl ⟨by rfl, ?_⟩) ?_; rotate_left; (· (intro w hSw; (try dsimp only at hSw); go_simp; (try with_reducible rfl))); clear hcl; intro hcl; (try simp only [Act.put, List.getElem_toArray, List.getElem_cons_zero, List.getElem_cons_succ, List.setIfInBounds_toArray, List.set_cons_zero, List.set_cons_succ]))
  refine wpM_done (by kernel_rfl) ?_
  clear hcl
  try simp only [Act.put, List.getElem_toArray, List.getElem_cons_zero, List.getElem_cons_succ, List.setIfInBounds_toArray, List.set_cons_zero, List.set_cons_succ]
  cases G <;> exact hQH.out _ _ _ _ _ _ _ _ _ _ _ _ _ hC.1
end Go.Proofs.YtpolplmniaoikaaDoor
