/- OrmapLast's law on plain maps. 'works' of the statements on maps. Contracts of maps with bounds. -/
import Derived.Test.YtadldndmmobpdaaM28
import Derived.Test.YtadldndmmobpdaaOnJ
import Derived.Test.YtadldndmmobpdaaM14
import Derived.Test.YtadldndmmobpdaaM19
import Derived.Test.YtadldndmmobpdaaOpL
import Derived.Test.YtadldndmmobpdaaM12
import Derived.KernelRfl
namespace Go.Proofs.Ytadldndmmobpdaa

theorem foldL_top (p : Pm) : ∀ (l : List Pm) (o : Option Pm), (∀ x ∈ l, x = p ∨ (0 < cmpL p x ∧ ¬ 0 < cmpL x p)) → (o = some p ∨ (p ∈ l ∧ ∀ m, o = some m → 0 < cmpL p m ∨ m = p)) → l.foldl stepL o = some p
  | [], o, _, h => by
    rcases h with h | ⟨h, _⟩
    · exact h
    · cases h
  | x :: l, o, hx, h => by
    rw [List.foldl_cons]
    refine foldL_top p l _ (fun y hy => hx y (List.mem_cons_of_mem _ hy)) ?_
    rcases h with rfl | ⟨hm, ho⟩
    · left
      show some (if 0 < cmpL x p then x else p) = some p
      rcases hx x (by simp) with rfl | ⟨_, h2⟩
      · split <;> rfl
      · rw [if_neg h2]
    · by_cases hxp : x = p
      · left
        subst hxp
        cases o with
        | none => rfl
        | some m =>
          show some (if 0 < cmpL x m then x else m) = some x
          rcases ho m rfl with h | rfl
          · rw [if_pos h]
          · split <;> rfl
      · have hx1 := (hx x (by simp)).resolve_left hxp
        right
        refine ⟨(List.mem_cons.1 hm).resolve_left (Ne.symm hxp), fun m hm2 => ?_⟩
        cases o with
        | none =>
          injection hm2 with e
          subst e
          exact .inl hx1.1
        | some m0 =>
          have hm3 : some (if 0 < cmpL x m0 then x else m0) = some m := hm2
          injection hm3 with e
          subst e
          split
          · exact .inl hx1.1
          · exact ho m0 rfl
theorem cmpL_time {p x : Pm} (h : x.2.2.2.1 < p.2.2.2.1) : 0 < cmpL p x ∧ ¬ 0 < cmpL x p := by
  have h1 : ordI p.2.2.2.1 x.2.2.2.1 = 1 := by
    unfold ordI; split
    · omega
    · simp
  have h2 : ordI x.2.2.2.1 p.2.2.2.1 = -1 := by unfold ordI; simp [h]
  unfold cmpL cmpS
  rw [h1, h2]
  simp
theorem ofM_ext {xs ys : List Pm} {gs hs : List Tm} {f : List UInt8} (h : mErr xs gs = 0) (h' : mErr ys hs = 0) (hm : ∀ z : Pm, z.2.1 = f → (z ∈ xs ↔ z ∈ ys)) : ofM xs gs f = ofM ys hs f := by
  obtain ⟨_, _, _, _, h5, _, _⟩ := errK_zero.1 (show errK Prod.fst fitsP xs gs = 0 from h)
  obtain ⟨_, _, _, _, k5, _, _⟩ := errK_zero.1 (show errK Prod.fst fitsP ys hs = 0 from h')
  unfold ofM
  rw [if_neg (by rw [h]; simp), if_neg (by rw [h']; simp)]
  refine ascK_ext (key := Prod.fst) (ascK_filter _ h5) (ascK_filter _ k5) fun z => ?_
  rw [List.mem_filter, List.mem_filter]
  constructor
  · rintro ⟨a, b⟩; exact ⟨(hm z (by simpa using b)).1 a, b⟩
  · rintro ⟨a, b⟩; exact ⟨(hm z (by simpa using b)).2 a, b⟩
theorem tagsM_mem {xs : List Pm} {gs : List Tm} {f : List UInt8} (h : mErr xs gs = 0) (t : Tm) : t ∈ tagsM xs gs f ↔ ∃ a ∈ xs, a.1 = t ∧ a.2.1 = f := by
  unfold tagsM
  rw [if_neg (by rw [h]; simp), List.mem_map]
  constructor
  · rintro ⟨a, ha, rfl⟩
    rw [List.mem_filter] at ha
    exact ⟨a, ha.1, rfl, by simpa using ha.2⟩
  · rintro ⟨a, ha, rfl, he⟩
    exact ⟨a, List.mem_filter.2 ⟨ha, by simpa using he⟩, rfl⟩
theorem tagsM_len {xs : List Pm} {gs : List Tm} {f : List UInt8} : (tagsM xs gs f).length ≤ xs.length := by
  unfold tagsM
  split
  · simp
  · rw [List.length_map]; exact List.length_filter_le _ _
theorem getM_of {xs ys : List Pm} {gs hs : List Tm} {f : List UInt8} (h : ofM xs gs f = ofM ys hs f) : getM xs gs f = getM ys hs f := by unfold getM; rw [h]
theorem last_law {xs : List Pm} {gs : List Tm} {p : Pm} {o : List UInt8} (hE : mErr xs gs = 0) (hn : xs.length ≤ 100) (hm : gs.length ≤ 200)
    {Y Z : (List Pm × List Tm) × Int} (hY : Y = putM xs gs p) (hy0 : Y.2 = 0) (hZ : Z = dropM Y.1.1 Y.1.2 (tagsM Y.1.1 Y.1.2 p.2.1)) :
    (p.1 ∉ xs.map Prod.fst → p.1 ∉ gs → (∀ a ∈ xs, a.2.1 ≠ p.2.1 ∨ a.2.2.2.1 < p.2.2.2.1) → getM Y.1.1 Y.1.2 p.2.1 = (p.2.2.1, true)) ∧
      Z.2 = 0 ∧ (getM Z.1.1 Z.1.2 p.2.1).2 = false ∧ (o ≠ p.2.1 → getM xs gs o = getM Z.1.1 Z.1.2 o) := by
  obtain ⟨_, _, hx3, _, hx5, _, _⟩ := errK_zero.1 (show errK Prod.fst fitsP xs gs = 0 from hE)
  have hct : chkT p.1 = true := by
    rcases Bool.eq_false_or_eq_true (chkT p.1) with h | h
    · exact h
    · exact absurd (hY ▸ hy0 : (putM xs gs p).2 = 0) (putK_err (key := Prod.fst) (ok1 := fitsP) (.inl h))
  have hfp : fitsP p = true := by
    rcases Bool.eq_false_or_eq_true (fitsP p) with h | h
    · exact h
    · exact absurd (hY ▸ hy0 : (putM xs gs p).2 = 0) (putK_err (key := Prod.fst) (ok1 := fitsP) (.inr h))
  have sP := putK_spec (key := Prod.fst) (ok1 := fitsP) (a := p) hE hct hfp (by omega)
  change (putM xs gs p).2 = 0 ∧ (putM xs gs p).1.2 = gs ∧ mErr (putM xs gs p).1.1 gs = 0 ∧ (∀ z, z ∈ (putM xs gs p).1.1 ↔ z ∈ xs ∨ (z = p ∧ p.1 ∉ xs.map Prod.fst ∧ p.1 ∉ gs)) ∧ (putM xs gs p).1.1.length ≤ xs.length + 1 at sP
  rw [← hY] at sP
  obtain ⟨_, p2, p3, p4, p5⟩ := sP
  rw [p2] at hZ ⊢
  generalize hS : tagsM Y.1.1 gs p.2.1 = S at hZ
  have hSm : ∀ u, u ∈ S ↔ ∃ a ∈ Y.1.1, a.1 = u ∧ a.2.1 = p.2.1 := fun u => by rw [← hS]; exact tagsM_mem p3 u
  have hSl : S.length ≤ 101 := by rw [← hS]; exact Nat.le_trans tagsM_len (by omega)
  obtain ⟨_, _, hy3, _, hy5, _, _⟩ := errK_zero.1 (show errK Prod.fst fitsP Y.1.1 gs = 0 from p3)
  have hSc : ∀ u ∈ S, chkT u = true := fun u hu => by
    obtain ⟨a, ha, rfl, _⟩ := (hSm u).1 hu
    exact hy3 a ha
  have sZ := dropK_spec (key := Prod.fst) (ok1 := fitsP) (l := S) p3 hSc (by omega)
  change (dropM Y.1.1 gs S).2 = 0 ∧ mErr (dropM Y.1.1 gs S).1.1 (dropM Y.1.1 gs S).1.2 = 0 ∧ (∀ z, z ∈ (dropM Y.1.1 gs S).1.1 ↔ z ∈ Y.1.1 ∧ z.1 ∉ S) ∧ (∀ u, u ∈ (dropM Y.1.1 gs S).1.2 ↔ u ∈ S ∨ u ∈ gs) ∧ _ at sZ
  rw [← hZ] at sZ
  obtain ⟨z1, z2, z3, z4, _⟩ := sZ
  refine ⟨fun h1 h2 h3 => ?_, z1, ?_, fun ho => ?_⟩
  · have hmx : maxL (ofM Y.1.1 gs p.2.1) = some p := by
      unfold ofM maxL
      rw [if_neg (by rw [p3]; simp)]
      refine foldL_top p _ none (fun x hx => ?_) (.inr ⟨List.mem_filter.2 ⟨(p4 p).2 (.inr ⟨rfl, h1, h2⟩), by simp⟩, fun m h => by cases h⟩)
      obtain ⟨hx1, hx2⟩ := List.mem_filter.1 hx
      rcases (p4 x).1 hx1 with h | ⟨rfl, _⟩
      · rcases h3 x h with h8 | h8
        · exact absurd (by simpa using hx2) h8
        · exact .inr (cmpL_time h8)
      · exact .inl rfl
    unfold getM
    rw [hmx]
    rfl
  · have hno : ofM Z.1.1 Z.1.2 p.2.1 = [] := by
      unfold ofM
      rw [if_neg (by rw [z2]; simp), List.filter_eq_nil_iff]
      intro a ha hf
      obtain ⟨k1, k2⟩ := (z3 a).1 ha
      exact k2 ((hSm _).2 ⟨a, k1, rfl, by simpa using hf⟩)
    unfold getM
    rw [hno]
    rfl
  · refine getM_of (ofM_ext hE z2 fun z hz => ?_)
    rw [z3, p4]
    constructor
    · intro h
      refine ⟨.inl h, fun hS2 => ?_⟩
      obtain ⟨b, hb, hb1, hb2⟩ := (hSm _).1 hS2
      have := ascK_inj hy5 hb ((p4 z).2 (.inl h)) hb1
      subst this
      exact ho (hz.symm.trans hb2)
    · rintro ⟨h | ⟨rfl, _⟩, _⟩
      · exact h
      · exact absurd hz.symm ho
end Go.Proofs.Ytadldndmmobpdaa
namespace Go.Proofs.Ytadldndmmobpdaa
open Go.RowKit

def tm1 : Tm := ((1, 1), 0)
def tm2 : Tm := ((2, 1), 0)
def exF : List UInt8 := [102]
def exG : List UInt8 := [103]
def pm1 : Pm := (tm1, (exF, (5, (2, 0))))
def pm2 : Pm := (tm2, (exF, (7, (1, 0))))
def pm0 : Pm := (tm1, ([], (0, (0, 0))))
theorem mk1 : putM [] [] pm1 = (([pm1], []), 0) := by kernel_rfl
theorem mk2 : putM [pm1] [] pm2 = (([pm1, pm2], []), 0) := by kernel_rfl
theorem mk3 : getM [pm1, pm2] [] exF = (5, true) := by kernel_rfl
theorem mk4 : dropM [pm1, pm2] [] [tm1] = (([pm2], [tm1]), 0) := by kernel_rfl
theorem mk5 : getM [pm2] [tm1] exF = (7, true) := by kernel_rfl
theorem mk6 : getM [pm2] [tm1] exG = (0, false) := by kernel_rfl
theorem mk7 : itemsM [pm2] [tm1] = [(exF, 7)] := by kernel_rfl
theorem mk8 : mErr [pm0] [] = 3 := by kernel_rfl
theorem RdT.mk1 {w : World} {g : Nat} (hg : g = w.heap.size) : RdT (w.alloc (.cells #[.int .i64 1, .int .u32 1, .int .i64 0] 79)) (w.alloc (.cells #[.int .i64 1, .int .u32 1, .int .i64 0] 79)).heap.size (some ⟨g, 0, none⟩) 1 [tm1] := by
  subst hg
  have h := Rd.one' (sz := 3) (e := 79) (w := w) [.int .i64 1, .int .u32 1, .int .i64 0] rfl
  have hs : (w.alloc (.cells #[.int .i64 1, .int .u32 1, .int .i64 0] 79)).heap.size = w.heap.size + 1 := by simp
  rw [hs]
  exact h
theorem RdP.mk0 {w : World} {g : Nat} (hg : g = w.heap.size) : RdP (w.alloc (.cells #[.int .i64 1, .int .u32 1, .int .i64 0, .string ⟨#[]⟩, .int .i64 0, .int .u32 0, .int .i64 0] 96)) (w.alloc (.cells #[.int .i64 1, .int .u32 1, .int .i64 0, .string ⟨#[]⟩, .int .i64 0, .int .u32 0, .int .i64 0] 96)).heap.size (some ⟨g, 0, none⟩) 1 [pm0] := by
  subst hg
  have h := Rd.one' (sz := 7) (e := 96) (w := w) [.int .i64 1, .int .u32 1, .int .i64 0, .string ⟨#[]⟩, .int .i64 0, .int .u32 0, .int .i64 0] rfl
  have hs : (w.alloc (.cells #[.int .i64 1, .int .u32 1, .int .i64 0, .string ⟨#[]⟩, .int .i64 0, .int .u32 0, .int .i64 0] 96)).heap.size = w.heap.size + 1 := by simp
  rw [hs]
  exact h
set_option maxRecDepth 100000 in
set_option maxHeartbeats 8000000 in
theorem mworks_any (w : World) :
    Calls Try.prog 53 #[] w fun e w' => e = .returned (.bool true) ∧ Below w.heap.size w w' := by
  have hwf1 : tm1.wf := ⟨by decide, by decide⟩
  have hwf2 : tm2.wf := ⟨by decide, by decide⟩
  have hp1 : pm1.wf := ⟨hwf1, ⟨by decide, by decide⟩, by decide, by decide⟩
  have hp2 : pm2.wf := ⟨hwf2, ⟨by decide, by decide⟩, by decide, by decide⟩
  have hp0 : pm0.wf := ⟨hwf1, ⟨by decide, by decide⟩, by decide, by decide⟩
  have c1 := Lib.hid (fun w => show Calls Try.prog 46 #[.agg #[.slice none 0 0, .slice none 0 0], .agg #[.int .i64 1, .int .u32 1, .int .i64 0, .string ⟨#[102]⟩, .int .i64 5, .int .u32 2, .int .i64 0]] w (PostM w ([pm1], []) 0) from by
    have h := mapply_any none 0 0 [] none 0 0 [] pm1 w ⟨rfl, fun h => absurd h (by decide)⟩ ⟨rfl, fun h => absurd h (by decide)⟩ (by omega) (by omega) (by simp) (by simp) (by simp) hp1 (by simp [pm1, exF, maxLen])
    rw [mk1] at h; exact h)
  have c2 := Lib.hid (fun A n c B m d w (hA : RdP w w.heap.size A n [pm1]) (hB : RdT w w.heap.size B m []) => show Calls Try.prog 46 #[.agg #[.slice A n c, .slice B m d], .agg #[.int .i64 2, .int .u32 1, .int .i64 0, .string ⟨#[102]⟩, .int .i64 7, .int .u32 1, .int .i64 0]] w (PostM w ([pm1, pm2], []) 0) from by
    have h := mapply_any A n c [pm1] B m d [] pm2 w hA hB (by have := hA.len; simp at this; omega) (by have := hB.len; simp at this; omega) (by simp [hp1]) (by simp) (by simp [pm1, exF, maxLen]) hp2 (by simp [pm2, exF, maxLen])
    rw [mk2] at h; exact h)
  have c3 := Lib.hid (fun A n c B m d w (hA : RdP w w.heap.size A n [pm1, pm2]) (hB : RdT w w.heap.size B m []) => show Calls Try.prog 28 #[.agg #[.slice A n c, .slice B m d], .string ⟨#[102]⟩] w (fun e w' => e = .returned (.tuple #[.int .i64 5, .bool true]) ∧ Below w.heap.size w w') from by
    have h := mget_any A n c [pm1, pm2] B m d [] exF w hA hB (by have := hA.len; simp at this; omega) (by have := hB.len; simp at this; omega) (by simp [hp1, hp2]) (by simp) (by simp [pm1, pm2, exF, maxLen])
    rw [mk3] at h; exact h)
  have c4 := Lib.hid (fun A n c B m d C w (hA : RdP w w.heap.size A n [pm1, pm2]) (hB : RdT w w.heap.size B m []) (hC : RdT w w.heap.size C 1 [tm1]) => show Calls Try.prog 49 #[.agg #[.slice A n c, .slice B m d], .slice C 1 1] w (PostM w ([pm2], [tm1]) 0) from by
    have h := mdrop_any A n c [pm1, pm2] B m d [] C 1 1 [tm1] w hA hB hC (by have := hA.len; simp at this; omega) (by have := hB.len; simp at this; omega) (by omega) (by simp [hp1, hp2]) (by simp) (by simp [hwf1]) (by simp [pm1, pm2, exF, maxLen])
    rw [mk4] at h; exact h)
  have c5 := Lib.hid (fun A n c B m d w (hA : RdP w w.heap.size A n [pm2]) (hB : RdT w w.heap.size B m [tm1]) => show Calls Try.prog 28 #[.agg #[.slice A n c, .slice B m d], .string ⟨#[102]⟩] w (fun e w' => e = .returned (.tuple #[.int .i64 7, .bool true]) ∧ Below w.heap.size w w') from by
    have h := mget_any A n c [pm2] B m d [tm1] exF w hA hB (by have := hA.len; simp at this; omega) (by have := hB.len; simp at this; omega) (by simp [hp2]) (by simp [hwf1]) (by simp [pm2, exF, maxLen])
    rw [mk5] at h; exact h)
  have c6 := Lib.hid (fun A n c B m d w (hA : RdP w w.heap.size A n [pm2]) (hB : RdT w w.heap.size B m [tm1]) => show Calls Try.prog 28 #[.agg #[.slice A n c, .slice B m d], .string ⟨#[103]⟩] w (fun e w' => e = .returned (.tuple #[.int .i64 0, .bool false]) ∧ Below w.heap.size w w') from by
    have h := mget_any A n c [pm2] B m d [tm1] exG w hA hB (by have := hA.len; simp at this; omega) (by have := hB.len; simp at this; omega) (by simp [hp2]) (by simp [hwf1]) (by simp [pm2, exF, maxLen])
    rw [mk6] at h; exact h)
  have c7 := Lib.hid (fun A n c B m d w (hA : RdP w w.heap.size A n [pm2]) (hB : RdT w w.heap.size B m [tm1]) => show Calls Try.prog 36 #[.agg #[.slice A n c, .slice B m d]] w (fun r w' => ∃ T c', r = .returned (.slice T 1 c') ∧ Below w.heap.size w w') from by
    have h := mitems_any A n c [pm2] B m d [tm1] w hA hB (by have := hA.len; simp at this; omega) (by have := hB.len; simp at this; omega) (by simp [hp2]) (by simp [hwf1]) (by simp [pm2, exF, maxLen])
    rw [mk7] at h
    exact h.mono (by rintro e w' ⟨T, t, c', rfl, o, hb⟩; obtain rfl : t = 1 := by simpa using o.rd.2.1.symm
                     exact ⟨T, c', rfl, hb⟩))
  have c8 := Lib.hid (fun A w (hA : RdP w w.heap.size A 1 [pm0]) => show Calls Try.prog 51 #[.agg #[.slice A 1 1, .slice none 0 0]] w (fun r w' => r = .returned (.int .i64 3) ∧ Below w.heap.size w w') from by
    have h := mcheck_any A 1 1 [pm0] none 0 0 [] w hA ⟨rfl, fun h => absurd h (by decide)⟩ (by decide) (by decide) (by intro a ha; simp at ha; subst ha; exact hp0) (by simp) (by simp [pm0])
    rw [mk8] at h; exact h)
  clear hwf1 hwf2 hp0 hp1 hp2
  go_enter Try.func53, Try.ntmps53
  go_upto_region 2 with (fail)
  obtain ⟨W0, hwn⟩ : ∃ w9, w.alloc (.cells #[.int .i64 1, .int .u32 1, .int .i64 0] 79) = w9 := ⟨_, rfl⟩
  have hgt : W0.heap[w.heap.size]? = some (.cells #[.int .i64 1, .int .u32 1, .int .i64 0] 79 (0, 0)) := by rw [← hwn]; exact heap_at _ _ rfl
  have hG0 : Below w.heap.size w W0 := by rw [← hwn]; exact (Below.refl _ w).alloc (Nat.le_refl _) _
  rw [hwn]
  clear hwn
  have hgtH := Lib.hid hgt
  have hz0 := hG0.size
  have a0 := blk_cell hgt 0
  have a1 := blk_cell hgt 1
  have a2 := blk_cell hgt 2
  simp at a0 a1 a2
  have hlta := blk_lt hgt
  clear hgt
  go_wp2_with fail
  refine (c1.out W0).mono ?_
  rintro e w1 ⟨A1, n1, k1, B1, m1, d1, rfl, hX1, hY1, _, _, _, _, _, _, hb1⟩
  clear a0 a1 a2 hlta c1
  go_upto_region 3 with (fail)
  obtain ⟨W1, hwn⟩ : ∃ w9, w1.alloc (.cells #[.slice A1 n1 k1, .slice B1 m1 d1] 56) = w9 := ⟨_, rfl⟩
  have hg1 : W1.heap[w1.heap.size]? = some (.cells #[.slice A1 n1 k1, .slice B1 m1 d1] 56 (0, 0)) := by rw [← hwn]; exact heap_at _ _ rfl
  have hb11 : Below w1.heap.size w1 W1 := by rw [← hwn]; exact (Below.refl _ w1).alloc (Nat.le_refl _) _
  rw [hwn]
  clear hwn
  have hB1 : Below W0.heap.size W0 W1 := hb1.trans (hb11.mono hb1.size)
  have hG1 : Below w.heap.size w W1 := hG0.trans (hB1.mono hz0)
  have r1 := Lib.hid (And.intro ((hX1.below hb11).more hb11.size) ((hY1.below hb11).more hb11.size))
  have hgtH1 := Lib.hid (blk_below hgtH.out hB1)
  clear hX1 hY1 hb1 hb11 hG0 hz0 hB1 hgtH
  have hl1 := blk_lt hg1
  have p0 := blk_cell hg1 0
  have p1 := blk_cell hg1 1
  simp at p0 p1
  clear hg1
  go_wp2_with fail
  refine (c2.out A1 n1 k1 B1 m1 d1 W1 r1.out.1 r1.out.2).mono ?_
  rintro e w2 ⟨A2, n2, k2, B2, m2, d2, rfl, hX2, hY2, _, _, _, _, _, _, hb2⟩
  clear p0 p1 hl1 c2 r1
  go_upto_region 4 with (fail)
  obtain ⟨W2, hwn⟩ : ∃ w9, w2.alloc (.cells #[.slice A2 n2 k2, .slice B2 m2 d2] 56) = w9 := ⟨_, rfl⟩
  have hg2 : W2.heap[w2.heap.size]? = some (.cells #[.slice A2 n2 k2, .slice B2 m2 d2] 56 (0, 0)) := by rw [← hwn]; exact heap_at _ _ rfl
  have hb22 : Below w2.heap.size w2 W2 := by rw [← hwn]; exact (Below.refl _ w2).alloc (Nat.le_refl _) _
  rw [hwn]
  clear hwn
  have hB2 : Below W1.heap.size W1 W2 := hb2.trans (hb22.mono hb2.size)
  have hG2 : Below w.heap.size w W2 := hG1.trans (hB2.mono hG1.size)
  have r2 := Lib.hid (And.intro ((hX2.below hb22).more hb22.size) ((hY2.below hb22).more hb22.size))
  have hgtH2 := Lib.hid (blk_below hgtH1.out hB2)
  have hg2H := Lib.hid hg2
  clear hX2 hY2 hb2 hb22 hG1 hB2 hgtH1 hg2
  have hlp := blk_lt (hg2H).out
  have p0 := blk_cell (hg2H).out 0
  have p1 := blk_cell (hg2H).out 1
  simp at p0 p1
  go_wp2_with fail
  refine (c3.out A2 n2 k2 B2 m2 d2 W2 r2.out.1 r2.out.2).mono ?_
  rintro e w3 ⟨rfl, hv3⟩
  clear p0 p1 hlp c3
  have hG3 := hG2.trans (hv3.mono hG2.size)
  have r3 := Lib.hid (And.intro ((r2.out.1.below hv3).more hv3.size) ((r2.out.2.below hv3).more hv3.size))
  have hgtH3 := Lib.hid (blk_below hgtH2.out hv3)
  have hg2H3 := Lib.hid (blk_below hg2H.out hv3)
  clear hgtH2 hg2H r2 hG2 hv3
  have hgt3 := hgtH3.out
  have hlp := blk_lt (hg2H3).out
  have p0 := blk_cell (hg2H3).out 0
  have p1 := blk_cell (hg2H3).out 1
  simp at p0 p1
  have a0 := blk_cell hgt3 0
  have a1 := blk_cell hgt3 1
  have a2 := blk_cell hgt3 2
  simp at a0 a1 a2
  have hlta := blk_lt hgt3
  clear hgt3
  go_wp2_with fail
  have hbs : Below w3.heap.size w3 (w3.alloc (.cells #[.int .i64 1, .int .u32 1, .int .i64 0] 79)) := (Below.refl _ w3).alloc (Nat.le_refl _) _
  refine (c4.out A2 n2 k2 B2 m2 d2 _ _ ((r3.out.1.below hbs).more hbs.size) ((r3.out.2.below hbs).more hbs.size) (RdT.mk1 rfl)).mono ?_
  rintro e w4 ⟨A4, n4, k4, B4, m4, d4, rfl, hX4, hY4, _, _, _, _, _, _, hb4⟩
  clear p0 p1 hlp a0 a1 a2 hlta c4
  go_upto_region 6 with (fail)
  obtain ⟨W4, hwn⟩ : ∃ w9, w4.alloc (.cells #[.slice A4 n4 k4, .slice B4 m4 d4] 56) = w9 := ⟨_, rfl⟩
  have hg4 : W4.heap[w4.heap.size]? = some (.cells #[.slice A4 n4 k4, .slice B4 m4 d4] 56 (0, 0)) := by rw [← hwn]; exact heap_at _ _ rfl
  have hb44 : Below w4.heap.size w4 W4 := by rw [← hwn]; exact (Below.refl _ w4).alloc (Nat.le_refl _) _
  rw [hwn]
  clear hwn
  have hB4 : Below w3.heap.size w3 W4 := (hbs.trans (hb4.mono hbs.size)).trans (hb44.mono (hbs.trans (hb4.mono hbs.size)).size)
  have hG4 : Below w.heap.size w W4 := hG3.trans (hB4.mono hG3.size)
  have r4 := Lib.hid (And.intro ((hX4.below hb44).more hb44.size) ((hY4.below hb44).more hb44.size))
  have hgtH4 := Lib.hid (blk_below hgtH3.out hB4)
  have hg4H := Lib.hid hg4
  have hm4 : m4 = 1 := by simpa using hY4.len.symm
  subst hm4
  clear hX4 hY4 hb4 hb44 hbs hB4 hG3 hgtH3 hg2H3 hg4 r3
  have hlp := blk_lt (hg4H).out
  have p0 := blk_cell (hg4H).out 0
  have p1 := blk_cell (hg4H).out 1
  simp at p0 p1
  go_wp2_with fail
  refine (c5.out A4 n4 k4 B4 1 d4 W4 r4.out.1 r4.out.2).mono ?_
  rintro e w5 ⟨rfl, hv5⟩
  clear p0 p1 hlp c5
  have hG5 := hG4.trans (hv5.mono hG4.size)
  have r5 := Lib.hid (And.intro ((r4.out.1.below hv5).more hv5.size) ((r4.out.2.below hv5).more hv5.size))
  have hgtH5 := Lib.hid (blk_below hgtH4.out hv5)
  have hg4H5 := Lib.hid (blk_below hg4H.out hv5)
  clear hgtH4 hg4H r4 hG4 hv5
  have hlp := blk_lt (hg4H5).out
  have p0 := blk_cell (hg4H5).out 0
  have p1 := blk_cell (hg4H5).out 1
  simp at p0 p1
  go_wp2_with fail
  refine (c6.out A4 n4 k4 B4 1 d4 w5 r5.out.1 r5.out.2).mono ?_
  rintro e w6 ⟨rfl, hv6⟩
  clear p0 p1 hlp c6
  have hG6 := hG5.trans (hv6.mono hG5.size)
  have r6 := Lib.hid (And.intro ((r5.out.1.below hv6).more hv6.size) ((r5.out.2.below hv6).more hv6.size))
  have hgtH6 := Lib.hid (blk_below hgtH5.out hv6)
  have hg4H6 := Lib.hid (blk_below hg4H5.out hv6)
  clear hgtH5 hg4H5 r5 hG5 hv6
  have hlp := blk_lt (hg4H6).out
  have p0 := blk_cell (hg4H6).out 0
  have p1 := blk_cell (hg4H6).out 1
  simp at p0 p1
  go_wp2_with fail
  refine (c7.out A4 n4 k4 B4 1 d4 w6 r6.out.1 r6.out.2).mono ?_
  rintro e w7 ⟨T7, f7, rfl, hv7⟩
  clear p0 p1 hlp c7
  have hG7 := hG6.trans (hv7.mono hG6.size)
  have hgt7 := blk_below hgtH6.out hv7
  have hg4H7 := Lib.hid (blk_below hg4H6.out hv7)
  clear hgtH6 hg4H6 r6 hG6 hv7
  have hlp := blk_lt (hg4H7).out
  have p0 := blk_cell (hg4H7).out 0
  have p1 := blk_cell (hg4H7).out 1
  simp at p0 p1
  have a0 := blk_cell hgt7 0
  have a1 := blk_cell hgt7 1
  have a2 := blk_cell hgt7 2
  simp at a0 a1 a2
  have hlta := blk_lt hgt7
  clear hgt7
  go_wp2_with fail
  refine (c8.out _ _ (RdP.mk0 rfl)).mono ?_
  rintro e w8 ⟨rfl, hv8⟩
  have hbs : Below w7.heap.size w7 (w7.alloc (.cells #[.int .i64 1, .int .u32 1, .int .i64 0, .string ⟨#[]⟩, .int .i64 0, .int .u32 0, .int .i64 0] 96)) := (Below.refl _ w7).alloc (Nat.le_refl _) _
  have hfin := hG7.trans ((hbs.trans (hv8.mono hbs.size)).mono hG7.size)
  clear p0 p1 hlp a0 a1 a2 hlta c8 hbs hv8
  go_wp2
  go_ret
  exact ⟨rfl, hfin⟩
end Go.Proofs.Ytadldndmmobpdaa
namespace Go.Proofs.Ytadldndmmobpdaa
open Go.RowKit

theorem dropM_sub (xs : List Pm) (gs l : List Tm) : (∀ a ∈ (dropM xs gs l).1.1, a ∈ xs) ∧ (∀ t ∈ (dropM xs gs l).1.2, t ∈ l ∨ t ∈ gs) ∧ (dropM xs gs l).1.1.length ≤ xs.length ∧ (dropM xs gs l).1.2.length ≤ gs.length + l.length := dropK_sub (key := Prod.fst) (ok1 := fitsP) xs gs l
theorem putM_sub (xs : List Pm) (gs : List Tm) (a0 : Pm) : (∀ a ∈ (putM xs gs a0).1.1, a = a0 ∨ a ∈ xs) ∧ (∀ t ∈ (putM xs gs a0).1.2, t ∈ gs) ∧ (putM xs gs a0).1.1.length ≤ xs.length + 1 ∧ (putM xs gs a0).1.2.length ≤ gs.length := putK_sub (key := Prod.fst) (ok1 := fitsP) xs gs a0
/-- A map whose puts and names are as they may be, in memory. -/
structure OkM (X : List Pm × List Tm) (p q : Nat) : Prop where
  wx : ∀ a ∈ X.1, a.wf
  wg : ∀ t ∈ X.2, t.wf
  wl : ∀ a ∈ X.1, a.2.1.length ≤ maxLen
  lx : X.1.length ≤ p
  lg : X.2.length ≤ q
theorem OkM.drop {xs : List Pm} {gs l : List Tm} {p q r : Nat} (h : OkM (xs, gs) p q) (hl : ∀ t ∈ l, t.wf) (hr : l.length ≤ r) : OkM (dropM xs gs l).1 p (q + r) := by
  obtain ⟨h1, h2, h3, h4⟩ := dropM_sub xs gs l
  have k1 := h.lx
  have k2 := h.lg
  dsimp only at k1 k2
  exact ⟨fun a ha => h.wx a (h1 a ha), fun t ht => (h2 t ht).elim (hl t) (h.wg t), fun a ha => h.wl a (h1 a ha), by omega, by omega⟩
theorem OkM.put {xs : List Pm} {gs : List Tm} {a0 : Pm} {p q : Nat} (h : OkM (xs, gs) p q) (ha : a0.wf) (hl : a0.2.1.length ≤ maxLen) : OkM (putM xs gs a0).1 (p + 1) q := by
  obtain ⟨h1, h2, h3, h4⟩ := putM_sub xs gs a0
  have k1 := h.lx
  have k2 := h.lg
  dsimp only at k1 k2
  exact ⟨fun a hm => (h1 a hm).elim (fun e => e ▸ ha) (h.wx a), fun t ht => h.wg t (h2 t ht), fun a hm => (h1 a hm).elim (fun e => e ▸ hl) (h.wl a), by omega, by omega⟩
section
variable {X : List Pm × List Tm} {p q : Nat}
theorem OkM.getC (h : OkM X p q) (hp : p ≤ 100000) (hq : q ≤ 100000) (e : List UInt8) (A : Option Addr) (n c : Nat) (B : Option Addr) (m d : Nat) (w : World) (hA : RdP w w.heap.size A n X.1) (hB : RdT w w.heap.size B m X.2) :
    Calls Try.prog 28 #[.agg #[.slice A n c, .slice B m d], .string (bs e)] w fun r w' => r = .returned (.tuple #[.int .i64 (getM X.1 X.2 e).1, .bool (getM X.1 X.2 e).2]) ∧ Below w.heap.size w w' :=
  mget_any A n c X.1 B m d X.2 e w hA hB (by have := hA.len; have := h.lx; omega) (by have := hB.len; have := h.lg; omega) h.wx h.wg h.wl
theorem OkM.tagsC (h : OkM X p q) (hp : p ≤ 100000) (hq : q ≤ 100000) (e : List UInt8) (A : Option Addr) (n c : Nat) (B : Option Addr) (m d : Nat) (w : World) (hA : RdP w w.heap.size A n X.1) (hB : RdT w w.heap.size B m X.2) :
    Calls Try.prog 32 #[.agg #[.slice A n c, .slice B m d], .string (bs e)] w fun r w' => ∃ T t c', r = .returned (.slice T t c') ∧ Ow w' w.heap.size 79 3 (.slice T t c') ((tagsM X.1 X.2 e).map Tm.enc) ∧ Below w.heap.size w w' :=
  mtagsf_any A n c X.1 B m d X.2 e w hA hB (by have := hA.len; have := h.lx; omega) (by have := hB.len; have := h.lg; omega) h.wx h.wg h.wl
theorem OkM.putC (h : OkM X p q) (hp : p ≤ 100000) (hq : q ≤ 100000) (a : Pm) (ha : a.wf) (hl : a.2.1.length ≤ maxLen) (A : Option Addr) (n c : Nat) (B : Option Addr) (m d : Nat) (w : World) (hA : RdP w w.heap.size A n X.1) (hB : RdT w w.heap.size B m X.2) :
    Calls Try.prog 46 #[.agg #[.slice A n c, .slice B m d], .agg #[.int .i64 a.1.1.1, .int .u32 a.1.1.2, .int .i64 a.1.2, .string (bs a.2.1), .int .i64 a.2.2.1, .int .u32 a.2.2.2.1, .int .i64 a.2.2.2.2]] w (PostM w (putM X.1 X.2 a).1 (putM X.1 X.2 a).2) :=
  mapply_any A n c X.1 B m d X.2 a w hA hB (by have := hA.len; have := h.lx; omega) (by have := hB.len; have := h.lg; omega) h.wx h.wg h.wl ha hl
theorem OkM.dropC (h : OkM X p q) (hp : p ≤ 100000) (hq : q ≤ 100000) (l : List Tm) (hlw : ∀ t ∈ l, t.wf) (hll : l.length ≤ 100000) (A : Option Addr) (n c : Nat) (B : Option Addr) (m d : Nat) (C : Option Addr) (k f : Nat) (w : World) (hA : RdP w w.heap.size A n X.1) (hB : RdT w w.heap.size B m X.2) (hC : RdT w w.heap.size C k l) :
    Calls Try.prog 49 #[.agg #[.slice A n c, .slice B m d], .slice C k f] w (PostM w (dropM X.1 X.2 l).1 (dropM X.1 X.2 l).2) :=
  mdrop_any A n c X.1 B m d X.2 C k f l w hA hB hC (by have := hA.len; have := h.lx; omega) (by have := hB.len; have := h.lg; omega) (by have := hC.len; omega) h.wx h.wg hlw h.wl
end
end Go.Proofs.Ytadldndmmobpdaa
