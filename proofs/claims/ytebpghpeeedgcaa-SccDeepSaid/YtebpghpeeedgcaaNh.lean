/- Who is whole: plain laws, how it lies in memory, Clone of truth values. -/
import Derived.Test.YtebpghpeeedgcaaNg
namespace Go.Proofs.Ytebpghpeeedgcaa
open Go.RowKit

theorem Ls.start {xs : List (List Int)} {th : List Bool} {wh : Nat → Bool} {ls : List Nat} (k : Nat) (h : ∀ x, x < xs.length → (wh x = false ↔ badW xs th x)) (hl : ∀ x, x ∈ ls ↔ x < xs.length ∧ wh x = false) : Ls xs th wh ls k [] where
  w1 := fun x hx h0 => ⟨x, hx, .refl _, (h x hx).1 h0⟩
  w2 := fun x hx hb => (h x hx).2 hb
  w3 := fun x hx => (hl x).1 hx
  w4 := fun x hx h0 => .inl ((hl x).2 ⟨hx, h0⟩)
def whF (wl : List Bool) (x : Nat) : Bool := wl.getD x false
theorem whF_set {wl : List Bool} {i : Nat} (hi : i < wl.length) : whF (wl.set i false) = fun x => if x = i then false else whF wl x := by
  funext x
  unfold whF
  rw [List.getD_eq_getElem?_getD, List.getElem?_set, List.getD_eq_getElem?_getD]
  by_cases h : x = i
  · subst h; simp [hi]
  · rw [if_neg (Ne.symm h), if_neg h]
theorem whF_get {wl : List Bool} {i : Nat} (hi : i < wl.length) : wl[i]? = some (whF wl i) := by
  unfold whF
  rw [List.getD_eq_getElem?_getD, List.getElem?_eq_getElem hi]; rfl
/-- The steps looked at: all of the things ahead of i, and of i the first m. -/
def EsP (xs : List (List Int)) (n : Nat) (es : List (Nat × Nat)) (i m : Nat) : Prop :=
  es.length ≤ i * 1000000 + m ∧ ∀ a b, (a, b) ∈ es ↔ b < n ∧ ((a < i ∧ (b : Int) ∈ xs.getD a []) ∨ (a = i ∧ (b : Int) ∈ (xs.getD i []).take m))
section
variable {xs : List (List Int)} {n i m : Nat} {es : List (Nat × Nat)} {v : Int}
theorem EsP.start : EsP xs n [] 0 0 := ⟨Nat.zero_le _, fun a b => by simp⟩
theorem EsP.skip (h : EsP xs n es i m) (hv : (xs.getD i [])[m]? = some v) (hb : ∀ b : Nat, v = (b : Int) → ¬ b < n) : EsP xs n es i (m + 1) := by
  refine ⟨by have := h.1; omega, fun a b => ?_⟩
  rw [h.2 a b, List.take_add_one, hv, List.mem_append]
  constructor
  · rintro ⟨h1, h2 | ⟨h2, h3⟩⟩
    · exact ⟨h1, .inl h2⟩
    · exact ⟨h1, .inr ⟨h2, .inl h3⟩⟩
  · rintro ⟨h1, h2 | ⟨h2, h3 | h3⟩⟩
    · exact ⟨h1, .inl h2⟩
    · exact ⟨h1, .inr ⟨h2, h3⟩⟩
    · have h4 : (b : Int) = v := by simpa using h3
      exact absurd h1 (hb b h4.symm)
theorem EsP.push {q : Nat} (h : EsP xs n es i m) (hv : (xs.getD i [])[m]? = some (q : Int)) (hq : q < n) : EsP xs n (es ++ [(i, q)]) i (m + 1) := by
  refine ⟨by have := h.1; simp; omega, fun a b => ?_⟩
  rw [List.mem_append, h.2 a b, List.take_add_one, hv, List.mem_append]
  constructor
  · rintro (⟨h1, h2 | ⟨h2, h3⟩⟩ | h1)
    · exact ⟨h1, .inl h2⟩
    · exact ⟨h1, .inr ⟨h2, .inl h3⟩⟩
    · have h2 := List.mem_singleton.1 h1
      injection h2 with h2 h3
      subst h2
      subst h3
      exact ⟨hq, .inr ⟨rfl, .inr (by simp)⟩⟩
  · rintro ⟨h1, h2 | ⟨h2, h3 | h3⟩⟩
    · exact .inl ⟨h1, .inl h2⟩
    · exact .inl ⟨h1, .inr ⟨h2, h3⟩⟩
    · have h4 : (b : Int) = (q : Int) := by simpa using h3
      exact .inr (by rw [h2, show b = q by omega]; simp)
theorem EsP.row (h : EsP xs n es i m) (hm : (xs.getD i []).length = m) (hx : m ≤ 1000000) : EsP xs n es (i + 1) 0 := by
  refine ⟨by have := h.1; rw [Nat.add_mul, Nat.one_mul, Nat.add_zero]; exact Nat.le_trans this (Nat.add_le_add_left hx _), fun a b => ?_⟩
  rw [h.2 a b, List.take_of_length_le (by omega)]
  constructor
  · rintro ⟨h1, h2 | ⟨h2, h3⟩⟩
    · exact ⟨h1, .inl ⟨by omega, h2.2⟩⟩
    · exact ⟨h1, .inl ⟨by omega, by rw [h2]; exact h3⟩⟩
  · rintro ⟨h1, h2 | ⟨h2, h3⟩⟩
    · by_cases e : a = i
      · exact ⟨h1, .inr ⟨e, by rw [← e]; exact h2.2⟩⟩
      · exact ⟨h1, .inl ⟨by omega, h2.2⟩⟩
    · simp at h3
theorem EsP.ed (h : EsP xs xs.length es xs.length 0) (y k : Nat) : y ∈ waitK es k ↔ Ed (gOf xs) y k := by
  rw [mem_waitK, h.2 y k, ed_gOf]
  constructor
  · rintro ⟨h1, h2 | ⟨h2, h3⟩⟩
    · exact ⟨h1, h2.2⟩
    · simp at h3
  · rintro ⟨h1, h2⟩
    refine ⟨h1, .inl ⟨Nat.lt_of_not_le fun hc => ?_, h2⟩⟩
    rw [List.getD_eq_getElem?_getD, List.getElem?_eq_none hc] at h2
    cases h2
end
/-- Who was found to be whole by itself, of the things ahead of i, and of i by the first m. -/
def WhP (xs : List (List Int)) (th wl : List Bool) (i m : Nat) : Prop :=
  wl.length = xs.length ∧ (∀ x, x < i → (whF wl x = false ↔ badW xs th x)) ∧ (i < xs.length → (whF wl i = false ↔ th.getD i false = false ∨ ∃ k ∈ (xs.getD i []).take m, inR xs.length k = false)) ∧ ∀ x, i < x → whF wl x = th.getD x false
section
variable {xs : List (List Int)} {th wl : List Bool} {i m : Nat} {v : Int}
theorem WhP.start (h : th.length = xs.length) : WhP xs th th 0 0 := ⟨h, fun x hx => absurd hx (Nat.not_lt_zero x), fun _ => by unfold whF; simp, fun _ _ => rfl⟩
theorem WhP.good (h : WhP xs th wl i m) (hv : (xs.getD i [])[m]? = some v) (hg : inR xs.length v = true) : WhP xs th wl i (m + 1) := by
  refine ⟨h.1, h.2.1, fun hi => ?_, h.2.2.2⟩
  rw [h.2.2.1 hi, List.take_add_one, hv]
  constructor
  · rintro (h1 | ⟨k, h1, h2⟩)
    · exact .inl h1
    · exact .inr ⟨k, List.mem_append_left _ h1, h2⟩
  · rintro (h1 | ⟨k, h1, h2⟩)
    · exact .inl h1
    · rcases List.mem_append.1 h1 with h1 | h1
      · exact .inr ⟨k, h1, h2⟩
      · have h3 : k = v := by simpa using h1
        rw [h3, hg] at h2
        cases h2
theorem WhP.bad (h : WhP xs th wl i m) (hi : i < xs.length) (hv : (xs.getD i [])[m]? = some v) (hg : inR xs.length v = false) : WhP xs th (wl.set i false) i (m + 1) := by
  have hl : i < wl.length := by rw [h.1]; exact hi
  rw [WhP, whF_set hl, List.length_set]
  refine ⟨h.1, fun x hx => ?_, fun _ => ?_, fun x hx => ?_⟩
  · dsimp only
    rw [if_neg (by omega)]; exact h.2.1 x hx
  · dsimp only
    rw [if_pos rfl, List.take_add_one, hv]
    exact ⟨fun _ => .inr ⟨v, by simp, hg⟩, fun _ => rfl⟩
  · dsimp only
    rw [if_neg (by omega)]; exact h.2.2.2 x hx
theorem WhP.row (h : WhP xs th wl i m) (hi : i < xs.length) (hm : (xs.getD i []).length = m) : WhP xs th wl (i + 1) 0 := by
  refine ⟨h.1, fun x hx => ?_, fun _ => ?_, fun x hx => h.2.2.2 x (by omega)⟩
  · by_cases e : x = i
    · subst e
      rw [h.2.2.1 hi, List.take_of_length_le (by omega)]; rfl
    · exact h.2.1 x (by omega)
  · rw [h.2.2.2 (i + 1) (by omega)]; simp
theorem WhP.end_ (h : WhP xs th wl xs.length 0) : ∀ x, x < xs.length → (whF wl x = false ↔ badW xs th x) := h.2.1
end
theorem Ls.whl {xs : List (List Int)} {th wl : List Bool} {k : Nat} (h : Ls xs th (whF wl) [] k []) (hl : wl.length = xs.length) : Whl xs th wl := ⟨hl, fun i hi => h.end_ i hi⟩
/-- Those ahead, who is whole, who is lost: in memory. -/
structure WW (V base n : Nat) (wt : Nat → List Nat) (wl : List Bool) (ls : List Nat) (WA LA : Option Addr) (wc lc : Nat) (vs : List Value) (w : World) : Prop where
  hv : w.heap[V]? = some (.cells vs.toArray 31 (0, 0))
  fm : Fam w base 3 n vs wt
  wh : Ow w base 4 1 (.slice WA n wc) (wl.map eB)
  len : wl.length = n
  lo : Ow w base 3 1 (.slice LA ls.length lc) (ls.map eN)
  ne : ∀ v ∈ vs, ∀ b, v.ownBlock = some b → (Value.slice LA ls.length lc).ownBlock ≠ some b
section
variable {V base n : Nat} {wt : Nat → List Nat} {wl : List Bool} {ls : List Nat} {WA LA : Option Addr} {wc lc : Nat} {vs : List Value} {w w' : World}
theorem Fam.ge (h : Fam w base 3 n vs wt) {v : Value} (hv : v ∈ vs) {b : Nat} (hb : v.ownBlock = some b) : base ≤ b ∧ b < w.heap.size := by
  obtain ⟨i, hi⟩ := List.mem_iff_getElem?.1 hv
  exact (h.own i v hi).block b hb
theorem WW.below (h : WW V base n wt wl ls WA LA wc lc vs w) (hb : Below w.heap.size w w') : WW V base n wt wl ls WA LA wc lc vs w' :=
  ⟨blk_below h.hv hb, h.fm.below hb, h.wh.below hb, h.len, h.lo.below hb, h.ne⟩
theorem WW.at_ (h : WW V base n wt wl ls WA LA wc lc vs w) {q : Nat} (hq : q < n) : ∃ QA qc, vs[q]? = some (.slice QA (wt q).length qc) ∧ w.cell? ⟨V, q, none⟩ = some (.slice QA (wt q).length qc) ∧ Ow w base 3 1 (.slice QA (wt q).length qc) ((wt q).map eN) := by
  obtain ⟨v, hv⟩ : ∃ v, vs[q]? = some v := ⟨_, List.getElem?_eq_getElem (by rw [h.fm.len]; exact hq)⟩
  have ho := h.fm.own q v hv
  obtain ⟨A, c, e, _⟩ := ho.form
  rw [List.length_map] at e
  subst e
  refine ⟨A, c, hv, ?_, ho⟩
  rw [blk_cell h.hv q, List.getElem?_toArray, hv]
/-- The cell that tells whether a thing is whole. -/
theorem WW.cell (h : WW V base n wt wl ls WA LA wc lc vs w) {q : Nat} (hq : q < n) : ∃ g, WA = some ⟨g, 0, none⟩ ∧ base ≤ g ∧ g < w.heap.size ∧ w.frozen? ⟨g, q, none⟩ = false ∧ w.cell? ⟨g, q, none⟩ = some (.bool (whF wl q)) := by
  obtain ⟨g, hA, hb, hl, hf, hc⟩ := h.wh.addr (by omega)
  have h1 := hc q _ (by rw [List.getElem?_map, whF_get (by rw [h.len]; exact hq)]; rfl) 0 _ rfl
  rw [Nat.mul_one, Nat.add_zero] at h1
  exact ⟨g, hA, hb, hl, hf q, h1⟩
theorem WW.set_ {g : Nat} (h : WW V base n wt wl ls (some ⟨g, 0, none⟩) LA wc lc vs w) (hVb : V < base) {q : Nat} (hq : q < n) : WW V base n wt (wl.set q false) ls (some ⟨g, 0, none⟩) LA wc lc vs (w.setCell ⟨g, q, none⟩ (.bool false)) := by
  have hg : (Value.slice (some ⟨g, 0, none⟩) n wc).ownBlock = some g := rfl
  have hgb := (h.wh.block g hg).1
  have hG : Gk (fun b => b = g) w (w.setCell ⟨g, q, none⟩ (.bool false)) := (Gk.refl (fun b => b = g) w).set (.inl rfl) _
  refine ⟨heap_set_ne (show g ≠ V by omega) h.hv, h.fm.kept hG fun v hv b hb e => ?_, ?_, by rw [List.length_set]; exact h.len, hG.ow h.lo fun b hb e => h.lo.ne_own h.wh (by decide) hb (by rw [hg, e]), h.ne⟩
  · obtain ⟨i, hi⟩ := List.mem_iff_getElem?.1 hv
    exact (h.fm.own i v hi).ne_own h.wh (by decide) hb (by rw [hg, e])
  · rw [List.map_set]
    have h1 := h.wh.setL (k := q) (by omega) (vs := eB false) rfl
    rw [Nat.mul_one] at h1
    exact h1
/-- A number is appended to one of the rows ahead. -/
theorem WW.app (h : WW V base n wt wl ls WA LA wc lc vs w) (hVb : V < base) {q x : Nat} {v v' : Value} {o : Obj} {w5 : World} (hv : vs[q]? = some v) (hg : (w.alloc o).grownBy w5 v.ownBlock) (ho : Ow w5 base 3 1 v' ((wt q).map eN ++ [eN x]))
    (hb : v'.ownBlock = v.ownBlock ∨ v'.ownBlock = some (w.alloc o).heap.size) : WW V base n (fun y => if y = q then wt q ++ [x] else wt y) wl ls WA LA wc lc (vs.set q v') (w5.setCell ⟨V, q, none⟩ v') := by
  have hgr : Gk (fun b => v.ownBlock = some b) w w5 := ((Gk.refl _ w).alloc _).grown hg (fun k e => .inl e)
  have hov := h.fm.own q v hv
  have hnV : v.ownBlock ≠ some V := fun e => by have := (hov.block V e).1; omega
  have h5 := hgr.blk h.hv hnV
  have hF : Fam w5 base 3 n (vs.set q v') (fun y => if y = q then wt q ++ [x] else wt y) := (h.fm.below ((Below.refl _ w).alloc (Nat.le_refl _) o)).app hv ho hg hb
  have hvm := List.mem_of_getElem? hv
  refine ⟨?_, hF.kept ((Gk.refl (fun b => b = V) w5).set (.inl rfl) _) fun u hu b hb2 e => ?_, (hgr.ow h.wh fun b hb1 e => hov.ne_own h.wh (by decide) e hb1).setCell (a := ⟨V, q, none⟩) hVb _, h.len, (hgr.ow h.lo fun b hb1 e => h.ne v hvm b e hb1).setCell (a := ⟨V, q, none⟩) hVb _, fun u hu b hub hlb => ?_⟩
  · rw [blk_set h5 q, List.setIfInBounds_toArray]
  · have := (hF.ge hu hb2).1; omega
  · rcases List.mem_or_eq_of_mem_set hu with h1 | rfl
    · exact h.ne u h1 b hub hlb
    · rcases hb with h2 | h2
      · exact h.ne v hvm b (by rw [← h2]; exact hub) hlb
      · rw [h2] at hub
        injection hub with hub
        have := (h.lo.block b hlb).2
        simp at hub
        omega
/-- A number is appended to those that are lost. -/
theorem WW.push (h : WW V base n wt wl ls WA LA wc lc vs w) (hVb : V < base) {x : Nat} {A5 : Option Addr} {c5 : Nat} {o : Obj} {w5 : World} (hg : (w.alloc o).grownBy w5 (Value.slice LA ls.length lc).ownBlock) (ho : Ow w5 base 3 1 (.slice A5 (ls.length + 1) c5) (ls.map eN ++ [eN x]))
    (hb : (Value.slice A5 (ls.length + 1) c5).ownBlock = (Value.slice LA ls.length lc).ownBlock ∨ (Value.slice A5 (ls.length + 1) c5).ownBlock = some (w.alloc o).heap.size) : WW V base n wt wl (ls ++ [x]) WA A5 wc c5 vs w5 := by
  have hgr : Gk (fun b => (Value.slice LA ls.length lc).ownBlock = some b) w w5 := ((Gk.refl _ w).alloc _).grown hg (fun k e => .inl e)
  refine ⟨hgr.blk h.hv fun e => by have := (h.lo.block V e).1; omega, h.fm.kept hgr fun v hv b hb1 e => h.ne v hv b hb1 e, hgr.ow h.wh fun b hb1 e => h.lo.ne_own h.wh (by decide) e hb1, h.len, by rw [List.length_append, List.map_append]; exact ho, fun v hv b hvb hlb => ?_⟩
  rw [List.length_append] at hlb
  rcases hb with h2 | h2
  · exact h.ne v hv b hvb (by rw [← h2]; exact hlb)
  · have h3 := h2.symm.trans hlb
    injection h3 with h3
    have := (h.fm.ge hv hvb).2
    simp at h3
    omega
/-- The last of those that are lost is taken. -/
theorem WW.pop {g x : Nat} (h : WW V base n wt wl (ls ++ [x]) WA (some ⟨g, 0, none⟩) wc lc vs w) : WW V base n wt wl ls WA (some ⟨g, 0, none⟩) wc lc vs w := by
  refine ⟨h.hv, h.fm, h.wh, h.len, ?_, h.ne⟩
  have h0 := h.lo
  rw [List.length_append, List.length_singleton] at h0
  have h1 := h0.front (k := ls.length) (by omega)
  rw [List.map_append, List.take_left' (by simp)] at h1
  exact h1
end
theorem eBool : ElemInfo Try.prog 23 4 1 1 := by
  obtain ⟨i, hi, h0, h1, h2⟩ := info_parts infoBool
  exact ⟨Try.underlying23, ⟨i, _, hi, h0, h1, h2, rfl⟩, by decide⟩
set_option maxRecDepth 100000 in
theorem cloneB_any (A : Option Addr) (n c : Nat) (xs : List Bool) (w : World) (hA : Rd w w.heap.size 1 A n (xs.map eB)) (hn : n ≤ 100000) :
    Calls Try.prog 26 #[.slice A n c] w fun e w' => ∃ A' c', e = .returned (.slice A' n c') ∧ Ow w' w.heap.size 4 1 (.slice A' n c') (xs.map eB) ∧ Below w.heap.size w w' := by
  have hl : xs.length = n := by simpa using hA.1
  cases A with
  | none =>
    obtain rfl : n = 0 := by
      rcases Nat.eq_zero_or_pos n with h | h
      · exact h
      · obtain ⟨b, o, h2, _⟩ := hA.2 h; cases h2
    obtain rfl : xs = [] := List.eq_nil_of_length_eq_zero hl
    have hnil : ∀ w, (binOp .eql 23 (.slice none 0 c) (.slice none 0 0)).run Try.prog w = .ok (.bool true) w := fun w => by rw [Lib.run_eql_slice_nil w _ _ none 0 c 0 0 Try.underlying23]; rfl
    go_enter Try.func26, Try.ntmps26
    go_wp2
    go_ret
    exact ⟨none, 0, rfl, Ow.nil_ _ _ _ _, Below.refl _ _⟩
  | some a =>
    have hnil : ∀ w, (binOp .eql 23 (.slice (some a) n c) (.slice none 0 0)).run Try.prog w = .ok (.bool false) w := fun w => by rw [Lib.run_eql_slice_nil w _ _ (some a) n c 0 0 Try.underlying23]; rfl
    go_enter Try.func26, Try.ntmps26
    go_wp2_with (at_builtin; refine wpList_append_rd _ rfl _ _ _ rfl eBool (base := w.heap.size) (v := .slice (some ⟨w.heap.size, 0, none⟩) 0 0) (xs := []) rfl (Ow.made0 _ _ _ (Nat.le_refl _)) rfl (Rd.below hA ((Below.refl _ w).alloc (Nat.le_refl _) _)) eB_len eB_one (by simp [maxLen]; omega) (by simp; omega) (by simp) ?_; intro A2 n2 c2 w4 hn2 hown2 hg4 hat2; (obtain rfl : n2 = n := (by rw [hn2]; simp)); clear hn2)
    go_ret
    exact ⟨A2, c2, rfl, by simpa using hown2, ((Below.refl _ w).alloc (Nat.le_refl _) _).grown hg4 (by simp) (fun g e => by simp [Value.ownBlock] at e; omega)⟩
end Go.Proofs.Ytebpghpeeedgcaa
