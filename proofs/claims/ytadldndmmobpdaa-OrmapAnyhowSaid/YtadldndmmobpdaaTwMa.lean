/- The statement OrmapAnyhow, walked. -/
import Derived.Test.YtadldndmmobpdaaM34
import Derived.Test.YtadldndmmobpdaaM35
import Derived.Test.YtadldndmmobpdaaM12
import Derived.Deep.Cut
import Derived.Deep.QuietTactic
import Derived.BigQuiet
namespace Go.Proofs.Ytadldndmmobpdaa
open Go.RowKit

def akM (b : Pm × List Tm) : Option (AK Pm) := if b.1.2.1 = [] then some (.drop b.2) else some (.put b.1)
theorem doesM_ds (X : List Pm × List Tm) (b : Pm × List Tm) : doesM X b.1 b.2 = dsK Prod.fst fitsP akM X b := by
  unfold doesM dsK akM
  by_cases h : b.1.2.1 = []
  · rw [if_pos h, if_pos h]; rfl
  · rw [if_neg h, if_neg h]; rfl
theorem OkM.does {X : List Pm × List Tm} {p q : Nat} (h : OkM X p q) {e : Pm} {l : List Tm} (hl : ∀ t ∈ l, t.wf) (hll : l.length ≤ 20) (hw : e.wf) (he : e.2.1.length ≤ maxLen) : OkM (doesM X e l).1 (p + 1) (q + 20) := by
  unfold doesM
  by_cases h0 : e.2.1 = []
  · rw [if_pos h0]
    have := OkM.drop (xs := X.1) (gs := X.2) h hl hll
    exact ⟨this.wx, this.wg, this.wl, Nat.le_succ_of_le this.lx, this.lg⟩
  · rw [if_neg h0]
    have h9 := OkM.put (xs := X.1) (gs := X.2) (a0 := e) h hw he
    exact ⟨h9.wx, h9.wg, h9.wl, h9.lx, Nat.le_trans h9.lg (by omega)⟩
theorem OkM.fromC {X : List Pm × List Tm} {p q : Nat} (h : OkM X p q) (hp : p ≤ 100000) (hq : q ≤ 100000) (A : Option Addr) (n c : Nat) (B : Option Addr) (m d : Nat) (w : World) (hA : RdP w w.heap.size A n X.1) (hB : RdT w w.heap.size B m X.2) :
    Calls Try.prog 31 #[.agg #[.slice A n c, .slice B m d]] w fun e w' => ∃ A' c' B' d', e = .returned (.agg #[.slice A' n c', .slice B' m d']) ∧ RdP w' w'.heap.size A' n X.1 ∧ RdT w' w'.heap.size B' m X.2 ∧ Below w.heap.size w w' :=
  (mfrom_any A n c X.1 B m d X.2 w hA hB (by have := hA.len; have := h.lx; omega) (by have := hB.len; have := h.lg; omega)).mono (by rintro e w' ⟨A', c', B', d', rfl, o, p, hb⟩; exact ⟨A', c', B', d', rfl, o.rd.1, p.rd.1, hb⟩)
def AcM.pl (a : AcM) : Pm × List Tm := (a.a, a.l)
theorem OkM.more {X : List Pm × List Tm} {p q p' q' : Nat} (h : OkM X p q) (hp : p ≤ p') (hq : q ≤ q') : OkM X p' q' := ⟨h.wx, h.wg, h.wl, Nat.le_trans h.lx hp, Nat.le_trans h.lg hq⟩
theorem infoActM : (Try.prog.info? 108).map (fun i => (i.zero, i.size, i.bytes)) = some (some (.agg #[.int .i64 0, .int .u32 0, .int .i64 0, .string ⟨#[]⟩, .int .i64 0, .int .u32 0, .int .i64 0, .slice none 0 0]), 8, 88) := by kernel_rfl
theorem eActM : ElemInfo Try.prog 104 108 8 88 := by
  obtain ⟨i, hi, h0, h1, h2⟩ := info_parts infoActM
  exact ⟨Try.underlying104, ⟨i, _, hi, h0, h1, h2, rfl⟩, by decide⟩
/-- What is known at the head of the first round. -/
structure L1m (w : World) (N0 k p : Nat) (A : Option Addr) (n c : Nat) (B : Option Addr) (m d : Nat) (X : List Pm × List Tm) (T : Option Addr) (t f : Nat) (ds : List AcM) (M : List UInt8 → Pm) (wr : World) : Prop where
  ba : wr.heap[N0]? = some (.cells #[.slice A n c, .slice B m d] 56 (0, 0))
  xa : RdP wr wr.heap.size A n X.1
  xb : RdT wr wr.heap.size B m X.2
  bb : wr.heap[N0 + 1]? = some (.cells #[.slice none 0 0, .slice none 0 0] 56 (0, 0))
  mp : MapP wr (N0 + 1 + 1) p M
  dn : Ow wr (N0 + 3) 108 8 (.slice T t f) (ds.map AcM.enc)
  ok : ∀ x ∈ ds, x.Ok w w.heap.size ∧ x.k ≤ 20
  st : OkM X k (20 * k)
  iv : InvA Prod.fst fitsP id (fun e => e.2.1 ≠ []) akM k M (ds.map AcM.pl) X
  bw : Below w.heap.size w wr
  sz : N0 + 3 ≤ wr.heap.size
  n0 : w.heap.size ≤ N0
  ta : TyR wr 96 A n
  tb : TyR wr 79 B m
def L1M (w : World) (N0 : Nat) (k : Nat) (o : Value) (wr : World) : Prop :=
  ∃ (A : Option Addr) (n c : Nat) (B : Option Addr) (m d : Nat) (X : List Pm × List Tm) (T : Option Addr) (t f : Nat) (ds : List AcM) (M : List UInt8 → Pm), o = .slice T t f ∧ L1m w N0 k k A n c B m d X T t f ds M wr
theorem zeroOkM : OkM ([], []) 0 0 := ⟨by simp, by simp, by simp, by simp, by simp⟩
theorem L1m_start {w w0 : World} (h : Below w.heap.size w w0) : L1M w w0.heap.size 0 (.slice none 0 0) (((w0.alloc (.cells #[.slice none 0 0, .slice none 0 0] 56)).alloc (.cells #[.slice none 0 0, .slice none 0 0] 56)).alloc (.map #[] 0)) := by
  have hz := h.size
  refine ⟨none, 0, 0, none, 0, 0, ([], []), none, 0, 0, [], fun _ => zeroPm, rfl, ?_, Rd.nil_, Rd.nil_, ?_, ?_, Ow.nil_ _ _ _ _, by simp, zeroOkM, invA_start, ((h.alloc hz _).alloc (by simp; omega) _).alloc (by simp; omega) _, by simp, hz, TyR.nil_ _ _ _, TyR.nil_ _ _ _⟩
  · exact heap_old _ (by simp; omega) (heap_old _ (by simp) (heap_at _ _ rfl))
  · exact heap_old _ (by simp) (heap_at _ _ (by simp))
  · have := MapP.made ((w0.alloc (.cells #[.slice none 0 0, .slice none 0 0] 56)).alloc (.cells #[.slice none 0 0, .slice none 0 0] 56))
    rw [World.size_alloc, World.size_alloc] at this
    exact this
theorem Rd.mapm_kept {w w' : World} {B sz b p : Nat} {A : Option Addr} {n : Nat} {xs : List (List Value)} {M : List UInt8 → Pm} (h : Rd w B sz A n xs) (hx : ∀ x ∈ xs, x ≠ []) (hB : B ≤ w.heap.size) (hm : MapP w b p M) (hg : w.grownBy w' (some b)) : Rd w' B sz A n xs := by
  refine ⟨h.1, fun h0 => ?_⟩
  obtain ⟨g, o, e, hgB, hc⟩ := h.2 h0
  have hne : g ≠ b := by
    rintro rfl
    obtain ⟨D, ⟨es, cl, hb, _⟩, _⟩ := hm
    have hl := h.1
    obtain ⟨x, hx0⟩ : ∃ x, xs[0]? = some x := ⟨_, List.getElem?_eq_getElem (by omega)⟩
    obtain ⟨u, r, rfl⟩ : ∃ u r, x = u :: r := by
      cases x with
      | nil => exact absurd rfl (hx _ (List.mem_of_getElem? hx0))
      | cons u r => exact ⟨u, r, rfl⟩
    have := hc 0 _ hx0 0 u rfl
    simp [World.cell?, hb] at this
  refine ⟨g, o, e, hgB, fun i x hi j u hu => ?_⟩
  have h1 := hc i x hi j u hu
  have hbl := hg.block g (by omega) (fun e => hne (by injection e))
  rw [← h1]
  simp [World.cell?, hbl]
theorem below_dn {w v : World} {B : Nat} (h : Below B v w) (m : Nat) : Below B v (w.drewN m) := h.trans ⟨rfl, rfl, rfl, Nat.le_refl _, fun _ _ => rfl⟩
theorem encP_ne {xs : List Pm} : ∀ x ∈ xs.map Pm.enc, x ≠ [] := by
  intro x hx; obtain ⟨t, _, rfl⟩ := List.mem_map.1 hx; simp [Pm.enc]
theorem encT_ne {xs : List Tm} : ∀ x ∈ xs.map Tm.enc, x ≠ [] := by
  intro x hx; obtain ⟨t, _, rfl⟩ := List.mem_map.1 hx; simp [Tm.enc]
theorem ownKept {w w' : World} {base sz : Nat} {e : TypeId} {v : Value} {xs : List (List Value)} (h : Ow w base e sz v xs) (hg : w.grownBy w' v.ownBlock) {j : Nat} {x : Obj} (hj : w.heap[j]? = some x) (hx : ∀ cs, x ≠ .cells cs e (0, 0)) : w'.heap[j]? = some x := by
  refine (hg.block j (blk_lt hj) (fun e' => ?_)).trans hj
  rcases h.2.2 with ⟨h1, _⟩ | ⟨g, cap, cur, h1, _, h3, _⟩
  · rw [h1] at e'; simp [Value.ownBlock] at e'
  · rw [h1] at e'
    have : j = g := by simpa [Value.ownBlock] using e'
    subst this
    rw [hj] at h3
    injection h3 with h3
    exact hx _ h3
theorem Rd.own_kept {w w' : World} {base sz B sz' : Nat} {e e' : TypeId} {v : Value} {xs ys : List (List Value)} {A : Option Addr} {n : Nat} (h : Rd w B sz' A n ys) (ht : TyR w e' A n) (ho : Ow w base e sz v xs) (hg : w.grownBy w' v.ownBlock) (hne : e' ≠ e) : Rd w' B sz' A n ys := by
  refine ⟨h.1, fun h0 => ?_⟩
  obtain ⟨g, o, he, hgB, hc⟩ := h.2 h0
  obtain ⟨b, o', cs, h1, h2⟩ := ht h0
  rw [he] at h1
  injection h1 with h1
  injection h1 with h1 _
  subst h1
  have hbl := ownKept ho hg h2 (fun cs' hc' => by injection hc' with _ hc' _; exact hne hc')
  refine ⟨g, o, he, hgB, fun i x hi j u hu => ?_⟩
  rw [← hc i x hi j u hu]
  simp [World.cell?, hbl, h2]
theorem TyR.own_kept {w w' : World} {base sz : Nat} {e e' : TypeId} {v : Value} {xs : List (List Value)} {A : Option Addr} {n : Nat} (ht : TyR w e' A n) (ho : Ow w base e sz v xs) (hg : w.grownBy w' v.ownBlock) (hne : e' ≠ e) : TyR w' e' A n := fun h0 => by
  obtain ⟨b, o', cs, h1, h2⟩ := ht h0
  exact ⟨b, o', cs, h1, ownKept ho hg h2 (fun cs' hc' => by injection hc' with _ hc' _; exact hne hc')⟩
theorem MapP.own_kept {w w' : World} {base sz b p : Nat} {e : TypeId} {v : Value} {xs : List (List Value)} {M : List UInt8 → Pm} (h : MapP w b p M) (ho : Ow w base e sz v xs) (hg : w.grownBy w' v.ownBlock) : MapP w' b p M := by
  obtain ⟨D, ⟨es, cl, hb, r⟩, h2⟩ := h
  exact ⟨D, ⟨es, cl, ownKept ho hg hb (fun cs hc => by cases hc), r⟩, h2⟩
theorem neqPm {R : Type} {a b : Pm} (h : a ≠ b) (f t : R) : (if a.1.1.1 = b.1.1.1 then if a.1.1.2 = b.1.1.2 then if a.1.2 = b.1.2 then if (bs a.2.1).toList = (bs b.2.1).toList then if a.2.2.1 = b.2.2.1 then if a.2.2.2.1 = b.2.2.2.1 then if a.2.2.2.2 = b.2.2.2.2 then f else t else t else t else t else t else t else t) = t := by
  obtain ⟨⟨⟨x1, x2⟩, x3⟩, ⟨x4, ⟨x5, ⟨x6, x7⟩⟩⟩⟩ := a
  obtain ⟨⟨⟨y1, y2⟩, y3⟩, ⟨y4, ⟨y5, ⟨y6, y7⟩⟩⟩⟩ := b
  dsimp only
  by_cases h1 : x1 = y1
  · by_cases h2 : x2 = y2
    · by_cases h3 : x3 = y3
      · by_cases h4 : (bs x4).toList = (bs y4).toList
        · by_cases h5 : x5 = y5
          · by_cases h6 : x6 = y6
            · by_cases h7 : x7 = y7
              · rw [bs_empty, bs_empty] at h4
                exact absurd (by rw [h1, h2, h3, h4, h5, h6, h7]) h
              · rw [if_pos h1, if_pos h2, if_pos h3, if_pos h4, if_pos h5, if_pos h6, if_neg h7]
            · rw [if_pos h1, if_pos h2, if_pos h3, if_pos h4, if_pos h5, if_neg h6]
          · rw [if_pos h1, if_pos h2, if_pos h3, if_pos h4, if_neg h5]
        · rw [if_pos h1, if_pos h2, if_pos h3, if_neg h4]
      · rw [if_pos h1, if_pos h2, if_neg h3]
    · rw [if_pos h1, if_neg h2]
  · rw [if_neg h1]
theorem fieldPut (v : Pm) (w : World) : (Instr.field 94 (.agg #[.int .i64 v.1.1.1, .int .u32 v.1.1.2, .int .i64 v.1.2, .string (bs v.2.1), .int .i64 v.2.2.1, .int .u32 v.2.2.2.1, .int .i64 v.2.2.2.2]) 1).run Try.prog w = .ok (.string (bs v.2.1)) w := by kernel_rfl
section
variable {w wr : World} {N0 k p : Nat} {A : Option Addr} {n c : Nat} {B : Option Addr} {m d : Nat} {X : List Pm × List Tm} {T : Option Addr} {t f : Nat} {ds : List AcM} {M M' : List UInt8 → Pm}
theorem L1m.below {W : World} (h : L1m w N0 k p A n c B m d X T t f ds M wr) (hb : Below wr.heap.size wr W) : L1m w N0 k p A n c B m d X T t f ds M W :=
  ⟨blk_below h.ba hb, (h.xa.below hb).more hb.size, (h.xb.below hb).more hb.size, blk_below h.bb hb, h.mp.below hb, h.dn.below hb, h.ok, h.st, h.iv, h.bw.trans (hb.mono h.bw.size), Nat.le_trans h.sz hb.size, h.n0, h.ta.below hb, h.tb.below hb⟩
theorem L1m.skip (h : L1m w N0 k p A n c B m d X T t f ds M wr) (hp : p ≤ k + 1) : L1M w N0 (k + 1) (.slice T t f) wr :=
  ⟨A, n, c, B, m, d, X, T, t, f, ds, M, rfl, h.ba, h.xa, h.xb, h.bb, h.mp.mono hp, h.dn, h.ok, h.st.more (by omega) (by omega), h.iv.skip, h.bw, h.sz, h.n0, h.ta, h.tb⟩
theorem L1m.mapped {W : World} {p' : Nat} (h : L1m w N0 k p A n c B m d X T t f ds M wr) (hg : wr.grownBy W (some (N0 + 1 + 1))) (hM : MapP W (N0 + 1 + 1) p' M') (hI : InvA Prod.fst fitsP id (fun e => e.2.1 ≠ []) akM k M' (ds.map AcM.pl) X) : L1m w N0 k p' A n c B m d X T t f ds M' W := by
  have hz := h.sz
  have hmap : ∀ {e : TypeId} cs, wr.heap[N0 + 1 + 1]? ≠ some (.cells cs e (0, 0)) := fun cs hc => by
    obtain ⟨D, ⟨es, cl, hb, _⟩, _⟩ := h.mp
    rw [hb] at hc
    cases hc
  have hb : ∀ j, j < wr.heap.size → j ≠ N0 + 1 + 1 → W.heap[j]? = wr.heap[j]? := fun j hj hne => hg.block j hj (fun e => hne (by injection e))
  refine ⟨(hb _ (by omega) (by omega)).trans h.ba, Rd.more (Rd.mapm_kept h.xa encP_ne (Nat.le_refl _) h.mp hg) hg.size, Rd.more (Rd.mapm_kept h.xb encT_ne (Nat.le_refl _) h.mp hg) hg.size, (hb _ (by omega) (by omega)).trans h.bb, hM, ?_, h.ok, h.st, hI, h.bw.grown hg h.bw.size (fun g e => by injection e with e; have := h.n0; omega), Nat.le_trans hz hg.size, h.n0, h.ta.kept hg hmap, h.tb.kept hg hmap⟩
  exact ⟨h.dn.1, h.dn.2.kept hg (.inr (fun e => by have := h.dn.block _ e; omega))⟩
theorem L1m.next {W W1 W2 W3 : World} {A3 : Option Addr} {n3 c3 : Nat} {B3 : Option Addr} {m3 d3 : Nat} {Z : List Pm × List Tm} {T4 : Option Addr} {t4 f4 : Nat} {u : AcM} (h : L1m w N0 k p A n c B m d X T t f ds M W)
    (ha : RdP W W.heap.size A3 n3 Z.1) (hb : RdT W W.heap.size B3 m3 Z.2) (hta : TyR W 96 A3 n3) (htb : TyR W 79 B3 m3) (hW1 : W1 = (W.setCell ⟨N0, 0, none⟩ (.slice A3 n3 c3)).setCell ⟨N0, 1, none⟩ (.slice B3 m3 d3))
    (hbW : Below W1.heap.size W1 W2) (hg : W2.grownBy W3 (Value.slice T t f).ownBlock) (hown : Ow W3 (N0 + 3) 108 8 (.slice T4 t4 f4) ((ds ++ [u]).map AcM.enc))
    (hu : u.Ok w w.heap.size ∧ u.k ≤ 20) (hst : OkM Z (k + 1) (20 * k + 20)) (hI : InvA Prod.fst fitsP id (fun e => e.2.1 ≠ []) akM (k + 1) M (ds.map AcM.pl ++ [u.pl]) Z) (hp : p ≤ k + 1) : L1M w N0 (k + 1) (.slice T4 t4 f4) W3 := by
  have hz := h.sz
  have hn0 := h.n0
  have hb1 := blk_set (blk_set h.ba 0 (.slice A3 n3 c3)) 1 (.slice B3 m3 d3)
  have hz1 : W1.heap.size = W.heap.size := by rw [hW1, World.size_setCell, World.size_setCell]
  have hgr1 : W.grownBy W1 (some N0) := by rw [hW1]; exact gr_set (gr_set (World.grownBy.refl _ _) _ _) _ _
  have hdn1 : Ow W1 (N0 + 3) 108 8 (.slice T t f) (ds.map AcM.enc) := by
    rw [hW1]; exact (h.dn.set_blk h.ba (by decide) 0 _).set_blk (blk_set h.ba 0 _) (by decide) 1 _
  have ha1 : RdP W1 W1.heap.size A3 n3 Z.1 := by
    rw [hz1, hW1]; exact (ha.set_other h.ba 0 _).set_other (blk_set h.ba 0 _) 1 _
  have hb1' : RdT W1 W1.heap.size B3 m3 Z.2 := by
    rw [hz1, hW1]; exact (hb.set_other h.ba 0 _).set_other (blk_set h.ba 0 _) 1 _
  have hta1 : TyR W1 96 A3 n3 := by rw [hW1]; exact (hta.setC _ _ _).setC _ _ _
  have htb1 : TyR W1 79 B3 m3 := by rw [hW1]; exact (htb.setC _ _ _).setC _ _ _
  have hba1 : W1.heap[N0]? = some (.cells #[.slice A3 n3 c3, .slice B3 m3 d3] 56 (0, 0)) := by rw [hW1]; simpa using hb1
  have hbb1 : W1.heap[N0 + 1]? = some (.cells #[.slice none 0 0, .slice none 0 0] 56 (0, 0)) := by
    rw [hW1]; exact heap_set_ne (p := ⟨N0, 1, none⟩) (by dsimp only; omega) (heap_set_ne (p := ⟨N0, 0, none⟩) (by dsimp only; omega) h.bb)
  have hmp1 : MapP W1 (N0 + 1 + 1) p M := h.mp.kept hgr1 (fun e => by injection e with e; omega)
  have hbw1 : Below w.heap.size w W1 := by rw [hW1]; exact (h.bw.setCell (by dsimp only; omega) _).setCell (by dsimp only; omega) _
  have hdn2 := hdn1.below hbW
  have hne : ∀ (cs cs' : Array Value), (Obj.cells cs 56 (0, 0)) ≠ .cells cs' 108 (0, 0) := fun cs cs' hc => by injection hc with _ hc _; revert hc; decide
  have ha2 := (ha1.below hbW).more hbW.size
  have hb2 := (hb1'.below hbW).more hbW.size
  have hta2 := hta1.below hbW
  have htb2 := htb1.below hbW
  refine ⟨A3, n3, c3, B3, m3, d3, Z, T4, t4, f4, ds ++ [u], M, rfl, ownKept hdn2 hg (blk_below hba1 hbW) (hne _), ?_, ?_, ownKept hdn2 hg (blk_below hbb1 hbW) (hne _), ((hmp1.below hbW).own_kept hdn2 hg).mono hp, hown, ?_, hst.more (Nat.le_refl _) (by omega), by rw [List.map_append]; exact hI, ?_, ?_, hn0, ?_, ?_⟩
  · exact Rd.more (Rd.own_kept ha2 hta2 hdn2 hg (by decide)) hg.size
  · exact Rd.more (Rd.own_kept hb2 htb2 hdn2 hg (by decide)) hg.size
  · intro x hx
    rcases List.mem_append.1 hx with hx | hx
    · exact h.ok x hx
    · obtain rfl := List.mem_singleton.1 hx; exact hu
  · exact (hbw1.trans (hbW.mono hbw1.size)).grown hg (hbw1.trans (hbW.mono hbw1.size)).size (fun g e => by have := (hdn2.block g e).1; omega)
  · exact Nat.le_trans (Nat.le_trans (by omega) hbW.size) hg.size
  · exact hta2.own_kept hdn2 hg (by decide)
  · exact htb2.own_kept hdn2 hg (by decide)
end
/-- What is known at the head of the second round. -/
structure L2m (w : World) (N0 k j : Nat) (A : Option Addr) (n c : Nat) (B : Option Addr) (m d : Nat) (X : List Pm × List Tm) (T : Option Addr) (t : Nat) (ds : List AcM) (M : List UInt8 → Pm) (A' : Option Addr) (n' c' : Nat) (B' : Option Addr) (m' d' : Nat) (Y : List Pm × List Tm) (wr : World) : Prop where
  ba : wr.heap[N0]? = some (.cells #[.slice A n c, .slice B m d] 56 (0, 0))
  xa : RdP wr wr.heap.size A n X.1
  xb : RdT wr wr.heap.size B m X.2
  bb : wr.heap[N0 + 1]? = some (.cells #[.slice A' n' c', .slice B' m' d'] 56 (0, 0))
  ya : RdP wr wr.heap.size A' n' Y.1
  yb : RdT wr wr.heap.size B' m' Y.2
  dn : Rd wr wr.heap.size 8 T t (ds.map AcM.enc)
  ok : ∀ x ∈ ds, x.Ok w w.heap.size ∧ x.k ≤ 20
  sx : OkM X k (20 * k)
  sy : OkM Y (t - j) (20 * (t - j))
  iv : InvA Prod.fst fitsP id (fun e => e.2.1 ≠ []) akM k M (ds.map AcM.pl) X
  ib : InvB Prod.fst fitsP akM (ds.map AcM.pl) j Y
  bw : Below w.heap.size w wr
  n0 : w.heap.size ≤ N0
theorem L1m.second {w wr : World} {N0 k p : Nat} {A : Option Addr} {n c : Nat} {B : Option Addr} {m d : Nat} {X : List Pm × List Tm} {T : Option Addr} {t f : Nat} {ds : List AcM} {M : List UInt8 → Pm} (h : L1m w N0 k p A n c B m d X T t f ds M wr) : L2m w N0 k t A n c B m d X T t ds M none 0 0 none 0 0 ([], []) wr := by
  have hl := h.dn.rd.2.1
  rw [List.length_map] at hl
  refine ⟨h.ba, h.xa, h.xb, h.bb, Rd.nil_, Rd.nil_, h.dn.rd.1, h.ok, h.st, by rw [Nat.sub_self]; exact zeroOkM, h.iv, ?_, h.bw, h.n0⟩
  have := @invB_start _ _ Prod.fst fitsP akM (ds.map AcM.pl)
  rw [List.length_map, hl] at this
  exact this
theorem L2m.below {w wr W : World} {N0 k j : Nat} {A : Option Addr} {n c : Nat} {B : Option Addr} {m d : Nat} {X : List Pm × List Tm} {T : Option Addr} {t : Nat} {ds : List AcM} {M : List UInt8 → Pm} {A' : Option Addr} {n' c' : Nat} {B' : Option Addr} {m' d' : Nat} {Y : List Pm × List Tm} (h : L2m w N0 k j A n c B m d X T t ds M A' n' c' B' m' d' Y wr) (hb : Below wr.heap.size wr W) : L2m w N0 k j A n c B m d X T t ds M A' n' c' B' m' d' Y W :=
  ⟨blk_below h.ba hb, (h.xa.below hb).more hb.size, (h.xb.below hb).more hb.size, blk_below h.bb hb, (h.ya.below hb).more hb.size, (h.yb.below hb).more hb.size, (h.dn.below hb).more hb.size, h.ok, h.sx, h.sy, h.iv, h.ib, h.bw.trans (hb.mono h.bw.size), h.n0⟩
theorem Rd.act_other {w : World} {B g n : Nat} {A : Option Addr} {xs : List AcM} {t : TypeId} {a b : Option Addr} {p q r s : Nat} (h : Rd w B 8 A n (xs.map AcM.enc)) (hg : w.heap[g]? = some (.cells #[.slice a p q, .slice b r s] t (0, 0))) (i : Nat) (u : Value) : Rd (w.setCell ⟨g, i, none⟩ u) B 8 A n (xs.map AcM.enc) :=
  ⟨h.1, fun hn => by
    obtain ⟨b', o, e, hb, hc⟩ := h.2 hn
    refine ⟨b', o, e, hb, fun k x hx j v hv => ?_⟩
    have hne : b' ≠ g := by
      rintro rfl
      have hl := h.1
      obtain ⟨x0, hx0⟩ : ∃ x0, (xs.map AcM.enc)[0]? = some x0 := ⟨_, List.getElem?_eq_getElem (by omega)⟩
      rw [List.getElem?_map] at hx0
      obtain ⟨y, hy, rfl⟩ := Option.map_eq_some_iff.1 hx0
      have h0 := hc 0 (AcM.enc y) (by rw [List.getElem?_map, hy]; rfl) 0 _ rfl
      rw [blk_cell hg] at h0
      rcases Nat.lt_or_ge (o + 0 * 8 + 0) 2 with h2 | h2
      · have h3 : o = 0 ∨ o = 1 := by omega
        rcases h3 with rfl | rfl <;> simp at h0
      · rw [Array.getElem?_eq_none (by simpa using h2)] at h0; cases h0
    have h9 := hc k x hx j v hv
    refine (World.cell?_setCell_other _ ⟨g, i, none⟩ _ u (fun e => hne (congrArg Addr.block e).symm)).trans ?_
    exact h9⟩
theorem L2m.store {w W W1 : World} {N0 k j : Nat} {A : Option Addr} {n c : Nat} {B : Option Addr} {m d : Nat} {X : List Pm × List Tm} {T : Option Addr} {t : Nat} {ds : List AcM} {M : List UInt8 → Pm} {A' : Option Addr} {n' c' : Nat} {B' : Option Addr} {m' d' : Nat} {Y : List Pm × List Tm} {A5 : Option Addr} {n5 c5 : Nat} {B5 : Option Addr} {m5 d5 : Nat} {Z : List Pm × List Tm}
    (h : L2m w N0 k (j + 1) A n c B m d X T t ds M A' n' c' B' m' d' Y W) (ha : RdP W W.heap.size A5 n5 Z.1) (hb : RdT W W.heap.size B5 m5 Z.2) (hW1 : W1 = (W.setCell ⟨N0 + 1, 0, none⟩ (.slice A5 n5 c5)).setCell ⟨N0 + 1, 1, none⟩ (.slice B5 m5 d5))
    (hz : OkM Z (t - j) (20 * (t - j))) (hib : InvB Prod.fst fitsP akM (ds.map AcM.pl) j Z) : L2m w N0 k j A n c B m d X T t ds M A5 n5 c5 B5 m5 d5 Z W1 := by
  have hn0 := h.n0
  have hb1 := blk_set (blk_set h.bb 0 (.slice A5 n5 c5)) 1 (.slice B5 m5 d5)
  have hz1 : W1.heap.size = W.heap.size := by rw [hW1, World.size_setCell, World.size_setCell]
  refine ⟨?_, ?_, ?_, by rw [hW1]; simpa using hb1, ?_, ?_, ?_, h.ok, h.sx, hz, h.iv, hib, ?_, hn0⟩
  · rw [hW1]; exact heap_set_ne (p := ⟨N0 + 1, 1, none⟩) (by dsimp only; omega) (heap_set_ne (p := ⟨N0 + 1, 0, none⟩) (by dsimp only; omega) h.ba)
  · rw [hz1, hW1]; exact (h.xa.set_other h.bb 0 _).set_other (blk_set h.bb 0 _) 1 _
  · rw [hz1, hW1]; exact (h.xb.set_other h.bb 0 _).set_other (blk_set h.bb 0 _) 1 _
  · rw [hz1, hW1]; exact (ha.set_other h.bb 0 _).set_other (blk_set h.bb 0 _) 1 _
  · rw [hz1, hW1]; exact (hb.set_other h.bb 0 _).set_other (blk_set h.bb 0 _) 1 _
  · rw [hz1, hW1]; exact (h.dn.act_other h.bb 0 _).act_other (blk_set h.bb 0 _) 1 _
  · rw [hW1]; exact (h.bw.setCell (by dsimp only; omega) _).setCell (by dsimp only; omega) _
set_option maxRecDepth 100000 in
set_option maxHeartbeats 16000000 in
theorem ormapanyhow_any (A : Option Addr) (n c : Nat) (us : List AcM) (w : World) (hA : Rd w w.heap.size 8 A n (us.map AcM.enc)) (hn : n ≤ maxLen) (hu : ∀ x ∈ us, x.Ok w w.heap.size) :
    Calls Try.prog 7 #[.slice A n c] w fun r w' => r = .returned (.bool true) ∧ Below w.heap.size w w' := by
  have cW := Lib.hid mworks_any
  have hmm := @run_makeMap Try.prog
  unfold maxLen at hn
  have huH := Lib.hid hu
  clear hu
  have hAr := Lib.hid (fun w' (h : Below w.heap.size w w') => hA.below h)
  have hAl : us.length = n := hA.len
  have hAlH := Lib.hid hAl
  clear hA hAl
  go_enter Try.func7, Try.ntmps7
  go_wp2_with fail
  refine (cW.out w).mono ?_
  rintro r w0 ⟨rfl, hv0⟩
  have hst := Lib.hid (L1m_start hv0)
  clear cW
  go_wp2
  clear hmm
  go_loopg [6, 7] (n + 1) (fun g o i wr => ∃ k : Nat, k ≤ n ∧ k ≤ 40 ∧ g = n + 1 - k ∧ i = .int .i64 (k : Int) ∧ L1M w w0.heap.size k o wr)
  case atStart => exact ⟨0, Nat.zero_le _, Nat.zero_le _, rfl, rfl, hst.out⟩
  case round =>
    clear hst
    obtain ⟨k, hk, hk40, rfl, rfl, A1, n1, c1, B1, m1, d1, X, T, t, f, ds, M, rfl, hL⟩ := hrel
    have hLH := Lib.hid hL
    have hbr := hL.bw
    have hz3 := hL.sz
    have hzw := hbr.size
    have hz0 := hL.n0
    clear hL hv0
    by_cases hlt : k < n ∧ k < 40
    case neg =>
      go_upto_region 7 with (fail)
      go_cut [25] (fun s wx => s = .bool false ∧ wx = wr)
      case first =>
        by_cases h1 : k < n
        · obtain rfl : k = 40 := by omega
          have hd : ((40 : Nat) : Int) < (n : Int) := by omega
          have hd2 : (40 : Int) < (n : Int) := by omega
          go_wp2_with fail
          go_meet
          exact ⟨rfl, rfl⟩
        · have hd : ¬ (k : Int) < (n : Int) := by omega
          have hd2 : decide (k < n) = false := decide_eq_false h1
          go_wp2_with fail
          go_meet
          exact ⟨rfl, rfl⟩
      obtain ⟨rfl, hwc⟩ := hcut
      obtain rfl := hwc
      obtain ⟨wb, hwb⟩ : ∃ wb, wb = wc := ⟨_, rfl⟩
      obtain rfl := hwb
      have htk : t ≤ 40 := by
        have h1 := hLH.out.dn.rd.2.1
        have h2 := hLH.out.iv.lk
        rw [List.length_map] at h1 h2
        omega
      have hdl : Hid (ds.length = t) := Lib.hid (by have h1 := hLH.out.dn.rd.2.1; rw [List.length_map] at h1; exact h1)
      have hL2 := Lib.hid hLH.out.second
      clear hlt hLH hz3 hzw hbr
      go_wp2
      go_loopg [12] (t + 1) (fun g i wr => ∃ j : Nat, j ≤ t ∧ g = j + 1 ∧ i = .int .i64 ((j : Int) - 1) ∧ ∃ (A' : Option Addr) (n' c' : Nat) (B' : Option Addr) (m' d' : Nat) (Y : List Pm × List Tm), L2m w w0.heap.size k j A1 n1 c1 B1 m1 d1 X T t ds M A' n' c' B' m' d' Y wr)
      case atStart => exact ⟨t, Nat.le_refl _, rfl, rfl, none, 0, 0, none, 0, 0, ([], []), hL2.out⟩
      case round =>
        clear hL2
        obtain ⟨j, hj, rfl, rfl, A', n', c', B', m', d', Y, hL⟩ := hrel
        have hLH := Lib.hid hL
        have hbr := hL.bw
        have hzw := hbr.size
        clear hL
        by_cases hj0 : j = 0
        · subst hj0
          have hneg : ((0 : Nat) : Int) - 1 = -1 := rfl
          rw [hneg]
          obtain ⟨hXY, herr⟩ := inv_end hLH.out.iv hLH.out.ib
          subst hXY
          have herr' : mErr X.1 X.2 = 0 := herr
          have herrH := Lib.hid herr'
          clear herr herr'
          have cF := Lib.hid (fun A' n' c' B' m' d' w' h1 h2 => hLH.out.sx.fromC (by omega) (by omega) A' n' c' B' m' d' w' h1 h2)
          have hXl := Lib.hid (And.intro hLH.out.sx.lx hLH.out.sx.lg)
          have hba := hLH.out.ba
          have hbb := hLH.out.bb
          have hla := blk_lt hba
          have hlb := blk_lt hbb
          have s0 := blk_cell hba 0
          have s1 := blk_cell hba 1
          have y0 := blk_cell hbb 0
          have y1 := blk_cell hbb 1
          simp at s0 s1 y0 y1
          clear hba hbb
          go_upto_region 29 with (fail)
          refine wp_region_M (fun w' => KQ wr.heap.size wr w') (fun _ => True) 99 (by kernel_rfl) (kq (Below.refl _ _).drew) trivial ?_
          intro hcl
          have hC : KQ wr.heap.size wr wr.drew := kq (Below.refl _ _).drew
          have hE := trivial
          have hK0 : Below wr.heap.size wr wr.drew := (Below.refl _ _).drew
          (refine wpM_take (i := 0) (v := ?_) rfl (by kernel_rfl) (by kernel_rfl) (by kernel_rfl) (by decide) (fun _ _ _ h => h) hcl hC (fun _ => hE) (Or.inl ⟨by rfl, ?_⟩) ?_; rotate_left; (· (intro w hSw; (try dsimp only at hSw); go_simp; (try with_reducible rfl))); clear hcl; intro hcl; (try simp only [Act.put, List.getElem_toArray, List.getElem_cons_zero, List.getElem_cons_succ, List.setIfInBounds_toArray, List.set_cons_zero, List.set_cons_succ]))
          (refine wpM_take (i := 2) (v := ?_) rfl (by kernel_rfl) (by kernel_rfl) (by kernel_rfl) (by decide) (fun _ _ _ h => h) hcl hC (fun _ => hE) (Or.inl ⟨by rfl, ?_⟩) ?_; rotate_left; (· (intro w hSw; (try dsimp only at hSw); go_simp; (try with_reducible rfl))); clear hcl; intro hcl; (try simp only [Act.put, List.getElem_toArray, List.getElem_cons_zero, List.getElem_cons_succ, List.setIfInBounds_toArray, List.set_cons_zero, List.set_cons_succ]))
          refine wpM_only (i := 1) rfl (by kernel_rfl) hcl (fun K hK => ?_)
          go_simp
          refine (cF.out A1 n1 c1 B1 m1 d1 wr.drew ((hLH.out.xa.below hK0).more hK0.size) ((hLH.out.xb.below hK0).more hK0.size)).mono ?_
          rintro r v1 ⟨A7, c7, B7, d7, rfl, hF1, hF2, hv1⟩
          have hK1 : Below wr.heap.size wr v1 := hK0.trans (hv1.mono hK0.size)
          have hC1 : KQ wr.heap.size wr v1 := kq hK1
          refine hK.out _ _ hC1 trivial ?_
          clear hK K
          clear hcl
          intro hcl
          (try simp only [Act.put, List.getElem_toArray, List.getElem_cons_zero, List.getElem_cons_succ, List.setIfInBounds_toArray, List.set_cons_zero, List.set_cons_succ])
          clear hC
          have hC := hC1
          refine wpM_only (i := 3) rfl (by kernel_rfl) hcl (fun K hK => ?_)
          go_simp
          refine (cF.out A' n' c' B' m' d' v1 ((hLH.out.ya.below hK1).more hK1.size) ((hLH.out.yb.below hK1).more hK1.size)).mono ?_
          rintro r v2 ⟨A8, c8, B8, d8, rfl, hF3, hF4, hv2⟩
          have hK2 : Below wr.heap.size wr v2 := hK1.trans (hv2.mono hK1.size)
          have hC2 : KQ wr.heap.size wr v2 := kq hK2
          refine hK.out _ _ hC2 trivial ?_
          clear hK K
          clear hcl
          intro hcl
          (try simp only [Act.put, List.getElem_toArray, List.getElem_cons_zero, List.getElem_cons_succ, List.setIfInBounds_toArray, List.set_cons_zero, List.set_cons_succ])
          clear hC
          have hC := hC2
          refine wpM_only (i := 4) rfl (by kernel_rfl) hcl (fun K hK => ?_)
          go_simp
          refine (msame_any A7 n1 c7 X.1 B7 m1 d7 X.2 A8 n' c8 X.1 B8 m' d8 X.2 v2 ((hF1.below hv2).more hv2.size) ((hF2.below hv2).more hv2.size) hF3 hF4 (by have := hF1.len; have := hXl.out.1; simp [maxLen]; omega) (by have := hF2.len; have := hXl.out.2; simp [maxLen]; omega) (by have := hF3.len; have := hXl.out.1; simp [maxLen]; omega) (by have := hF4.len; have := hXl.out.2; simp [maxLen]; omega)).mono ?_
          rintro r v3 ⟨rfl, hv3⟩
          rw [show (decide (X.1 = X.1) && decide (X.2 = X.2)) = true from by simp]
          have hK3 : Below wr.heap.size wr v3 := hK2.trans (hv3.mono hK2.size)
          have hC3 : KQ wr.heap.size wr v3 := kq hK3
          refine hK.out _ _ hC3 trivial ?_
          clear hK K
          clear hcl
          intro hcl
          (try simp only [Act.put, List.getElem_toArray, List.getElem_cons_zero, List.getElem_cons_succ, List.setIfInBounds_toArray, List.set_cons_zero, List.set_cons_succ])
          clear hC
          have hC := hC3
          clear hF1 hF2 hF3 hF4
          (refine wpM_take (i := 5) (v := ?_) rfl (by kernel_rfl) (by kernel_rfl) (by kernel_rfl) (by decide) (fun _ _ _ h => h) hcl hC (fun _ => hE) (Or.inl ⟨by rfl, ?_⟩) ?_; rotate_left; (· (intro w hSw; (try dsimp only at hSw); go_simp; (try with_reducible rfl))); clear hcl; intro hcl; (try simp only [Act.put, List.getElem_toArray, List.getElem_cons_zero, List.getElem_cons_succ, List.setIfInBounds_toArray, List.set_cons_zero, List.set_cons_succ]))
          (refine wpM_take (i := 6) (v := ?_) rfl (by kernel_rfl) (by kernel_rfl) (by kernel_rfl) (by decide) (fun _ _ _ h => h) hcl hC (fun _ => hE) (Or.inl ⟨by rfl, ?_⟩) ?_; rotate_left; (· (intro w hSw; (try dsimp only at hSw); go_simp; (try with_reducible rfl))); clear hcl; intro hcl; (try simp only [Act.put, List.getElem_toArray, List.getElem_cons_zero, List.getElem_cons_succ, List.setIfInBounds_toArray, List.set_cons_zero, List.set_cons_succ]))
          refine wpM_only (i := 7) rfl (by kernel_rfl) hcl (fun K hK => ?_)
          go_simp
          refine (mcheck_any A1 n1 c1 X.1 B1 m1 d1 X.2 v3 ((hLH.out.xa.below hK3).more hK3.size) ((hLH.out.xb.below hK3).more hK3.size) (by have := hLH.out.xa.len; have := hXl.out.1; simp [maxLen]; omega) (by have := hLH.out.xb.len; have := hXl.out.2; simp [maxLen]; omega) hLH.out.sx.wx hLH.out.sx.wg hLH.out.sx.wl).mono ?_
          rintro r v4 ⟨rfl, hv4⟩
          rw [herrH.out]
          have hK4 : Below wr.heap.size wr v4 := hK3.trans (hv4.mono hK3.size)
          have hC4 : KQ wr.heap.size wr v4 := kq hK4
          refine hK.out _ _ hC4 trivial ?_
          clear hK K
          clear hcl
          intro hcl
          (try simp only [Act.put, List.getElem_toArray, List.getElem_cons_zero, List.getElem_cons_succ, List.setIfInBounds_toArray, List.set_cons_zero, List.set_cons_succ])
          clear hC
          have hC := hC4
          (refine wpM_take (i := 8) (v := ?_) rfl (by kernel_rfl) (by kernel_rfl) (by kernel_rfl) (by decide) (fun _ _ _ h => h) hcl hC (fun _ => hE) (Or.inl ⟨by rfl, ?_⟩) ?_; rotate_left; (· (intro w hSw; (try dsimp only at hSw); go_simp; (try with_reducible rfl))); clear hcl; intro hcl; (try simp only [Act.put, List.getElem_toArray, List.getElem_cons_zero, List.getElem_cons_succ, List.setIfInBounds_toArray, List.set_cons_zero, List.set_cons_succ]))
          (refine wpM_take (i := 9) (v := ?_) rfl (by kernel_rfl) (by kernel_rfl) (by kernel_rfl) (by decide) (fun _ _ _ h => h) hcl hC (fun _ => hE) (Or.inl ⟨by rfl, ?_⟩) ?_; rotate_left; (· (intro w hSw; (try dsimp only at hSw); go_simp; (try with_reducible rfl))); clear hcl; intro hcl; (try simp only [Act.put, List.getElem_toArray, List.getElem_cons_zero, List.getElem_cons_succ, List.setIfInBounds_toArray, List.set_cons_zero, List.set_cons_succ]))
          (refine wpM_take (i := 10) (v := ?_) rfl (by kernel_rfl) (by kernel_rfl) (by kernel_rfl) (by decide) (fun _ _ _ h => h) hcl hC (fun _ => hE) (Or.inl ⟨by rfl, ?_⟩) ?_; rotate_left; (· (intro w hSw; (try dsimp only at hSw); go_simp; (try with_reducible rfl))); clear hcl; intro hcl; (try simp only [Act.put, List.getElem_toArray, List.getElem_cons_zero, List.getElem_cons_succ, List.setIfInBounds_toArray, List.set_cons_zero, List.set_cons_succ]))
          refine wpM_done (by kernel_rfl) ?_
          clear hcl hE hC
          try simp only [Act.put, List.getElem_toArray, List.getElem_cons_zero, List.getElem_cons_succ, List.setIfInBounds_toArray, List.set_cons_zero, List.set_cons_succ]
          have hG4 := hbr.trans (hK4.mono hzw)
          go_wp2
          go_ret
          exact ⟨rfl, hG4⟩
        · obtain ⟨q, rfl⟩ : ∃ q, j = q + 1 := ⟨j - 1, by omega⟩
          have hq : ((q + 1 : Nat) : Int) - 1 = (q : Int) := by omega
          rw [hq]
          obtain ⟨bT, oT, u, rfl, hbT, hp, hcp⟩ := hLH.out.dn.at_ (show q < t by omega)
          have p0 := hcp 0 _ rfl
          have p1 := hcp 1 _ rfl
          have p2 := hcp 2 _ rfl
          have p3 := hcp 3 _ rfl
          have p4 := hcp 4 _ rfl
          have p5 := hcp 5 _ rfl
          have p6 := hcp 6 _ rfl
          have p7 := hcp 7 _ rfl
          rw [Nat.add_zero] at p0
          have hum := hLH.out.ok u (List.mem_of_getElem? hp)
          obtain ⟨hum1, huk20⟩ := hum
          have humH := Lib.hid hum1
          have hul20 : u.l.length ≤ 20 := by rw [hum1.rd.len]; exact huk20
          have hulw : ∀ t ∈ u.l, t.wf := fun t ht => (hum1.fit t ht).1
          have hpl : (ds.map AcM.pl)[q]? = some u.pl := by rw [List.getElem?_map, hp]; rfl
          obtain ⟨hs1, hs2⟩ := InvB.step hLH.out.iv (fun a b _ h => h) hk40 hLH.out.ib hpl
          have hds := doesM_ds Y u.pl
          have hokZ := (hLH.out.sy.does hulw hul20 hum1.aw hum1.el).more (p' := t - q) (q' := 20 * (t - q)) (by omega) (by omega)
          have hcd : ∀ w', KQ wr.heap.size wr w' → Calls Try.prog 54 #[.agg #[.slice A' n' c', .slice B' m' d'], .agg #[.int .i64 u.a.1.1.1, .int .u32 u.a.1.1.2, .int .i64 u.a.1.2, .string (bs u.a.2.1), .int .i64 u.a.2.2.1, .int .u32 u.a.2.2.2.1, .int .i64 u.a.2.2.2.2, .slice u.C u.k u.f]] w' (PostDoesMT w' (doesM Y u.a u.l)) := fun w' hh => mdoesT_any A' n' c' Y.1 B' m' d' Y.2 u.a u.C u.k u.f u.l (t - (q + 1)) (20 * (t - (q + 1))) w' ((hLH.out.ya.below hh.1).more hh.1.size) ((hLH.out.yb.below hh.1).more hh.1.size) ((RdT.below humH.out.rd (hbr.trans (hh.1.mono hzw))).more (hbr.trans (hh.1.mono hzw)).size) hLH.out.sy (by omega) (by omega) (by omega) hulw humH.out.aw humH.out.el
          rw [← hds] at hs1 hs2
          have hs1' : (doesM Y u.a u.l).2 = true := hs1
          have hs2' : InvB Prod.fst fitsP akM (ds.map AcM.pl) q (doesM Y u.a u.l).1 := hs2
          obtain ⟨Z, hZ⟩ : ∃ Z, Z = (doesM Y u.a u.l).1 := ⟨_, rfl⟩
          have hZ2 : doesM Y u.a u.l = (Z, true) := Prod.ext hZ.symm hs1'
          rw [hZ2] at hcd
          rw [← hZ] at hs2' hokZ
          have cD := Lib.hid hcd
          have hIB := Lib.hid hs2'
          have hOK := Lib.hid hokZ
          clear hcd hs1 hs2 hs1' hs2' hokZ hds hZ hZ2 hpl hulw hul20 hum1 hp hcp
          have hbb := hLH.out.bb
          have hlb := blk_lt hbb
          have y0 := blk_cell hbb 0
          have y1 := blk_cell hbb 1
          simp at y0 y1
          clear hbb
          have hbT2 : bT < wr.heap.size := by omega
          have hqt : (q : Int) < (t : Int) := by omega
          go_upto_region 25 with (fail)
          go_cut [13, 14] (fun sa sb wx => ∃ g A5 n5 c5 B5 m5 d5, sa = .pointer (some ⟨g, 0, none⟩) ∧ sb = .bool true ∧ wr.heap.size ≤ g ∧ wx.heap[g]? = some (.cells #[.slice A5 n5 c5, .slice B5 m5 d5] 56 (0, 0)) ∧ RdP wx wx.heap.size A5 n5 Z.1 ∧ RdT wx wx.heap.size B5 m5 Z.2 ∧ Below wr.heap.size wr wx)
          case first =>
            as_aux_lemma =>
            have hq0 : KQ wr.heap.size wr wr := kq (Below.refl _ _)
            go_region_held3 (fun w' => KQ wr.heap.size wr w') (first
      | with_reducible exact kq_call (by assumption) (by simp) (by assumption)
      | with_reducible exact kq_grown (by assumption) (by simp) (by assumption) (by simp [Value.ownBlock])
      | ((repeat (first | (with_reducible refine kq_set ?_ (by first | (simp; done) | (simp; omega) | omega) _) | (with_reducible refine kq_alloc ?_ (by first | exact Nat.le_refl _ | (simp; done) | (simp; omega)) _))); (with_reducible assumption))
      | ((with_reducible refine kq ?_); (repeat (first | (with_reducible exact Below.refl _ _) | (with_reducible refine Below.drew ?_) | (with_reducible refine Below.alloc ?_ (by simp) _) | (with_reducible refine Below.setCell ?_ (by simp) _) | (with_reducible exact (by assumption : KQ _ _ _).1))); done))
              (first
                | (go_at_call 54
                   (refine (cD.out _ (by (first
      | with_reducible exact kq_call (by assumption) (by simp) (by assumption)
      | with_reducible exact kq_grown (by assumption) (by simp) (by assumption) (by simp [Value.ownBlock])
      | ((repeat (first | (with_reducible refine kq_set ?_ (by first | (simp; done) | (simp; omega) | omega) _) | (with_reducible refine kq_alloc ?_ (by first | exact Nat.le_refl _ | (simp; done) | (simp; omega)) _))); (with_reducible assumption))
      | ((with_reducible refine kq ?_); (repeat (first | (with_reducible exact Below.refl _ _) | (with_reducible refine Below.drew ?_) | (with_reducible refine Below.alloc ?_ (by simp) _) | (with_reducible refine Below.setCell ?_ (by simp) _) | (with_reducible exact (by assumption : KQ _ _ _).1))); done)))).mono ?_)
                   rintro e v5 ⟨A5, n5, c5, B5, m5, d5, rfl, hY1, hY2, hb5, _⟩
                   have hz5 := hb5.size
                   (try simp at hz5)
                   dsimp only
                   have hq5 : KQ wr.heap.size wr v5 := kq_call (by (first
      | with_reducible exact kq_call (by assumption) (by simp) (by assumption)
      | with_reducible exact kq_grown (by assumption) (by simp) (by assumption) (by simp [Value.ownBlock])
      | ((repeat (first | (with_reducible refine kq_set ?_ (by first | (simp; done) | (simp; omega) | omega) _) | (with_reducible refine kq_alloc ?_ (by first | exact Nat.le_refl _ | (simp; done) | (simp; omega)) _))); (with_reducible assumption))
      | ((with_reducible refine kq ?_); (repeat (first | (with_reducible exact Below.refl _ _) | (with_reducible refine Below.drew ?_) | (with_reducible refine Below.alloc ?_ (by simp) _) | (with_reducible refine Below.setCell ?_ (by simp) _) | (with_reducible exact (by assumption : KQ _ _ _).1))); done))) (Nat.le_refl _) hb5
                   (first
                     | (have hx5 : v5.heap[wr.heap.size]? = some (.cells #[.slice none 0 0, .slice none 0 0] 56 (0, 0)) := (hb5.block _ (by simp; done)).trans (heap_drew (heap_at _ _ rfl))
                        have hfx := blk_frozen hx5
                        have x0 := blk_cell hx5 0
                        have x1 := blk_cell hx5 1
                        simp at x0 x1)
                     | (have hx5 : v5.heap[wr.heap.size]? = some (.cells #[.slice none 0 0, .slice none 0 0] 56 (0, 0)) := (hb5.block _ (by simp; done)).trans (heap_at _ _ rfl)
                        have hfx := blk_frozen hx5
                        have x0 := blk_cell hx5 0
                        have x1 := blk_cell hx5 1
                        simp at x0 x1)
                     | skip)
                  )
                | fail "no arm")
            all_goals
              (have hYH := Lib.hid (And.intro hY1 hY2)
               have hk5H := Lib.hid hq5.1
               have hzk := hq5.1.size
               go_wp2_with fail
               go_meet
               first
                 | (have hb3 : Below v5.heap.size v5 (v5.alloc (.cells #[.slice A5 n5 c5, .slice B5 m5 d5] 56)) := (Below.refl _ v5).alloc (Nat.le_refl _) _
                    exact ⟨v5.heap.size, A5, n5, c5, B5, m5, d5, rfl, rfl, hzk, heap_at _ _ rfl, (hYH.out.1.below hb3).more hb3.size, (hYH.out.2.below hb3).more hb3.size, hk5H.out.trans (hb3.mono hzk)⟩)
                 | (have ha3 := (hYH.out.1.set_other hx5 0 (.slice A5 n5 c5)).set_other (blk_set hx5 0 (.slice A5 n5 c5)) 1 (.slice B5 m5 d5)
                    have hb3 := (hYH.out.2.set_other hx5 0 (.slice A5 n5 c5)).set_other (blk_set hx5 0 (.slice A5 n5 c5)) 1 (.slice B5 m5 d5)
                    have hx3 := blk_set (blk_set hx5 0 (.slice A5 n5 c5)) 1 (.slice B5 m5 d5)
                    exact ⟨_, A5, n5, c5, B5, m5, d5, rfl, rfl, Nat.le_refl _, hx3, by rw [World.size_setCell, World.size_setCell]; exact ha3, by rw [World.size_setCell, World.size_setCell]; exact hb3, (hk5H.out.setCell (by dsimp only; omega) _).setCell (by dsimp only; omega) _⟩))
          obtain ⟨gb, A5, n5, c5, B5, m5, d5, rfl, rfl, hgb, hbG, hG1, hG2, hv5⟩ := hcut
          obtain ⟨w5, hw5⟩ : ∃ w5, w5 = wc := ⟨_, rfl⟩
          obtain rfl := hw5
          have hL5 := Lib.hid (hLH.out.below hv5)
          have hz5 := hv5.size
          have hg1 := Lib.hid hG1
          have hg2 := Lib.hid hG2
          clear y0 y1 p0 p1 p2 p3 p4 p5 p6 p7 hG1 hG2 hlb
          have hlg := blk_lt hbG
          have s0 := blk_cell hbG 0
          have s1 := blk_cell hbG 1
          have hbb := hL5.out.bb
          have hlb := blk_lt hbb
          have hfb := blk_frozen hbb
          have y0 := blk_cell hbb 0
          have y1 := blk_cell hbb 1
          simp at s0 s1 y0 y1
          clear hbG hbb
          have hfin := Lib.hid (L2m.store (j := q) hL5.out hg1.out hg2.out rfl hOK.out hIB.out (c5 := c5) (d5 := d5))
          go_wp2
          go_roundg (q + 1)
          case measure => omega
          case rel => exact ⟨q, by omega, rfl, by go_num, A5, n5, c5, B5, m5, d5, Z, hfin.out⟩
    obtain ⟨h1, h2⟩ := hlt
    have hd : (k : Int) < (n : Int) := by omega
    have hd2 : (k : Int) < 40 := by omega
    obtain ⟨bA, oA, u, rfl, hbA, hp, hcp⟩ := (hAr.out wr hbr).at_ h1
    have p0 := hcp 0 _ rfl
    have p1 := hcp 1 _ rfl
    have p2 := hcp 2 _ rfl
    have p3 := hcp 3 _ rfl
    have p4 := hcp 4 _ rfl
    have p5 := hcp 5 _ rfl
    have p6 := hcp 6 _ rfl
    have p7 := hcp 7 _ rfl
    rw [Nat.add_zero] at p0
    have hum := huH.out u (List.mem_of_getElem? hp)
    have huk : u.l.length = u.k := hum.rd.len
    have humH := Lib.hid hum
    have hukH := Lib.hid huk
    clear hcp hp hum huk
    have hbA2 : bA < wr.heap.size := by omega
    go_upto_region 10 with (fail)
    have hx12 : (wr.alloc (.cells #[.int .i64 u.a.1.1.1, .int .u32 u.a.1.1.2, .int .i64 u.a.1.2, .string (bs u.a.2.1), .int .i64 u.a.2.2.1, .int .u32 u.a.2.2.2.1, .int .i64 u.a.2.2.2.2, .slice u.C u.k u.f] 108)).heap[wr.heap.size]? = some (.cells #[.int .i64 u.a.1.1.1, .int .u32 u.a.1.1.2, .int .i64 u.a.1.2, .string (bs u.a.2.1), .int .i64 u.a.2.2.1, .int .u32 u.a.2.2.2.1, .int .i64 u.a.2.2.2.2, .slice u.C u.k u.f] 108 (0, 0)) := heap_at _ _ rfl
    have hb12 : Below wr.heap.size wr (wr.alloc (.cells #[.int .i64 u.a.1.1.1, .int .u32 u.a.1.1.2, .int .i64 u.a.1.2, .string (bs u.a.2.1), .int .i64 u.a.2.2.1, .int .u32 u.a.2.2.2.1, .int .i64 u.a.2.2.2.2, .slice u.C u.k u.f] 108)) := (Below.refl _ _).alloc (Nat.le_refl _) _
    generalize hW2 : wr.alloc (.cells #[.int .i64 u.a.1.1.1, .int .u32 u.a.1.1.2, .int .i64 u.a.1.2, .string (bs u.a.2.1), .int .i64 u.a.2.2.1, .int .u32 u.a.2.2.2.1, .int .i64 u.a.2.2.2.2, .slice u.C u.k u.f] 108) = W2 at hx12 hb12
    try rw [hW2]
    have hz12 := hb12.size
    have hlx2 := blk_lt hx12
    have hfx2 := blk_frozen hx12
    have x0 := blk_cell hx12 0
    have x1 := blk_cell hx12 1
    have x2 := blk_cell hx12 2
    have x3 := blk_cell hx12 3
    have x4 := blk_cell hx12 4
    have x5 := blk_cell hx12 5
    have x6 := blk_cell hx12 6
    have x7 := blk_cell hx12 7
    simp at x0 x1 x2 x3 x4 x5 x6 x7
    have hx12H := Lib.hid hx12
    have hG2 : Below w.heap.size w W2 := hbr.trans (hb12.mono hzw)
    have zu := bs_size u.a.2.1
    have hue := humH.out.el
    unfold maxLen at hue
    clear hx12 p0 p1 p2 p3 p4 p5 p6 p7 hW2
    by_cases hbig : 20 < u.k ∨ 100 < u.a.2.1.length
    · by_cases hb1 : 20 < u.k
      · have e1 : decide ((20 : Int) < (u.k : Int)) = true := decide_eq_true (by omega)
        clear hbig hb1 zu
        go_wp2
        go_ret
        exact ⟨rfl, hG2⟩
      · have e1 : decide ((20 : Int) < (u.k : Int)) = false := decide_eq_false (by omega)
        have e2 : decide ((100 : Int) < (((bs u.a.2.1).size : Nat) : Int)) = true := decide_eq_true (by omega)
        clear hbig hb1 zu
        go_wp2
        go_ret
        exact ⟨rfl, hG2⟩
    have hk20 : u.k ≤ 20 := by omega
    have he100 : u.a.2.1.length ≤ 100 := by omega
    have e1 : decide ((20 : Int) < (u.k : Int)) = false := decide_eq_false (by omega)
    have e2 : decide ((100 : Int) < (((bs u.a.2.1).size : Nat) : Int)) = false := decide_eq_false (by omega)
    clear hbig zu
    go_upto_region 12 with (fail)
    clear e1 e2
    go_cut [46] (fun s wx => ∃ b : Bool, s = .bool b ∧ (b = true ↔ u.a.2.1 ≠ []) ∧ wx = W2)
    case first =>
      by_cases he : u.a.2.1 = []
      · have hq : (bs u.a.2.1).toList.isEmpty = true := by rw [bs_empty, he]; rfl
        have hT : Hid (false = true ↔ u.a.2.1 ≠ []) := Lib.hid ⟨(fun h => by cases h), fun h => absurd he h⟩
        clear he
        go_wp2_with fail
        go_meet
        exact ⟨false, rfl, hT.out, rfl⟩
      · have hq : (bs u.a.2.1).toList.isEmpty = false := by rw [bs_empty, List.isEmpty_eq_false_iff]; exact he
        have hT : Hid (true = true ↔ u.a.2.1 ≠ []) := Lib.hid ⟨fun _ => he, fun _ => rfl⟩
        clear he
        go_wp2_with fail
        go_meet
        exact ⟨true, rfl, (by first | exact hT.out | simpa using hT.out), rfl⟩
    obtain ⟨b, rfl, hbb, hwc⟩ := hcut
    obtain rfl := hwc
    obtain ⟨W2, hW2⟩ : ∃ W2, W2 = wc := ⟨_, rfl⟩
    obtain rfl := hW2
    have hbbH := Lib.hid hbb
    clear hbb
    have hMP2 := Lib.hid (hLH.out.mp.below hb12)
    -- the tag's put
    go_upto_if 46 with (fail)
    go_cut [] (fun wx => W2.grownBy wx (some (w0.heap.size + 1 + 1)) ∧ ∃ M', MapP wx (w0.heap.size + 1 + 1) (k + 1) M' ∧ InvA Prod.fst fitsP id (fun e => e.2.1 ≠ []) akM k M' (ds.map AcM.pl) X ∧ (u.a.2.1 ≠ [] → M' (kT u.a.1) = u.a))
    case first =>
      cases b with
      | false =>
        have hno : Hid (¬ (u.a.2.1 ≠ [])) := Lib.hid (fun h => by have := hbbH.out.2 h; cases this)
        go_wp2_with fail
        go_meet
        exact ⟨World.grownBy.refl _ _, M, hMP2.out.mono (Nat.le_succ _), hLH.out.iv, fun h1 => absurd h1 hno.out⟩
      | true =>
        have hne := hbbH.out.1 rfl
        have hfit := humH.out.tf
        have hlook := fun m : Nat => (hMP2.out.below (below_dn (Below.refl _ W2) m)).look hfit
        have hneH := Lib.hid hne
        have hfitH := Lib.hid hfit
        have hMv : Hid (∀ v, M (kT u.a.1) = v → v.2.1 = [] ∨ v = u.a → InvA Prod.fst fitsP id (fun e => e.2.1 ≠ []) akM k (fun q => if q = kT u.a.1 then u.a else M q) (ds.map AcM.pl) X) := Lib.hid (fun v hv h => hLH.out.iv.upd (by
          rw [hv]
          intro h0
          exact h.resolve_left h0))
        generalize hv : M (kT u.a.1) = v at hlook
        have hfld := fun m : Nat => fieldPut v (W2.drewN m)
        clear hne hfit
        by_cases hbad : v.2.1 ≠ [] ∧ v ≠ u.a
        · obtain ⟨hv1, hv2⟩ := hbad
          have e1 : (bs v.2.1).toList.isEmpty = false := by rw [bs_empty, List.isEmpty_eq_false_iff]; exact hv1
          clear hv hv1
          go_upto_region 13 with (fail)
          refine wp_region_quiet_lit (by kernel_rfl) (by kernel_rfl) ?_
          iterate 15 (quiet_step (fail))
          refine wpQuiet_step (fun K hK => ?_)
          go_simp
          refine ⟨.bool true, fun a => ?_, hK _ ?_⟩
          · rw [neqPm hv2]
            exact ⟨rfl, rfl⟩
          clear hK K hv2
          repeat (quiet_step (fail))
          refine wpQuiet_nil ?_
          intro _ hw9
          obtain ⟨nq, hw9⟩ := hw9
          subst hw9
          have hfin := Lib.hid ((hLH.out.below (below_dn hb12 nq)).skip (Nat.le_succ _))
          go_wp2
          go_roundg (n + 1 - (k + 1))
          case measure => omega
          case rel => exact ⟨k + 1, by omega, by omega, rfl, by go_num, hfin.out⟩
        · have hok : v.2.1 = [] ∨ v = u.a := by
            rcases Classical.em (v.2.1 = []) with h | h
            · exact .inl h
            · exact .inr (Classical.not_not.1 fun h2 => hbad ⟨h, h2⟩)
          have hI' := Lib.hid (hMv.out v hv hok)
          have hul : u.a.2.1.length ≤ maxLen := humH.out.el
          clear hbad
          go_upto_region 13 with (fail)
          go_cut [63] (fun s wx => s = .bool false ∧ ∃ nq, wx = W2.drewN nq)
          case first =>
            by_cases h0 : v.2.1 = []
            · have e1 : (bs v.2.1).toList.isEmpty = true := by rw [bs_empty, h0]; rfl
              clear hok h0 hv
              go_quiet (fail)
              go_wp2_with fail
              go_meet
              exact ⟨rfl, _, rfl⟩
            · have e1 : (bs v.2.1).toList.isEmpty = false := by rw [bs_empty, List.isEmpty_eq_false_iff]; exact h0
              have hva := hok.resolve_left h0
              rw [hva] at hlook e1 hfld
              clear hok h0 hv hva
              go_quiet (fail)
              go_wp2_with fail
              go_meet
              exact ⟨rfl, _, rfl⟩
          obtain ⟨rfl, nq, hwc⟩ := hcut
          obtain rfl := hwc
          have hMP3 := hMP2.out.below (below_dn (Below.refl _ W2) nq)
          clear hlook hMv hok hv hfld
          generalize hW3 : W2.drewN nq = W3 at hMP3
          have hb23 : Below W2.heap.size W2 W3 := by rw [← hW3]; exact below_dn (Below.refl _ _) nq
          try rw [hW3]
          clear hW3
          obtain ⟨w4, hrun, hM4, hg4⟩ := hMP3.upd (by unfold maxLen; omega) hfitH.out u.a
          have hx3 := blk_below hx12H.out hb23
          have hlx3 := blk_lt hx3
          clear x0 x1 x2 x3 x4 x5 x6 x7
          have x0 := blk_cell hx3 0
          have x1 := blk_cell hx3 1
          have x2 := blk_cell hx3 2
          have x3 := blk_cell hx3 3
          have x4 := blk_cell hx3 4
          have x5 := blk_cell hx3 5
          have x6 := blk_cell hx3 6
          have x7 := blk_cell hx3 7
          simp at x0 x1 x2 x3 x4 x5 x6 x7
          have hM4H := Lib.hid hM4
          have hgw : W2.grownBy w4 (some (w0.heap.size + 1 + 1)) := (gr_below hb23 _).trans hg4
          have hgwH := Lib.hid hgw
          clear hM4 hgw hMP3 hx3
          go_wp2_with fail
          go_meet
          refine ⟨hgwH.out, _, hM4H.out, hI'.out, fun _ => ?_⟩
          show (if kT u.a.1 = kT u.a.1 then u.a else M (kT u.a.1)) = u.a
          rw [if_pos rfl]
    obtain ⟨hg5, M', hM5, hI5, hMu⟩ := hcut
    obtain ⟨W5, hW5⟩ : ∃ W5, W5 = wc := ⟨_, rfl⟩
    obtain rfl := hW5
    have hL5 := Lib.hid ((hLH.out.below hb12).mapped hg5 hM5 hI5)
    have hMuH := Lib.hid hMu
    have hx5 : W5.heap[wr.heap.size]? = some (.cells #[.int .i64 u.a.1.1.1, .int .u32 u.a.1.1.2, .int .i64 u.a.1.2, .string (bs u.a.2.1), .int .i64 u.a.2.2.1, .int .u32 u.a.2.2.2.1, .int .i64 u.a.2.2.2.2, .slice u.C u.k u.f] 108 (0, 0)) := (hg5.block _ hlx2 (fun e => by injection e with e; omega)).trans hx12H.out
    have hx5H := Lib.hid hx5
    have hz5 := hg5.size
    clear hMu hM5 hI5 hg5 hLH hMP2 hbbH x0 x1 x2 x3 x4 x5 x6 x7 hlx2 hfx2
    have hlx5 := blk_lt hx5
    have x0 := blk_cell hx5 0
    have x1 := blk_cell hx5 1
    have x2 := blk_cell hx5 2
    have x3 := blk_cell hx5 3
    have x4 := blk_cell hx5 4
    have x5 := blk_cell hx5 5
    have x6 := blk_cell hx5 6
    have x7 := blk_cell hx5 7
    simp at x0 x1 x2 x3 x4 x5 x6 x7
    clear hx5
    have hba5 := hL5.out.ba
    have hla5 := blk_lt hba5
    have s0 := blk_cell hba5 0
    have s1 := blk_cell hba5 1
    simp at s0 s1
    clear hba5
    have hul20 : u.l.length ≤ 20 := by rw [hukH.out]; exact hk20
    have hulw : ∀ t ∈ u.l, t.wf := fun t ht => (humH.out.fit t ht).1
    have hbw5 := hL5.out.bw
    have hcd := Lib.hid (fun A' n' c' B' m' d' (Z : List Pm × List Tm) p q w' (h : Below w.heap.size w w') (h1 : RdP w' w'.heap.size A' n' Z.1) (h2 : RdT w' w'.heap.size B' m' Z.2) (hk : OkM Z p q) (hp : p ≤ 100000) (hq : q ≤ 100000) => mdoesT_any A' n' c' Z.1 B' m' d' Z.2 u.a u.C u.k u.f u.l p q w' h1 h2 ((RdT.below humH.out.rd h).more h.size) hk hp hq (by omega) hulw humH.out.aw humH.out.el)
    have hcd5 := Lib.hid (hcd.out A1 n1 c1 B1 m1 d1 X k (20 * k) W5 hbw5 hL5.out.xa hL5.out.xb hL5.out.st (by omega) (by omega))
    have hok6 := Lib.hid (hL5.out.st.does hulw hul20 humH.out.aw humH.out.el)
    have hds6 := Lib.hid (doesM_ds X u.pl)
    have hstep := Lib.hid (fun hr => hL5.out.iv.step (fun a b _ h => h) h2 (b := u.pl) (fun x hx => by
      unfold akM AcM.pl at hx
      dsimp only at hx
      split at hx
      · injection hx with hx; subst hx; exact hul20
      · injection hx with hx; subst hx; show 1 ≤ 20; omega) (fun a ha => by
      unfold akM AcM.pl at ha
      dsimp only at ha
      split at ha
      · injection ha with ha; cases ha
      · rename_i hne
        injection ha with ha
        injection ha with ha
        subst ha
        exact ⟨hMuH.out hne, hne⟩) hr)
    clear hulw
    go_wp2_with fail
    refine hcd5.out.mono ?_
    rintro r w6 ⟨A2, n2, c2, B2, m2, d2, rfl, r6a, r6b, hv6, _⟩
    have hz6 := hv6.size
    have hL6 := Lib.hid (hL5.out.below hv6)
    have hx6 := Lib.hid (blk_below hx5H.out hv6)
    have h6a := Lib.hid r6a
    have h6b := Lib.hid r6b
    clear r6a r6b hcd5 x0 x1 x2 x3 x4 x5 x6 x7 s0 s1 hlx5 hla5 hv6 hx5H hL5
    have e6 : doesM X u.a u.l = dsK Prod.fst fitsP akM X u.pl := hds6.out
    generalize hY : doesM X u.a u.l = Y at *
    cases hyb : Y.2 with
    | false =>
      have hb7 : Below w6.heap.size w6 (w6.alloc (.cells #[.slice A2 n2 c2, .slice B2 m2 d2] 56)) := (Below.refl _ _).alloc (Nat.le_refl _) _
      have hfin := Lib.hid ((hL6.out.below hb7).skip (Nat.le_refl _))
      clear hyb hY hb7
      go_wp2
      go_roundg (n + 1 - (k + 1))
      case measure => omega
      case rel => exact ⟨k + 1, by omega, by omega, rfl, by go_num, hfin.out⟩
    | true =>
      obtain ⟨hd2x, hI6⟩ := hstep.out (by rw [← e6]; exact hyb)
      rw [← e6] at hd2x hI6
      have hY2 : doesM Y.1 u.a u.l = (Y.1, true) := by rw [← hd2x]; exact doesM_ds Y.1 u.pl
      have hI6H := Lib.hid hI6
      clear hI6 hd2x hstep hyb hY e6 hds6
      obtain ⟨Z, hZ⟩ : ∃ Z, Z = Y.1 := ⟨_, rfl⟩
      rw [← hZ] at hY2 hI6H h6a h6b hok6
      clear hZ
      have hG6 := hL6.out.bw
      go_upto_region 16 with (fail)
      have hx7' : (w6.alloc (.cells #[.slice A2 n2 c2, .slice B2 m2 d2] 56)).heap[w6.heap.size]? = some (.cells #[.slice A2 n2 c2, .slice B2 m2 d2] 56 (0, 0)) := heap_at _ _ rfl
      have hb7 : Below w6.heap.size w6 (w6.alloc (.cells #[.slice A2 n2 c2, .slice B2 m2 d2] 56)) := (Below.refl _ _).alloc (Nat.le_refl _) _
      generalize hW7 : w6.alloc (.cells #[.slice A2 n2 c2, .slice B2 m2 d2] 56) = W7 at hx7' hb7
      try rw [hW7]
      clear hW7
      have hL7 := Lib.hid (hL6.out.below hb7)
      have hs7 := Lib.hid hx7'
      have hx7 := Lib.hid (blk_below hx6.out hb7)
      have h7a := Lib.hid ((h6a.out.below hb7).more hb7.size)
      have h7b := Lib.hid ((h6b.out.below hb7).more hb7.size)
      have hz7 := hb7.size
      have hlt67 := blk_lt hx7'
      have s0 := blk_cell hx7' 0
      have s1 := blk_cell hx7' 1
      simp at s0 s1
      have hlx7 := blk_lt hx7.out
      have x0 := blk_cell hx7.out 0
      have x1 := blk_cell hx7.out 1
      have x2 := blk_cell hx7.out 2
      have x3 := blk_cell hx7.out 3
      have x4 := blk_cell hx7.out 4
      have x5 := blk_cell hx7.out 5
      have x6 := blk_cell hx7.out 6
      have x7 := blk_cell hx7.out 7
      simp at x0 x1 x2 x3 x4 x5 x6 x7
      have hcd7 := Lib.hid (hcd.out A2 n2 c2 B2 m2 d2 Z (k + 1) (20 * k + 20) W7 hL7.out.bw h7a.out h7b.out hok6.out (by omega) (by omega))
      clear hx7' hL6 hx6 h6a h6b hb7 hcd
      go_wp2_with fail
      refine hcd7.out.mono ?_
      rw [hY2]
      rintro r w8 ⟨A3, n3, c3, B3, m3, d3, rfl, r8a, r8b, hv8, hty8⟩
      dsimp only at r8a r8b
      have hL8 := Lib.hid (hL7.out.below hv8)
      have hx8 := Lib.hid (blk_below hx7.out hv8)
      have hs8 := Lib.hid (blk_below hs7.out hv8)
      have h8a := Lib.hid r8a
      have h8b := Lib.hid r8b
      have h9a := Lib.hid ((h7a.out.below hv8).more hv8.size)
      have h9b := Lib.hid ((h7b.out.below hv8).more hv8.size)
      have hz8 := hv8.size
      clear r8a r8b hcd7 x0 x1 x2 x3 x4 x5 x6 x7 s0 s1 hlx7 hlt67 hv8 hx7 hs7 hL7 h7a h7b
      have ty8 := Lib.hid (hty8 rfl)
      clear hty8
      have cF := Lib.hid (fun A' n' c' B' m' d' w' h1 h2 => hok6.out.fromC (by omega) (by omega) A' n' c' B' m' d' w' h1 h2)
      have hZl := Lib.hid (And.intro hok6.out.lx hok6.out.lg)
      go_upto_region 18 with (fail)
      have ht9' : (w8.alloc (.cells #[.slice A3 n3 c3, .slice B3 m3 d3] 56)).heap[w8.heap.size]? = some (.cells #[.slice A3 n3 c3, .slice B3 m3 d3] 56 (0, 0)) := heap_at _ _ rfl
      have hb9 : Below w8.heap.size w8 (w8.alloc (.cells #[.slice A3 n3 c3, .slice B3 m3 d3] 56)) := (Below.refl _ _).alloc (Nat.le_refl _) _
      generalize hW9 : w8.alloc (.cells #[.slice A3 n3 c3, .slice B3 m3 d3] 56) = W9 at ht9' hb9
      try rw [hW9]
      clear hW9
      have hz9 := hb9.size
      have hlt9 := blk_lt ht9'
      have s0 := blk_cell ht9' 0
      have s1 := blk_cell ht9' 1
      simp at s0 s1
      have hs9 := blk_below hs8.out hb9
      have hls9 := blk_lt hs9
      have y0 := blk_cell hs9 0
      have y1 := blk_cell hs9 1
      simp at y0 y1
      have hL9 := Lib.hid (hL8.out.below hb9)
      have hx9 := Lib.hid (blk_below hx8.out hb9)
      have ht9 := Lib.hid ht9'
      have k8a := Lib.hid ((h8a.out.below hb9).more hb9.size)
      have k8b := Lib.hid ((h8b.out.below hb9).more hb9.size)
      have k9a := Lib.hid ((h9a.out.below hb9).more hb9.size)
      have k9b := Lib.hid ((h9b.out.below hb9).more hb9.size)
      have ty9 := Lib.hid (And.intro (ty8.out.1.below hb9) (ty8.out.2.below hb9))
      clear ht9' hs9 hL8 hx8 hs8 h8a h8b h9a h9b ty8 hb9
      refine wp_region_M (fun w' => KQ W9.heap.size W9 w') (fun _ => True) 99 (by kernel_rfl) (kq (Below.refl _ _).drew) trivial ?_
      intro hcl
      have hC : KQ W9.heap.size W9 W9.drew := kq (Below.refl _ _).drew
      have hE := trivial
      have hK0 : Below W9.heap.size W9 W9.drew := (Below.refl _ _).drew
      (refine wpM_take (i := 0) (v := ?_) rfl (by kernel_rfl) (by kernel_rfl) (by kernel_rfl) (by decide) (fun _ _ _ h => h) hcl hC (fun _ => hE) (Or.inl ⟨by rfl, ?_⟩) ?_; rotate_left; (· (intro w hSw; (try dsimp only at hSw); go_simp; (try with_reducible rfl))); clear hcl; intro hcl; (try simp only [Act.put, List.getElem_toArray, List.getElem_cons_zero, List.getElem_cons_succ, List.setIfInBounds_toArray, List.set_cons_zero, List.set_cons_succ]))
      (refine wpM_take (i := 1) (v := ?_) rfl (by kernel_rfl) (by kernel_rfl) (by kernel_rfl) (by decide) (fun _ _ _ h => h) hcl hC (fun _ => hE) (Or.inl ⟨by rfl, ?_⟩) ?_; rotate_left; (· (intro w hSw; (try dsimp only at hSw); go_simp; (try with_reducible rfl))); clear hcl; intro hcl; (try simp only [Act.put, List.getElem_toArray, List.getElem_cons_zero, List.getElem_cons_succ, List.setIfInBounds_toArray, List.set_cons_zero, List.set_cons_succ]))
      (refine wpM_take (i := 2) (v := ?_) rfl (by kernel_rfl) (by kernel_rfl) (by kernel_rfl) (by decide) (fun _ _ _ h => h) hcl hC (fun _ => hE) (Or.inl ⟨by rfl, ?_⟩) ?_; rotate_left; (· (intro w hSw; (try dsimp only at hSw); go_simp; (try with_reducible rfl))); clear hcl; intro hcl; (try simp only [Act.put, List.getElem_toArray, List.getElem_cons_zero, List.getElem_cons_succ, List.setIfInBounds_toArray, List.set_cons_zero, List.set_cons_succ]))
      (refine wpM_take (i := 3) (v := ?_) rfl (by kernel_rfl) (by kernel_rfl) (by kernel_rfl) (by decide) (fun _ _ _ h => h) hcl hC (fun _ => hE) (Or.inl ⟨by rfl, ?_⟩) ?_; rotate_left; (· (intro w hSw; (try dsimp only at hSw); go_simp; (try with_reducible rfl))); clear hcl; intro hcl; (try simp only [Act.put, List.getElem_toArray, List.getElem_cons_zero, List.getElem_cons_succ, List.setIfInBounds_toArray, List.set_cons_zero, List.set_cons_succ]))
      (refine wpM_take (i := 5) (v := ?_) rfl (by kernel_rfl) (by kernel_rfl) (by kernel_rfl) (by decide) (fun _ _ _ h => h) hcl hC (fun _ => hE) (Or.inl ⟨by rfl, ?_⟩) ?_; rotate_left; (· (intro w hSw; (try dsimp only at hSw); go_simp; (try with_reducible rfl))); clear hcl; intro hcl; (try simp only [Act.put, List.getElem_toArray, List.getElem_cons_zero, List.getElem_cons_succ, List.setIfInBounds_toArray, List.set_cons_zero, List.set_cons_succ]))
      refine wpM_only (i := 4) rfl (by kernel_rfl) hcl (fun K hK => ?_)
      go_simp
      refine (cF.out A2 n2 c2 B2 m2 d2 W9.drew ((k9a.out.below hK0).more hK0.size) ((k9b.out.below hK0).more hK0.size)).mono ?_
      rintro r v1 ⟨A7, c7, B7, d7, rfl, hF1, hF2, hv1⟩
      have hK1 : Below W9.heap.size W9 v1 := hK0.trans (hv1.mono hK0.size)
      have hC1 : KQ W9.heap.size W9 v1 := kq hK1
      refine hK.out _ _ hC1 trivial ?_
      clear hK K
      clear hcl
      intro hcl
      (try simp only [Act.put, List.getElem_toArray, List.getElem_cons_zero, List.getElem_cons_succ, List.setIfInBounds_toArray, List.set_cons_zero, List.set_cons_succ])
      clear hC
      have hC := hC1
      refine wpM_only (i := 6) rfl (by kernel_rfl) hcl (fun K hK => ?_)
      go_simp
      refine (cF.out A3 n3 c3 B3 m3 d3 v1 ((k8a.out.below hK1).more hK1.size) ((k8b.out.below hK1).more hK1.size)).mono ?_
      rintro r v2 ⟨A8, c8, B8, d8, rfl, hF3, hF4, hv2⟩
      have hK2 : Below W9.heap.size W9 v2 := hK1.trans (hv2.mono hK1.size)
      have hC2 : KQ W9.heap.size W9 v2 := kq hK2
      refine hK.out _ _ hC2 trivial ?_
      clear hK K
      clear hcl
      intro hcl
      (try simp only [Act.put, List.getElem_toArray, List.getElem_cons_zero, List.getElem_cons_succ, List.setIfInBounds_toArray, List.set_cons_zero, List.set_cons_succ])
      clear hC
      have hC := hC2
      refine wpM_only (i := 7) rfl (by kernel_rfl) hcl (fun K hK => ?_)
      go_simp
      refine (msame_any A7 n2 c7 Z.1 B7 m2 d7 Z.2 A8 n3 c8 Z.1 B8 m3 d8 Z.2 v2 ((hF1.below hv2).more hv2.size) ((hF2.below hv2).more hv2.size) hF3 hF4 (by have := hF1.len; have := hZl.out.1; simp [maxLen]; omega) (by have := hF2.len; have := hZl.out.2; simp [maxLen]; omega) (by have := hF3.len; have := hZl.out.1; simp [maxLen]; omega) (by have := hF4.len; have := hZl.out.2; simp [maxLen]; omega)).mono ?_
      rintro r v3 ⟨rfl, hv3⟩
      rw [show (decide (Z.1 = Z.1) && decide (Z.2 = Z.2)) = true from by simp]
      have hK3 : Below W9.heap.size W9 v3 := hK2.trans (hv3.mono hK2.size)
      have hC3 : KQ W9.heap.size W9 v3 := kq hK3
      refine hK.out _ _ hC3 trivial ?_
      clear hK K
      clear hcl
      intro hcl
      (try simp only [Act.put, List.getElem_toArray, List.getElem_cons_zero, List.getElem_cons_succ, List.setIfInBounds_toArray, List.set_cons_zero, List.set_cons_succ])
      clear hC
      have hC := hC3
      clear hF1 hF2 hF3 hF4
      (refine wpM_take (i := 8) (v := ?_) rfl (by kernel_rfl) (by kernel_rfl) (by kernel_rfl) (by decide) (fun _ _ _ h => h) hcl hC (fun _ => hE) (Or.inl ⟨by rfl, ?_⟩) ?_; rotate_left; (· (intro w hSw; (try dsimp only at hSw); go_simp; (try with_reducible rfl))); clear hcl; intro hcl; (try simp only [Act.put, List.getElem_toArray, List.getElem_cons_zero, List.getElem_cons_succ, List.setIfInBounds_toArray, List.set_cons_zero, List.set_cons_succ]))
      (refine wpM_take (i := 9) (v := ?_) rfl (by kernel_rfl) (by kernel_rfl) (by kernel_rfl) (by decide) (fun _ _ _ h => h) hcl hC (fun _ => hE) (Or.inl ⟨by rfl, ?_⟩) ?_; rotate_left; (· (intro w hSw; (try dsimp only at hSw); go_simp; (try with_reducible rfl))); clear hcl; intro hcl; (try simp only [Act.put, List.getElem_toArray, List.getElem_cons_zero, List.getElem_cons_succ, List.setIfInBounds_toArray, List.set_cons_zero, List.set_cons_succ]))
      refine wpM_done (by kernel_rfl) ?_
      clear hcl hE hC hC1 hC2 hC3
      try simp only [Act.put, List.getElem_toArray, List.getElem_cons_zero, List.getElem_cons_succ, List.setIfInBounds_toArray, List.set_cons_zero, List.set_cons_succ]
      clear s0 s1 y0 y1 hlt9 hls9
      have hL10 := Lib.hid (hL9.out.below hK3)
      have hx10 := blk_below hx9.out hK3
      have ht10 := blk_below ht9.out hK3
      have hx10H := Lib.hid hx10
      have ht10H := Lib.hid ht10
      have k10a := Lib.hid ((k8a.out.below hK3).more hK3.size)
      have k10b := Lib.hid ((k8b.out.below hK3).more hK3.size)
      have ty10 := Lib.hid (And.intro (ty9.out.1.below hK3) (ty9.out.2.below hK3))
      have hz10 := hK3.size
      have hba10 := hL10.out.ba
      have hla := blk_lt hba10
      have hfa := blk_frozen hba10
      have s0 := blk_cell hba10 0
      have s1 := blk_cell hba10 1
      have hlt10 := blk_lt ht10
      have y0 := blk_cell ht10 0
      have y1 := blk_cell ht10 1
      simp at s0 s1 y0 y1
      clear hx10 ht10 hba10 hL9 hx9 ht9 k8a k8b k9a k9b ty9 hK0 hK1 hK2 hv1 hv2 hv3 hK3 cF
      go_upto_region 21 with (fail)
      obtain ⟨W11, hW11⟩ : ∃ W11, W11 = (v3.setCell ⟨w0.heap.size, 0, none⟩ (.slice A3 n3 c3)).setCell ⟨w0.heap.size, 1, none⟩ (.slice B3 m3 d3) := ⟨_, rfl⟩
      rw [← hW11]
      have hx11 : W11.heap[wr.heap.size]? = some (.cells #[.int .i64 u.a.1.1.1, .int .u32 u.a.1.1.2, .int .i64 u.a.1.2, .string (bs u.a.2.1), .int .i64 u.a.2.2.1, .int .u32 u.a.2.2.2.1, .int .i64 u.a.2.2.2.2, .slice u.C u.k u.f] 108 (0, 0)) := by
        rw [hW11]; exact heap_set_ne (p := ⟨w0.heap.size, 1, none⟩) (by dsimp only; omega) (heap_set_ne (p := ⟨w0.heap.size, 0, none⟩) (by dsimp only; omega) hx10H.out)
      have hdn11 : Ow W11 (w0.heap.size + 3) 108 8 (.slice T t f) (ds.map AcM.enc) := by
        rw [hW11]; exact (hL10.out.dn.set_blk hL10.out.ba (by decide) 0 _).set_blk (blk_set hL10.out.ba 0 _) (by decide) 1 _
      have hz11 : w0.heap.size + 3 ≤ W11.heap.size := by rw [hW11, World.size_setCell, World.size_setCell]; exact hL10.out.sz
      have htk : t ≤ k := by
        have h1 := hdn11.rd.2.1
        have h2 := hL10.out.iv.lk
        rw [List.length_map] at h1 h2
        omega
      have hW11H := Lib.hid hW11
      clear hW11 s0 s1 y0 y1 hla hfa hlt10
      have hlx11 := blk_lt hx11
      have x0 := blk_cell hx11 0
      have x1 := blk_cell hx11 1
      have x2 := blk_cell hx11 2
      have x3 := blk_cell hx11 3
      have x4 := blk_cell hx11 4
      have x5 := blk_cell hx11 5
      have x6 := blk_cell hx11 6
      have x7 := blk_cell hx11 7
      simp at x0 x1 x2 x3 x4 x5 x6 x7
      clear hx11
      have hbO : Below W11.heap.size W11 (W11.alloc (.cells #[.int .i64 u.a.1.1.1, .int .u32 u.a.1.1.2, .int .i64 u.a.1.2, .string (bs u.a.2.1), .int .i64 u.a.2.2.1, .int .u32 u.a.2.2.2.1, .int .i64 u.a.2.2.2.2, .slice u.C u.k u.f] 108)) := (Below.refl _ _).alloc (Nat.le_refl _) _
      have hlk : Hid ((ds.map AcM.enc).length = t) := Lib.hid hdn11.rd.2.1
      have hlen1 : ∀ y ∈ ([[.int .i64 u.a.1.1.1, .int .u32 u.a.1.1.2, .int .i64 u.a.1.2, .string (bs u.a.2.1), .int .i64 u.a.2.2.1, .int .u32 u.a.2.2.2.1, .int .i64 u.a.2.2.2.2, .slice u.C u.k u.f]] : List (List Value)), y.length = 8 := by simp
      have hone1 : ∀ y ∈ ([[.int .i64 u.a.1.1.1, .int .u32 u.a.1.1.2, .int .i64 u.a.1.2, .string (bs u.a.2.1), .int .i64 u.a.2.2.1, .int .u32 u.a.2.2.2.1, .int .i64 u.a.2.2.2.2, .slice u.C u.k u.f]] : List (List Value)), ∀ v ∈ y, v.oneCell' = true := by simp [Value.oneCell']
      go_wp2_with (at_builtin; refine wpList_append_rd _ rfl _ _ _ rfl eActM (base := w0.heap.size + 3) (v := .slice T t f) (xs := ds.map AcM.enc) rfl (hdn11.below hbO) rfl (Rd.one' [.int .i64 u.a.1.1.1, .int .u32 u.a.1.1.2, .int .i64 u.a.1.2, .string (bs u.a.2.1), .int .i64 u.a.2.2.1, .int .u32 u.a.2.2.2.1, .int .i64 u.a.2.2.2.2, .slice u.C u.k u.f] rfl) hlen1 hone1 (by rw [hlk.out]; unfold maxLen; omega) (by rw [hlk.out]; omega) (by simp; omega) ?_; intro A4 n4 f4 w12 hn4 hown4 hg4 hat4; clear hn4 hat4)
      have hfin := Lib.hid (hL10.out.next k10a.out k10b.out ty10.out.1 ty10.out.2 hW11H.out hbO hg4 (u := u) (by rw [List.map_append]; exact hown4) ⟨humH.out, hk20⟩ hok6.out hI6H.out (Nat.le_refl _))
      go_roundg (n + 1 - (k + 1))
      case measure => omega
      case rel => exact ⟨k + 1, by omega, by omega, rfl, by go_num, hfin.out⟩
end Go.Proofs.Ytadldndmmobpdaa
