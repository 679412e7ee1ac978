/- Writing an element of a row of one's own: elements of any number of cells. Regions that draw their order: an operation for which number m waits by way of another one. slices.SortStableFunc at parts: its comparison, and the exchange of two stretches. -/
import Derived.Test.YtpolplmniaoikaaDoorGc
import Derived.Test.YtpolplmniaoikaaDoorGb
import Derived.Test.YtpolplmniaoikaaDoorMa
import Derived.Test.YtpolplmniaoikaaDoorM39
import Derived.Test.YtpolplmniaoikaaDoorN05
import Derived.Deep.QuietTactic
import Derived.BigQuiet
import Derived.BigRegion
namespace Go.Proofs.YtpolplmniaoikaaDoor
open Go.RowKit

theorem setL_mid {α : Type} : ∀ (vs : List α) (l : List α) (i : Nat), i + vs.length ≤ l.length → setL l i vs = l.take i ++ vs ++ l.drop (i + vs.length)
  | [], l, i, h => by simp [setL]
  | v :: r, l, i, h => by
    have hi : i < l.length := by simp at h; omega
    rw [setL, setL_mid r (l.set i v) (i + 1) (by simp at h ⊢; omega), List.take_add_one, List.getElem?_set_self hi]
    simp only [Option.toList_some, List.length_cons]
    rw [List.take_set_of_le (Nat.le_refl _), List.drop_set_of_lt (by omega), show i + 1 + r.length = i + (r.length + 1) by omega]
    simp
theorem Ow.setL {w : World} {base g n c sz : Nat} {e : TypeId} {xs : List (List Value)} (h : Ow w base e sz (.slice (some ⟨g, 0, none⟩) n c) xs) {k : Nat} (hk : k < n) {vs : List Value} (hv : vs.length = sz) :
    Ow (w.setCells g (k * sz) vs) base e sz (.slice (some ⟨g, 0, none⟩) n c) (xs.set k vs) := by
  have hl : xs.length = n := h.rd.2.1
  have hall := h.1
  have h2 := h.2
  rw [hl] at h2
  have hflat : ∀ m, m ≤ n → (xs.take m).flatten = xs.flatten.take (m * sz) ∧ (xs.drop m).flatten = xs.flatten.drop (m * sz) := by
    intro m hm
    have h1 : xs.flatten = (xs.take m).flatten ++ (xs.drop m).flatten := by rw [← List.flatten_append, List.take_append_drop]
    have h2 : (xs.take m).flatten.length = m * sz := by rw [flat_len (fun x hx => hall x (List.mem_of_mem_take hx)), List.length_take, Nat.min_eq_left (by omega)]
    rw [h1, ← h2]
    exact ⟨(List.take_left' rfl).symm, (List.drop_left' rfl).symm⟩
  have hfl : xs.flatten.length = n * sz := by rw [flat_len hall, hl]
  have hle : k * sz + sz ≤ n * sz := by rw [← Nat.succ_mul]; exact Nat.mul_le_mul_right _ hk
  refine ⟨fun x hx => ?_, ?_⟩
  · rcases List.mem_or_eq_of_mem_set hx with h' | rfl
    · exact hall x h'
    · exact hv
  · have h3 := ownsRow_setCells vs (k * sz) h2
    rw [setL_mid vs _ _ (by rw [hv, hfl]; exact hle), hv] at h3
    rw [List.length_set, hl, List.set_eq_take_append_cons_drop, if_pos (by omega), List.flatten_append, List.flatten_cons, (hflat k (by omega)).1, (hflat (k + 1) (by omega)).2, Nat.succ_mul, ← List.append_assoc]
    exact h3
theorem gr_setCells {g : Nat} (vs : List Value) {a w : World} (i : Nat) (h : a.grownBy w (some g)) : a.grownBy (w.setCells g i vs) (some g) := grown_setCells vs i h
end Go.Proofs.YtpolplmniaoikaaDoor
namespace Go.Proofs.YtpolplmniaoikaaDoor
open Go.RowKit

section
variable {P : Program} {ops : Array Oper} {Q : Exit → Act → World → Prop} {md : Region.Mode} {C E : World → Prop} {m : Nat}
theorem closedL_on {L : Array Bool} (hcl : ClosedL md ops L) {j i : Nat} {oj : Oper} (hj : ops[j]? = some oj) (hw : (oj.after.any fun e => Region.binds md e && e.on == i) = true) (hl : L.getD j false = true) : L.getD i false = true := by
  obtain ⟨e, he, hb⟩ := Array.any_eq_true'.1 hw
  simp only [Bool.and_eq_true, beq_iff_eq] at hb
  have := hcl j oj hj hl e he hb.1
  rwa [hb.2] at this
theorem wpM_take0c {i j : Nat} {oi oj om : Oper} {v : Value} {f : Nat} {L : Array Bool} {a : Act} {w : World} (hi : ops[i]? = some oi) (hj : ops[j]? = some oj) (hm : ops[m]? = some om)
    (hw : (om.after.any fun e => Region.binds md e && e.on == j) = true) (hw2 : (oj.after.any fun e => Region.binds md e && e.on == i) = true)
    (hs : Region.noSelect ops = true) (hf : Region.free md ops L i = true) (hr : (Region.ready md ops L).contains i = true) (him : i ≠ m)
    (hQ : ∀ c a w, Q (.panic c) (a.put oi.dst v) w → Q (.panic c) a w) (hcl : ClosedL md ops L) (hC : C w) (hE : L.getD m false = false → E w) (hy : YieldsIf P ops (fun w => C w ∧ E w) oi v a)
    (h : ClosedL md ops (L.setIfInBounds i true) → wpAnyM P md ops Q C E m f (L.setIfInBounds i true) (a.put oi.dst v) w) : wpAnyM P md ops Q C E m (f + 1) L a w := by
  refine wpAnyM_first (S := fun w => C w ∧ E w) hi (Region.noSelect_spec hs) hQ him (fun L w hcl hun hc he => ⟨hc, he ?_⟩) f L a w hcl (Region.free_spec hi hf) (by simpa using hr) hy hC hE (h (hcl.set (by simpa using hr)))
  rw [← Bool.not_eq_true]
  intro hlm
  have h2 := closedL_on hcl hj hw2 (closedL_on hcl hm hw hlm)
  rcases Nat.lt_or_ge i L.size with h' | h'
  · simp [h'] at hun h2; rw [hun] at h2; cases h2
  · simp [Array.getElem?_eq_none h'] at h2
end
end Go.Proofs.YtpolplmniaoikaaDoor
namespace Go.Proofs.YtpolplmniaoikaaDoor
open Go.RowKit

/-- A part's number. -/
def Pe.num (p : Pe) : Int := p.e.tag.2
set_option maxRecDepth 100000 in
theorem mcmp_any (p q : Pe) (w : World) :
    Calls Tryd.prog 15 #[.agg #[.string (bs p.key), .int .i64 p.e.act, .string (bs p.e.name), .int .i64 p.e.val, .int .i64 p.e.tag.1.1, .int .u32 p.e.tag.1.2, .int .i64 p.e.tag.2, .int .u32 p.e.st.1, .int .i64 p.e.st.2, .slice p.A p.l p.c], .agg #[.string (bs q.key), .int .i64 q.e.act, .string (bs q.e.name), .int .i64 q.e.val, .int .i64 q.e.tag.1.1, .int .u32 q.e.tag.1.2, .int .i64 q.e.tag.2, .int .u32 q.e.st.1, .int .i64 q.e.st.2, .slice q.A q.l q.c]] w fun e w' => e = .returned (.int .i64 (ordI p.num q.num)) ∧ Below w.heap.size w w' := by
  obtain ⟨k1, ⟨a1, n1, v1, ⟨⟨o1, s1⟩, m1⟩, ⟨t1, b1⟩, ts1⟩, A1, l1, c1⟩ := p
  obtain ⟨k2, ⟨a2, n2, v2, ⟨⟨o2, s2⟩, m2⟩, ⟨t2, b2⟩, ts2⟩, A2, l2, c2⟩ := q
  show Calls _ _ _ w fun e w' => e = .returned (.int .i64 (ordI m1 m2)) ∧ Below w.heap.size w w'
  have hc := ccmp_any m1 m2
  generalize ordI m1 m2 = r at *
  have hc := Lib.hid hc
  dsimp only
  go_enter Tryd.func15, Tryd.ntmps15
  go_wp2_with fail
  refine (hc.out _).mono ?_
  rintro e w1 ⟨rfl, rfl⟩
  go_wp2
  go_ret
  exact ⟨rfl, ((Below.refl _ w).alloc (Nat.le_refl _) _).alloc (by simp) _⟩
theorem Ow.swapE {w : World} {base g n c i j : Nat} {ps : List Pe} (h : Ow w base 69 10 (.slice (some ⟨g, 0, none⟩) n c) (ps.map Pe.enc)) (hi : i < n) (hj : j < n) {x y : Pe} (hx : ps[i]? = some x) (hy : ps[j]? = some y) :
    Ow ((w.setCells g (i * 10) y.enc).setCells g (j * 10) x.enc) base 69 10 (.slice (some ⟨g, 0, none⟩) n c) ((swp ps i j).map Pe.enc) := by
  rw [swp_eq hx hy, List.map_set, List.map_set]
  exact (h.setL hi (vs := y.enc) rfl).setL hj (vs := x.enc) rfl
set_option maxRecDepth 100000 in
set_option maxHeartbeats 4000000 in
theorem srange_any (base g n c a b m : Nat) (ps : List Pe) (cf : Value) (w : World) (_hB : base ≤ w.heap.size) (hown : Ow w base 69 10 (.slice (some ⟨g, 0, none⟩) n c) (ps.map Pe.enc)) (hn : n ≤ 1000) (hab : a + m ≤ b) (hb : b + m ≤ n) :
    Calls Tryd.prog 73 #[.slice (some ⟨g, 0, none⟩) n c, .int .i64 (a : Int), .int .i64 (b : Int), .int .i64 (m : Int), cf] w
      fun e w' => e = .returned (.tuple #[]) ∧ ∃ ys : List Pe, ys.Perm ps ∧ (∀ q, ys[q]? = srF (fun k => ps[k]?) a b m q) ∧ Ow w' base 69 10 (.slice (some ⟨g, 0, none⟩) n c) (ys.map Pe.enc) ∧ w.grownBy w' (some g) := by
  have hl : ps.length = n := by simpa using hown.rd.2.1
  have hownH := Lib.hid hown
  clear hown
  go_enter Tryd.func73, Tryd.ntmps73
  go_wp2
  go_loopg [10] (m + 1) (fun gg i wr => ∃ (k : Nat) (cur : List Pe), k ≤ m ∧ gg = m + 1 - k ∧ i = .int .i64 (k : Int) ∧ cur.Perm ps ∧ (∀ q, cur[q]? = srF (fun k => ps[k]?) a b k q) ∧ Ow wr base 69 10 (.slice (some ⟨g, 0, none⟩) n c) (cur.map Pe.enc) ∧ w.grownBy wr (some g))
  case atStart => exact ⟨0, ps, Nat.zero_le _, rfl, rfl, List.Perm.refl _, fun q => (srF_zero _ _ _ _).symm, hownH.out, World.grownBy.refl _ _⟩
  case round =>
    obtain ⟨k, cur, hk, rfl, rfl, hp, hq, hown, hg⟩ := hrel
    by_cases hlt : k < m
    · have hlti : (k : Int) < (m : Int) := by omega
      have hcl : cur.length = n := by rw [hp.length_eq, hl]
      obtain ⟨x, hx⟩ : ∃ x, cur[a + k]? = some x := ⟨_, List.getElem?_eq_getElem (by omega)⟩
      obtain ⟨y, hy⟩ : ∃ y, cur[b + k]? = some y := ⟨_, List.getElem?_eq_getElem (by omega)⟩
      obtain ⟨g', he, _, hgl, hgf, hgc⟩ := hown.addr (by omega)
      injection he with he
      injection he with he
      subst he
      have hcx := hgc (a + k) x.enc (by rw [List.getElem?_map, hx]; rfl)
      have hcy := hgc (b + k) y.enc (by rw [List.getElem?_map, hy]; rfl)
      have p0 := hcx 0 _ rfl
      have p1 := hcx 1 _ rfl
      have p2 := hcx 2 _ rfl
      have p3 := hcx 3 _ rfl
      have p4 := hcx 4 _ rfl
      have p5 := hcx 5 _ rfl
      have p6 := hcx 6 _ rfl
      have p7 := hcx 7 _ rfl
      have p8 := hcx 8 _ rfl
      have p9 := hcx 9 _ rfl
      have q0 := hcy 0 _ rfl
      have q1 := hcy 1 _ rfl
      have q2 := hcy 2 _ rfl
      have q3 := hcy 3 _ rfl
      have q4 := hcy 4 _ rfl
      have q5 := hcy 5 _ rfl
      have q6 := hcy 6 _ rfl
      have q7 := hcy 7 _ rfl
      have q8 := hcy 8 _ rfl
      have q9 := hcy 9 _ rfl
      rw [Nat.add_zero] at p0 q0
      have hwa : IntKind.i64.wrap ((a : Int) + (k : Int)) = ((a + k : Nat) : Int) := by rw [IntWalk.i64_in _ (by omega)]; omega
      have hwb : IntKind.i64.wrap ((b : Int) + (k : Int)) = ((b + k : Nat) : Int) := by rw [IntWalk.i64_in _ (by omega)]; omega
      have hia : a + k < n := by omega
      have hib : b + k < n := by omega
      have hne : a + k ≠ b + k := by omega
      have hsw := Lib.hid (hown.swapE hia hib hx hy)
      have hpS : Hid ((swp cur (a + k) (b + k)).Perm ps) := Lib.hid ((swp_perm _ _ _).trans hp)
      have hqS := Lib.hid (srF_step (m := m) hab (by omega) hlt hq)
      have hgH := Lib.hid hg
      clear hq hp hx hy hcx hcy hgc hown hg
      generalize hi1 : a + k = i1 at *
      generalize hi2 : b + k = i2 at *
      go_wp2
      go_region
      have hz := hgH.out.size
      have hown2 := hsw.out
      have hg2 : wr.grownBy ((wr.setCells g (i1 * 10) (Pe.enc y)).setCells g (i2 * 10) (Pe.enc x)) (some g) := gr_setCells _ _ (gr_setCells _ _ (World.grownBy.refl _ _))
      simp only [Pe.enc, World.setCells, Nat.add_assoc, Nat.reduceAdd] at hown2 hg2
      have hown2 := Lib.hid hown2
      have hg2 := Lib.hid hg2
      generalize hwn : World.setCell _ _ _ = wn at hown2 hg2 ⊢
      clear hwn
      clear hsw p0 p1 p2 p3 p4 p5 p6 p7 p8 p9 q0 q1 q2 q3 q4 q5 q6 q7 q8 q9
      go_wp2
      go_roundg (m + 1 - (k + 1))
      case measure => omega
      case rel => exact ⟨k + 1, _, by omega, rfl, by go_num, hpS.out, hqS.out, hown2.out.below (Below.refl _ _).drew, (hgH.out.trans hg2.out).trans (gr_below (Below.refl _ _).drew _)⟩
    · obtain rfl : k = m := by omega
      have hnlt : ¬ (k : Int) < (k : Int) := by omega
      go_wp2
      go_end0
      exact ⟨rfl, cur, hp, hq, hown, hg⟩
end Go.Proofs.YtpolplmniaoikaaDoor
