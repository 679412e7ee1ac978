/- The plain law of ClashOrder on objects: acts that do not clash, done the one way and the other way round, leave one object. Rows that lie in blocks of their type. Objects in memory; an object with lists of its own. -/
import Derived.Test.YtffnpfponnhddaaGreatN09
import Derived.Test.YtffnpfponnhddaaGreatN11
import Derived.Test.YtffnpfponnhddaaGreatFm
import Derived.Test.YtffnpfponnhddaaGreatN15
import Derived.Test.YtffnpfponnhddaaGreatOtG
import Derived.Test.YtffnpfponnhddaaGreatOtJ
import Derived.Test.YtffnpfponnhddaaGreatM19
import Derived.Test.YtffnpfponnhddaaGreatN24
import Derived.Test.YtffnpfponnhddaaGreatOnJ
import Derived.Test.YtffnpfponnhddaaGreatM21
import Derived.Test.YtffnpfponnhddaaGreatN13
namespace Go.Proofs.YtffnpfponnhddaaGreat

/-- An object behind an act that sees all of it; r: what a register's act does. -/
def stepC (r : Ob → Int → Int → Option Ob) (s : Ob) (a : Int) (nm : List UInt8) (v n : Int) : Option Ob :=
  if errOp a nm v ≠ 0 ∨ kindA a ≠ s.kd then none
  else if a = 1 then r s v n
  else if a = 2 then (cntC s.pl s.mi v).map s.setN
  else if a = 3 then (if (putO s.S.1 s.S.2 (tagC n, nm)).2 = 0 then some (s.setS (putO s.S.1 s.S.2 (tagC n, nm)).1) else none)
  else if a = 4 then (if (dropO s.S.1 s.S.2 (tagsO s.S.1 s.S.2 nm)).2 = 0 then some (s.setS (dropO s.S.1 s.S.2 (tagsO s.S.1 s.S.2 nm)).1) else none)
  else if a = 5 then (if (putM s.M.1 s.M.2 (tagC n, (nm, (v, stampC n)))).2 = 0 then some (s.setM (putM s.M.1 s.M.2 (tagC n, (nm, (v, stampC n)))).1) else none)
  else (if (dropM s.M.1 s.M.2 (tagsM s.M.1 s.M.2 nm)).2 = 0 then some (s.setM (dropM s.M.1 s.M.2 (tagsM s.M.1 s.M.2 nm)).1) else none)
theorem kindA_one {a : Int} (h : kindA a = 1) : a = 1 := by
  unfold kindA at h
  split at h
  · assumption
  · split at h
    · exact absurd h (by decide)
    · split at h
      · exact absurd h (by decide)
      · split at h
        · exact absurd h (by decide)
        · exact absurd h (by decide)
theorem stepC_inv {r : Ob → Int → Int → Option Ob} {s s' : Ob} {a v n : Int} {nm : List UInt8} (h : stepC r s a nm v n = some s') :
    kindA a = s.kd ∧ (a = 1 ∨ (a = 2 ∧ ∃ q, cntC s.pl s.mi v = some q ∧ s' = s.setN q) ∨ (a = 3 ∧ (putO s.S.1 s.S.2 (tagC n, nm)).2 = 0 ∧ s' = s.setS (putO s.S.1 s.S.2 (tagC n, nm)).1) ∨
      (a = 4 ∧ (dropO s.S.1 s.S.2 (tagsO s.S.1 s.S.2 nm)).2 = 0 ∧ s' = s.setS (dropO s.S.1 s.S.2 (tagsO s.S.1 s.S.2 nm)).1) ∨
      (a = 5 ∧ (putM s.M.1 s.M.2 (tagC n, (nm, (v, stampC n)))).2 = 0 ∧ s' = s.setM (putM s.M.1 s.M.2 (tagC n, (nm, (v, stampC n)))).1) ∨
      (a = 6 ∧ (dropM s.M.1 s.M.2 (tagsM s.M.1 s.M.2 nm)).2 = 0 ∧ s' = s.setM (dropM s.M.1 s.M.2 (tagsM s.M.1 s.M.2 nm)).1)) := by
  unfold stepC at h
  by_cases h0 : errOp a nm v ≠ 0 ∨ kindA a ≠ s.kd
  · rw [if_pos h0] at h; exact absurd h (by simp)
  rw [if_neg h0] at h
  have hk : kindA a = s.kd := Classical.byContradiction fun hn => h0 (.inr hn)
  have he : errOp a nm v = 0 := Classical.byContradiction fun hn => h0 (.inl hn)
  refine ⟨hk, ?_⟩
  by_cases a1 : a = 1
  · exact .inl a1
  rw [if_neg a1] at h
  by_cases a2 : a = 2
  · rw [if_pos a2] at h
    obtain ⟨q, hq, e⟩ := Option.map_eq_some_iff.1 h
    exact .inr (.inl ⟨a2, q, hq, e.symm⟩)
  rw [if_neg a2] at h
  by_cases a3 : a = 3
  · rw [if_pos a3] at h
    split at h
    · exact .inr (.inr (.inl ⟨a3, by assumption, (Option.some.inj h).symm⟩))
    · exact absurd h (by simp)
  rw [if_neg a3] at h
  by_cases a4 : a = 4
  · rw [if_pos a4] at h
    split at h
    · exact .inr (.inr (.inr (.inl ⟨a4, by assumption, (Option.some.inj h).symm⟩)))
    · exact absurd h (by simp)
  rw [if_neg a4] at h
  by_cases a5 : a = 5
  · rw [if_pos a5] at h
    split at h
    · exact .inr (.inr (.inr (.inr (.inl ⟨a5, by assumption, (Option.some.inj h).symm⟩))))
    · exact absurd h (by simp)
  rw [if_neg a5] at h
  have a6 : a = 6 := by
    rcases act7 a with e | e | e | e | e | e | ⟨e, _⟩
    · exact absurd e a1
    · exact absurd e a2
    · exact absurd e a3
    · exact absurd e a4
    · exact absurd e a5
    · exact e
    · unfold errOp at he
      rw [if_pos e] at he
      exact absurd he (by decide)
  split at h
  · exact .inr (.inr (.inr (.inr (.inr ⟨a6, by assumption, (Option.some.inj h).symm⟩))))
  · exact absurd h (by simp)
theorem cntC_inv {p m v : Int} {q : Int × Int} (h : cntC p m v = some q) : (v < 0 ∧ q = (p, m - v)) ∨ (0 ≤ v ∧ q = (p + v, m)) := by
  unfold cntC at h
  by_cases c0 : p < 0 ∨ 1125899906842624 < p ∨ m < 0 ∨ 1125899906842624 < m
  · rw [if_pos c0] at h; cases h
  rw [if_neg c0] at h
  by_cases c1 : v < 0
  · rw [if_pos c1] at h
    by_cases c2 : m - v ≤ 1125899906842624
    · rw [if_pos c2] at h
      exact .inl ⟨c1, (Option.some.inj h).symm⟩
    · rw [if_neg c2] at h; cases h
  · rw [if_neg c1] at h
    by_cases c2 : p + v ≤ 1125899906842624
    · rw [if_pos c2] at h
      exact .inr ⟨by omega, (Option.some.inj h).symm⟩
    · rw [if_neg c2] at h; cases h
theorem cntC_comm {p m v u : Int} {q q' x x' : Int × Int} (h1 : cntC p m v = some q) (h2 : cntC q.1 q.2 u = some q') (h3 : cntC p m u = some x) (h4 : cntC x.1 x.2 v = some x') : q' = x' := by
  rcases cntC_inv h1 with ⟨a1, rfl⟩ | ⟨a1, rfl⟩ <;> rcases cntC_inv h2 with ⟨a2, rfl⟩ | ⟨a2, rfl⟩ <;> rcases cntC_inv h3 with ⟨a3, rfl⟩ | ⟨a3, rfl⟩ <;> rcases cntC_inv h4 with ⟨a4, rfl⟩ | ⟨a4, rfl⟩ <;> (refine Prod.ext ?_ ?_ <;> dsimp only <;> omega)
/-- Acts that do not clash: one object, either way round. -/
theorem order_law {r : Ob → Int → Int → Option Ob} {s s1 s2 t1 t2 : Ob} {a b va vb : Int} {na nb : List UInt8}
    (hS : ∀ n, FreshK Prod.fst s.S (tagC n)) (hM : ∀ n, FreshK Prod.fst s.M (tagC n))
    (hc1 : ¬ (a = 1 ∧ b = 1)) (hc : na = nb → ¬ ((a = 3 ∧ b = 4) ∨ (a = 4 ∧ b = 3) ∨ (a = 5 ∧ b = 5) ∨ (a = 5 ∧ b = 6) ∨ (a = 6 ∧ b = 5)))
    (h1 : stepC r s a na va 0 = some s1) (h2 : stepC r s1 b nb vb 1 = some s2) (h3 : stepC r s b nb vb 1 = some t1) (h4 : stepC r t1 a na va 0 = some t2) : s2 = t2 := by
  obtain ⟨k1, i1⟩ := stepC_inv h1
  obtain ⟨k3, i3⟩ := stepC_inv h3
  obtain ⟨k2, i2⟩ := stepC_inv h2
  obtain ⟨k4, i4⟩ := stepC_inv h4
  have hkk : kindA a = kindA b := by rw [k1, k3]
  have hne : tagC 0 ≠ tagC 1 := by decide
  have hnm : ∀ {x y : Int}, (a = x ∧ b = y) → ((a = 3 ∧ b = 4) ∨ (a = 4 ∧ b = 3) ∨ (a = 5 ∧ b = 5) ∨ (a = 5 ∧ b = 6) ∨ (a = 6 ∧ b = 5)) → na ≠ nb := fun _ hh e => hc e hh
  rcases i1 with rfl | ⟨rfl, q, e1, rfl⟩ | ⟨rfl, e1, rfl⟩ | ⟨rfl, e1, rfl⟩ | ⟨rfl, e1, rfl⟩ | ⟨rfl, e1, rfl⟩
  · exact absurd ⟨rfl, kindA_one (by rw [← hkk]; rfl)⟩ hc1
  all_goals rcases i3 with rfl | ⟨rfl, x, e3, rfl⟩ | ⟨rfl, e3, rfl⟩ | ⟨rfl, e3, rfl⟩ | ⟨rfl, e3, rfl⟩ | ⟨rfl, e3, rfl⟩
  all_goals first | (exact absurd hkk (by decide)) | skip
  · rcases i2 with h | ⟨_, q', e2, rfl⟩ | ⟨h, _⟩ | ⟨h, _⟩ | ⟨h, _⟩ | ⟨h, _⟩ <;> first | (exact absurd h (by decide)) | skip
    rcases i4 with h | ⟨_, x', e4, rfl⟩ | ⟨h, _⟩ | ⟨h, _⟩ | ⟨h, _⟩ | ⟨h, _⟩ <;> first | (exact absurd h (by decide)) | skip
    have := cntC_comm e1 e2 e3 e4
    subst this
    rfl
  · rcases i2 with h | ⟨h, _⟩ | ⟨_, e2, rfl⟩ | ⟨h, _⟩ | ⟨h, _⟩ | ⟨h, _⟩ <;> first | (exact absurd h (by decide)) | skip
    rcases i4 with h | ⟨h, _⟩ | ⟨_, e4, rfl⟩ | ⟨h, _⟩ | ⟨h, _⟩ | ⟨h, _⟩ <;> first | (exact absurd h (by decide)) | skip
    exact congrArg s.setS (comm_put (key := Prod.fst) (ok1 := fun a : Am => elemB a.2) (X := s.S) (a := (tagC 0, na)) (b := (tagC 1, nb)) (hS 0) (hS 1) hne e1 e2 e3 e4)
  · rcases i2 with h | ⟨h, _⟩ | ⟨h, _⟩ | ⟨_, e2, rfl⟩ | ⟨h, _⟩ | ⟨h, _⟩ <;> first | (exact absurd h (by decide)) | skip
    rcases i4 with h | ⟨h, _⟩ | ⟨_, e4, rfl⟩ | ⟨h, _⟩ | ⟨h, _⟩ | ⟨h, _⟩ <;> first | (exact absurd h (by decide)) | skip
    exact congrArg s.setS (comm_take (key := Prod.fst) (ok1 := fun a : Am => elemB a.2) (nm := Prod.snd) (X := s.S) (a := (tagC 0, na)) (e := nb) (hS 0) (hnm ⟨rfl, rfl⟩ (.inl ⟨rfl, rfl⟩)) e1 e2 e3 e4)
  · rcases i2 with h | ⟨h, _⟩ | ⟨_, e2, rfl⟩ | ⟨h, _⟩ | ⟨h, _⟩ | ⟨h, _⟩ <;> first | (exact absurd h (by decide)) | skip
    rcases i4 with h | ⟨h, _⟩ | ⟨h, _⟩ | ⟨_, e4, rfl⟩ | ⟨h, _⟩ | ⟨h, _⟩ <;> first | (exact absurd h (by decide)) | skip
    exact congrArg s.setS (comm_take (key := Prod.fst) (ok1 := fun a : Am => elemB a.2) (nm := Prod.snd) (X := s.S) (a := (tagC 1, nb)) (e := na) (hS 1) (hnm ⟨rfl, rfl⟩ (.inr (.inl ⟨rfl, rfl⟩))).symm e3 e4 e1 e2).symm
  · rcases i2 with h | ⟨h, _⟩ | ⟨h, _⟩ | ⟨_, e2, rfl⟩ | ⟨h, _⟩ | ⟨h, _⟩ <;> first | (exact absurd h (by decide)) | skip
    rcases i4 with h | ⟨h, _⟩ | ⟨h, _⟩ | ⟨_, e4, rfl⟩ | ⟨h, _⟩ | ⟨h, _⟩ <;> first | (exact absurd h (by decide)) | skip
    exact congrArg s.setS (comm_takes (key := Prod.fst) (ok1 := fun a : Am => elemB a.2) (nm := Prod.snd) (X := s.S) (e := na) (f := nb) e1 e2 e3 e4)
  · rcases i2 with h | ⟨h, _⟩ | ⟨h, _⟩ | ⟨h, _⟩ | ⟨_, e2, rfl⟩ | ⟨h, _⟩ <;> first | (exact absurd h (by decide)) | skip
    rcases i4 with h | ⟨h, _⟩ | ⟨h, _⟩ | ⟨h, _⟩ | ⟨_, e4, rfl⟩ | ⟨h, _⟩ <;> first | (exact absurd h (by decide)) | skip
    exact congrArg s.setM (comm_put (key := Prod.fst) (ok1 := fitsP) (X := s.M) (a := (tagC 0, (na, (va, stampC 0)))) (b := (tagC 1, (nb, (vb, stampC 1)))) (hM 0) (hM 1) hne e1 e2 e3 e4)
  · rcases i2 with h | ⟨h, _⟩ | ⟨h, _⟩ | ⟨h, _⟩ | ⟨h, _⟩ | ⟨_, e2, rfl⟩ <;> first | (exact absurd h (by decide)) | skip
    rcases i4 with h | ⟨h, _⟩ | ⟨h, _⟩ | ⟨h, _⟩ | ⟨_, e4, rfl⟩ | ⟨h, _⟩ <;> first | (exact absurd h (by decide)) | skip
    exact congrArg s.setM (comm_take (key := Prod.fst) (ok1 := fitsP) (nm := fun p : Pm => p.2.1) (X := s.M) (a := (tagC 0, (na, (va, stampC 0)))) (e := nb) (hM 0) (hnm ⟨rfl, rfl⟩ (.inr (.inr (.inr (.inl ⟨rfl, rfl⟩))))) e1 e2 e3 e4)
  · rcases i2 with h | ⟨h, _⟩ | ⟨h, _⟩ | ⟨h, _⟩ | ⟨_, e2, rfl⟩ | ⟨h, _⟩ <;> first | (exact absurd h (by decide)) | skip
    rcases i4 with h | ⟨h, _⟩ | ⟨h, _⟩ | ⟨h, _⟩ | ⟨h, _⟩ | ⟨_, e4, rfl⟩ <;> first | (exact absurd h (by decide)) | skip
    exact congrArg s.setM (comm_take (key := Prod.fst) (ok1 := fitsP) (nm := fun p : Pm => p.2.1) (X := s.M) (a := (tagC 1, (nb, (vb, stampC 1)))) (e := na) (hM 1) (hnm ⟨rfl, rfl⟩ (.inr (.inr (.inr (.inr ⟨rfl, rfl⟩))))).symm e3 e4 e1 e2).symm
  · rcases i2 with h | ⟨h, _⟩ | ⟨h, _⟩ | ⟨h, _⟩ | ⟨h, _⟩ | ⟨_, e2, rfl⟩ <;> first | (exact absurd h (by decide)) | skip
    rcases i4 with h | ⟨h, _⟩ | ⟨h, _⟩ | ⟨h, _⟩ | ⟨h, _⟩ | ⟨_, e4, rfl⟩ <;> first | (exact absurd h (by decide)) | skip
    exact congrArg s.setM (comm_takes (key := Prod.fst) (ok1 := fitsP) (nm := fun p : Pm => p.2.1) (X := s.M) (e := na) (f := nb) e1 e2 e3 e4)
end Go.Proofs.YtffnpfponnhddaaGreat
namespace Go.Proofs.YtffnpfponnhddaaGreat
open Go.RowKit

/-- A row lies in a block of its type. -/
def TyR (w : World) (e : TypeId) (A : Option Addr) (n : Nat) : Prop := 0 < n → ∃ b o cs, A = some ⟨b, o, none⟩ ∧ w.heap[b]? = some (.cells cs e (0, 0))
theorem TyR.nil_ (w : World) (e : TypeId) (A : Option Addr) : TyR w e A 0 := fun h => absurd h (by decide)
theorem Ow.ty {w : World} {base n c sz : Nat} {e : TypeId} {A : Option Addr} {xs : List (List Value)} (h : Ow w base e sz (.slice A n c) xs) : TyR w e A n := by
  intro hn
  rcases h.2.2 with ⟨h1, h2⟩ | ⟨g, cap, cur, h1, _, h3, _⟩
  · injection h1 with _ h4 _; omega
  · injection h1 with h4 _ _
    exact ⟨g, 0, cur, h4, h3⟩
theorem TyR.below {w w' : World} {e : TypeId} {A : Option Addr} {n : Nat} (h : TyR w e A n) (hb : Below w.heap.size w w') : TyR w' e A n := fun hn => by
  obtain ⟨b, o, cs, h1, h2⟩ := h hn
  exact ⟨b, o, cs, h1, blk_below h2 hb⟩
theorem TyR.setC {w : World} {e : TypeId} {A : Option Addr} {n : Nat} (h : TyR w e A n) (g i : Nat) (u : Value) : TyR (w.setCell ⟨g, i, none⟩ u) e A n := fun hn => by
  obtain ⟨b, o, cs, h1, h2⟩ := h hn
  by_cases hg : g = b
  · subst hg; exact ⟨g, o, _, h1, blk_set h2 i u⟩
  · exact ⟨b, o, cs, h1, heap_set_ne (p := ⟨g, i, none⟩) hg h2⟩
theorem TyR.kept {w w' : World} {e : TypeId} {A : Option Addr} {n r : Nat} (h : TyR w e A n) (hg : w.grownBy w' (some r)) (hr : ∀ cs, w.heap[r]? ≠ some (.cells cs e (0, 0))) : TyR w' e A n := fun hn => by
  obtain ⟨b, o, cs, h1, h2⟩ := h hn
  have hne : b ≠ r := fun e => hr cs (e ▸ h2)
  exact ⟨b, o, cs, h1, (hg.block b (blk_lt h2) (fun e => hne (by injection e))).trans h2⟩
theorem Rd.ty_kept {w w' : World} {B sz : Nat} {e : TypeId} {A : Option Addr} {n r : Nat} {xs : List (List Value)} (h : Rd w B sz A n xs) (ht : TyR w e A n) (hg : w.grownBy w' (some r)) (hr : ∀ cs, w.heap[r]? ≠ some (.cells cs e (0, 0))) : Rd w' B sz A n xs := by
  refine ⟨h.1, fun h0 => ?_⟩
  obtain ⟨g, o, he, hgB, hc⟩ := h.2 h0
  obtain ⟨b, o', cs, h1, h2⟩ := ht h0
  rw [he] at h1
  injection h1 with h1
  injection h1 with h1 _
  subst h1
  have hne : g ≠ r := fun e => hr cs (e ▸ h2)
  have hbl := hg.block g (blk_lt h2) (fun e => hne (by injection e))
  refine ⟨g, o, he, hgB, fun i x hi j u hu => ?_⟩
  rw [← hc i x hi j u hu]
  simp [World.cell?, hbl]
end Go.Proofs.YtffnpfponnhddaaGreat
namespace Go.Proofs.YtffnpfponnhddaaGreat
open Go.RowKit

/-- Where an object's four rows lie. -/
structure Rw where
  A : Option Addr
  n : Nat
  c : Nat
  B : Option Addr
  m : Nat
  d : Nat
  P : Option Addr
  k : Nat
  e : Nat
  Q : Option Addr
  l : Nat
  f : Nat
/-- An object whose tags, additions and puts are as they may be. -/
structure Ob.Ok (o : Ob) : Prop where
  wx : ∀ a ∈ o.S.1, a.wf
  wg : ∀ t ∈ o.S.2, t.wf
  wl : ∀ a ∈ o.S.1, a.2.length ≤ maxLen
  px : ∀ a ∈ o.M.1, a.wf
  pg : ∀ t ∈ o.M.2, t.wf
  pl : ∀ a ∈ o.M.1, a.2.1.length ≤ maxLen
  rg : 0 ≤ o.rt ∧ o.rt < 4294967296
structure ObIn (w : World) (o : Ob) (r : Rw) : Prop where
  ra : RdA w w.heap.size r.A r.n o.S.1
  rb : RdT w w.heap.size r.B r.m o.S.2
  rp : RdP w w.heap.size r.P r.k o.M.1
  rq : RdT w w.heap.size r.Q r.l o.M.2
  hn : r.n ≤ 100000
  hm : r.m ≤ 100000
  hk : r.k ≤ 100000
  hl : r.l ≤ 100000
structure ObTy (w : World) (r : Rw) : Prop where
  ta : TyR w 123 r.A r.n
  tb : TyR w 45 r.B r.m
  tp : TyR w 127 r.P r.k
  tq : TyR w 45 r.Q r.l
theorem ObIn.below {w w' : World} {o : Ob} {r : Rw} (h : ObIn w o r) (hb : Below w.heap.size w w') : ObIn w' o r :=
  ⟨(h.ra.below hb).more hb.size, (h.rb.below hb).more hb.size, (h.rp.below hb).more hb.size, (h.rq.below hb).more hb.size, h.hn, h.hm, h.hk, h.hl⟩
theorem ObTy.below {w w' : World} {r : Rw} (h : ObTy w r) (hb : Below w.heap.size w w') : ObTy w' r := ⟨h.ta.below hb, h.tb.below hb, h.tp.below hb, h.tq.below hb⟩
/-- A block of another type is written. -/
theorem TyR.other {w w' : World} {e : TypeId} {A : Option Addr} {n g : Nat} (h : TyR w e A n) (hg : ∀ cs, w.heap[g]? ≠ some (.cells cs e (0, 0))) (hk : ∀ b, b ≠ g → w'.heap[b]? = w.heap[b]?) : TyR w' e A n := fun hn => by
  obtain ⟨b, o, cs, h1, h2⟩ := h hn
  exact ⟨b, o, cs, h1, (hk b (fun e => hg cs (e ▸ h2))).trans h2⟩
theorem Rd.other {w w' : World} {B sz : Nat} {e : TypeId} {A : Option Addr} {n g : Nat} {xs : List (List Value)} (h : Rd w B sz A n xs) (ht : TyR w e A n) (hg : ∀ cs, w.heap[g]? ≠ some (.cells cs e (0, 0))) (hk : ∀ b, b ≠ g → w'.heap[b]? = w.heap[b]?) : Rd w' B sz A n xs := by
  refine ⟨h.1, fun h0 => ?_⟩
  obtain ⟨g', o, he, hgB, hc⟩ := h.2 h0
  obtain ⟨b, o', cs, h1, h2⟩ := ht h0
  rw [he] at h1
  injection h1 with h1
  injection h1 with h1 _
  subst h1
  have hne : g' ≠ g := fun e => hg cs (e ▸ h2)
  refine ⟨g', o, he, hgB, fun i x hi j u hu => ?_⟩
  rw [← hc i x hi j u hu]
  simp [World.cell?, hk g' hne]
theorem ObIn.other {w w' : World} {o : Ob} {r : Rw} {g : Nat} {cs0 : Array Value} {t : TypeId} (h : ObIn w o r) (ht : ObTy w r) (hg : w.heap[g]? = some (.cells cs0 t (0, 0))) (n1 : t ≠ 123) (n2 : t ≠ 45) (n3 : t ≠ 127)
    (hk : ∀ b, b ≠ g → w'.heap[b]? = w.heap[b]?) (hz : w'.heap.size = w.heap.size) : ObIn w' o r ∧ ObTy w' r := by
  have e1 : ∀ cs, w.heap[g]? ≠ some (.cells cs 123 (0, 0)) := fun cs h => by rw [hg] at h; injection h with h; injection h with _ h _; exact n1 h
  have e2 : ∀ cs, w.heap[g]? ≠ some (.cells cs 45 (0, 0)) := fun cs h => by rw [hg] at h; injection h with h; injection h with _ h _; exact n2 h
  have e3 : ∀ cs, w.heap[g]? ≠ some (.cells cs 127 (0, 0)) := fun cs h => by rw [hg] at h; injection h with h; injection h with _ h _; exact n3 h
  refine ⟨⟨?_, ?_, ?_, ?_, h.hn, h.hm, h.hk, h.hl⟩, ⟨ht.ta.other e1 hk, ht.tb.other e2 hk, ht.tp.other e3 hk, ht.tq.other e2 hk⟩⟩
  · rw [hz]; exact Rd.other h.ra ht.ta e1 hk
  · rw [hz]; exact Rd.other h.rb ht.tb e2 hk
  · rw [hz]; exact Rd.other h.rp ht.tp e3 hk
  · rw [hz]; exact Rd.other h.rq ht.tq e2 hk
theorem heap_set_of {w : World} {g i : Nat} {u : Value} (b : Nat) (h : b ≠ g) : (w.setCell ⟨g, i, none⟩ u).heap[b]? = w.heap[b]? := heap_set_ne (p := ⟨g, i, none⟩) (fun e => h e.symm) rfl
section
variable {P : Program} {ops : Array Oper} {Q : Exit → Act → World → Prop} {md : Region.Mode} {C E : World → Prop} {m : Nat}
theorem wpM_take0d {i j k : Nat} {oi oj ok om : Oper} {v : Value} {f : Nat} {L : Array Bool} {a : Act} {w : World} (hi : ops[i]? = some oi) (hj : ops[j]? = some oj) (hk : ops[k]? = some ok) (hm : ops[m]? = some om)
    (hw : (om.after.any fun e => Region.binds md e && e.on == j) = true) (hw3 : (oj.after.any fun e => Region.binds md e && e.on == k) = true) (hw2 : (ok.after.any fun e => Region.binds md e && e.on == i) = true)
    (hs : Region.noSelect ops = true) (hf : Region.free md ops L i = true) (hr : (Region.ready md ops L).contains i = true) (him : i ≠ m)
    (hQ : ∀ c a w, Q (.panic c) (a.put oi.dst v) w → Q (.panic c) a w) (hcl : ClosedL md ops L) (hC : C w) (hE : L.getD m false = false → E w) (hy : YieldsIf P ops (fun w => C w ∧ E w) oi v a)
    (h : ClosedL md ops (L.setIfInBounds i true) → wpAnyM P md ops Q C E m f (L.setIfInBounds i true) (a.put oi.dst v) w) : wpAnyM P md ops Q C E m (f + 1) L a w := by
  refine wpAnyM_first (S := fun w => C w ∧ E w) hi (Region.noSelect_spec hs) hQ him (fun L w hcl hun hc he => ⟨hc, he ?_⟩) f L a w hcl (Region.free_spec hi hf) (by simpa using hr) hy hC hE (h (hcl.set (by simpa using hr)))
  rw [← Bool.not_eq_true]
  intro hlm
  have h2 := closedL_on hcl hk hw2 (closedL_on hcl hj hw3 (closedL_on hcl hm hw hlm))
  rcases Nat.lt_or_ge i L.size with h' | h'
  · simp [h'] at hun h2; rw [hun] at h2; cases h2
  · simp [Array.getElem?_eq_none h'] at h2
end
end Go.Proofs.YtffnpfponnhddaaGreat
