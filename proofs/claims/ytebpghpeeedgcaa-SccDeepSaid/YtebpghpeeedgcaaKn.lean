/- The search's memory kept; what the lists say; the path's row. -/
import Derived.Test.YtebpghpeeedgcaaKh
import Derived.Test.YtebpghpeeedgcaaKi
import Derived.WalkMore
namespace Go.Proofs.Ytebpghpeeedgcaa
open Go.RowKit

/-- Who each comes behind, as the slices say. -/
structure Bh (w : World) (B : Nat) (A : Option Addr) (n : Nat) (rs : List Rw) (g : Gr) : Prop where
  rd : RdG w B A n rs
  xs : rs.map Rw.xs = g.map fun l => l.map Int.ofNat
  ok : Gok g
  max : ∀ r ∈ rs, r.l ≤ 100000
section
variable {w w' : World} {B n : Nat} {A : Option Addr} {rs : List Rw} {g : Gr}
theorem Bh.len (h : Bh w B A n rs g) : g.length = n := by
  have h1 := congrArg List.length h.xs
  rw [List.length_map, List.length_map] at h1
  have h2 := h.rd.len
  omega
theorem Bh.below (h : Bh w B A n rs g) (hb : Below B w w') : Bh w' B A n rs g := ⟨h.rd.below hb, h.xs, h.ok, h.max⟩
theorem Bh.row (h : Bh w B A n rs g) {i : Nat} (hi : i < n) : ∃ (b o : Nat) (r : Rw), A = some ⟨b, o, none⟩ ∧ b < B ∧ w.cell? ⟨b, o + i, none⟩ = some (.slice r.A r.l r.c) ∧ r.l = (sucs g i).length ∧ r.l ≤ 100000 ∧
    ∀ (j k : Nat), (sucs g i)[j]? = some k → ∃ b2 o2, r.A = some ⟨b2, o2, none⟩ ∧ b2 < B ∧ w.cell? ⟨b2, o2 + j, none⟩ = some (.int .i64 (k : Int)) := by
  obtain ⟨b, o, r, e, hb, hr, hc, hok⟩ := h.rd.at_ hi
  have hx : r.xs = (sucs g i).map Int.ofNat := by
    have h1 : (rs.map Rw.xs)[i]? = some r.xs := by rw [List.getElem?_map, hr]; rfl
    rw [h.xs, List.getElem?_map] at h1
    obtain ⟨l, h2, h3⟩ := Option.map_eq_some_iff.1 h1
    rw [← h3]
    unfold sucs
    rw [List.getD_eq_getElem?_getD, h2]; rfl
  have hl : r.l = (sucs g i).length := by rw [← hok.len, hx, List.length_map]
  refine ⟨b, o, r, e, hb, hc, hl, h.max r (List.mem_of_getElem? hr), fun j k hk => ?_⟩
  have hj := (List.getElem?_eq_some_iff.1 hk).1
  obtain ⟨b2, o2, v, e2, hb2, hv, hc2⟩ := hok.at_ (k := j) (by omega)
  rw [hx, List.getElem?_map, hk] at hv
  obtain rfl : Int.ofNat k = v := by simpa using hv
  exact ⟨b2, o2, e2, hb2, hc2⟩
end
section
variable {w w' : World} {base p bn bl bx bo bp : Nat} {A : Option Addr} {n c : Nat} {s : TS} {S K : Value} {sk : List Nat} {ps : List Rw}
theorem WK.kept (h : WK w base p bn bl bx bo bp A n c s S K sk ps) {T : Nat → Prop} (hg : Gk T w w') (hT : ∀ k, T k → base ≤ k ∧ S.ownBlock ≠ some k ∧ K.ownBlock ≠ some k ∧ ∀ r ∈ ps, (Value.slice r.A r.l r.c).ownBlock ≠ some k) : WK w' base p bn bl bx bo bp A n c s S K sk ps := by
  obtain ⟨l1, l2, l3, l4, l5, l6⟩ := h.plc.l
  have hno : ∀ k, k < base → ¬ T k := fun k hk ht => by have := (hT k ht).1; omega
  exact ⟨h.plc, hg.blk h.box (hno _ l1), hg.blk h.num (hno _ l2), hg.blk h.low (hno _ l3), hg.blk h.nxt (hno _ l4), hg.blk h.opn (hno _ l5), hg.blk h.prt (hno _ l6), Nat.le_trans h.bas hg.size,
    hg.ow h.stk fun k hk ht => (hT k ht).2.1 hk, hg.ow h.pts fun k hk ht => (hT k ht).2.2.1 hk, fun r hr => ⟨hg.ow (h.prs r hr).1 fun k hk ht => (hT k ht).2.2.2 r hr hk, (h.prs r hr).2⟩, h.psx⟩
theorem WK.below (h : WK w base p bn bl bx bo bp A n c s S K sk ps) (hb : Below w.heap.size w w') : WK w' base p bn bl bx bo bp A n c s S K sk ps := h.kept (T := fun _ => False) (Gk.of_below hb _) fun _ h => h.elim
/-- A store into one of the search's rows. -/
theorem WK.setNxt (h : WK w base p bn bl bx bo bp A n c s S K sk ps) (i v : Nat) : WK (w.setCell ⟨bx, i, none⟩ (.int .i64 (v : Int))) base p bn bl bx bo bp A n c { s with nxt := upd s.nxt i v } S K sk ps := by
  obtain ⟨l1, l2, l3, l4, l5, l6⟩ := h.plc.l
  obtain ⟨⟨d1, d2, d3, d4, d5⟩, ⟨d6, d7, d8, d9⟩, ⟨e1, e2, e3⟩, ⟨e4, e5⟩, e6⟩ := h.plc.ne
  exact ⟨h.plc, heap_set_ne (Ne.symm d3) h.box, heap_set_ne (Ne.symm d7) h.num, heap_set_ne (Ne.symm e1) h.low, rowN_store h.nxt v, heap_set_ne e4 h.opn, heap_set_ne e5 h.prt, by have := h.bas; simpa using this,
    h.stk.setCell (a := ⟨bx, i, none⟩) l4 _, h.pts.setCell (a := ⟨bx, i, none⟩) l4 _, fun r hr => ⟨(h.prs r hr).1.setCell (a := ⟨bx, i, none⟩) l4 _, (h.prs r hr).2⟩, h.psx⟩
theorem WK.setLow (h : WK w base p bn bl bx bo bp A n c s S K sk ps) (i v : Nat) : WK (w.setCell ⟨bl, i, none⟩ (.int .i64 (v : Int))) base p bn bl bx bo bp A n c { s with low := upd s.low i v } S K sk ps := by
  obtain ⟨l1, l2, l3, l4, l5, l6⟩ := h.plc.l
  obtain ⟨⟨d1, d2, d3, d4, d5⟩, ⟨d6, d7, d8, d9⟩, ⟨e1, e2, e3⟩, ⟨e4, e5⟩, e6⟩ := h.plc.ne
  exact ⟨h.plc, heap_set_ne (Ne.symm d2) h.box, heap_set_ne (Ne.symm d6) h.num, rowN_store h.low v, heap_set_ne e1 h.nxt, heap_set_ne e2 h.opn, heap_set_ne e3 h.prt, by have := h.bas; simpa using this,
    h.stk.setCell (a := ⟨bl, i, none⟩) l3 _, h.pts.setCell (a := ⟨bl, i, none⟩) l3 _, fun r hr => ⟨(h.prs r hr).1.setCell (a := ⟨bl, i, none⟩) l3 _, (h.prs r hr).2⟩, h.psx⟩
end
theorem below_drK {w : World} {B : Nat} {v : World} (h : Below B v w) (n : Nat) : Below B v (w.drewN n) := h.trans ⟨rfl, rfl, rfl, Nat.le_refl _, fun _ _ => rfl⟩
/-- The path's row. -/
structure PathOk (w : World) (base : Nat) (P : Value) (ss : List (Nat × List Nat)) (S : Value) (ps : List Rw) : Prop where
  own : Ow w base 3 1 P ((ss.map Prod.fst).reverse.map eN)
  nes : ∀ k, P.ownBlock = some k → S.ownBlock ≠ some k
  nep : ∀ r ∈ ps, ∀ k, P.ownBlock = some k → (Value.slice r.A r.l r.c).ownBlock ≠ some k
theorem PathOk.kept {w w' : World} {base : Nat} {P S : Value} {ss : List (Nat × List Nat)} {ps : List Rw} {T : Nat → Prop} (h : PathOk w base P ss S ps) (hg : Gk T w w') (hT : ∀ k, T k → k < base ∨ S.ownBlock = some k ∨ P.ownBlock ≠ some k) : PathOk w' base P ss S ps :=
  ⟨hg.ow h.own fun k hk hS => by
    have h1 := (h.own.block k hk).1
    rcases hT k hS with h2 | h2 | h2
    · omega
    · exact h.nes k hk h2
    · exact h2 hk, h.nes, h.nep⟩
theorem flat_ge : ∀ (ss : List (Nat × List Nat)), ss.length ≤ (flat ss).length
  | [] => Nat.le_refl _
  | p :: r => by
    have := flat_ge r
    rw [flat, List.length_append, List.length_cons, List.length_cons]
    omega
/-- What the search from a thing leaves. -/
def FrP (base p bn bl bx bo bp B0 : Nat) (A : Option Addr) (n c : Nat) (g : Gr) (root : Nat) (f : Nat → Nat) (w w' : World) : Prop :=
  ∃ (s' : TS) (S' K' : Value) (ps' : List Rw), WK w' base p bn bl bx bo bp A n c s' S' K' [] ps' ∧ Inv g s' [] ∧ Cnt n s' [] ∧ 0 < s'.num root ∧ (∀ x, 0 < f x → 0 < s'.num x) ∧ Below B0 w w'
end Go.Proofs.Ytebpghpeeedgcaa
