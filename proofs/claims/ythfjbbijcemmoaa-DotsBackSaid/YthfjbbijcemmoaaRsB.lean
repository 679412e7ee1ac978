/- The program's reader: what it holds, Fail. -/
import Derived.Test.YthfjbbijcemmoaaRsA
namespace Go.Proofs.Ythfjbbijcemmoaa
open Go.RowKit

/-- What an error's value says: nothing, or a fault at a place. -/
def ErrP (w : World) (ev : Value) (fa fe : Int) : Prop :=
  (fe = 0 ∧ ev = .nilIface) ∨ (fe ≠ 0 ∧ ∃ F, ev = .iface 128 (.pointer (some ⟨F, 0, none⟩)) ∧ w.heap[F]? = some (.cells #[.int .i64 fa, .iface 27 (.int .i64 fe)] 130 (0, 0)))
/-- Block B holds the program's reader in the state S. -/
def RdrP (w : World) (B : Nat) (S : Rs) : Prop :=
  ∃ ev, w.heap[B]? = some (.cells #[.string (bs S.l), .int .i64 (S.a : Int), ev] 102 (0, 0)) ∧ ErrP w ev S.fa S.fe
theorem ErrP.mono {w w' : World} {ev : Value} {fa fe : Int} (h : ErrP w ev fa fe) (hk : ∀ (F : Nat) (cs : Array Value), w.heap[F]? = some (Obj.cells cs 130 (0, 0)) → w'.heap[F]? = w.heap[F]?) : ErrP w' ev fa fe := by
  rcases h with h | ⟨hne, F, he, hb⟩
  · exact .inl h
  · exact .inr ⟨hne, F, he, (hk F _ hb).trans hb⟩
theorem ErrP.below {w w' : World} {ev : Value} {fa fe : Int} (h : ErrP w ev fa fe) (hb : Below w.heap.size w w') : ErrP w' ev fa fe := ErrP.mono h fun F _ hF => hb.block F (blk_lt hF)
/-- What turns another block than a fault leaves an error. -/
theorem ErrP.grown {w w' : World} {ev : Value} {fa fe : Int} {row : Option Nat} (h : ErrP w ev fa fe) (hg : w.grownBy w' row) (hr : ∀ g cs, row = some g → w.heap[g]? ≠ some (.cells cs 130 (0, 0))) : ErrP w' ev fa fe :=
  ErrP.mono h fun F cs hF => hg.block F (blk_lt hF) (fun e => hr F cs e.symm hF)
theorem RdrP.below {w w' : World} {B : Nat} {S : Rs} (h : RdrP w B S) (hb : Below w.heap.size w w') : RdrP w' B S := by
  obtain ⟨ev, h1, h2⟩ := h
  exact ⟨ev, blk_below h1 hb, h2.below hb⟩
theorem RdrP.lt {w : World} {B : Nat} {S : Rs} (h : RdrP w B S) : B < w.heap.size := by obtain ⟨_, h1, _⟩ := h; exact blk_lt h1
/-- A block of another type turns: the reader stays. -/
theorem RdrP.grown {w w' : World} {B : Nat} {S : Rs} {row : Option Nat} (h : RdrP w B S) (hg : w.grownBy w' row)
    (hr : ∀ g cs t, row = some g → w.heap[g]? = some (.cells cs t (0, 0)) → t ≠ 130 ∧ t ≠ 102) : RdrP w' B S := by
  obtain ⟨ev, h1, h2⟩ := h
  refine ⟨ev, (hg.block B (blk_lt h1) (fun e => (hr B _ _ e.symm h1).2 rfl)).trans h1, h2.grown hg (fun g cs e he => (hr g cs _ e he).1 rfl)⟩
set_option maxRecDepth 100000 in
theorem pfail_any (B : Nat) (S : Rs) (e : Int) (w : World) (h : RdrP w B S) :
    Calls Try.prog 87 #[.pointer (some ⟨B, 0, none⟩), .int .i64 e] w fun r w' => r = .returned (.tuple #[]) ∧ RdrP w' B (failS S e) ∧ w.grownBy w' (some B) := by
  obtain ⟨ev, hb, he⟩ := h
  have hlt := blk_lt hb
  have q0 := blk_cell hb 0
  have q1 := blk_cell hb 1
  have q2 := blk_cell hb 2
  have hfr := blk_frozen hb
  simp at q0 q1 q2
  generalize hS' : failS S e = S'
  unfold failS at hS'
  rcases he with ⟨h0, rfl⟩ | ⟨h0, F, rfl, hF⟩
  · by_cases hez : e = 0
    · subst hez
      rw [if_neg (by simp)] at hS'
      subst hS'
      have hfin : Hid (RdrP w B S) := Lib.hid ⟨_, hb, .inl ⟨h0, rfl⟩⟩
      clear hb h0
      go_enter Try.func87, Try.ntmps87
      go_wp2
      exact bodyPost_end (v := .tuple #[]) (by simp [results, Try.results87, go_sem]) rfl ⟨rfl, hfin.out, World.grownBy.refl _ _⟩
    · rw [if_pos ⟨h0, hez⟩] at hS'
      subst hS'
      have hen : (e == 0) = false := by simpa using hez
      have hen2 : (e != 0) = true := by simpa using hez
      have hbH := Lib.hid hb
      have hezH := Lib.hid hez
      clear hb h0 hez
      go_enter Try.func87, Try.ntmps87
      go_wp2
      refine bodyPost_end (v := .tuple #[]) (by simp [results, Try.results87, go_sem]) rfl ⟨rfl, ⟨_, heap_old _ (by simpa using hlt) ?_, .inr ⟨hezH.out, w.heap.size, rfl, heap_at _ _ (by simp)⟩⟩, ?_⟩
      · rw [blk_set hbH.out]; rfl
      · exact (gr_set (World.grownBy.refl w _) 2 _).trans (World.grownBy_alloc _ _ _)
  · rw [if_neg (fun hh => h0 hh.1)] at hS'
    subst hS'
    have hfin : Hid (RdrP w B S) := Lib.hid ⟨_, hb, .inr ⟨h0, F, rfl, hF⟩⟩
    clear hb h0 hF
    go_enter Try.func87, Try.ntmps87
    go_wp2
    exact bodyPost_end (v := .tuple #[]) (by simp [results, Try.results87, go_sem]) rfl ⟨rfl, hfin.out, World.grownBy.refl _ _⟩
end Go.Proofs.Ythfjbbijcemmoaa
