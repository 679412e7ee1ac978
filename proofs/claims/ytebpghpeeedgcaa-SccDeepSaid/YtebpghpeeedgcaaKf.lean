/- The search's memory; a thing is reached. -/
import Derived.Test.YtebpghpeeedgcaaKe
import Derived.Test.YtebpghpeeedgcaaProg
import Derived.Test.YtebpghpeeedgcaaKb
import Derived.BigRegion
import Derived.Deep.DeepCutAuto
import Derived.Deep.RegionHeld3
import Derived.Deep.LoopGhost
import Derived.Deep.QuietTactic
import Derived.BigQuiet
namespace Go.Proofs.Ytebpghpeeedgcaa
open Go.RowKit

theorem infoInt : (Try.prog.info? 3).map (fun i => (i.zero, i.size, i.bytes)) = some (some (.int .i64 0), 1, 8) := by kernel_rfl
theorem eInt : ElemInfo Try.prog 31 3 1 8 := by
  obtain ⟨i, hi, h0, h1, h2⟩ := info_parts infoInt
  exact ⟨Try.underlying31, ⟨i, _, hi, h0, h1, h2, rfl⟩, by decide⟩
theorem infoInts : (Try.prog.info? 31).map (fun i => (i.zero, i.size, i.bytes)) = some (some (.slice none 0 0), 1, 24) := by kernel_rfl
theorem eInts : ElemInfo Try.prog 22 31 1 24 := by
  obtain ⟨i, hi, h0, h1, h2⟩ := info_parts infoInts
  exact ⟨Try.underlying22, ⟨i, _, hi, h0, h1, h2, rfl⟩, by decide⟩
/-- Where the search's rows lie: no two in one block, all below the base. -/
structure Plc (base p bn bl bx bo bp : Nat) : Prop where
  d : [p, bn, bl, bx, bo, bp].Nodup
  l : p < base ∧ bn < base ∧ bl < base ∧ bx < base ∧ bo < base ∧ bp < base
/-- The search's memory. -/
structure WK (w : World) (base p bn bl bx bo bp : Nat) (A : Option Addr) (n c : Nat) (s : TS) (S K : Value) (sk : List Nat) (ps : List Rw) : Prop where
  plc : Plc base p bn bl bx bo bp
  box : w.heap[p]? = some (.cells #[.slice A n c, .slice (some ⟨bn, 0, none⟩) n n, .slice (some ⟨bl, 0, none⟩) n n, .slice (some ⟨bx, 0, none⟩) n n, .slice (some ⟨bo, 0, none⟩) n n, S, .int .i64 (s.cnt : Int), .slice (some ⟨bp, 0, none⟩) n n, K] 41 (0, 0))
  num : w.heap[bn]? = some (.cells (rowN n s.num) 3 (0, 0))
  low : w.heap[bl]? = some (.cells (rowN n s.low) 3 (0, 0))
  nxt : w.heap[bx]? = some (.cells (rowN n s.nxt) 3 (0, 0))
  opn : w.heap[bo]? = some (.cells (rowB n s.opn) 4 (0, 0))
  prt : w.heap[bp]? = some (.cells (rowN n s.prt) 3 (0, 0))
  bas : base ≤ w.heap.size
  stk : Ow w base 3 1 S (sk.map eN)
  pts : Ow w base 31 1 K (ps.map Rw.enc)
  prs : ∀ r ∈ ps, Ow w base 3 1 (.slice r.A r.l r.c) (r.xs.map eI) ∧ ∀ k, (Value.slice r.A r.l r.c).ownBlock = some k → S.ownBlock ≠ some k
  psx : ps.map Rw.xs = s.pts.map fun l => l.map Int.ofNat
theorem Plc.ne {base p bn bl bx bo bp : Nat} (h : Plc base p bn bl bx bo bp) : (p ≠ bn ∧ p ≠ bl ∧ p ≠ bx ∧ p ≠ bo ∧ p ≠ bp) ∧ (bn ≠ bl ∧ bn ≠ bx ∧ bn ≠ bo ∧ bn ≠ bp) ∧ (bl ≠ bx ∧ bl ≠ bo ∧ bl ≠ bp) ∧ (bx ≠ bo ∧ bx ≠ bp) ∧ bo ≠ bp := by
  have := h.d
  simp at this
  omega
theorem Ow.ge {w : World} {base sz k : Nat} {e : TypeId} {v : Value} {xs : List (List Value)} (h : Ow w base e sz v xs) (hk : k < base) : v.ownBlock ≠ some k := fun e1 => by have := (h.block k e1).1; omega
set_option maxRecDepth 100000 in
set_option maxHeartbeats 4000000 in
theorem reach_any (base p bn bl bx bo bp : Nat) (A : Option Addr) (n c : Nat) (s : TS) (S K : Value) (sk : List Nat) (ps : List Rw) (i : Nat) (w : World)
    (h : WK w base p bn bl bx bo bp A n c s S K sk ps) (hi : i < n) (_hn : n ≤ 100000) (hc : s.cnt ≤ 100000) (hl : sk.length ≤ 100000) :
    Calls Try.prog 30 #[.pointer (some ⟨p, 0, none⟩), .int .i64 (i : Int)] w fun e w' => e = .returned (.tuple #[]) ∧
      ∃ S', WK w' base p bn bl bx bo bp A n c { s with num := upd s.num i (s.cnt + 1), low := upd s.low i (s.cnt + 1), opn := upd s.opn i true, cnt := s.cnt + 1 } S' K (sk ++ [i]) ps ∧
        Gk (fun b => b = p ∨ b = bn ∨ b = bl ∨ b = bo ∨ S.ownBlock = some b) w w' ∧ (S'.ownBlock = S.ownBlock ∨ ∃ b, S'.ownBlock = some b ∧ w.heap.size ≤ b) := by
  obtain ⟨plc, box, num, low, nxt, opn, prt, hbase, stk, pts, prs, psx⟩ := h
  obtain ⟨⟨d1, d2, d3, d4, d5⟩, ⟨d6, d7, d8, d9⟩, ⟨e1, e2, e3⟩, ⟨e4, e5⟩, e6⟩ := plc.ne
  obtain ⟨l1, l2, l3, l4, l5, l6⟩ := plc.l
  have hwc : IntKind.i64.wrap ((s.cnt : Int) + 1) = ((s.cnt + 1 : Nat) : Int) := by rw [IntWalk.i64_in _ (by omega)]; omega
  have b0 := blk_cell box 0
  have b1 := blk_cell box 1
  have b2 := blk_cell box 2
  have b4 := blk_cell box 4
  have b5 := blk_cell box 5
  have b6 := blk_cell box 6
  simp at b0 b1 b2 b4 b5 b6
  have hfb := blk_frozen box
  have hfn := blk_frozen num
  have hfl := blk_frozen low
  have hfo := blk_frozen opn
  have hlp := blk_lt box
  have hln := blk_lt num
  have hll := blk_lt low
  have hlo := blk_lt opn
  have cn := blk_cell num i
  have cl := blk_cell low i
  have co := blk_cell opn i
  rw [rowN_at _ hi] at cn cl
  rw [rowB_at _ hi] at co
  have hii : (i : Int) < (n : Int) := by omega
  obtain ⟨SA, sc, hS, hsl, hsc, hsr⟩ := stk.form
  rw [List.length_map] at hS hsl
  subst hS
  obtain ⟨u, hu⟩ : ∃ u, (((((w.setCell ⟨p, 6, none⟩ (.int .i64 ((s.cnt : Int) + 1))).setCell ⟨bn, i, none⟩ (.int .i64 ((s.cnt : Int) + 1))).setCell ⟨bl, i, none⟩ (.int .i64 ((s.cnt : Int) + 1))).setCell ⟨bo, i, none⟩ (.bool true)).drew) = u := ⟨_, rfl⟩
  have hgu : Gk (fun b => b = p ∨ b = bn ∨ b = bl ∨ b = bo) w u := by
    rw [← hu]
    exact (((((Gk.refl _ w).set (.inl (.inl rfl)) _).set (.inl (.inr (.inl rfl))) _).set (.inl (.inr (.inr (.inl rfl)))) _).set (.inl (.inr (.inr (.inr rfl)))) _).drew
  have ub : u.heap[p]? = some (.cells #[.slice A n c, .slice (some ⟨bn, 0, none⟩) n n, .slice (some ⟨bl, 0, none⟩) n n, .slice (some ⟨bx, 0, none⟩) n n, .slice (some ⟨bo, 0, none⟩) n n, .slice SA sk.length sc, .int .i64 ((s.cnt + 1 : Nat) : Int), .slice (some ⟨bp, 0, none⟩) n n, K] 41 (0, 0)) := by
    rw [← hu]
    refine heap_drew (heap_set_ne (Ne.symm d4) (heap_set_ne (Ne.symm d2) (heap_set_ne (Ne.symm d1) ?_)))
    rw [blk_set box 6]; simp
  have un : u.heap[bn]? = some (.cells (rowN n (upd s.num i (s.cnt + 1))) 3 (0, 0)) := by
    rw [← hu]
    exact heap_drew (heap_set_ne (Ne.symm d8) (heap_set_ne (Ne.symm d6) (rowN_store (heap_set_ne d1 num) (s.cnt + 1))))
  have ul : u.heap[bl]? = some (.cells (rowN n (upd s.low i (s.cnt + 1))) 3 (0, 0)) := by
    rw [← hu]
    exact heap_drew (heap_set_ne (Ne.symm e2) (rowN_store (heap_set_ne d6 (heap_set_ne d2 low)) (s.cnt + 1)))
  have uo : u.heap[bo]? = some (.cells (rowB n (upd s.opn i true)) 4 (0, 0)) := by
    rw [← hu]
    exact heap_drew (rowB_store (heap_set_ne e2 (heap_set_ne d8 (heap_set_ne d4 opn))) true)
  have us : Ow u base 3 1 (.slice SA sk.length sc) (sk.map eN) := by
    refine hgu.ow stk fun k hk hS => ?_
    have := (stk.block k hk).1
    omega
  have hub : base ≤ u.heap.size := Nat.le_trans hbase hgu.size
  have hlu := blk_lt ub
  have v5 := blk_cell ub 5
  simp at v5
  have hzu := hgu.size
  go_enter Try.func30, Try.ntmps30
  go_wp2
  go_region
  go_upto_region 3 with (fail)
  try rw [hu]
  clear hu b0 b1 b2 b4 b5 b6 hfb hfn hfl hfo cn cl co box num low opn
  go_wp2_with (at_builtin; refine wpList_append_rd _ rfl _ _ _ rfl eInt (base := base) (v := .slice SA sk.length sc) (xs := sk.map eN) rfl (us.below ((Below.refl _ u).alloc (Nat.le_refl _) _)) rfl (Rd.one' (eN i) rfl) (by simp [eN]) (by simp [eN, Value.oneCell']) (by simp [maxLen]; omega) (by simp; omega) (by simp; omega) ?_; intro A2 n2 c2 w4 hn2 hown2 hg4 hat4; (obtain rfl : n2 = sk.length + 1 := (by rw [hn2]; simp)); clear hn2; (have hsz4 := hg4.size); (have hgr : Gk (fun b => (Value.slice SA sk.length sc).ownBlock = some b) u w4 := ((Gk.refl _ u).alloc _).grown hg4 (fun k e => .inl e)); (have hb4 := hgr.blk ub (us.ge l1)); (have hl4 := blk_lt hb4); (have hf4 := blk_frozen hb4 5); (have q5 := blk_cell hb4 5); simp at q5)
  go_end0
  have hT : Gk (fun b => b = p ∨ b = bn ∨ b = bl ∨ b = bo ∨ (Value.slice SA sk.length sc).ownBlock = some b) w (w4.setCell ⟨p, 5, none⟩ (.slice A2 (sk.length + 1) c2)) :=
    (((hgu.mono (S' := fun b => b = p ∨ b = bn ∨ b = bl ∨ b = bo ∨ (Value.slice SA sk.length sc).ownBlock = some b) (fun k _ h => by omega)).trans hgr (fun k _ h => .inr (.inr (.inr (.inr h))))).set (.inl (.inl rfl)) _)
  have hns : ∀ k, (Value.slice A2 (sk.length + 1) c2).ownBlock = some k → (Value.slice SA sk.length sc).ownBlock = some k ∨ w.heap.size ≤ k := by
    intro k hk
    rcases hat4 with h1 | h1
    · exact .inl (h1.symm.trans hk)
    · rw [h1] at hk
      injection hk with hk
      right; have := hgu.size; simp at hk; omega
  refine ⟨rfl, .slice A2 (sk.length + 1) c2, ⟨plc, ?_, ?_, ?_, ?_, ?_, ?_, ?_, ?_, ?_, ?_, psx⟩, hT, ?_⟩
  · rw [blk_set hb4 5]; simp
  · exact heap_set_ne d1 (hgr.blk un (us.ge l2))
  · exact heap_set_ne d2 (hgr.blk ul (us.ge l3))
  · exact heap_set_ne d3 (hgr.blk (hgu.blk nxt (by omega)) (us.ge l4))
  · exact heap_set_ne d4 (hgr.blk uo (us.ge l5))
  · exact heap_set_ne d5 (hgr.blk (hgu.blk prt (by omega)) (us.ge l6))
  · exact Nat.le_trans hbase hT.size
  · rw [List.map_append]
    exact hown2.setCell (a := ⟨p, 5, none⟩) l1 _
  · refine hT.ow pts fun k hk hS => ?_
    have h1 := (pts.block k hk).1
    rcases hS with h2 | h2 | h2 | h2 | h2
    · omega
    · omega
    · omega
    · omega
    · exact stk.ne_own pts (by decide) h2 hk
  · intro r hr
    obtain ⟨h1, h2⟩ := prs r hr
    refine ⟨hT.ow h1 fun k hk hS => ?_, fun k hk h6 => ?_⟩
    · have h3 := (h1.block k hk).1
      rcases hS with h6 | h6 | h6 | h6 | h6
      · omega
      · omega
      · omega
      · omega
      · exact h2 k hk h6
    · have h3 := (h1.block k hk).2
      rcases hns _ h6 with h7 | h7
      · exact h2 k hk h7
      · omega
  · rcases hat4 with h1 | h1
    · exact .inl h1
    · exact .inr ⟨_, h1, by have := hgu.size; simp; omega⟩
end Go.Proofs.Ytebpghpeeedgcaa
