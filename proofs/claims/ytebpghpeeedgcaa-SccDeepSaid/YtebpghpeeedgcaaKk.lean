/- The search: all its rows, and each thing that was not reached yet. -/
import Derived.Test.YtebpghpeeedgcaaKj
import Derived.Test.YtebpghpeeedgcaaGb
namespace Go.Proofs.Ytebpghpeeedgcaa
open Go.RowKit

def MkI (w0 w : World) (v : Value) (n : Nat) : Prop := ∃ b, v = .slice (some ⟨b, 0, none⟩) n n ∧ w0.heap.size ≤ b ∧ w.heap[b]? = some (.cells (rowN n fun _ => 0) 3 (0, 0))
def MkB (w0 w : World) (v : Value) (n : Nat) : Prop := ∃ b, v = .slice (some ⟨b, 0, none⟩) n n ∧ w0.heap.size ≤ b ∧ w.heap[b]? = some (.cells (rowB n fun _ => false) 4 (0, 0))
theorem MkI.below {w0 w w' : World} {v : Value} {n : Nat} (h : MkI w0 w v n) (hb : Below w.heap.size w w') : MkI w0 w' v n := by
  obtain ⟨b, h1, h2, h3⟩ := h
  exact ⟨b, h1, h2, blk_below h3 hb⟩
theorem MkB.below {w0 w w' : World} {v : Value} {n : Nat} (h : MkB w0 w v n) (hb : Below w.heap.size w w') : MkB w0 w' v n := by
  obtain ⟨b, h1, h2, h3⟩ := h
  exact ⟨b, h1, h2, blk_below h3 hb⟩
theorem MkI.lt {w0 w : World} {v : Value} {n : Nat} (h : MkI w0 w v n) : ∀ k, v.ownBlock = some k → k < w.heap.size := by
  obtain ⟨b, rfl, h2, h3⟩ := h
  intro k hk
  obtain rfl : b = k := Option.some.inj hk
  exact blk_lt h3
theorem MkB.lt {w0 w : World} {v : Value} {n : Nat} (h : MkB w0 w v n) : ∀ k, v.ownBlock = some k → k < w.heap.size := by
  obtain ⟨b, rfl, h2, h3⟩ := h
  intro k hk
  obtain rfl : b = k := Option.some.inj hk
  exact blk_lt h3
theorem getD_bothF {L : Array Bool} {i : Nat} (h : L.getD i true = false) : L.getD i false = false := by
  rcases Nat.lt_or_ge i L.size with h' | h'
  · simp [h'] at h ⊢; exact h
  · simp [Array.getElem?_eq_none h'] at h
theorem made_rowN (n : Nat) : madeCells #[.int .i64 0] n = rowN n fun _ => 0 := by
  apply Array.ext_getElem?
  intro k
  by_cases hk : k < n
  · rw [rowN_at _ hk]; simp [madeCells, hk, Nat.mod_one]
  · simp [madeCells, rowN, hk]
theorem made_rowB (n : Nat) : madeCells #[.bool false] n = rowB n fun _ => false := by
  apply Array.ext_getElem?
  intro k
  by_cases hk : k < n
  · rw [rowB_at _ hk]; simp [madeCells, hk, Nat.mod_one]
  · simp [madeCells, rowB, hk]
theorem infoBool : (Try.prog.info? 4).map (fun i => (i.zero, i.size, i.bytes)) = some (some (.bool false), 1, 1) := by kernel_rfl
theorem make_int (n : Nat) (hn : n ≤ 100000) (w : World) : (Instr.makeSlice 31 (.int .i64 (n : Int)) (.int .i64 (n : Int))).run Try.prog w = .ok (.slice (some ⟨w.heap.size, 0, none⟩) n n) (w.alloc (.cells (rowN n fun _ => 0) 3)) := by
  obtain ⟨i, hi, h0, h1, h2⟩ := info_parts infoInt
  have h := run_makeSlice (P := Try.prog) (w := w) 31 3 i _ Try.underlying31 hi h0 .i64 .i64 n n (by omega) (Int.le_refl _) (by rw [h1]; simp; omega) (by rw [h2]; omega) (by omega)
  rw [h1, Int.toNat_natCast, Nat.mul_one] at h
  rw [h, show (Value.int IntKind.i64 0).cells = #[.int .i64 0] from rfl, made_rowN]
theorem make_bool (n : Nat) (hn : n ≤ 100000) (w : World) : (Instr.makeSlice 23 (.int .i64 (n : Int)) (.int .i64 (n : Int))).run Try.prog w = .ok (.slice (some ⟨w.heap.size, 0, none⟩) n n) (w.alloc (.cells (rowB n fun _ => false) 4)) := by
  obtain ⟨i, hi, h0, h1, h2⟩ := info_parts infoBool
  have h := run_makeSlice (P := Try.prog) (w := w) 23 4 i _ Try.underlying23 hi h0 .i64 .i64 n n (by omega) (Int.le_refl _) (by rw [h1]; simp; omega) (by rw [h2]; omega) (by omega)
  rw [h1, Int.toNat_natCast, Nat.mul_one] at h
  rw [h, show (Value.bool false).cells = #[.bool false] from rfl, made_rowB]
def NeO (u v : Value) : Prop := ∀ k, u.ownBlock = some k → v.ownBlock ≠ some k
theorem NeO.symm {u v : Value} (h : NeO u v) : NeO v u := fun k hk hk2 => h k hk2 hk
/-- What has run of the region that makes the rows. -/
structure JF (w0 : World) (A : Option Addr) (n c : Nat) (l0 l1 l2 l3 l4 l5 l6 l7 l8 l9 l10 l11 l12 l13 : Bool) (v0 v1 v2 v3 v4 v5 v6 v7 v8 v9 v10 v11 v12 v13 : Value) (w : World) : Prop where
  kq : Below w0.heap.size w0 w
  f0 : l0 = true → v0 = .slice A n c
  f1 : l1 = true → v1 = .int .i64 (n : Int)
  f3 : l3 = true → v3 = .int .i64 (n : Int)
  f5 : l5 = true → v5 = .int .i64 (n : Int)
  f7 : l7 = true → v7 = .int .i64 (n : Int)
  f9 : l9 = true → v9 = .int .i64 (n : Int)
  f2 : l2 = true → MkI w0 w v2 n
  f4 : l4 = true → MkI w0 w v4 n
  f6 : l6 = true → MkI w0 w v6 n
  f8 : l8 = true → MkB w0 w v8 n
  f10 : l10 = true → MkI w0 w v10 n
  d2_4 : l2 = true → l4 = true → NeO v2 v4
  d2_6 : l2 = true → l6 = true → NeO v2 v6
  d2_8 : l2 = true → l8 = true → NeO v2 v8
  d2_10 : l2 = true → l10 = true → NeO v2 v10
  d4_6 : l4 = true → l6 = true → NeO v4 v6
  d4_8 : l4 = true → l8 = true → NeO v4 v8
  d4_10 : l4 = true → l10 = true → NeO v4 v10
  d6_8 : l6 = true → l8 = true → NeO v6 v8
  d6_10 : l6 = true → l10 = true → NeO v6 v10
  d8_10 : l8 = true → l10 = true → NeO v8 v10
  f11 : l11 = true → v11 = .agg #[v0, v2, v4, v6, v8, .slice none 0 0, .int .i64 0, v10, .slice none 0 0]
  f12 : l12 = true → ∃ p, v12 = .pointer (some ⟨p, 0, none⟩) ∧ w0.heap.size ≤ p ∧ w.heap[p]? = some (.cells #[v0, v2, v4, v6, v8, .slice none 0 0, .int .i64 0, v10, .slice none 0 0] 41 (0, 0)) ∧ v2.ownBlock ≠ some p ∧ v4.ownBlock ≠ some p ∧ v6.ownBlock ≠ some p ∧ v8.ownBlock ≠ some p ∧ v10.ownBlock ≠ some p
  f13 : l13 = true → v13 = v12
theorem JF.below {w0 w w' : World} {A : Option Addr} {n c : Nat} {l0 l1 l2 l3 l4 l5 l6 l7 l8 l9 l10 l11 l12 l13 : Bool} {v0 v1 v2 v3 v4 v5 v6 v7 v8 v9 v10 v11 v12 v13 : Value} (h : JF w0 A n c l0 l1 l2 l3 l4 l5 l6 l7 l8 l9 l10 l11 l12 l13 v0 v1 v2 v3 v4 v5 v6 v7 v8 v9 v10 v11 v12 v13 w) (hb : Below w.heap.size w w') : JF w0 A n c l0 l1 l2 l3 l4 l5 l6 l7 l8 l9 l10 l11 l12 l13 v0 v1 v2 v3 v4 v5 v6 v7 v8 v9 v10 v11 v12 v13 w' :=
  ⟨h.kq.trans (hb.mono h.kq.size), h.f0, h.f1, h.f3, h.f5, h.f7, h.f9, fun e => (h.f2 e).below hb, fun e => (h.f4 e).below hb, fun e => (h.f6 e).below hb, fun e => (h.f8 e).below hb, fun e => (h.f10 e).below hb, h.d2_4, h.d2_6, h.d2_8, h.d2_10, h.d4_6, h.d4_8, h.d4_10, h.d6_8, h.d6_10, h.d8_10, h.f11, fun e => (by obtain ⟨p, h1, h2, h3, h4⟩ := h.f12 e; exact ⟨p, h1, h2, blk_below h3 hb, h4⟩), h.f13⟩
def FdP (A : Option Addr) (n c : Nat) (g : Gr) (w : World) (e : Ending) (w' : World) : Prop :=
  ∃ (base p bn bl bx bo bp : Nat) (s : TS) (S K : Value) (ps : List Rw), e = .returned (.pointer (some ⟨p, 0, none⟩)) ∧ WK w' base p bn bl bx bo bp A n c s S K [] ps ∧ Inv g s [] ∧ Cnt n s [] ∧ (∀ x, x < n → 0 < s.num x) ∧ w.heap.size ≤ p ∧ Below w.heap.size w w'
set_option maxRecDepth 100000 in
set_option maxHeartbeats 8000000 in
theorem find_any (A : Option Addr) (n c : Nat) (g : Gr) (rs : List Rw) (w : World) (hB : Bh w w.heap.size A n rs g) (hn : n ≤ 2000) :
    Calls Try.prog 16 #[.slice A n c] w fun e w' => FdP A n c g w e w' := by
  have hBH := Lib.hid hB
  clear hB
  go_enter Try.func16, Try.ntmps16
  go_wp2
  go_cut [4] (fun s4 wx => ∃ p bn bl bx bo bp, s4 = .pointer (some ⟨p, 0, none⟩) ∧ [p, bn, bl, bx, bo, bp].Nodup ∧ w.heap.size ≤ p ∧ w.heap.size ≤ bn ∧ w.heap.size ≤ bl ∧ w.heap.size ≤ bx ∧ w.heap.size ≤ bo ∧ w.heap.size ≤ bp ∧
    wx.heap[p]? = some (.cells #[.slice A n c, .slice (some ⟨bn, 0, none⟩) n n, .slice (some ⟨bl, 0, none⟩) n n, .slice (some ⟨bx, 0, none⟩) n n, .slice (some ⟨bo, 0, none⟩) n n, .slice none 0 0, .int .i64 0, .slice (some ⟨bp, 0, none⟩) n n, .slice none 0 0] 41 (0, 0)) ∧
    wx.heap[bn]? = some (.cells (rowN n fun _ => 0) 3 (0, 0)) ∧ wx.heap[bl]? = some (.cells (rowN n fun _ => 0) 3 (0, 0)) ∧ wx.heap[bx]? = some (.cells (rowN n fun _ => 0) 3 (0, 0)) ∧ wx.heap[bo]? = some (.cells (rowB n fun _ => false) 4 (0, 0)) ∧ wx.heap[bp]? = some (.cells (rowN n fun _ => 0) 3 (0, 0)) ∧ Below w.heap.size w wx)
  case first =>
    refine wp_region_Ja (fun a0 L a' w' => ∃ v0 v1 v2 v3 v4 v5 v6 v7 v8 v9 v10 v11 v12 v13, a' = ((((((((((((((a0.put (some 8) v0).put (some 9) v1).put (some 10) v2).put (some 11) v3).put (some 12) v4).put (some 13) v5).put (some 14) v6).put (some 15) v7).put (some 16) v8).put (some 17) v9).put (some 18) v10).put (some 19) v11).put (some 20) v12).put (some 4) v13) ∧ L.size = 14 ∧ JF w A n c (L.getD 0 false) (L.getD 1 false) (L.getD 2 false) (L.getD 3 false) (L.getD 4 false) (L.getD 5 false) (L.getD 6 false) (L.getD 7 false) (L.getD 8 false) (L.getD 9 false) (L.getD 10 false) (L.getD 11 false) (L.getD 12 false) (L.getD 13 false) v0 v1 v2 v3 v4 v5 v6 v7 v8 v9 v10 v11 v12 v13 w') (by kernel_rfl) ?_ ?_ ?_
    · refine ⟨_, _, _, _, _, _, _, _, _, _, _, _, _, _, by simp only [Act.put, List.setIfInBounds_toArray, List.set_cons_zero, List.set_cons_succ]; rfl, rfl, ⟨(Below.refl _ _).drew, ?_, ?_, ?_, ?_, ?_, ?_, ?_, ?_, ?_, ?_, ?_, ?_, ?_, ?_, ?_, ?_, ?_, ?_, ?_, ?_, ?_, ?_, ?_, ?_⟩⟩ <;> intro h <;> cases h
    · rintro L a' w' ⟨v0, v1, v2, v3, v4, v5, v6, v7, v8, v9, v10, v11, v12, v13, rfl, hsz, hJ⟩ hcl hr
      have hall := ready_nil hcl (by decide) hr hsz
      rw [hall 0 (by decide), hall 1 (by decide), hall 2 (by decide), hall 3 (by decide), hall 4 (by decide), hall 5 (by decide), hall 6 (by decide), hall 7 (by decide), hall 8 (by decide), hall 9 (by decide), hall 10 (by decide), hall 11 (by decide), hall 12 (by decide), hall 13 (by decide)] at hJ
      obtain ⟨bn, rfl, g1, h1⟩ := hJ.f2 rfl
      obtain ⟨bl, rfl, g2, h2⟩ := hJ.f4 rfl
      obtain ⟨bx, rfl, g3, h3⟩ := hJ.f6 rfl
      obtain ⟨bo, rfl, g4, h4⟩ := hJ.f8 rfl
      obtain ⟨bp, rfl, g5, h5⟩ := hJ.f10 rfl
      obtain ⟨p, rfl, g6, h6, k1, k2, k3, k4, k5⟩ := hJ.f12 rfl
      obtain rfl := hJ.f13 rfl
      obtain rfl := hJ.f0 rfl
      have m24 : bn ≠ bl := fun e => hJ.d2_4 rfl rfl bn rfl (by rw [e]; rfl)
      have m26 : bn ≠ bx := fun e => hJ.d2_6 rfl rfl bn rfl (by rw [e]; rfl)
      have m28 : bn ≠ bo := fun e => hJ.d2_8 rfl rfl bn rfl (by rw [e]; rfl)
      have m210 : bn ≠ bp := fun e => hJ.d2_10 rfl rfl bn rfl (by rw [e]; rfl)
      have m46 : bl ≠ bx := fun e => hJ.d4_6 rfl rfl bl rfl (by rw [e]; rfl)
      have m48 : bl ≠ bo := fun e => hJ.d4_8 rfl rfl bl rfl (by rw [e]; rfl)
      have m410 : bl ≠ bp := fun e => hJ.d4_10 rfl rfl bl rfl (by rw [e]; rfl)
      have m68 : bx ≠ bo := fun e => hJ.d6_8 rfl rfl bx rfl (by rw [e]; rfl)
      have m610 : bx ≠ bp := fun e => hJ.d6_10 rfl rfl bx rfl (by rw [e]; rfl)
      have m810 : bo ≠ bp := fun e => hJ.d8_10 rfl rfl bo rfl (by rw [e]; rfl)
      have q1 : bn ≠ p := fun e => k1 (by rw [e]; rfl)
      have q2 : bl ≠ p := fun e => k2 (by rw [e]; rfl)
      have q3 : bx ≠ p := fun e => k3 (by rw [e]; rfl)
      have q4 : bo ≠ p := fun e => k4 (by rw [e]; rfl)
      have q5 : bp ≠ p := fun e => k5 (by rw [e]; rfl)
      simp only [Act.put, List.setIfInBounds_toArray, List.set_cons_zero, List.set_cons_succ]
      have hk := hJ.kq
      go_wp2_with fail
      go_meet
      exact ⟨p, bn, bl, bx, bo, bp, rfl, by simp; omega, g6, g1, g2, g3, g4, g5, h6, h1, h2, h3, h4, h5, hk⟩
    · intro i hi
      rcases i with _ | _ | _ | _ | _ | _ | _ | _ | _ | _ | _ | _ | _ | _ | i
      · rintro L a' w' ⟨v0, v1, v2, v3, v4, v5, v6, v7, v8, v9, v10, v11, v12, v13, rfl, hsz, hJ⟩ hcl hr
        obtain ⟨hun, hpre⟩ := ready_pre hr rfl
        refine wpOp_step rfl (fun K hK => ?_)
        simp only [Act.put, List.setIfInBounds_toArray, List.set_cons_zero, List.set_cons_succ]
        go_simp
        refine hK _ _ ⟨_, v1, v2, v3, v4, v5, v6, v7, v8, v9, v10, v11, v12, v13, by simp only [Act.put, List.setIfInBounds_toArray, List.set_cons_zero, List.set_cons_succ]; rfl, by simp [hsz], ?_⟩
        rw [getD_set_same hun, getD_set_ne false (show 0 ≠ 1 by decide), getD_set_ne false (show 0 ≠ 2 by decide), getD_set_ne false (show 0 ≠ 3 by decide), getD_set_ne false (show 0 ≠ 4 by decide), getD_set_ne false (show 0 ≠ 5 by decide), getD_set_ne false (show 0 ≠ 6 by decide), getD_set_ne false (show 0 ≠ 7 by decide), getD_set_ne false (show 0 ≠ 8 by decide), getD_set_ne false (show 0 ≠ 9 by decide), getD_set_ne false (show 0 ≠ 10 by decide), getD_set_ne false (show 0 ≠ 11 by decide), getD_set_ne false (show 0 ≠ 12 by decide), getD_set_ne false (show 0 ≠ 13 by decide)]
        exact ⟨hJ.kq, fun _ => rfl, hJ.f1, hJ.f3, hJ.f5, hJ.f7, hJ.f9, hJ.f2, hJ.f4, hJ.f6, hJ.f8, hJ.f10, hJ.d2_4, hJ.d2_6, hJ.d2_8, hJ.d2_10, hJ.d4_6, hJ.d4_8, hJ.d4_10, hJ.d6_8, hJ.d6_10, hJ.d8_10, (fun h => by have := hcl 11 _ rfl h ⟨0, .data⟩ (by simp) rfl; rw [getD_bothF hun] at this; cases this), (fun h => by have h2 := hcl 12 _ rfl h ⟨11, .data⟩ (by simp) rfl; have := hcl 11 _ rfl h2 ⟨0, .data⟩ (by simp) rfl; rw [getD_bothF hun] at this; cases this), hJ.f13⟩
      · rintro L a' w' ⟨v0, v1, v2, v3, v4, v5, v6, v7, v8, v9, v10, v11, v12, v13, rfl, hsz, hJ⟩ hcl hr
        obtain ⟨hun, hpre⟩ := ready_pre hr rfl
        refine wpOp_step rfl (fun K hK => ?_)
        simp only [Act.put, List.setIfInBounds_toArray, List.set_cons_zero, List.set_cons_succ]
        go_simp
        refine hK _ _ ⟨v0, _, v2, v3, v4, v5, v6, v7, v8, v9, v10, v11, v12, v13, by simp only [Act.put, List.setIfInBounds_toArray, List.set_cons_zero, List.set_cons_succ]; rfl, by simp [hsz], ?_⟩
        rw [getD_set_same hun, getD_set_ne false (show 1 ≠ 0 by decide), getD_set_ne false (show 1 ≠ 2 by decide), getD_set_ne false (show 1 ≠ 3 by decide), getD_set_ne false (show 1 ≠ 4 by decide), getD_set_ne false (show 1 ≠ 5 by decide), getD_set_ne false (show 1 ≠ 6 by decide), getD_set_ne false (show 1 ≠ 7 by decide), getD_set_ne false (show 1 ≠ 8 by decide), getD_set_ne false (show 1 ≠ 9 by decide), getD_set_ne false (show 1 ≠ 10 by decide), getD_set_ne false (show 1 ≠ 11 by decide), getD_set_ne false (show 1 ≠ 12 by decide), getD_set_ne false (show 1 ≠ 13 by decide)]
        exact ⟨hJ.kq, hJ.f0, fun _ => rfl, hJ.f3, hJ.f5, hJ.f7, hJ.f9, hJ.f2, hJ.f4, hJ.f6, hJ.f8, hJ.f10, hJ.d2_4, hJ.d2_6, hJ.d2_8, hJ.d2_10, hJ.d4_6, hJ.d4_8, hJ.d4_10, hJ.d6_8, hJ.d6_10, hJ.d8_10, hJ.f11, hJ.f12, hJ.f13⟩
      · rintro L a' w' ⟨v0, v1, v2, v3, v4, v5, v6, v7, v8, v9, v10, v11, v12, v13, rfl, hsz, hJ⟩ hcl hr
        obtain ⟨hun, hpre⟩ := ready_pre hr rfl
        refine wpOp_step rfl (fun K hK => ?_)
        simp only [Act.put, List.setIfInBounds_toArray, List.set_cons_zero, List.set_cons_succ]
        have e1 := hJ.f1 (hpre ⟨1, .data⟩ (by simp) rfl)
        obtain rfl := e1
        have hmk := make_int n (by omega)
        go_simp
        have hJ' := hJ.below ((Below.refl _ w').alloc (Nat.le_refl _) (.cells (rowN n fun _ => 0) 3))
        refine hK _ _ ⟨v0, _, _, v3, v4, v5, v6, v7, v8, v9, v10, v11, v12, v13, by simp only [Act.put, List.setIfInBounds_toArray, List.set_cons_zero, List.set_cons_succ]; rfl, by simp [hsz], ?_⟩
        rw [getD_set_same hun, getD_set_ne false (show 2 ≠ 0 by decide), getD_set_ne false (show 2 ≠ 1 by decide), getD_set_ne false (show 2 ≠ 3 by decide), getD_set_ne false (show 2 ≠ 4 by decide), getD_set_ne false (show 2 ≠ 5 by decide), getD_set_ne false (show 2 ≠ 6 by decide), getD_set_ne false (show 2 ≠ 7 by decide), getD_set_ne false (show 2 ≠ 8 by decide), getD_set_ne false (show 2 ≠ 9 by decide), getD_set_ne false (show 2 ≠ 10 by decide), getD_set_ne false (show 2 ≠ 11 by decide), getD_set_ne false (show 2 ≠ 12 by decide), getD_set_ne false (show 2 ≠ 13 by decide)]
        exact ⟨hJ'.kq, hJ'.f0, hJ'.f1, hJ'.f3, hJ'.f5, hJ'.f7, hJ'.f9, fun _ => ⟨_, rfl, hJ.kq.size, heap_at _ _ rfl⟩, hJ'.f4, hJ'.f6, hJ'.f8, hJ'.f10, fun _ e2 k hk hk2 => by have h1 := (hJ.f4 e2).lt k hk2; obtain rfl : w'.heap.size = k := Option.some.inj hk; omega, fun _ e2 k hk hk2 => by have h1 := (hJ.f6 e2).lt k hk2; obtain rfl : w'.heap.size = k := Option.some.inj hk; omega, fun _ e2 k hk hk2 => by have h1 := (hJ.f8 e2).lt k hk2; obtain rfl : w'.heap.size = k := Option.some.inj hk; omega, fun _ e2 k hk hk2 => by have h1 := (hJ.f10 e2).lt k hk2; obtain rfl : w'.heap.size = k := Option.some.inj hk; omega, hJ'.d4_6, hJ'.d4_8, hJ'.d4_10, hJ'.d6_8, hJ'.d6_10, hJ'.d8_10, (fun h => by have := hcl 11 _ rfl h ⟨2, .data⟩ (by simp) rfl; rw [getD_bothF hun] at this; cases this), (fun h => by have h2 := hcl 12 _ rfl h ⟨11, .data⟩ (by simp) rfl; have := hcl 11 _ rfl h2 ⟨2, .data⟩ (by simp) rfl; rw [getD_bothF hun] at this; cases this), hJ'.f13⟩
      · rintro L a' w' ⟨v0, v1, v2, v3, v4, v5, v6, v7, v8, v9, v10, v11, v12, v13, rfl, hsz, hJ⟩ hcl hr
        obtain ⟨hun, hpre⟩ := ready_pre hr rfl
        refine wpOp_step rfl (fun K hK => ?_)
        simp only [Act.put, List.setIfInBounds_toArray, List.set_cons_zero, List.set_cons_succ]
        go_simp
        refine hK _ _ ⟨v0, v1, v2, _, v4, v5, v6, v7, v8, v9, v10, v11, v12, v13, by simp only [Act.put, List.setIfInBounds_toArray, List.set_cons_zero, List.set_cons_succ]; rfl, by simp [hsz], ?_⟩
        rw [getD_set_same hun, getD_set_ne false (show 3 ≠ 0 by decide), getD_set_ne false (show 3 ≠ 1 by decide), getD_set_ne false (show 3 ≠ 2 by decide), getD_set_ne false (show 3 ≠ 4 by decide), getD_set_ne false (show 3 ≠ 5 by decide), getD_set_ne false (show 3 ≠ 6 by decide), getD_set_ne false (show 3 ≠ 7 by decide), getD_set_ne false (show 3 ≠ 8 by decide), getD_set_ne false (show 3 ≠ 9 by decide), getD_set_ne false (show 3 ≠ 10 by decide), getD_set_ne false (show 3 ≠ 11 by decide), getD_set_ne false (show 3 ≠ 12 by decide), getD_set_ne false (show 3 ≠ 13 by decide)]
        exact ⟨hJ.kq, hJ.f0, hJ.f1, fun _ => rfl, hJ.f5, hJ.f7, hJ.f9, hJ.f2, hJ.f4, hJ.f6, hJ.f8, hJ.f10, hJ.d2_4, hJ.d2_6, hJ.d2_8, hJ.d2_10, hJ.d4_6, hJ.d4_8, hJ.d4_10, hJ.d6_8, hJ.d6_10, hJ.d8_10, hJ.f11, hJ.f12, hJ.f13⟩
      · rintro L a' w' ⟨v0, v1, v2, v3, v4, v5, v6, v7, v8, v9, v10, v11, v12, v13, rfl, hsz, hJ⟩ hcl hr
        obtain ⟨hun, hpre⟩ := ready_pre hr rfl
        refine wpOp_step rfl (fun K hK => ?_)
        simp only [Act.put, List.setIfInBounds_toArray, List.set_cons_zero, List.set_cons_succ]
        have e1 := hJ.f3 (hpre ⟨3, .data⟩ (by simp) rfl)
        obtain rfl := e1
        have hmk := make_int n (by omega)
        go_simp
        have hJ' := hJ.below ((Below.refl _ w').alloc (Nat.le_refl _) (.cells (rowN n fun _ => 0) 3))
        refine hK _ _ ⟨v0, v1, v2, _, _, v5, v6, v7, v8, v9, v10, v11, v12, v13, by simp only [Act.put, List.setIfInBounds_toArray, List.set_cons_zero, List.set_cons_succ]; rfl, by simp [hsz], ?_⟩
        rw [getD_set_same hun, getD_set_ne false (show 4 ≠ 0 by decide), getD_set_ne false (show 4 ≠ 1 by decide), getD_set_ne false (show 4 ≠ 2 by decide), getD_set_ne false (show 4 ≠ 3 by decide), getD_set_ne false (show 4 ≠ 5 by decide), getD_set_ne false (show 4 ≠ 6 by decide), getD_set_ne false (show 4 ≠ 7 by decide), getD_set_ne false (show 4 ≠ 8 by decide), getD_set_ne false (show 4 ≠ 9 by decide), getD_set_ne false (show 4 ≠ 10 by decide), getD_set_ne false (show 4 ≠ 11 by decide), getD_set_ne false (show 4 ≠ 12 by decide), getD_set_ne false (show 4 ≠ 13 by decide)]
        exact ⟨hJ'.kq, hJ'.f0, hJ'.f1, hJ'.f3, hJ'.f5, hJ'.f7, hJ'.f9, hJ'.f2, fun _ => ⟨_, rfl, hJ.kq.size, heap_at _ _ rfl⟩, hJ'.f6, hJ'.f8, hJ'.f10, fun e1 _ k hk hk2 => by have h1 := (hJ.f2 e1).lt k hk; obtain rfl : w'.heap.size = k := Option.some.inj hk2; omega, hJ'.d2_6, hJ'.d2_8, hJ'.d2_10, fun _ e2 k hk hk2 => by have h1 := (hJ.f6 e2).lt k hk2; obtain rfl : w'.heap.size = k := Option.some.inj hk; omega, fun _ e2 k hk hk2 => by have h1 := (hJ.f8 e2).lt k hk2; obtain rfl : w'.heap.size = k := Option.some.inj hk; omega, fun _ e2 k hk hk2 => by have h1 := (hJ.f10 e2).lt k hk2; obtain rfl : w'.heap.size = k := Option.some.inj hk; omega, hJ'.d6_8, hJ'.d6_10, hJ'.d8_10, (fun h => by have := hcl 11 _ rfl h ⟨4, .data⟩ (by simp) rfl; rw [getD_bothF hun] at this; cases this), (fun h => by have h2 := hcl 12 _ rfl h ⟨11, .data⟩ (by simp) rfl; have := hcl 11 _ rfl h2 ⟨4, .data⟩ (by simp) rfl; rw [getD_bothF hun] at this; cases this), hJ'.f13⟩
      · rintro L a' w' ⟨v0, v1, v2, v3, v4, v5, v6, v7, v8, v9, v10, v11, v12, v13, rfl, hsz, hJ⟩ hcl hr
        obtain ⟨hun, hpre⟩ := ready_pre hr rfl
        refine wpOp_step rfl (fun K hK => ?_)
        simp only [Act.put, List.setIfInBounds_toArray, List.set_cons_zero, List.set_cons_succ]
        go_simp
        refine hK _ _ ⟨v0, v1, v2, v3, v4, _, v6, v7, v8, v9, v10, v11, v12, v13, by simp only [Act.put, List.setIfInBounds_toArray, List.set_cons_zero, List.set_cons_succ]; rfl, by simp [hsz], ?_⟩
        rw [getD_set_same hun, getD_set_ne false (show 5 ≠ 0 by decide), getD_set_ne false (show 5 ≠ 1 by decide), getD_set_ne false (show 5 ≠ 2 by decide), getD_set_ne false (show 5 ≠ 3 by decide), getD_set_ne false (show 5 ≠ 4 by decide), getD_set_ne false (show 5 ≠ 6 by decide), getD_set_ne false (show 5 ≠ 7 by decide), getD_set_ne false (show 5 ≠ 8 by decide), getD_set_ne false (show 5 ≠ 9 by decide), getD_set_ne false (show 5 ≠ 10 by decide), getD_set_ne false (show 5 ≠ 11 by decide), getD_set_ne false (show 5 ≠ 12 by decide), getD_set_ne false (show 5 ≠ 13 by decide)]
        exact ⟨hJ.kq, hJ.f0, hJ.f1, hJ.f3, fun _ => rfl, hJ.f7, hJ.f9, hJ.f2, hJ.f4, hJ.f6, hJ.f8, hJ.f10, hJ.d2_4, hJ.d2_6, hJ.d2_8, hJ.d2_10, hJ.d4_6, hJ.d4_8, hJ.d4_10, hJ.d6_8, hJ.d6_10, hJ.d8_10, hJ.f11, hJ.f12, hJ.f13⟩
      · rintro L a' w' ⟨v0, v1, v2, v3, v4, v5, v6, v7, v8, v9, v10, v11, v12, v13, rfl, hsz, hJ⟩ hcl hr
        obtain ⟨hun, hpre⟩ := ready_pre hr rfl
        refine wpOp_step rfl (fun K hK => ?_)
        simp only [Act.put, List.setIfInBounds_toArray, List.set_cons_zero, List.set_cons_succ]
        have e1 := hJ.f5 (hpre ⟨5, .data⟩ (by simp) rfl)
        obtain rfl := e1
        have hmk := make_int n (by omega)
        go_simp
        have hJ' := hJ.below ((Below.refl _ w').alloc (Nat.le_refl _) (.cells (rowN n fun _ => 0) 3))
        refine hK _ _ ⟨v0, v1, v2, v3, v4, _, _, v7, v8, v9, v10, v11, v12, v13, by simp only [Act.put, List.setIfInBounds_toArray, List.set_cons_zero, List.set_cons_succ]; rfl, by simp [hsz], ?_⟩
        rw [getD_set_same hun, getD_set_ne false (show 6 ≠ 0 by decide), getD_set_ne false (show 6 ≠ 1 by decide), getD_set_ne false (show 6 ≠ 2 by decide), getD_set_ne false (show 6 ≠ 3 by decide), getD_set_ne false (show 6 ≠ 4 by decide), getD_set_ne false (show 6 ≠ 5 by decide), getD_set_ne false (show 6 ≠ 7 by decide), getD_set_ne false (show 6 ≠ 8 by decide), getD_set_ne false (show 6 ≠ 9 by decide), getD_set_ne false (show 6 ≠ 10 by decide), getD_set_ne false (show 6 ≠ 11 by decide), getD_set_ne false (show 6 ≠ 12 by decide), getD_set_ne false (show 6 ≠ 13 by decide)]
        exact ⟨hJ'.kq, hJ'.f0, hJ'.f1, hJ'.f3, hJ'.f5, hJ'.f7, hJ'.f9, hJ'.f2, hJ'.f4, fun _ => ⟨_, rfl, hJ.kq.size, heap_at _ _ rfl⟩, hJ'.f8, hJ'.f10, hJ'.d2_4, fun e1 _ k hk hk2 => by have h1 := (hJ.f2 e1).lt k hk; obtain rfl : w'.heap.size = k := Option.some.inj hk2; omega, hJ'.d2_8, hJ'.d2_10, fun e1 _ k hk hk2 => by have h1 := (hJ.f4 e1).lt k hk; obtain rfl : w'.heap.size = k := Option.some.inj hk2; omega, hJ'.d4_8, hJ'.d4_10, fun _ e2 k hk hk2 => by have h1 := (hJ.f8 e2).lt k hk2; obtain rfl : w'.heap.size = k := Option.some.inj hk; omega, fun _ e2 k hk hk2 => by have h1 := (hJ.f10 e2).lt k hk2; obtain rfl : w'.heap.size = k := Option.some.inj hk; omega, hJ'.d8_10, (fun h => by have := hcl 11 _ rfl h ⟨6, .data⟩ (by simp) rfl; rw [getD_bothF hun] at this; cases this), (fun h => by have h2 := hcl 12 _ rfl h ⟨11, .data⟩ (by simp) rfl; have := hcl 11 _ rfl h2 ⟨6, .data⟩ (by simp) rfl; rw [getD_bothF hun] at this; cases this), hJ'.f13⟩
      · rintro L a' w' ⟨v0, v1, v2, v3, v4, v5, v6, v7, v8, v9, v10, v11, v12, v13, rfl, hsz, hJ⟩ hcl hr
        obtain ⟨hun, hpre⟩ := ready_pre hr rfl
        refine wpOp_step rfl (fun K hK => ?_)
        simp only [Act.put, List.setIfInBounds_toArray, List.set_cons_zero, List.set_cons_succ]
        go_simp
        refine hK _ _ ⟨v0, v1, v2, v3, v4, v5, v6, _, v8, v9, v10, v11, v12, v13, by simp only [Act.put, List.setIfInBounds_toArray, List.set_cons_zero, List.set_cons_succ]; rfl, by simp [hsz], ?_⟩
        rw [getD_set_same hun, getD_set_ne false (show 7 ≠ 0 by decide), getD_set_ne false (show 7 ≠ 1 by decide), getD_set_ne false (show 7 ≠ 2 by decide), getD_set_ne false (show 7 ≠ 3 by decide), getD_set_ne false (show 7 ≠ 4 by decide), getD_set_ne false (show 7 ≠ 5 by decide), getD_set_ne false (show 7 ≠ 6 by decide), getD_set_ne false (show 7 ≠ 8 by decide), getD_set_ne false (show 7 ≠ 9 by decide), getD_set_ne false (show 7 ≠ 10 by decide), getD_set_ne false (show 7 ≠ 11 by decide), getD_set_ne false (show 7 ≠ 12 by decide), getD_set_ne false (show 7 ≠ 13 by decide)]
        exact ⟨hJ.kq, hJ.f0, hJ.f1, hJ.f3, hJ.f5, fun _ => rfl, hJ.f9, hJ.f2, hJ.f4, hJ.f6, hJ.f8, hJ.f10, hJ.d2_4, hJ.d2_6, hJ.d2_8, hJ.d2_10, hJ.d4_6, hJ.d4_8, hJ.d4_10, hJ.d6_8, hJ.d6_10, hJ.d8_10, hJ.f11, hJ.f12, hJ.f13⟩
      · rintro L a' w' ⟨v0, v1, v2, v3, v4, v5, v6, v7, v8, v9, v10, v11, v12, v13, rfl, hsz, hJ⟩ hcl hr
        obtain ⟨hun, hpre⟩ := ready_pre hr rfl
        refine wpOp_step rfl (fun K hK => ?_)
        simp only [Act.put, List.setIfInBounds_toArray, List.set_cons_zero, List.set_cons_succ]
        have e1 := hJ.f7 (hpre ⟨7, .data⟩ (by simp) rfl)
        obtain rfl := e1
        have hmk := make_bool n (by omega)
        go_simp
        have hJ' := hJ.below ((Below.refl _ w').alloc (Nat.le_refl _) (.cells (rowB n fun _ => false) 4))
        refine hK _ _ ⟨v0, v1, v2, v3, v4, v5, v6, _, _, v9, v10, v11, v12, v13, by simp only [Act.put, List.setIfInBounds_toArray, List.set_cons_zero, List.set_cons_succ]; rfl, by simp [hsz], ?_⟩
        rw [getD_set_same hun, getD_set_ne false (show 8 ≠ 0 by decide), getD_set_ne false (show 8 ≠ 1 by decide), getD_set_ne false (show 8 ≠ 2 by decide), getD_set_ne false (show 8 ≠ 3 by decide), getD_set_ne false (show 8 ≠ 4 by decide), getD_set_ne false (show 8 ≠ 5 by decide), getD_set_ne false (show 8 ≠ 6 by decide), getD_set_ne false (show 8 ≠ 7 by decide), getD_set_ne false (show 8 ≠ 9 by decide), getD_set_ne false (show 8 ≠ 10 by decide), getD_set_ne false (show 8 ≠ 11 by decide), getD_set_ne false (show 8 ≠ 12 by decide), getD_set_ne false (show 8 ≠ 13 by decide)]
        exact ⟨hJ'.kq, hJ'.f0, hJ'.f1, hJ'.f3, hJ'.f5, hJ'.f7, hJ'.f9, hJ'.f2, hJ'.f4, hJ'.f6, fun _ => ⟨_, rfl, hJ.kq.size, heap_at _ _ rfl⟩, hJ'.f10, hJ'.d2_4, hJ'.d2_6, fun e1 _ k hk hk2 => by have h1 := (hJ.f2 e1).lt k hk; obtain rfl : w'.heap.size = k := Option.some.inj hk2; omega, hJ'.d2_10, hJ'.d4_6, fun e1 _ k hk hk2 => by have h1 := (hJ.f4 e1).lt k hk; obtain rfl : w'.heap.size = k := Option.some.inj hk2; omega, hJ'.d4_10, fun e1 _ k hk hk2 => by have h1 := (hJ.f6 e1).lt k hk; obtain rfl : w'.heap.size = k := Option.some.inj hk2; omega, hJ'.d6_10, fun _ e2 k hk hk2 => by have h1 := (hJ.f10 e2).lt k hk2; obtain rfl : w'.heap.size = k := Option.some.inj hk; omega, (fun h => by have := hcl 11 _ rfl h ⟨8, .data⟩ (by simp) rfl; rw [getD_bothF hun] at this; cases this), (fun h => by have h2 := hcl 12 _ rfl h ⟨11, .data⟩ (by simp) rfl; have := hcl 11 _ rfl h2 ⟨8, .data⟩ (by simp) rfl; rw [getD_bothF hun] at this; cases this), hJ'.f13⟩
      · rintro L a' w' ⟨v0, v1, v2, v3, v4, v5, v6, v7, v8, v9, v10, v11, v12, v13, rfl, hsz, hJ⟩ hcl hr
        obtain ⟨hun, hpre⟩ := ready_pre hr rfl
        refine wpOp_step rfl (fun K hK => ?_)
        simp only [Act.put, List.setIfInBounds_toArray, List.set_cons_zero, List.set_cons_succ]
        go_simp
        refine hK _ _ ⟨v0, v1, v2, v3, v4, v5, v6, v7, v8, _, v10, v11, v12, v13, by simp only [Act.put, List.setIfInBounds_toArray, List.set_cons_zero, List.set_cons_succ]; rfl, by simp [hsz], ?_⟩
        rw [getD_set_same hun, getD_set_ne false (show 9 ≠ 0 by decide), getD_set_ne false (show 9 ≠ 1 by decide), getD_set_ne false (show 9 ≠ 2 by decide), getD_set_ne false (show 9 ≠ 3 by decide), getD_set_ne false (show 9 ≠ 4 by decide), getD_set_ne false (show 9 ≠ 5 by decide), getD_set_ne false (show 9 ≠ 6 by decide), getD_set_ne false (show 9 ≠ 7 by decide), getD_set_ne false (show 9 ≠ 8 by decide), getD_set_ne false (show 9 ≠ 10 by decide), getD_set_ne false (show 9 ≠ 11 by decide), getD_set_ne false (show 9 ≠ 12 by decide), getD_set_ne false (show 9 ≠ 13 by decide)]
        exact ⟨hJ.kq, hJ.f0, hJ.f1, hJ.f3, hJ.f5, hJ.f7, fun _ => rfl, hJ.f2, hJ.f4, hJ.f6, hJ.f8, hJ.f10, hJ.d2_4, hJ.d2_6, hJ.d2_8, hJ.d2_10, hJ.d4_6, hJ.d4_8, hJ.d4_10, hJ.d6_8, hJ.d6_10, hJ.d8_10, hJ.f11, hJ.f12, hJ.f13⟩
      · rintro L a' w' ⟨v0, v1, v2, v3, v4, v5, v6, v7, v8, v9, v10, v11, v12, v13, rfl, hsz, hJ⟩ hcl hr
        obtain ⟨hun, hpre⟩ := ready_pre hr rfl
        refine wpOp_step rfl (fun K hK => ?_)
        simp only [Act.put, List.setIfInBounds_toArray, List.set_cons_zero, List.set_cons_succ]
        have e1 := hJ.f9 (hpre ⟨9, .data⟩ (by simp) rfl)
        obtain rfl := e1
        have hmk := make_int n (by omega)
        go_simp
        have hJ' := hJ.below ((Below.refl _ w').alloc (Nat.le_refl _) (.cells (rowN n fun _ => 0) 3))
        refine hK _ _ ⟨v0, v1, v2, v3, v4, v5, v6, v7, v8, _, _, v11, v12, v13, by simp only [Act.put, List.setIfInBounds_toArray, List.set_cons_zero, List.set_cons_succ]; rfl, by simp [hsz], ?_⟩
        rw [getD_set_same hun, getD_set_ne false (show 10 ≠ 0 by decide), getD_set_ne false (show 10 ≠ 1 by decide), getD_set_ne false (show 10 ≠ 2 by decide), getD_set_ne false (show 10 ≠ 3 by decide), getD_set_ne false (show 10 ≠ 4 by decide), getD_set_ne false (show 10 ≠ 5 by decide), getD_set_ne false (show 10 ≠ 6 by decide), getD_set_ne false (show 10 ≠ 7 by decide), getD_set_ne false (show 10 ≠ 8 by decide), getD_set_ne false (show 10 ≠ 9 by decide), getD_set_ne false (show 10 ≠ 11 by decide), getD_set_ne false (show 10 ≠ 12 by decide), getD_set_ne false (show 10 ≠ 13 by decide)]
        exact ⟨hJ'.kq, hJ'.f0, hJ'.f1, hJ'.f3, hJ'.f5, hJ'.f7, hJ'.f9, hJ'.f2, hJ'.f4, hJ'.f6, hJ'.f8, fun _ => ⟨_, rfl, hJ.kq.size, heap_at _ _ rfl⟩, hJ'.d2_4, hJ'.d2_6, hJ'.d2_8, fun e1 _ k hk hk2 => by have h1 := (hJ.f2 e1).lt k hk; obtain rfl : w'.heap.size = k := Option.some.inj hk2; omega, hJ'.d4_6, hJ'.d4_8, fun e1 _ k hk hk2 => by have h1 := (hJ.f4 e1).lt k hk; obtain rfl : w'.heap.size = k := Option.some.inj hk2; omega, hJ'.d6_8, fun e1 _ k hk hk2 => by have h1 := (hJ.f6 e1).lt k hk; obtain rfl : w'.heap.size = k := Option.some.inj hk2; omega, fun e1 _ k hk hk2 => by have h1 := (hJ.f8 e1).lt k hk; obtain rfl : w'.heap.size = k := Option.some.inj hk2; omega, (fun h => by have := hcl 11 _ rfl h ⟨10, .data⟩ (by simp) rfl; rw [getD_bothF hun] at this; cases this), (fun h => by have h2 := hcl 12 _ rfl h ⟨11, .data⟩ (by simp) rfl; have := hcl 11 _ rfl h2 ⟨10, .data⟩ (by simp) rfl; rw [getD_bothF hun] at this; cases this), hJ'.f13⟩
      · rintro L a' w' ⟨v0, v1, v2, v3, v4, v5, v6, v7, v8, v9, v10, v11, v12, v13, rfl, hsz, hJ⟩ hcl hr
        obtain ⟨hun, hpre⟩ := ready_pre hr rfl
        refine wpOp_step rfl (fun K hK => ?_)
        simp only [Act.put, List.setIfInBounds_toArray, List.set_cons_zero, List.set_cons_succ]
        obtain rfl := hJ.f0 (hpre ⟨0, .data⟩ (by simp) rfl)
        obtain ⟨b2, rfl, _⟩ := hJ.f2 (hpre ⟨2, .data⟩ (by simp) rfl)
        obtain ⟨b4, rfl, _⟩ := hJ.f4 (hpre ⟨4, .data⟩ (by simp) rfl)
        obtain ⟨b6, rfl, _⟩ := hJ.f6 (hpre ⟨6, .data⟩ (by simp) rfl)
        obtain ⟨b8, rfl, _⟩ := hJ.f8 (hpre ⟨8, .data⟩ (by simp) rfl)
        obtain ⟨b10, rfl, _⟩ := hJ.f10 (hpre ⟨10, .data⟩ (by simp) rfl)
        go_simp
        refine hK _ _ ⟨_, v1, _, v3, _, v5, _, v7, _, v9, _, _, v12, v13, by simp only [Act.put, List.setIfInBounds_toArray, List.set_cons_zero, List.set_cons_succ]; rfl, by simp [hsz], ?_⟩
        rw [getD_set_same hun, getD_set_ne false (show 11 ≠ 0 by decide), getD_set_ne false (show 11 ≠ 1 by decide), getD_set_ne false (show 11 ≠ 2 by decide), getD_set_ne false (show 11 ≠ 3 by decide), getD_set_ne false (show 11 ≠ 4 by decide), getD_set_ne false (show 11 ≠ 5 by decide), getD_set_ne false (show 11 ≠ 6 by decide), getD_set_ne false (show 11 ≠ 7 by decide), getD_set_ne false (show 11 ≠ 8 by decide), getD_set_ne false (show 11 ≠ 9 by decide), getD_set_ne false (show 11 ≠ 10 by decide), getD_set_ne false (show 11 ≠ 12 by decide), getD_set_ne false (show 11 ≠ 13 by decide)]
        exact ⟨hJ.kq, hJ.f0, hJ.f1, hJ.f3, hJ.f5, hJ.f7, hJ.f9, hJ.f2, hJ.f4, hJ.f6, hJ.f8, hJ.f10, hJ.d2_4, hJ.d2_6, hJ.d2_8, hJ.d2_10, hJ.d4_6, hJ.d4_8, hJ.d4_10, hJ.d6_8, hJ.d6_10, hJ.d8_10, fun _ => rfl, (fun h => by have := hcl 12 _ rfl h ⟨11, .data⟩ (by simp) rfl; rw [getD_bothF hun] at this; cases this), hJ.f13⟩
      · rintro L a' w' ⟨v0, v1, v2, v3, v4, v5, v6, v7, v8, v9, v10, v11, v12, v13, rfl, hsz, hJ⟩ hcl hr
        obtain ⟨hun, hpre⟩ := ready_pre hr rfl
        refine wpOp_step rfl (fun K hK => ?_)
        simp only [Act.put, List.setIfInBounds_toArray, List.set_cons_zero, List.set_cons_succ]
        obtain rfl := hJ.f11 (hpre ⟨11, .data⟩ (by simp) rfl)
        go_simp
        have hJ' := hJ.below ((Below.refl _ w').alloc (Nat.le_refl _) (.cells #[v0, v2, v4, v6, v8, .slice none 0 0, .int .i64 0, v10, .slice none 0 0] 41))
        refine hK _ _ ⟨v0, v1, v2, v3, v4, v5, v6, v7, v8, v9, v10, _, _, v13, by simp only [Act.put, List.setIfInBounds_toArray, List.set_cons_zero, List.set_cons_succ]; rfl, by simp [hsz], ?_⟩
        rw [getD_set_same hun, getD_set_ne false (show 12 ≠ 0 by decide), getD_set_ne false (show 12 ≠ 1 by decide), getD_set_ne false (show 12 ≠ 2 by decide), getD_set_ne false (show 12 ≠ 3 by decide), getD_set_ne false (show 12 ≠ 4 by decide), getD_set_ne false (show 12 ≠ 5 by decide), getD_set_ne false (show 12 ≠ 6 by decide), getD_set_ne false (show 12 ≠ 7 by decide), getD_set_ne false (show 12 ≠ 8 by decide), getD_set_ne false (show 12 ≠ 9 by decide), getD_set_ne false (show 12 ≠ 10 by decide), getD_set_ne false (show 12 ≠ 11 by decide), getD_set_ne false (show 12 ≠ 13 by decide)]
        exact ⟨hJ'.kq, hJ'.f0, hJ'.f1, hJ'.f3, hJ'.f5, hJ'.f7, hJ'.f9, hJ'.f2, hJ'.f4, hJ'.f6, hJ'.f8, hJ'.f10, hJ'.d2_4, hJ'.d2_6, hJ'.d2_8, hJ'.d2_10, hJ'.d4_6, hJ'.d4_8, hJ'.d4_10, hJ'.d6_8, hJ'.d6_10, hJ'.d8_10, hJ'.f11, fun _ => ⟨_, rfl, hJ.kq.size, heap_at _ _ rfl, fun e => by have := (hJ.f2 (by have := hcl 11 _ rfl (hpre ⟨11, .data⟩ (by simp) rfl) ⟨2, .data⟩ (by simp) rfl; exact this)).lt _ e; omega, fun e => by have := (hJ.f4 (by have := hcl 11 _ rfl (hpre ⟨11, .data⟩ (by simp) rfl) ⟨4, .data⟩ (by simp) rfl; exact this)).lt _ e; omega, fun e => by have := (hJ.f6 (by have := hcl 11 _ rfl (hpre ⟨11, .data⟩ (by simp) rfl) ⟨6, .data⟩ (by simp) rfl; exact this)).lt _ e; omega, fun e => by have := (hJ.f8 (by have := hcl 11 _ rfl (hpre ⟨11, .data⟩ (by simp) rfl) ⟨8, .data⟩ (by simp) rfl; exact this)).lt _ e; omega, fun e => by have := (hJ.f10 (by have := hcl 11 _ rfl (hpre ⟨11, .data⟩ (by simp) rfl) ⟨10, .data⟩ (by simp) rfl; exact this)).lt _ e; omega⟩, (fun h => by have := hcl 13 _ rfl h ⟨12, .data⟩ (by simp) rfl; rw [getD_bothF hun] at this; cases this)⟩
      · rintro L a' w' ⟨v0, v1, v2, v3, v4, v5, v6, v7, v8, v9, v10, v11, v12, v13, rfl, hsz, hJ⟩ hcl hr
        obtain ⟨hun, hpre⟩ := ready_pre hr rfl
        refine wpOp_step rfl (fun K hK => ?_)
        simp only [Act.put, List.setIfInBounds_toArray, List.set_cons_zero, List.set_cons_succ]
        obtain ⟨p, rfl, g6, h6, hk⟩ := hJ.f12 (hpre ⟨12, .data⟩ (by simp) rfl)
        go_simp
        refine hK _ _ ⟨v0, v1, v2, v3, v4, v5, v6, v7, v8, v9, v10, v11, _, _, by simp only [Act.put, List.setIfInBounds_toArray, List.set_cons_zero, List.set_cons_succ]; rfl, by simp [hsz], ?_⟩
        rw [getD_set_same hun, getD_set_ne false (show 13 ≠ 0 by decide), getD_set_ne false (show 13 ≠ 1 by decide), getD_set_ne false (show 13 ≠ 2 by decide), getD_set_ne false (show 13 ≠ 3 by decide), getD_set_ne false (show 13 ≠ 4 by decide), getD_set_ne false (show 13 ≠ 5 by decide), getD_set_ne false (show 13 ≠ 6 by decide), getD_set_ne false (show 13 ≠ 7 by decide), getD_set_ne false (show 13 ≠ 8 by decide), getD_set_ne false (show 13 ≠ 9 by decide), getD_set_ne false (show 13 ≠ 10 by decide), getD_set_ne false (show 13 ≠ 11 by decide), getD_set_ne false (show 13 ≠ 12 by decide)]
        exact ⟨hJ.kq, hJ.f0, hJ.f1, hJ.f3, hJ.f5, hJ.f7, hJ.f9, hJ.f2, hJ.f4, hJ.f6, hJ.f8, hJ.f10, hJ.d2_4, hJ.d2_6, hJ.d2_8, hJ.d2_10, hJ.d4_6, hJ.d4_8, hJ.d4_10, hJ.d6_8, hJ.d6_10, hJ.d8_10, hJ.f11, hJ.f12, fun _ => rfl⟩
      · exact absurd hi (by simp)
  case rest =>
  obtain ⟨p, bn, bl, bx, bo, bp, rfl, hnd, g6, g1, g2, g3, g4, g5, h6, h1, h2, h3, h4, h5, hb⟩ := hcut
  obtain ⟨W1, hW1⟩ : ∃ W1, W1 = wc := ⟨_, rfl⟩
  obtain rfl := hW1
  have hplc : Plc W1.heap.size p bn bl bx bo bp := ⟨hnd, blk_lt h6, blk_lt h1, blk_lt h2, blk_lt h3, blk_lt h4, blk_lt h5⟩
  have hW0 : WK W1 W1.heap.size p bn bl bx bo bp A n c ⟨fun _ => 0, fun _ => 0, fun _ => 0, fun _ => false, fun _ => 0, [], 0⟩ (.slice none 0 0) (.slice none 0 0) [] [] :=
    ⟨hplc, h6, h1, h2, h3, h4, h5, Nat.le_refl _, Ow.nil_ _ _ _ _, Ow.nil_ _ _ _ _, (fun r hr => by cases hr), rfl⟩
  have hC0 : Cnt n ⟨fun _ => 0, fun _ => 0, fun _ => 0, fun _ => false, fun _ => 0, [], 0⟩ [] := ⟨by show 0 + un n (fun _ => 0) = n; rw [un_zero]; omega, by simp [flat]⟩
  have hW0H := Lib.hid hW0
  have hC0H := Lib.hid hC0
  have hbH := Lib.hid hb
  have hlo : w.heap.size ≤ p ∧ w.heap.size ≤ bn ∧ w.heap.size ≤ bl ∧ w.heap.size ≤ bx ∧ w.heap.size ≤ bo ∧ w.heap.size ≤ bp := ⟨g6, g1, g2, g3, g4, g5⟩
  generalize hbase : W1.heap.size = base at *
  clear hnd g1 g2 g3 g4 g5 h6 h1 h2 h3 h4 h5 hb hplc hW0 hC0 hbase
  go_wp2_with fail
  go_loopg [22] (n + 1) (fun gg iv wr => ∃ (k : Nat) (s : TS) (S K : Value) (ps : List Rw), k ≤ n ∧ gg = n + 1 - k ∧ iv = .int .i64 (k : Int) ∧ WK wr base p bn bl bx bo bp A n c s S K [] ps ∧ Inv g s [] ∧ Cnt n s [] ∧ (∀ x, x < k → 0 < s.num x) ∧ Below w.heap.size w wr)
  case atStart => exact ⟨0, _, _, _, _, Nat.zero_le _, rfl, rfl, hW0H.out, inv_start g, hC0H.out, (fun x hx => absurd hx (Nat.not_lt_zero x)), hbH.out⟩
  case round =>
    obtain ⟨k, s, S, K, ps, hk, rfl, rfl, hW, hI, hC, hal, hbr⟩ := hrel
    obtain ⟨wv, hwv⟩ : ∃ wv, wv = wr := ⟨_, rfl⟩
    obtain rfl := hwv
    by_cases hlt : k < n
    · have hlti : (k : Int) < (n : Int) := by omega
      have b1 := blk_cell hW.box 1
      simp at b1
      have hlp := blk_lt hW.box
      have cn := blk_cell hW.num k
      rw [rowN_at _ hlt] at cn
      have hWH := Lib.hid hW
      have hIH := Lib.hid hI
      have hCH := Lib.hid hC
      have halH := Lib.hid hal
      by_cases h0 : s.num k = 0
      · rw [h0] at cn
        have cn0 : wv.cell? ⟨bn, k, none⟩ = some (.int .i64 0) := cn
        have cF := Lib.hid (from_any base p bn bl bx bo bp w.heap.size A n c g rs s S K ps k wv hW (hBH.out.below hbr) hlo hI hC hn hlt h0)
        clear hW hI hC hal cn h0
        go_wp2_with fail
        refine cF.out.mono ?_
        rintro e w2 ⟨rfl, s2, S2, K2, ps2, hW2, hI2, hC2, hr2, hm2, hb2⟩
        have hW2H := Lib.hid hW2
        have hI2H := Lib.hid hI2
        have hC2H := Lib.hid hC2
        have hm2H := Lib.hid hm2
        clear hW2 hI2 hC2 hm2 b1 cn0 cF
        go_wp2
        go_roundg (n + 1 - (k + 1))
        case measure => omega
        case rel =>
          refine ⟨k + 1, s2, S2, K2, ps2, by omega, rfl, by go_num, hW2H.out, hI2H.out, hC2H.out, fun x hx => ?_, hbr.trans hb2⟩
          by_cases e : x = k
          · rw [e]; exact hr2
          · exact hm2H.out x (halH.out x (by omega))
      · have hn0 : ((s.num k : Int) == 0) = false := by rw [beq_eq_false_iff_ne]; omega
        have hpos : 0 < s.num k := by omega
        clear hW hI hC hal
        go_wp2
        go_roundg (n + 1 - (k + 1))
        case measure => omega
        case rel =>
          refine ⟨k + 1, s, S, K, ps, by omega, rfl, by go_num, hWH.out, hIH.out, hCH.out, fun x hx => ?_, hbr⟩
          by_cases e : x = k
          · rw [e]; exact hpos
          · exact halH.out x (by omega)
    · obtain rfl : k = n := by omega
      have hnlt : ¬ (k : Int) < (k : Int) := by omega
      have hWH := Lib.hid hW
      have hIH := Lib.hid hI
      have hCH := Lib.hid hC
      have halH := Lib.hid hal
      clear hW hI hC hal
      go_wp2
      go_ret
      exact ⟨base, p, bn, bl, bx, bo, bp, s, S, K, ps, rfl, hWH.out, hIH.out, hCH.out, halH.out, hlo.1, hbr⟩
end Go.Proofs.Ytebpghpeeedgcaa
