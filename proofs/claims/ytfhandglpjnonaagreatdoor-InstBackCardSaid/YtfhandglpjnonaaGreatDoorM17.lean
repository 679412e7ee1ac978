/- The document's own: is a name in a list; what is wrong with two sets. The document's Minus: what of one set is not in another. ident.Read: the next name that a reader has. dots.Read: the next set that a reader has. -/
import Derived.Test.YtfhandglpjnonaaGreatDoorN02
import Derived.Test.YtfhandglpjnonaaGreatDoorM16
set_option maxRecDepth 100000
set_option maxHeartbeats 16000000
namespace Go.Proofs.YtfhandglpjnonaaGreatDoor
open Go.RowKit
theorem RdrP.set {w : World} {B g : Nat} {S : Rs} {cs : Array Value} {t : TypeId} (h : RdrP w B S) (hg : w.heap[g]? = some (.cells cs t (0, 0))) (h1 : t ≠ 129) (h2 : t ≠ 176) (i : Nat) (u : Value) : RdrP (w.setCell ⟨g, i, none⟩ u) B S :=
 h.grown (gr_set (World.grownBy.refl w _) i u) (fun g' cs' t' e hb => by
  injection e with e; subst e
  rw [hg] at hb
  injection hb with hb; injection hb with _ ht
  exact ⟨ht ▸ h1, ht ▸ h2⟩)
theorem failS_fe {S : Rs} {e : Int} (he : e ≠ 0) : (failS S e).fe ≠ 0 := by
 unfold failS
 split
 ·
  exact he
 ·
  rename_i h
  exact fun h0 => h ⟨h0, he⟩
theorem intS_err {S : Rs} {m : Nat} (h : (intS m S).1 ≠ 0) : (intS m S).2.fe = 0 := by
 unfold intS at *
 by_cases h0 : S.fe = 0
 ·
  obtain ⟨v, n, e, hr⟩ : ∃ v n e, numR (S.l.drop S.a) = (v, n, e) := ⟨_, _, _, rfl⟩
  rw [nextS_eq h0 hr] at h ⊢
  by_cases he : e = 0
  ·
   subst he
   by_cases hz : m < v
   ·
    simp [hz] at h
   ·
    simp [hz, h0]
  ·
   simp [he] at h
 ·
  rw [nextS_bad h0] at h
  exact absurd rfl h
def readI (S : Rs) : Im × Rs :=
 let p := intS 7 S
 let q := intS 1048576 p.2
 if q.1 = 0 then ((0, 0), failS q.2 2) else (((p.1 : Int), (q.1 : Int)), q.2)
theorem readI_wf {S : Rs} (h : S.wf) : (readI S).2.wf ∧ (readI S).1.wf := by
 have h1 := Rs.wf_next (Rs.wf_next h (fun v => if 7 < v then 2 else 0)) (fun v => if 1048576 < v then 2 else 0)
 have h2 := yA 1048576 (intS 7 S).2
 unfold readI
 dsimp only
 split
 ·
  exact ⟨Rs.wf_fail h1 2, ⟨show (0 : Int) ≤ 0 by decide, show (0 : Int) < 4294967296 by decide⟩⟩
 ·
  exact ⟨h1, ⟨by dsimp only; omega, by dsimp only; omega⟩⟩
theorem pread_any (B : Nat) (S : Rs) (w : World) (h : RdrP w B S) (hS : S.wf) :
 Calls Tryz.prog 61 #[.pointer (some ⟨B, 0, none⟩)] w
  fun r w' => r = .returned (.agg #[.int .i64 (readI S).1.1, .int .u32 (readI S).1.2]) ∧ RdrP w' B (readI S).2 ∧ w.grownBy w' (some B) := by
 have hw1 := Rs.wf_next hS (fun v => if 7 < v then 2 else 0)
 have c1 := fun w h => pint_any 7 B (by omega) S w h hS
 have c2 := fun w h => pint_any 1048576 B (by omega) (intS 7 S).2 w h hw1
 have hle1 := yA 7 S
 have hle2 := yA 1048576 (intS 7 S).2
 have her := @intS_err (intS 7 S).2 1048576
 obtain ⟨x, T, hT⟩ : ∃ x T, readI S = (x, T) := ⟨_, _, rfl⟩
 rw [hT]
 unfold readI at hT
 dsimp only at hT
 generalize intS 7 S = p at *
 obtain ⟨o, S1⟩ := p
 dsimp only at *
 generalize intS 1048576 S1 = q at *
 obtain ⟨s, S2⟩ := q
 dsimp only at *
 have hBlt := h.lt
 have c1 := jH c1
 have c2 := jH c2
 have hwH := jH hw1
 have o0 : (0 : Int) ≤ (o : Int) := by omega
 have o1 : (o : Int) ≤ 7 := by omega
 have s0 : (0 : Int) ≤ (s : Int) := by omega
 have s1 : (s : Int) ≤ 1048576 := by omega
 have hH := jH h
 have herH := jH her
 have hTH := jH hT
 clear her hw1 hT hS h hle1 hle2
 go_enter Tryz.func61, Tryz.ntmps61
 go_wp2_with fail
 refine (c1.out _ (hH.out.below ((Below.refl _ w).alloc (Nat.le_refl _) _))).mono ?_
 rintro e w1 ⟨rfl, hR1, hg1⟩
 have hz1 := hg1.size
 simp only [World.size_alloc] at hz1
 have hbR1 : w1.heap[w.heap.size]? = some (.cells #[.int .i64 0, .int .u32 0] 24 (0, 0)) := (hg1.block _ (by simp) (by simp; omega)).trans (jT _ _ rfl)
 have hlR1 := jB hbR1
 go_wp2_with fail
 refine (c2.out _ (hR1.below ((Below.refl _ w1).alloc (Nat.le_refl _) _))).mono ?_
 rintro e w2 ⟨rfl, hR2, hg2⟩
 have hz2 := hg2.size
 simp only [World.size_alloc] at hz2
 have hbR2 : w2.heap[w.heap.size]? = some (.cells #[.int .i64 0, .int .u32 0] 24 (0, 0)) := (hg2.block _ (by simp; omega) (by simp; omega)).trans (yE _ hlR1 hbR1)
 have hbI2 : w2.heap[w1.heap.size]? = some (.cells #[.int .i64 (o : Int), .int .u32 0] 24 (0, 0)) := (hg2.block _ (by simp) (by simp; omega)).trans (jT _ _ rfl)
 have hlR2 := jB hbR2
 have hlI2 := jB hbI2
 have i0 := jA hbI2 0
 have i1 := jA hbI2 1
 simp at i0 i1
 have hfI := jE hbI2
 have hgA : w.grownBy w1 (some B) := (World.grownBy_alloc w _ _).trans hg1
 have hgB : w.grownBy w2 (some B) := hgA.trans ((World.grownBy_alloc w1 _ _).trans hg2)
 have hR2s := fun u => hR2.set hbI2 (by decide) (by decide) 1 u
 have hbI3 := fun u => jO hbI2 1 u
 have hne : w1.heap.size ≠ w.heap.size := by omega
 clear hg1 hg2 hR1 hbR1 hgA
 by_cases hs : s = 0
 ·
  have hTT := hTH.out
  rw [if_pos hs] at hTT
  obtain ⟨rfl, rfl⟩ := Prod.mk.inj hTT
  subst hs
  clear hTT
  have hfe := failS_fe (S := S2) (e := 2) (by decide)
  have hR2H := jH hR2s
  have hbI3H := jH hbI3
  clear hR2s hbI3
  go_wp2_with fail
  refine (pfail_any B S2 2 _ (hR2H.out _)).mono ?_
  rintro e w3 ⟨rfl, hR3, hg3⟩
  have hbR3 : w3.heap[w.heap.size]? = some (.cells #[.int .i64 0, .int .u32 0] 24 (0, 0)) := (hg3.block _ (by first | (simp; done) | (simp; omega) | omega) (by simp; omega)).trans (yG (by dsimp only; omega) hbR2)
  have hlR3 := jB hbR3
  have r0 := jA hbR3 0
  have r1 := jA hbR3 1
  simp at r0 r1
  have hfR := jE hbR3
  have hgC : w.grownBy w3 (some B) := (jS hgB (by omega) 1 _).trans hg3
  have hR4 := (hR3.set hbR3 (by decide) (by decide) 0 (.int .i64 0)).set (jO hbR3 0 (.int .i64 0)) (by decide) (by decide) 1 (.int .u32 0)
  have hR4 := jH hR4
  clear i0 i1 hfI hg3 hbR3 hgB hbR2 hbI2 hR2
  obtain ⟨ev, hbz, hez⟩ := hR3
  obtain ⟨hne, Fz, rfl, hFz⟩ : (failS S2 2).fe ≠ 0 ∧ ∃ F, ev = .iface 125 (.pointer (some ⟨F, 0, none⟩)) ∧ _ := hez.resolve_left (fun h9 => absurd h9.1 (by assumption))
  have hltz := jB hbz
  have z0 := jA hbz 0
  have z1 := jA hbz 1
  have z2 := jA hbz 2
  simp at z0 z1 z2
  clear hbz hFz hne hez
  go_wp2
  refine bodyPost_ret (v := .agg #[.int .i64 0, .int .u32 0]) (by simp [results, Tryz.results61, go_sem, r0, r1]) rfl ⟨rfl, hR4.out, jS (jS hgC (Nat.le_refl _) 0 _) (Nat.le_refl _) 1 _⟩
 ·
  have hTT := hTH.out
  rw [if_neg hs] at hTT
  obtain ⟨rfl, rfl⟩ := Prod.mk.inj hTT
  have hfe := herH.out hs
  have hsn : ((s : Int) == 0) = false := by rw [beq_eq_false_iff_ne]; omega
  clear hTT hs
  have hbRs : ∀ u, (w2.setCell ⟨w1.heap.size, 1, none⟩ u).heap[w.heap.size]? = some (.cells #[.int .i64 0, .int .u32 0] 24 (0, 0)) := fun u => yG (by dsimp only; omega) hbR2
  have hR4 := fun u a b => ((hR2s u).set (hbRs u) (by decide) (by decide) 0 a).set (jO (hbRs u) 0 a) (by decide) (by decide) 1 b
  have hR4 := jH hR4
  have r0 := jA hbR2 0
  have r1 := jA hbR2 1
  simp at r0 r1
  have hfR := jE hbR2
  clear hbRs hR2s hbI3 hbR2 hbI2
  obtain ⟨ev, hbz, hez⟩ := hR2
  obtain ⟨_, rfl⟩ := hez.resolve_right (fun h9 => absurd (by assumption) h9.1)
  have hltz := jB hbz
  have z0 := jA hbz 0
  have z1 := jA hbz 1
  have z2 := jA hbz 2
  simp at z0 z1 z2
  clear hbz hez
  go_wp2
  refine bodyPost_ret (v := .agg #[.int .i64 (o : Int), .int .u32 (s : Int)]) (by simp [results, Tryz.results61, go_sem, r0, r1]) rfl ⟨rfl, hR4.out _ _ _, jS (jS (jS hgB (by omega) 1 _) (Nat.le_refl _) 0 _) (Nat.le_refl _) 1 _⟩
theorem Ow.keptB {w w' : World} {base b : Nat} {e : TypeId} {sz : Nat} {v : Value} {xs : List (List Value)} (h : Ow w base e sz v xs) (hg : w.grownBy w' (some b)) (hb : b < base) : Ow w' base e sz v xs := by
 refine ⟨h.1, h.2.kept hg ?_⟩
 rcases h.2.2 with ⟨rfl, _⟩ | ⟨g, cap, cur, rfl, hbg, _⟩
 ·
  exact .inl rfl
 ·
  refine .inr ?_
  simp only [Value.ownBlock, ne_eq, Option.some.injEq]
  omega
theorem RdrP.appended {w w' : World} {B : Nat} {S : Rs} {base : Nat} {e : TypeId} {sz : Nat} {v : Value} {xs : List (List Value)} (h : RdrP w B S) (ho : Ow w base e sz v xs) (hg : w.grownBy w' v.ownBlock) (h1 : e ≠ 129) (h2 : e ≠ 176) : RdrP w' B S :=
 h.grown hg (fun g cs t er hb => by
  rcases ho.2.2 with ⟨rfl, _⟩ | ⟨g', cap, cur, rfl, _, hh, _⟩
  ·
   cases er
  ·
   simp only [Value.ownBlock, Option.some.injEq] at er
   subst er
   rw [hh] at hb
   injection hb with hb; injection hb with _ ht
   exact ⟨ht ▸ h1, ht ▸ h2⟩)
theorem gr_then {a w w' : World} {row row2 : Option Nat} (h : a.grownBy w row) (h2 : w.grownBy w' row2) (hr : ∀ g, row2 = some g → a.heap.size ≤ g) : a.grownBy w' row :=
 ⟨h2.os.trans h.os, h2.tape.trans h.tape, h2.output.trans h.output, Nat.le_trans h.size h2.size, fun k hk hne => (h2.block k (Nat.lt_of_lt_of_le hk h.size) (fun e => by have := hr k e.symm; omega)).trans (h.block k hk hne)⟩
theorem perr_any (B : Nat) (ev : Value) (w : World) (_hlt : B < w.heap.size) (hc : w.cell? ⟨B, 2, none⟩ = some ev) :
 Calls Tryz.prog 67 #[.pointer (some ⟨B, 0, none⟩)] w fun e w' => e = .returned ev ∧ w = w' := by
 go_enter Tryz.func67, Tryz.ntmps67
 go_wp2
 go_ret
 exact ⟨rfl, rfl⟩
end Go.Proofs.YtfhandglpjnonaaGreatDoor
