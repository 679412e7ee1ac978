/- scc.Parts: its two function values; reading the search's parts. -/
import Derived.Test.YtebpghpeeedgcaaKk
import Derived.Test.YtebpghpeeedgcaaNd
import Derived.Test.YtebpghpeeedgcaaKp
namespace Go.Proofs.Ytebpghpeeedgcaa
open Go.RowKit

/-- A part of the search's: its slice's cell, and its first thing's. -/
theorem WK.part {w : World} {base p bn bl bx bo bp : Nat} {A : Option Addr} {n c : Nat} {s : TS} {S : Value} {KA : Option Addr} {kc : Nat} {sk : List Nat} {ps : List Rw} {g : Gr} (h : WK w base p bn bl bx bo bp A n c s S (.slice KA ps.length kc) sk ps) (ht : Tar g s.prt s.pts) {x : Nat} (hx : x < s.pts.length) :
    ∃ kb r, KA = some ⟨kb, 0, none⟩ ∧ kb < w.heap.size ∧ ps[x]? = some r ∧ w.cell? ⟨kb, x, none⟩ = some (.slice r.A r.l r.c) ∧ r.xs = (s.pts.getD x []).map Int.ofNat ∧ 0 < r.l ∧
      ∃ b o, r.A = some ⟨b, o, none⟩ ∧ b < w.heap.size ∧ w.cell? ⟨b, o, none⟩ = some (.int .i64 (((s.pts.getD x []).headD 0 : Nat) : Int)) := by
  have hpl : ps.length = s.pts.length := by have := congrArg List.length h.psx; simpa using this
  obtain ⟨r, hr⟩ : ∃ r, ps[x]? = some r := ⟨_, List.getElem?_eq_getElem (by omega)⟩
  obtain ⟨kb, hA, _, hl, _, hc⟩ := h.pts.addr (by omega)
  have h1 := hc x _ (by rw [List.getElem?_map, hr]; rfl) 0 _ rfl
  simp only [Nat.mul_one, Nat.add_zero] at h1
  have hg : s.pts[x]? = some (s.pts.getD x []) := by rw [List.getD_eq_getElem?_getD, List.getElem?_eq_getElem hx]; rfl
  have hxs : r.xs = (s.pts.getD x []).map Int.ofNat := by
    have h2 : (ps.map Rw.xs)[x]? = some r.xs := by rw [List.getElem?_map, hr]; rfl
    rw [h.psx, List.getElem?_map, hg] at h2
    simpa using h2.symm
  have hne := (ht.scc x _ hg).1
  have ho := (h.prs r (List.mem_of_getElem? hr)).1
  have hrl : r.xs.length = r.l := by simpa using ho.rd.2.1
  obtain ⟨a, t, hat⟩ : ∃ a t, s.pts.getD x [] = a :: t := by
    cases hq : s.pts.getD x [] with
    | nil => exact absurd hq hne
    | cons a t => exact ⟨a, t, rfl⟩
  have hpos : 0 < r.l := by rw [← hrl, hxs, hat]; simp
  obtain ⟨b, o, v, e, hb, hv, hcv⟩ := Rd.at_ (enc := eI) ho.rd.1 hpos
  have h3 := hcv 0 _ rfl
  simp only [Nat.zero_mul, Nat.add_zero] at h3
  rw [hxs, hat] at hv
  have hv2 : v = (a : Int) := by simpa using hv.symm
  refine ⟨kb, r, hA, hl, hr, h1, hxs, hpos, b, o, e, hb, ?_⟩
  rw [h3, hat, hv2]; rfl
def keyP (s : TS) (x : Nat) : Int := (((s.pts.getD x []).headD 0 : Nat) : Int)
set_option maxRecDepth 100000 in
set_option maxHeartbeats 1000000 in
theorem pfst_any {base p bn bl bx bo bp : Nat} {A : Option Addr} {n c : Nat} {s : TS} {S : Value} {KA : Option Addr} {kc : Nat} {sk : List Nat} {ps : List Rw} {g : Gr} (q x y : Nat) (w : World) (h : WK w base p bn bl bx bo bp A n c s S (.slice KA ps.length kc) sk ps) (ht : Tar g s.prt s.pts)
    (hgn : g.length ≤ 100000) (hq : w.cell? ⟨q, 0, none⟩ = some (.pointer (some ⟨p, 0, none⟩))) (_hql : q < w.heap.size) (hx : x < s.pts.length) (hy : y < s.pts.length) :
    Calls Try.prog 17 #[.int .i64 (x : Int), .int .i64 (y : Int), .pointer (some ⟨q, 0, none⟩)] w fun e w' => e = .returned (.int .i64 (keyP s x - keyP s y)) ∧ Below w.heap.size w w' := by
  have hpl : ps.length = s.pts.length := by have := congrArg List.length h.psx; simpa using this
  obtain ⟨kb, r, hKA, hkl, hr, hc1, hxs, hrl, b, o, hrA, hbl2, hc2⟩ := h.part ht hx
  obtain ⟨kb2, r2, hKA2, _, hr2, hd1, hxs2, hrl2, b2, o2, hrA2, hbl3, hd2⟩ := h.part ht hy
  subst hKA
  injection hKA2 with hKA2
  injection hKA2 with hKA2
  subst hKA2
  have b8 := blk_cell h.box 8
  simp at b8
  have hlp := blk_lt h.box
  have hk : ∀ z, z < s.pts.length → keyP s z ≤ 100000 ∧ 0 ≤ keyP s z := fun z hz => by
    have hg : s.pts[z]? = some (s.pts.getD z []) := by rw [List.getD_eq_getElem?_getD, List.getElem?_eq_getElem hz]; rfl
    obtain ⟨a, t, hat⟩ : ∃ a t, s.pts.getD z [] = a :: t := by
      cases hq : s.pts.getD z [] with
      | nil => exact absurd hq (ht.scc z _ hg).1
      | cons a t => exact ⟨a, t, rfl⟩
    have := ((ht.scc z _ hg).2.2 a (by rw [hat]; simp)).1
    unfold keyP
    rw [hat]
    show ((a : Nat) : Int) ≤ _ ∧ 0 ≤ ((a : Nat) : Int)
    omega
  have hk1 := hk x hx
  have hk2 := hk y hy
  unfold keyP at *
  rw [hrA] at hc1
  rw [hrA2] at hd1
  generalize (s.pts.getD x []).headD 0 = u at *
  generalize (s.pts.getD y []).headD 0 = v at *
  have hw : IntKind.i64.wrap ((u : Int) - (v : Int)) = (u : Int) - (v : Int) := IntWalk.i64_in _ (by omega)
  have hxi : (x : Int) < (ps.length : Int) := by omega
  have hyi : (y : Int) < (ps.length : Int) := by omega
  have hrli : (0 : Int) < (r.l : Int) := by omega
  have hrl2i : (0 : Int) < (r2.l : Int) := by omega
  clear h ht hk hxs hxs2 hr hr2 hpl
  go_enter Try.func17, Try.ntmps17
  go_wp2
  go_region
  go_wp2
  go_ret
  exact ⟨rfl, (Below.refl _ _).drew⟩
theorem pdel_any (q x m : Nat) (w : World) (hq : w.cell? ⟨q, 0, none⟩ = some (.int .i64 (m : Int))) :
    Calls Try.prog 20 #[.int .i64 (x : Int), .pointer (some ⟨q, 0, none⟩)] w fun e w' => e = .returned (.bool ((x : Int) == (m : Int))) ∧ Below w.heap.size w w' := by
  go_enter Try.func20, Try.ntmps20
  go_wp2
  go_ret
  exact ⟨rfl, Below.refl _ _⟩
end Go.Proofs.Ytebpghpeeedgcaa
