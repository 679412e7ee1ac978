/- In whatever order, however often: the acts that were done, one by one (plain; sets and maps). A list of acts on sets, opened (rows within rows). -/
import Derived.Test.YtadldndmmobpdaaM28
import Derived.Test.YtadldndmmobpdaaOuF
import Derived.Test.YtadldndmmobpdaaM5
namespace Go.Proofs.Ytadldndmmobpdaa
open Go.Maps

def kT (t : Tm) : List UInt8 := (keyBytes [.int .i64 t.1.1, .int .u32 t.1.2, .int .i64 t.2])
section
variable {α β V : Type}
/-- One act of the statement's: the state behind it, and whether it may be. -/
def dsK (key : α → Tm) (ok1 : α → Bool) (ak : β → Option (AK α)) (X : List α × List Tm) (b : β) : (List α × List Tm) × Bool :=
  match ak b with
  | none => (X, false)
  | some x => ((actK key ok1 X x).1, (actK key ok1 X x).2 == 0)
/-- What the first round of the statement knows: k acts were looked at, ds were done, M is whose each name is. -/
structure InvA (key : α → Tm) (ok1 : α → Bool) (val : α → V) (nz : V → Prop) (ak : β → Option (AK α)) (k : Nat) (M : List UInt8 → V) (ds : List β) (X : List α × List Tm) : Prop where
  desc : DescK key ok1 (ds.reverse.filterMap ak) X
  may : ∀ b ∈ ds, ∃ x, ak b = some x ∧ x.may key ok1 = true ∧ x.size ≤ 20
  map : ∀ a, AK.put a ∈ ds.reverse.filterMap ak → M (kT (key a)) = val a ∧ nz (val a)
  lx : X.1.length ≤ k
  lg : X.2.length ≤ 20 * k
  lk : ds.length ≤ k
structure InvB (key : α → Tm) (ok1 : α → Bool) (ak : β → Option (AK α)) (ds : List β) (i : Nat) (Y : List α × List Tm) : Prop where
  desc : DescK key ok1 ((ds.drop i).filterMap ak) Y
  lx : Y.1.length ≤ ds.length - i
  lg : Y.2.length ≤ 20 * (ds.length - i)
variable {key : α → Tm} {ok1 : α → Bool} {val : α → V} {nz : V → Prop} {ak : β → Option (AK α)} {k : Nat} {M : List UInt8 → V} {ds : List β} {X Y : List α × List Tm}
theorem invA_start : InvA key ok1 val nz ak 0 M [] ([], []) := ⟨desc_nil, by simp, by simp, by simp, by simp, by simp⟩
theorem InvA.skip (h : InvA key ok1 val nz ak k M ds X) : InvA key ok1 val nz ak (k + 1) M ds X :=
  ⟨h.desc, h.may, h.map, Nat.le_succ_of_le h.lx, by have := h.lg; omega, Nat.le_succ_of_le h.lk⟩
theorem InvA.upd (h : InvA key ok1 val nz ak k M ds X) {t : Tm} {e : V} (hM : nz (M (kT t)) → M (kT t) = e) : InvA key ok1 val nz ak k (fun q => if q = kT t then e else M q) ds X :=
  ⟨h.desc, h.may, fun a ha => by
    obtain ⟨h1, h2⟩ := h.map a ha
    refine ⟨?_, h2⟩
    show (if kT (key a) = kT t then e else M (kT (key a))) = val a
    by_cases hk : kT (key a) = kT t
    · rw [if_pos hk]
      rw [hk] at h1
      rw [← h1]
      exact (hM (by rw [h1]; exact h2)).symm
    · rw [if_neg hk]; exact h1, h.lx, h.lg, h.lk⟩
theorem InvA.step (h : InvA key ok1 val nz ak k M ds X) (hinj : ∀ a b, key a = key b → val a = val b → a = b) (hk : k < 40) {b : β} (hs : ∀ x, ak b = some x → x.size ≤ 20)
    (hm : ∀ a, ak b = some (.put a) → M (kT (key a)) = val a ∧ nz (val a)) (hr : (dsK key ok1 ak X b).2 = true) :
    dsK key ok1 ak (dsK key ok1 ak X b).1 b = ((dsK key ok1 ak X b).1, true) ∧ InvA key ok1 val nz ak (k + 1) M (ds ++ [b]) (dsK key ok1 ak X b).1 := by
  cases hb : ak b with
  | none => unfold dsK at hr; rw [hb] at hr; cases hr
  | some x =>
    have hX1 : dsK key ok1 ak X b = ((actK key ok1 X x).1, (actK key ok1 X x).2 == 0) := by unfold dsK; rw [hb]
    have hX2 : ∀ Z, dsK key ok1 ak Z b = ((actK key ok1 Z x).1, (actK key ok1 Z x).2 == 0) := fun Z => by unfold dsK; rw [hb]
    rw [hX1] at hr
    have h0 : (actK key ok1 X x).2 = 0 := by simpa using hr
    have hmay : x.may key ok1 = true := by
      cases hq : x.may key ok1 with
      | true => rfl
      | false => exact absurd h0 (act_not hq)
    have hlx := h.lx
    have hlg := h.lg
    have hu : ∀ a a', x = AK.put a → AK.put a' ∈ ds.reverse.filterMap ak → key a' = key a → a' = a := by
      rintro a a' rfl h2 h3
      refine hinj a' a h3 ?_
      rw [← (h.map a' h2).1, h3, (hm a hb).1]
    obtain ⟨k1, k2, k3, k4⟩ := act_desc (p := k) (q := 20 * k) h.desc hmay (hs x hb) hlx hlg (by omega) (by omega) hu
    obtain ⟨j1, j2, _, _⟩ := act_desc (p := k + 1) (q := 20 * k + 20) k2 hmay (hs x hb) k3 k4 (by omega) (by omega) (by
      rintro a a' rfl h2 h3
      rcases List.mem_cons.1 h2 with e | h2
      · injection e
      · exact hu a a' rfl h2 h3)
    have htw := act_twice k2 j2
    rw [hX1]
    dsimp only
    rw [hX2]
    have e1 : (ds ++ [b]).reverse.filterMap ak = x :: ds.reverse.filterMap ak := by simp [hb]
    refine ⟨by rw [← htw, j1]; rfl, ?_, ?_, ?_, k3, by omega, by simp; have := h.lk; omega⟩
    · rw [e1]; exact k2
    · intro c hc
      rcases List.mem_append.1 hc with hc | hc
      · exact h.may c hc
      · obtain rfl := List.mem_singleton.1 hc
        exact ⟨x, hb, hmay, hs x hb⟩
    · intro a ha
      rw [e1] at ha
      rcases List.mem_cons.1 ha with e | ha
      · subst e; exact hm a hb
      · exact h.map a ha
theorem invB_start : InvB key ok1 ak ds ds.length ([], []) := ⟨by rw [List.drop_length]; exact desc_nil, by simp, by simp⟩
theorem InvB.step (hA : InvA key ok1 val nz ak k M ds X) (hinj : ∀ a b, key a = key b → val a = val b → a = b) (hk : k ≤ 40) {i : Nat} (h : InvB key ok1 ak ds (i + 1) Y) {b : β} (hb : ds[i]? = some b) :
    (dsK key ok1 ak Y b).2 = true ∧ InvB key ok1 ak ds i (dsK key ok1 ak Y b).1 := by
  have hil := (List.getElem?_eq_some_iff.1 hb).1
  obtain ⟨x, hx, hmay, hs⟩ := hA.may b (List.mem_of_getElem? hb)
  have hX2 : dsK key ok1 ak Y b = ((actK key ok1 Y x).1, (actK key ok1 Y x).2 == 0) := by unfold dsK; rw [hx]
  have hlx := h.lx
  have hlg := h.lg
  have hlk := hA.lk
  have hin : ∀ a, AK.put a ∈ ds.filterMap ak → M (kT (key a)) = val a := fun a ha => (hA.map a (by
    rw [List.mem_filterMap] at ha ⊢
    obtain ⟨c, hc, e⟩ := ha
    exact ⟨c, by simpa using hc, e⟩)).1
  have hput : x ∈ ds.filterMap ak := List.mem_filterMap.2 ⟨b, List.mem_of_getElem? hb, hx⟩
  obtain ⟨k1, k2, k3, k4⟩ := act_desc (p := ds.length - (i + 1)) (q := 20 * (ds.length - (i + 1))) h.desc hmay hs hlx hlg (by omega) (by omega) (by
    rintro a a' rfl h2 h3
    refine hinj a' a h3 ?_
    have h4 : AK.put a' ∈ ds.filterMap ak := by
      rw [List.mem_filterMap] at h2 ⊢
      obtain ⟨c, hc, e⟩ := h2
      exact ⟨c, List.mem_of_mem_drop hc, e⟩
    rw [← hin a' h4, h3, hin a hput])
  rw [hX2]
  refine ⟨by rw [k1]; rfl, ?_, ?_, ?_⟩
  · have e1 : (ds.drop i).filterMap ak = x :: (ds.drop (i + 1)).filterMap ak := by
      rw [List.drop_eq_getElem_cons hil, List.filterMap_cons]
      have : ds[i] = b := by rw [List.getElem?_eq_getElem hil] at hb; injection hb
      rw [this, hx]
    rw [e1]; exact k2
  · show (actK key ok1 Y x).1.1.length ≤ _; omega
  · show (actK key ok1 Y x).1.2.length ≤ _; omega
theorem inv_end (hA : InvA key ok1 val nz ak k M ds X) (hB : InvB key ok1 ak ds 0 Y) : X = Y ∧ errK key ok1 X.1 X.2 = 0 := by
  refine ⟨desc_ext hA.desc hB.desc fun a => ?_, hA.desc.err⟩
  rw [List.drop_zero, List.mem_filterMap, List.mem_filterMap]
  simp
end
end Go.Proofs.Ytadldndmmobpdaa
namespace Go.Proofs.Ytadldndmmobpdaa
open Go.ChangeShapes Go.WideShapes Go.ChangeAt Go.RowKit

/-- A tag whose numbers fit their kinds. -/
def Tm.fit (t : Tm) : Prop := t.wf ∧ (Lit.int .i64 t.1.1).wf = true ∧ (Lit.int .u32 t.1.2).wf = true ∧ (Lit.int .i64 t.2).wf = true
/-- An act on sets, as it lies in memory. -/
structure AcS where
  e : List UInt8
  C : Option Addr
  k : Nat
  f : Nat
  l : List Tm
deriving Inhabited
def AcS.enc (a : AcS) : List Value := [.string (bs a.e), .slice a.C a.k a.f]
theorem AcS.len {xs : List AcS} : ∀ x ∈ xs.map AcS.enc, x.length = 2 := by
  intro x hx; obtain ⟨t, _, rfl⟩ := List.mem_map.1 hx; rfl
theorem AcS.one {xs : List AcS} : ∀ x ∈ xs.map AcS.enc, ∀ u ∈ x, u.oneCell' = true := by
  intro x hx u hu; obtain ⟨t, _, rfl⟩ := List.mem_map.1 hx
  simp only [AcS.enc, List.mem_cons, List.not_mem_nil, or_false] at hu
  rcases hu with rfl | rfl <;> rfl
/-- The act's names can be read, and all of it is as it may be. -/
structure AcS.Ok (w : World) (B : Nat) (a : AcS) : Prop where
  rd : RdT w B a.C a.k a.l
  fit : ∀ t ∈ a.l, t.fit
  el : a.e.length ≤ maxLen
  kf : a.k ≤ a.f
  fm : a.f ≤ maxLen
section
variable {H : Type} {enc : TypeId × Value → H} {w : World} {base : Nat} {spare : Nat → Bool} {held : Bool}
theorem reads_tmF {cs : List Value} (hl : cs.length = 3) (h : Reads enc Try.prog w base spare held 79 cs) : ∃ t : Tm, cs = t.enc ∧ t.fit := by
  obtain ⟨a, b, c, rfl⟩ := list3 hl
  have hi := reads_field 0 0 2 Try.underlying79 rfl rfl rfl (by kernel_rfl) h
  obtain ⟨x, rfl, hx1, hx2⟩ := reads_i64 Try.underlying3 (reads_field (cs := [a, b]) 0 0 1 Try.underlying77 rfl rfl rfl (by kernel_rfl) hi)
  obtain ⟨y, rfl, hy1, hy2⟩ := reads_u32 Try.underlying26 (reads_field (cs := [_, b]) 1 1 1 Try.underlying77 rfl rfl rfl (by kernel_rfl) hi)
  obtain ⟨z, rfl, hz1, hz2⟩ := reads_i64 Try.underlying3 (reads_field 1 2 1 Try.underlying79 rfl rfl rfl (by kernel_rfl) h)
  refine ⟨((x, y), z), rfl, ⟨hy1, hy2⟩, ?_, ?_, ?_⟩
  · rw [Lit.wf, show IntKind.i64.min = -9223372036854775808 from by decide, show IntKind.i64.max = 9223372036854775807 from by decide, Bool.and_eq_true, decide_eq_true_eq, decide_eq_true_eq]; exact ⟨hx1, hx2⟩
  · rw [Lit.wf, show IntKind.u32.min = 0 from by decide, show IntKind.u32.max = 4294967295 from by decide, Bool.and_eq_true, decide_eq_true_eq, decide_eq_true_eq]; exact ⟨hy1, by show y ≤ 4294967295; omega⟩
  · rw [Lit.wf, show IntKind.i64.min = -9223372036854775808 from by decide, show IntKind.i64.max = 9223372036854775807 from by decide, Bool.and_eq_true, decide_eq_true_eq, decide_eq_true_eq]; exact ⟨hz1, hz2⟩
theorem reads_act {cs : List Value} (hl : cs.length = 2) (h : Reads enc Try.prog w base spare held 116 cs) : ∃ a : AcS, cs = a.enc ∧ a.Ok w w.heap.size := by
  obtain ⟨a, b, rfl⟩ := list2 hl
  obtain ⟨z, rfl, hzl⟩ := reads_string Try.underlying9 (reads_field 0 0 1 Try.underlying116 rfl rfl rfl (by kernel_rfl) h)
  obtain ⟨C, k, f, ts, rfl, hR, hQ, h1, h2⟩ := reads_slice Tm.enc Tm.fit Try.underlying23 (by kernel_rfl) (by decide) (fun cs hl h => reads_tmF hl h) (reads_field 1 1 1 Try.underlying116 rfl rfl rfl (by kernel_rfl) h)
  exact ⟨⟨z.data.toList, C, k, f, ts⟩, by unfold AcS.enc; rw [bs_of], hR, hQ, by rw [Array.length_toList]; exact hzl, h1, h2⟩
set_option maxRecDepth 100000 in
theorem open_acts {r : Reach} {b0 : Nat} {v : Value} {d : DataW H} {p : List MemPlace} (hv : Value.okWide Try.prog w r b0 113 v) (h : DataW.Trod enc Try.prog w base spare held 113 v d p) :
    ∃ A n c, ∃ xs : List AcS, v = .slice A n c ∧ Rd w w.heap.size 2 A n (xs.map AcS.enc) ∧ (∀ x ∈ xs, x.Ok w w.heap.size) ∧ n ≤ c ∧ c ≤ maxLen := by
  obtain ⟨a, len, cap, rfl⟩ := okWide_slice Try.underlying113 hv
  obtain ⟨A, n, c, xs, h1, h2, h3, h4, h5⟩ := reads_slice AcS.enc (fun a => a.Ok w w.heap.size) Try.underlying113 (by kernel_rfl) (by decide) (fun cs hl h => reads_act hl h) (reads_of h)
  exact ⟨A, n, c, xs, h1, h2, h3, h4, h5⟩
end
end Go.Proofs.Ytadldndmmobpdaa
