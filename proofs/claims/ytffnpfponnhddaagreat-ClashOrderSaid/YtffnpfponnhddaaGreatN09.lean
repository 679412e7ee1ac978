/- The plain law of ClashOrder: of two acts on a set or a map that do not clash, each seeing all ahead of it, it does not matter which comes first. Lists of tags and of additions: the document's right, rises, HasTag, SameTags; slices.IndexFunc, ContainsFunc, BinarySearchFunc; strictly. -/
import Derived.Test.YtffnpfponnhddaaGreatN08
import Derived.Deep.DeepCutAuto
import Derived.Deep.RegionHeld3
import Derived.Deep.LoopGhost
namespace Go.Proofs.YtffnpfponnhddaaGreat

section
variable {α : Type} (key : α → Tm) (ok1 : α → Bool) (nm : α → List UInt8)
/-- The names that what is seen asks to be taken away. -/
def tagsK (xs : List α) (gs : List Tm) (e : List UInt8) : List Tm := if errK key ok1 xs gs ≠ 0 then [] else (xs.filter fun a => decide (nm a = e)).map key
variable {key ok1 nm}
theorem tagsK_mem {xs : List α} {gs : List Tm} {e : List UInt8} (h : errK key ok1 xs gs = 0) (t : Tm) : t ∈ tagsK key ok1 nm xs gs e ↔ ∃ z ∈ xs, nm z = e ∧ key z = t := by
  unfold tagsK
  rw [if_neg (by rw [h]; simp), List.mem_map]
  constructor
  · rintro ⟨z, hz, rfl⟩
    rw [List.mem_filter] at hz
    exact ⟨z, hz.1, by simpa using hz.2, rfl⟩
  · rintro ⟨z, hz, he, rfl⟩
    exact ⟨z, List.mem_filter.2 ⟨hz, by simpa using he⟩, rfl⟩
/-- A name that nothing has. -/
def FreshK (key : α → Tm) (X : List α × List Tm) (t : Tm) : Prop := (∀ z ∈ X.1, key z ≠ t) ∧ t ∉ X.2
theorem putK_ok {X : List α × List Tm} {a : α} (h : (putK key ok1 X.1 X.2 a).2 = 0) (hf : FreshK key X (key a)) :
    errK key ok1 X.1 X.2 = 0 ∧ errK key ok1 (putK key ok1 X.1 X.2 a).1.1 (putK key ok1 X.1 X.2 a).1.2 = 0 ∧ (∀ z, z ∈ (putK key ok1 X.1 X.2 a).1.1 ↔ z ∈ X.1 ∨ z = a) ∧ (putK key ok1 X.1 X.2 a).1.2 = X.2 := by
  have e0 : errK key ok1 X.1 X.2 = 0 := by
    apply Classical.byContradiction
    intro hn
    unfold putK at h
    rw [if_pos hn] at h
    exact hn h
  have hk : ¬ (chkT (key a) = false ∨ ok1 a = false) := fun hh => putK_err (key := key) (ok1 := ok1) (xs := X.1) (gs := X.2) hh h
  have hc : chkT (key a) = true := by cases hb : chkT (key a) with
    | true => rfl
    | false => exact absurd (.inl hb) hk
  have ho : ok1 a = true := by cases hb : ok1 a with
    | true => rfl
    | false => exact absurd (.inr hb) hk
  have hnk : key a ∉ X.1.map key := fun hm => by
    obtain ⟨z, hz, he⟩ := List.mem_map.1 hm
    exact hf.1 z hz he
  have hlt : X.1.length < 4096 := by
    have h1 := (errK_zero.1 e0).1
    rcases Nat.lt_or_ge X.1.length 4096 with h2 | h2
    · exact h2
    · have h3 : X.1.length = 4096 := Nat.le_antisymm h1 h2
      unfold putK at h
      rw [if_neg (by rw [e0]; simp), if_neg (by rw [hc]; simp), if_neg (by rw [ho]; simp), if_neg (by
        rw [Bool.or_eq_true, List.contains_iff_mem, List.contains_iff_mem]
        rintro (hh | hh)
        · exact hnk hh
        · exact hf.2 hh), if_pos h3] at h
      exact absurd h (by simp)
  obtain ⟨_, h2, h3, h4, _⟩ := putK_spec e0 hc ho hlt
  refine ⟨e0, by rw [h2]; exact h3, fun z => ?_, h2⟩
  rw [h4]
  constructor
  · rintro (hz | ⟨rfl, _⟩)
    · exact .inl hz
    · exact .inr rfl
  · rintro (hz | rfl)
    · exact .inl hz
    · exact .inr ⟨rfl, hnk, hf.2⟩
theorem dropK_ok {X : List α × List Tm} {l : List Tm} (h : (dropK key ok1 X.1 X.2 l).2 = 0) :
    errK key ok1 X.1 X.2 = 0 ∧ errK key ok1 (dropK key ok1 X.1 X.2 l).1.1 (dropK key ok1 X.1 X.2 l).1.2 = 0 ∧ (∀ z, z ∈ (dropK key ok1 X.1 X.2 l).1.1 ↔ z ∈ X.1 ∧ key z ∉ l) ∧ (∀ t, t ∈ (dropK key ok1 X.1 X.2 l).1.2 ↔ t ∈ l ∨ t ∈ X.2) := by
  have e0 : errK key ok1 X.1 X.2 = 0 := by
    apply Classical.byContradiction
    intro hn
    unfold dropK at h
    rw [if_pos hn] at h
    exact hn h
  obtain ⟨h1, h2, h3, h4, h5, h6, h7⟩ := errK_zero.1 e0
  obtain ⟨ha, hm⟩ := dropG_spec l h6
  unfold dropK at h ⊢
  rw [if_neg (by rw [e0]; simp)] at h ⊢
  have n1 : ¬ 4096 < l.length := fun hh => by rw [if_pos hh] at h; exact absurd h (by simp)
  rw [if_neg n1] at h ⊢
  have n2 : ¬ l.any (fun t => !chkT t) = true := fun hh => by rw [if_pos hh] at h; exact absurd h (by simp)
  rw [if_neg n2] at h ⊢
  have n3 : ¬ 4096 < (dropG X.2 l).length := fun hh => by rw [if_pos hh] at h; exact absurd h (by simp)
  rw [if_neg n3]
  have hl : ∀ t ∈ l, chkT t = true := fun t ht => by
    cases hb : chkT t with
    | true => rfl
    | false => exact absurd (List.any_eq_true.2 ⟨t, ht, by simp [hb]⟩) n2
  have hmem : ∀ z, z ∈ (X.1.filter fun a => !(dropG X.2 l).contains (key a)) ↔ z ∈ X.1 ∧ key z ∉ l := by
    intro z
    rw [List.mem_filter]
    constructor
    · rintro ⟨hz, hk⟩
      refine ⟨hz, fun hkl => ?_⟩
      rw [Bool.not_eq_true', Bool.eq_false_iff] at hk
      exact hk (List.contains_iff_mem.2 ((hm _).2 (.inl hkl)))
    · rintro ⟨hz, hk⟩
      refine ⟨hz, ?_⟩
      rw [Bool.not_eq_true', Bool.eq_false_iff]
      intro hc
      rcases (hm _).1 (List.contains_iff_mem.1 hc) with h8 | h8
      · exact hk h8
      · exact (h7 z hz).2 h8
  refine ⟨e0, ?_, hmem, hm⟩
  rw [errK_zero]
  refine ⟨Nat.le_trans (List.length_filter_le _ _) h1, by show (dropG X.2 l).length ≤ 4096; omega, fun z hz => h3 z ((hmem z).1 hz).1, fun t ht => ?_, ascK_filter _ h5, ha, fun z hz => ⟨(h7 z ((hmem z).1 hz).1).1, fun hk => ?_⟩⟩
  · rcases (hm t).1 ht with h8 | h8
    · exact hl t h8
    · exact h4 t h8
  · rcases (hm _).1 hk with h8 | h8
    · exact ((hmem z).1 hz).2 h8
    · exact (h7 z ((hmem z).1 hz).1).2 h8
/-- Two puts of different names. -/
theorem comm_put {X : List α × List Tm} {a b : α} (ha : FreshK key X (key a)) (hb : FreshK key X (key b)) (hne : key a ≠ key b)
    (h1 : (putK key ok1 X.1 X.2 a).2 = 0) (h2 : (putK key ok1 (putK key ok1 X.1 X.2 a).1.1 (putK key ok1 X.1 X.2 a).1.2 b).2 = 0)
    (h3 : (putK key ok1 X.1 X.2 b).2 = 0) (h4 : (putK key ok1 (putK key ok1 X.1 X.2 b).1.1 (putK key ok1 X.1 X.2 b).1.2 a).2 = 0) :
    (putK key ok1 (putK key ok1 X.1 X.2 a).1.1 (putK key ok1 X.1 X.2 a).1.2 b).1 = (putK key ok1 (putK key ok1 X.1 X.2 b).1.1 (putK key ok1 X.1 X.2 b).1.2 a).1 := by
  obtain ⟨_, _, m1, g1⟩ := putK_ok h1 ha
  obtain ⟨_, _, m3, g3⟩ := putK_ok h3 hb
  have hb' : FreshK key (putK key ok1 X.1 X.2 a).1 (key b) := ⟨fun z hz => by
    rcases (m1 z).1 hz with h | rfl
    · exact hb.1 z h
    · exact hne, by rw [g1]; exact hb.2⟩
  have ha' : FreshK key (putK key ok1 X.1 X.2 b).1 (key a) := ⟨fun z hz => by
    rcases (m3 z).1 hz with h | rfl
    · exact ha.1 z h
    · exact hne.symm, by rw [g3]; exact ha.2⟩
  obtain ⟨_, e2, m2, g2⟩ := putK_ok h2 hb'
  obtain ⟨_, e4, m4, g4⟩ := putK_ok h4 ha'
  have := errK_ext e2 e4 (fun z => by rw [m2, m4, m1, m3]; exact or_right_comm) (fun t => by rw [g2, g4, g1, g3])
  exact Prod.ext this.1 this.2
/-- A put, and a taking away of another element or field. -/
theorem comm_take {X : List α × List Tm} {a : α} {e : List UInt8} (ha : FreshK key X (key a)) (hne : nm a ≠ e)
    (h1 : (putK key ok1 X.1 X.2 a).2 = 0) (h2 : (dropK key ok1 (putK key ok1 X.1 X.2 a).1.1 (putK key ok1 X.1 X.2 a).1.2 (tagsK key ok1 nm (putK key ok1 X.1 X.2 a).1.1 (putK key ok1 X.1 X.2 a).1.2 e)).2 = 0)
    (h3 : (dropK key ok1 X.1 X.2 (tagsK key ok1 nm X.1 X.2 e)).2 = 0) (h4 : (putK key ok1 (dropK key ok1 X.1 X.2 (tagsK key ok1 nm X.1 X.2 e)).1.1 (dropK key ok1 X.1 X.2 (tagsK key ok1 nm X.1 X.2 e)).1.2 a).2 = 0) :
    (dropK key ok1 (putK key ok1 X.1 X.2 a).1.1 (putK key ok1 X.1 X.2 a).1.2 (tagsK key ok1 nm (putK key ok1 X.1 X.2 a).1.1 (putK key ok1 X.1 X.2 a).1.2 e)).1 = (putK key ok1 (dropK key ok1 X.1 X.2 (tagsK key ok1 nm X.1 X.2 e)).1.1 (dropK key ok1 X.1 X.2 (tagsK key ok1 nm X.1 X.2 e)).1.2 a).1 := by
  obtain ⟨e0, e1, m1, g1⟩ := putK_ok h1 ha
  obtain ⟨_, e2, m2, g2⟩ := dropK_ok h2
  obtain ⟨_, e3, m3, g3⟩ := dropK_ok h3
  have t0 := tagsK_mem (nm := nm) (e := e) e0
  have t1 := tagsK_mem (nm := nm) (e := e) e1
  have hat : key a ∉ tagsK key ok1 nm X.1 X.2 e := fun h => by
    obtain ⟨z, hz, _, hk⟩ := (t0 _).1 h
    exact ha.1 z hz hk
  have ha' : FreshK key (dropK key ok1 X.1 X.2 (tagsK key ok1 nm X.1 X.2 e)).1 (key a) := ⟨fun z hz => ha.1 z ((m3 z).1 hz).1, fun h => by
    rcases (g3 _).1 h with h | h
    · exact hat h
    · exact ha.2 h⟩
  obtain ⟨_, e4, m4, g4⟩ := putK_ok h4 ha'
  have tt : ∀ t, t ∈ tagsK key ok1 nm (putK key ok1 X.1 X.2 a).1.1 (putK key ok1 X.1 X.2 a).1.2 e ↔ t ∈ tagsK key ok1 nm X.1 X.2 e := fun t => by
    rw [t0, t1]
    constructor
    · rintro ⟨z, hz, he, hk⟩
      rcases (m1 z).1 hz with h | rfl
      · exact ⟨z, h, he, hk⟩
      · exact absurd he hne
    · rintro ⟨z, hz, he, hk⟩
      exact ⟨z, (m1 z).2 (.inl hz), he, hk⟩
  have := errK_ext e2 e4 (fun z => by
    rw [m2, m4, m1, m3, tt]
    constructor
    · rintro ⟨h | rfl, hk⟩
      · exact .inl ⟨h, hk⟩
      · exact .inr rfl
    · rintro (⟨h, hk⟩ | rfl)
      · exact ⟨.inl h, hk⟩
      · exact ⟨.inr rfl, hat⟩) (fun t => by rw [g2, g4, g3, tt, g1])
  exact Prod.ext this.1 this.2
/-- Two takings away. -/
theorem comm_takes {X : List α × List Tm} {e f : List UInt8}
    (h1 : (dropK key ok1 X.1 X.2 (tagsK key ok1 nm X.1 X.2 e)).2 = 0) (h2 : (dropK key ok1 (dropK key ok1 X.1 X.2 (tagsK key ok1 nm X.1 X.2 e)).1.1 (dropK key ok1 X.1 X.2 (tagsK key ok1 nm X.1 X.2 e)).1.2 (tagsK key ok1 nm (dropK key ok1 X.1 X.2 (tagsK key ok1 nm X.1 X.2 e)).1.1 (dropK key ok1 X.1 X.2 (tagsK key ok1 nm X.1 X.2 e)).1.2 f)).2 = 0)
    (h3 : (dropK key ok1 X.1 X.2 (tagsK key ok1 nm X.1 X.2 f)).2 = 0) (h4 : (dropK key ok1 (dropK key ok1 X.1 X.2 (tagsK key ok1 nm X.1 X.2 f)).1.1 (dropK key ok1 X.1 X.2 (tagsK key ok1 nm X.1 X.2 f)).1.2 (tagsK key ok1 nm (dropK key ok1 X.1 X.2 (tagsK key ok1 nm X.1 X.2 f)).1.1 (dropK key ok1 X.1 X.2 (tagsK key ok1 nm X.1 X.2 f)).1.2 e)).2 = 0) :
    (dropK key ok1 (dropK key ok1 X.1 X.2 (tagsK key ok1 nm X.1 X.2 e)).1.1 (dropK key ok1 X.1 X.2 (tagsK key ok1 nm X.1 X.2 e)).1.2 (tagsK key ok1 nm (dropK key ok1 X.1 X.2 (tagsK key ok1 nm X.1 X.2 e)).1.1 (dropK key ok1 X.1 X.2 (tagsK key ok1 nm X.1 X.2 e)).1.2 f)).1 =
    (dropK key ok1 (dropK key ok1 X.1 X.2 (tagsK key ok1 nm X.1 X.2 f)).1.1 (dropK key ok1 X.1 X.2 (tagsK key ok1 nm X.1 X.2 f)).1.2 (tagsK key ok1 nm (dropK key ok1 X.1 X.2 (tagsK key ok1 nm X.1 X.2 f)).1.1 (dropK key ok1 X.1 X.2 (tagsK key ok1 nm X.1 X.2 f)).1.2 e)).1 := by
  obtain ⟨e0, e1, m1, g1⟩ := dropK_ok h1
  obtain ⟨_, e2, m2, g2⟩ := dropK_ok h2
  obtain ⟨_, e3, m3, g3⟩ := dropK_ok h3
  obtain ⟨_, e4, m4, g4⟩ := dropK_ok h4
  have te := tagsK_mem (nm := nm) (e := e) e0
  have tf := tagsK_mem (nm := nm) (e := f) e0
  have tf1 : ∀ t, (t ∈ tagsK key ok1 nm X.1 X.2 e ∨ t ∈ tagsK key ok1 nm (dropK key ok1 X.1 X.2 (tagsK key ok1 nm X.1 X.2 e)).1.1 (dropK key ok1 X.1 X.2 (tagsK key ok1 nm X.1 X.2 e)).1.2 f) ↔ (t ∈ tagsK key ok1 nm X.1 X.2 e ∨ t ∈ tagsK key ok1 nm X.1 X.2 f) := fun t => by
    rw [tagsK_mem (nm := nm) (e := f) e1, tf]
    constructor
    · rintro (h | ⟨z, hz, he, hk⟩)
      · exact .inl h
      · exact .inr ⟨z, ((m1 z).1 hz).1, he, hk⟩
    · rintro (h | ⟨z, hz, he, rfl⟩)
      · exact .inl h
      · by_cases hk : key z ∈ tagsK key ok1 nm X.1 X.2 e
        · exact .inl hk
        · exact .inr ⟨z, (m1 z).2 ⟨hz, hk⟩, he, rfl⟩
  have te3 : ∀ t, (t ∈ tagsK key ok1 nm X.1 X.2 f ∨ t ∈ tagsK key ok1 nm (dropK key ok1 X.1 X.2 (tagsK key ok1 nm X.1 X.2 f)).1.1 (dropK key ok1 X.1 X.2 (tagsK key ok1 nm X.1 X.2 f)).1.2 e) ↔ (t ∈ tagsK key ok1 nm X.1 X.2 f ∨ t ∈ tagsK key ok1 nm X.1 X.2 e) := fun t => by
    rw [tagsK_mem (nm := nm) (e := e) e3, te]
    constructor
    · rintro (h | ⟨z, hz, he, hk⟩)
      · exact .inl h
      · exact .inr ⟨z, ((m3 z).1 hz).1, he, hk⟩
    · rintro (h | ⟨z, hz, he, rfl⟩)
      · exact .inl h
      · by_cases hk : key z ∈ tagsK key ok1 nm X.1 X.2 f
        · exact .inl hk
        · exact .inr ⟨z, (m3 z).2 ⟨hz, hk⟩, he, rfl⟩
  have := errK_ext e2 e4 (fun z => by
    rw [m2, m4, m1, m3, and_assoc, and_assoc, ← not_or, ← not_or, tf1, te3, or_comm]) (fun t => by
    rw [g2, g4, g1, g3, ← or_assoc, ← or_assoc, or_comm (a := t ∈ tagsK key ok1 nm (dropK key ok1 X.1 X.2 (tagsK key ok1 nm X.1 X.2 e)).1.1 (dropK key ok1 X.1 X.2 (tagsK key ok1 nm X.1 X.2 e)).1.2 f), or_comm (a := t ∈ tagsK key ok1 nm (dropK key ok1 X.1 X.2 (tagsK key ok1 nm X.1 X.2 f)).1.1 (dropK key ok1 X.1 X.2 (tagsK key ok1 nm X.1 X.2 f)).1.2 e), tf1, te3, or_comm (a := t ∈ tagsK key ok1 nm X.1 X.2 e)])
  exact Prod.ext this.1 this.2
end
end Go.Proofs.YtffnpfponnhddaaGreat
namespace Go.Proofs.YtffnpfponnhddaaGreat
open Go.RowKit

/-- A function value that answers p of such things, wherever what lay below block B stands. -/
def PredT (g : Nat) (lb : Array Value) (p : Tm → Bool) (B : Nat) (w : World) (xs : List Tm) : Prop :=
  ∀ x ∈ xs, ∀ w', Below B w w' → Calls Tryz.prog g (#[.agg #[.int .i64 x.1.1, .int .u32 x.1.2, .int .i64 x.2]] ++ lb) w' fun e w'' => e = .returned (.bool (p x)) ∧ Below w'.heap.size w' w''
theorem ixfT_gen (g : Nat) (lb : Array Value) (p : Tm → Bool) (eg : ∀ args w, (callFunc g args).run Tryz.prog w = .ok (.enter g args) w) (B : Nat) (A : Option Addr) (n c : Nat) (xs : List Tm) (w : World) (hA : RdT w w.heap.size A n xs) (hn : n ≤ maxLen) (hp : PredT g lb p B w xs) (hB : B ≤ w.heap.size) :
    Calls Tryz.prog 102 #[.slice A n c, .func (.func g) #[] lb] w
      fun e w' => e = .returned (.int .i64 (firstG p xs)) ∧ Below w.heap.size w w' := by
  unfold maxLen at hn
  have hp := Lib.hid hp
  go_enter Tryz.func102, Tryz.ntmps102
  go_wp2
  go_loopg [8] (n + 1) (fun g i wr => ∃ k : Nat, k ≤ n ∧ g = n + 1 - k ∧ i = .int .i64 k ∧ (∀ u ∈ xs.take k, p u = false) ∧ Below w.heap.size w wr)
  case atStart => exact ⟨0, Nat.zero_le _, rfl, rfl, by simp, Below.refl _ _⟩
  case round =>
    obtain ⟨k, hk, rfl, rfl, hno, hbr⟩ := hrel
    have hz := hbr.size
    by_cases hlt : k < n
    · obtain ⟨bA, oA, u, rfl, hbA, hq, hcp⟩ := (hA.below hbr).at_ hlt
      have p0 := hcp 0 _ rfl
      have p1 := hcp 1 _ rfl
      have p2 := hcp 2 _ rfl
      rw [Nat.add_zero] at p0
      clear hcp
      have hnoH := Lib.hid hno
      have hqH := Lib.hid hq
      clear hno hq
      go_wp2_with fail
      refine (hp.out u (List.mem_of_getElem? hqH.out) wr (hbr.mono hB)).mono ?_
      rintro e w1 ⟨rfl, hb1⟩
      have hb2 := hbr.trans (hb1.mono hz)
      generalize hx' : p u = r
      cases r
      case true =>
        have hT := Lib.hid (firstG_at hnoH.out hqH.out hx')
        clear hx'
        go_wp2
        go_ret
        exact ⟨ret_int hT.out.symm, hb2⟩
      case false =>
        have hT := Lib.hid hx'
        clear hx'
        go_wp2
        go_roundg (n + 1 - (k + 1))
        case measure => omega
        case rel => exact ⟨k + 1, by omega, rfl, by go_num, all_take_succ hnoH.out hqH.out hT.out, hb2⟩
    · have hT := Lib.hid (firstG_none (p := p) (all_take_all (by rw [show k = n from by omega] at hno; exact hno) hA.len))
      clear hno
      go_wp2
      go_ret
      exact ⟨ret_int hT.out.symm, hbr⟩
theorem cfT_gen (g : Nat) (lb : Array Value) (p : Tm → Bool) (eg : ∀ args w, (callFunc g args).run Tryz.prog w = .ok (.enter g args) w) (B : Nat) (A : Option Addr) (n c : Nat) (xs : List Tm) (w : World) (hA : RdT w w.heap.size A n xs) (hn : n ≤ maxLen) (hp : PredT g lb p B w xs) (hB : B ≤ w.heap.size) :
    Calls Tryz.prog 60 #[.slice A n c, .func (.func g) #[] lb] w
      fun e w' => e = .returned (.bool (xs.any p)) ∧ Below w.heap.size w w' := by
  have h := ixfT_gen g lb p eg B A n c xs w hA hn hp hB
  have hrH := Lib.hid (firstG_any p xs)
  clear eg hp
  generalize firstG p xs = z at h hrH
  go_enter Tryz.func60, Tryz.ntmps60
  go_wp2_with fail
  refine h.mono ?_
  rintro e w1 ⟨rfl, hb1⟩
  go_wp2
  go_ret
  exact ⟨ret_bool hrH.out, hb1⟩
/-- A function value that answers p of such things, wherever what lay below block B stands. -/
def PredA (g : Nat) (lb : Array Value) (p : Am → Bool) (B : Nat) (w : World) (xs : List Am) : Prop :=
  ∀ x ∈ xs, ∀ w', Below B w w' → Calls Tryz.prog g (#[.agg #[.int .i64 x.1.1.1, .int .u32 x.1.1.2, .int .i64 x.1.2, .string (bs x.2)]] ++ lb) w' fun e w'' => e = .returned (.bool (p x)) ∧ Below w'.heap.size w' w''
theorem ixfA_gen (g : Nat) (lb : Array Value) (p : Am → Bool) (eg : ∀ args w, (callFunc g args).run Tryz.prog w = .ok (.enter g args) w) (B : Nat) (A : Option Addr) (n c : Nat) (xs : List Am) (w : World) (hA : RdA w w.heap.size A n xs) (hn : n ≤ maxLen) (hp : PredA g lb p B w xs) (hB : B ≤ w.heap.size) :
    Calls Tryz.prog 111 #[.slice A n c, .func (.func g) #[] lb] w
      fun e w' => e = .returned (.int .i64 (firstG p xs)) ∧ Below w.heap.size w w' := by
  unfold maxLen at hn
  have hp := Lib.hid hp
  go_enter Tryz.func111, Tryz.ntmps111
  go_wp2
  go_loopg [8] (n + 1) (fun g i wr => ∃ k : Nat, k ≤ n ∧ g = n + 1 - k ∧ i = .int .i64 k ∧ (∀ u ∈ xs.take k, p u = false) ∧ Below w.heap.size w wr)
  case atStart => exact ⟨0, Nat.zero_le _, rfl, rfl, by simp, Below.refl _ _⟩
  case round =>
    obtain ⟨k, hk, rfl, rfl, hno, hbr⟩ := hrel
    have hz := hbr.size
    by_cases hlt : k < n
    · obtain ⟨bA, oA, u, rfl, hbA, hq, hcp⟩ := (hA.below hbr).at_ hlt
      have p0 := hcp 0 _ rfl
      have p1 := hcp 1 _ rfl
      have p2 := hcp 2 _ rfl
      have p3 := hcp 3 _ rfl
      rw [Nat.add_zero] at p0
      clear hcp
      have hnoH := Lib.hid hno
      have hqH := Lib.hid hq
      clear hno hq
      go_wp2_with fail
      refine (hp.out u (List.mem_of_getElem? hqH.out) wr (hbr.mono hB)).mono ?_
      rintro e w1 ⟨rfl, hb1⟩
      have hb2 := hbr.trans (hb1.mono hz)
      generalize hx' : p u = r
      cases r
      case true =>
        have hT := Lib.hid (firstG_at hnoH.out hqH.out hx')
        clear hx'
        go_wp2
        go_ret
        exact ⟨ret_int hT.out.symm, hb2⟩
      case false =>
        have hT := Lib.hid hx'
        clear hx'
        go_wp2
        go_roundg (n + 1 - (k + 1))
        case measure => omega
        case rel => exact ⟨k + 1, by omega, rfl, by go_num, all_take_succ hnoH.out hqH.out hT.out, hb2⟩
    · have hT := Lib.hid (firstG_none (p := p) (all_take_all (by rw [show k = n from by omega] at hno; exact hno) hA.len))
      clear hno
      go_wp2
      go_ret
      exact ⟨ret_int hT.out.symm, hbr⟩
theorem cfA_gen (g : Nat) (lb : Array Value) (p : Am → Bool) (eg : ∀ args w, (callFunc g args).run Tryz.prog w = .ok (.enter g args) w) (B : Nat) (A : Option Addr) (n c : Nat) (xs : List Am) (w : World) (hA : RdA w w.heap.size A n xs) (hn : n ≤ maxLen) (hp : PredA g lb p B w xs) (hB : B ≤ w.heap.size) :
    Calls Tryz.prog 86 #[.slice A n c, .func (.func g) #[] lb] w
      fun e w' => e = .returned (.bool (xs.any p)) ∧ Below w.heap.size w w' := by
  have h := ixfA_gen g lb p eg B A n c xs w hA hn hp hB
  have hrH := Lib.hid (firstG_any p xs)
  clear eg hp
  generalize firstG p xs = z at h hrH
  go_enter Tryz.func86, Tryz.ntmps86
  go_wp2_with fail
  refine h.mono ?_
  rintro e w1 ⟨rfl, hb1⟩
  go_wp2
  go_ret
  exact ⟨ret_bool hrH.out, hb1⟩
end Go.Proofs.YtffnpfponnhddaaGreat
