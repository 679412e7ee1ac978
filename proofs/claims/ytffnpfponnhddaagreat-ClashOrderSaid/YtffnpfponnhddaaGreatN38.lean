/- Which acts clash; selkielaw24.works, with an empty list of transactions. What 'does' does is the plain law's step; objects stay as they may be; ClashOrder's plain end. The statements' own Great of effects and of transactions. -/
import Derived.Test.YtffnpfponnhddaaGreatN29
import Derived.Test.YtffnpfponnhddaaGreatN27
import Derived.Test.YtffnpfponnhddaaGreatCoJ
import Derived.Test.YtffnpfponnhddaaGreatN11
import Derived.Test.YtffnpfponnhddaaGreatGb
import Derived.Deep.DeepCutAuto
import Derived.Deep.RegionHeld3
import Derived.Deep.LoopGhost
namespace Go.Proofs.YtffnpfponnhddaaGreat
open Go.RowKit

/-- Do two acts clash? 's': their names are the same. -/
def opsB (a b : Int) (s : Bool) : Bool := decide (a = 1 ∧ b = 1) || (s && decide ((a = 3 ∧ b = 4) ∨ (a = 4 ∧ b = 3) ∨ (a = 5 ∧ b = 5) ∨ (a = 5 ∧ b = 6) ∨ (a = 6 ∧ b = 5)))
theorem guard77 : Tryz.prog.eqGuardType Tryz.prog.depth 86 = false := by kernel_rfl
theorem info3 : (Tryz.prog.info? 3).isSome = true := by kernel_rfl
theorem cells3 : Tryz.prog.cellsOf 3 = 1 := by kernel_rfl
theorem eq77 (w : World) (x y u v : Int) : (binOp .eql 86 (.agg #[.int .i64 x, .int .i64 y]) (.agg #[.int .i64 u, .int .i64 v])).run Tryz.prog w = .ok (.bool (x == u && y == v)) w := by
  obtain ⟨i, hi⟩ := Option.isSome_iff_exists.1 info3
  have h := run_eql_ints Tryz.underlying86 hi cells3 Tryz.underlying3 [x, y] [u, v] rfl rfl w
  simpa using h

set_option maxRecDepth 100000 in
set_option maxHeartbeats 1000000 in
theorem ops_any (a v b u : Int) (s t : ByteArray) (w : World) :
    Calls Tryz.prog 6 #[.agg #[.int .i64 a, .string s, .int .i64 v], .agg #[.int .i64 b, .string t, .int .i64 u]] w
      fun e w' => e = .returned (.bool (opsB a b (s.toList == t.toList))) ∧ Below w.heap.size w w' := by
  have hg := guard77
  have he := eq77
  have hts : (t.toList == s.toList) = (s.toList == t.toList) := by rw [Bool.eq_iff_iff, beq_iff_eq, beq_iff_eq]; exact eq_comm
  generalize hz : (s.toList == t.toList) = z at *
  by_cases hab : b < a
  all_goals
    go_enter Tryz.func6, Tryz.ntmps6
    go_wp2
    all_goals
      go_ret
      refine ⟨ret_bool ?_, ?_⟩
  all_goals first
    | (exact ((Below.refl _ _).alloc (Nat.le_refl _) _).alloc (by simp) _)
    | (simp only [beq_iff_eq, beq_eq_false_iff_ne] at *; cases z <;> simp [opsB] <;> omega)
set_option maxRecDepth 100000 in
theorem idx0_any (f : Value) (n : Nat) (w : World) : Calls Tryz.prog 26 #[.slice none 0 n, f] w fun e w' => e = .returned (.int .i64 (-1)) ∧ w' = w := by
  go_enter Tryz.func26, Tryz.ntmps26
  go_wp2
  go_loopg [8] 1 (fun g i wr => g = 1 ∧ i = .int .i64 0 ∧ wr = w)
  case atStart => exact ⟨rfl, rfl, rfl⟩
  case round =>
    obtain ⟨rfl, rfl, rfl⟩ := hrel
    go_wp2
    go_ret
    exact ⟨rfl, rfl⟩
set_option maxRecDepth 100000 in
theorem first0_any (w : World) : Calls Tryz.prog 13 #[.agg #[.int .i64 0, .int .u32 0, .int .u32 0, .int .u32 0, .int .u32 0, .int .u32 0, .int .u32 0, .int .u32 0, .int .u32 0, .int .u32 0, .bool false, .slice none 0 0], .slice none 0 0] w fun e w' => e = .returned (.int .i64 (-1)) ∧ Below w.heap.size w w' := by
  have hb := (Below.refl w.heap.size w).alloc (Nat.le_refl _) (.cells #[.int .i64 0, .int .u32 0, .int .u32 0, .int .u32 0, .int .u32 0, .int .u32 0, .int .u32 0, .int .u32 0, .int .u32 0, .int .u32 0, .bool false, .slice none 0 0] 83)
  go_enter Tryz.func13, Tryz.ntmps13
  go_wp2_with fail
  refine (idx0_any _ _ _).mono ?_
  rintro e w1 ⟨rfl, rfl⟩
  go_wp2
  go_ret
  exact ⟨rfl, hb⟩
theorem ops_val (a v b u : Int) (s t : ByteArray) (w : World) (r : Bool) (h : opsB a b (s.data.toList == t.data.toList) = r) :
    Calls Tryz.prog 6 #[.agg #[.int .i64 a, .string s, .int .i64 v], .agg #[.int .i64 b, .string t, .int .i64 u]] w
      fun e w' => e = .returned (.bool r) ∧ Below w.heap.size w w' := by
  have := ops_any a v b u s t w
  rw [ByteArray.toList_eq, ByteArray.toList_eq, h] at this
  exact this

set_option maxRecDepth 100000 in
set_option maxHeartbeats 1000000 in
theorem works24_any (w : World) : Calls Tryz.prog 4 #[] w fun e w' => e = .returned (.bool true) ∧ Below w.heap.size w w' := by
  go_enter Tryz.func4, Tryz.ntmps4
  go_wp2_with fail
  refine (ops_val _ _ _ _ _ _ _ true (by decide)).mono ?_
  rintro e w1 ⟨rfl, hb1⟩
  obtain ⟨hc1, _⟩ := bcell hb1
  have hz1 := hb1.size
  simp only [World.size_alloc] at hz1
  have hy10 : w.heap.size < w1.heap.size := by omega
  have hy11 : w.heap.size + 1 < w1.heap.size := by omega
  have hy12 : w.heap.size + 1 + 1 < w1.heap.size := by omega
  go_wp2_with fail
  refine (ops_val _ _ _ _ _ _ _ true (by decide)).mono ?_
  rintro e w2 ⟨rfl, hb2⟩
  obtain ⟨hc2, _⟩ := bcell hb2
  have hz2 := hb2.size
  have hy20 : w.heap.size < w2.heap.size := by omega
  have hy21 : w.heap.size + 1 < w2.heap.size := by omega
  have hy22 : w.heap.size + 1 + 1 < w2.heap.size := by omega
  go_wp2_with fail
  refine (ops_val _ _ _ _ _ _ _ false (by decide)).mono ?_
  rintro e w3 ⟨rfl, hb3⟩
  obtain ⟨hc3, _⟩ := bcell hb3
  have hz3 := hb3.size
  have hy30 : w.heap.size < w3.heap.size := by omega
  have hy31 : w.heap.size + 1 < w3.heap.size := by omega
  have hy32 : w.heap.size + 1 + 1 < w3.heap.size := by omega
  go_wp2_with fail
  refine (ops_val _ _ _ _ _ _ _ false (by decide)).mono ?_
  rintro e w4 ⟨rfl, hb4⟩
  obtain ⟨hc4, _⟩ := bcell hb4
  have hz4 := hb4.size
  have hy40 : w.heap.size < w4.heap.size := by omega
  have hy41 : w.heap.size + 1 < w4.heap.size := by omega
  have hy42 : w.heap.size + 1 + 1 < w4.heap.size := by omega
  go_wp2_with fail
  refine (ops_val _ _ _ _ _ _ _ true (by decide)).mono ?_
  rintro e w5 ⟨rfl, hb5⟩
  obtain ⟨hc5, _⟩ := bcell hb5
  have hz5 := hb5.size
  have hy50 : w.heap.size < w5.heap.size := by omega
  have hy51 : w.heap.size + 1 < w5.heap.size := by omega
  have hy52 : w.heap.size + 1 + 1 < w5.heap.size := by omega
  go_wp2_with fail
  refine (ops_val _ _ _ _ _ _ _ false (by decide)).mono ?_
  rintro e w6 ⟨rfl, hb6⟩
  have hz6 := hb6.size
  go_wp2_with fail
  refine (first0_any w6).mono ?_
  rintro e w7 ⟨rfl, hb7⟩
  go_wp2
  go_ret
  refine ⟨?_, ?_⟩
  · rfl
  · exact ((((Below.refl _ w).alloc (Nat.le_refl _) _).alloc (by first | (simp; done) | (simp; omega) | omega) _).alloc (by first | (simp; done) | (simp; omega) | omega) _).trans ((hb1.mono (by first | (simp; done) | (simp; omega) | omega)).trans ((hb2.mono (by first | (simp; done) | (simp; omega) | omega)).trans ((hb3.mono (by first | (simp; done) | (simp; omega) | omega)).trans ((hb4.mono (by first | (simp; done) | (simp; omega) | omega)).trans ((hb5.mono (by first | (simp; done) | (simp; omega) | omega)).trans ((hb6.mono (by first | (simp; done) | (simp; omega) | omega)).trans (hb7.mono (by first | (simp; done) | (simp; omega) | omega))))))))
end Go.Proofs.YtffnpfponnhddaaGreat
namespace Go.Proofs.YtffnpfponnhddaaGreat

def noR : Ob → Int → Int → Option Ob := fun _ _ _ => none
theorem stepR_step {o o' : Ob} {a v n : Int} {nm : List UInt8} (h : StepR o a nm v n o') (ha : a ≠ 1) : stepC noR o a nm v n = some o' := by
  obtain ⟨he, hk, hd⟩ := h
  have hk : kindA a = o.kd := hk
  unfold stepC
  rw [if_neg (fun hh => hh.elim (fun e => e he) (fun e => e hk)), if_neg ha]
  rcases hd with ⟨e, _⟩ | ⟨e, q, h1, h2⟩ | ⟨e, h1, h2⟩ | ⟨e, h1, h2⟩ | ⟨e, h1, h2⟩ | ⟨e, h1, h2⟩
  · exact absurd e ha
  · have e : a = 2 := e
    subst e
    rw [if_pos rfl]
    have h1 : cntC o.pl o.mi v = some q := h1
    rw [h1, h2]
    rfl
  · have e : a = 3 := e
    subst e
    have h1 : (putO o.S.1 o.S.2 (tagC n, nm)).2 = 0 := h1
    rw [if_neg (by decide), if_pos rfl, if_pos h1, h2]
    rfl
  · have e : a = 4 := e
    subst e
    have ht : (effC o 4 nm v n).tags = tagsO o.S.1 o.S.2 nm := by simp [effC]
    rw [ht] at h1 h2
    rw [if_neg (by decide), if_neg (by decide), if_pos rfl, if_pos h1, h2]
  · have e : a = 5 := e
    subst e
    have ht : (effC o 5 nm v n).st = stampC n := by simp [effC]
    rw [ht] at h1 h2
    have h1 : (putM o.M.1 o.M.2 (tagC n, (nm, (v, stampC n)))).2 = 0 := h1
    rw [if_neg (by decide), if_neg (by decide), if_neg (by decide), if_pos rfl, if_pos h1, h2]
    rfl
  · have e : a = 6 := e
    subst e
    have ht : (effC o 6 nm v n).tags = tagsM o.M.1 o.M.2 nm := by simp [effC]
    rw [ht] at h1 h2
    rw [if_neg (by decide), if_neg (by decide), if_neg (by decide), if_neg (by decide), if_pos h1, h2]
theorem stepR_ok {o o' : Ob} {a v n : Int} {nm : List UInt8} (h : StepR o a nm v n o') (ha : a ≠ 1) (hok : o.Ok) (hn : n = 0 ∨ n = 1) (hl : nm.length ≤ maxLen) (hv : -9223372036854775808 ≤ v ∧ v ≤ 9223372036854775807) : o'.Ok := by
  obtain ⟨he, hk, hd⟩ := h
  obtain ⟨x1, x2, x3, x4, x5, x6, x7⟩ := hok
  have htg : Tm.wf (tagC n) := by rcases hn with rfl | rfl <;> constructor <;> decide
  have hst : Sm.wf (stampC n) := by rcases hn with rfl | rfl <;> constructor <;> decide
  rcases hd with ⟨e, _⟩ | ⟨e, q, h1, h2⟩ | ⟨e, h1, h2⟩ | ⟨e, h1, h2⟩ | ⟨e, h1, h2⟩ | ⟨e, h1, h2⟩
  · exact absurd e ha
  · subst h2; exact ⟨x1, x2, x3, x4, x5, x6, x7⟩
  · subst h2
    have hs := putK_sub (key := Prod.fst) (ok1 := fun a : Am => elemB a.2) o.S.1 o.S.2 (tagC n, nm)
    refine ⟨fun z hz => ?_, fun t ht => x2 t (hs.2.1 t ht), fun z hz => ?_, x4, x5, x6, x7⟩
    · rcases hs.1 z hz with rfl | h
      · exact htg
      · exact x1 z h
    · rcases hs.1 z hz with rfl | h
      · exact hl
      · exact x3 z h
  · have e : a = 4 := e
    subst e
    have ht : (effC o 4 nm v n).tags = tagsO o.S.1 o.S.2 nm := by simp [effC]
    rw [ht] at h1 h2
    subst h2
    have hs := dropK_sub (key := Prod.fst) (ok1 := fun a : Am => elemB a.2) o.S.1 o.S.2 (tagsO o.S.1 o.S.2 nm)
    have ht2 := @tagsO_sub o.S.1 o.S.2 nm
    refine ⟨fun z hz => x1 z (hs.1 z hz), fun t ht => ?_, fun z hz => x3 z (hs.1 z hz), x4, x5, x6, x7⟩
    rcases hs.2.1 t ht with h | h
    · obtain ⟨z, hz, rfl⟩ := ht2.2 t h
      exact x1 z hz
    · exact x2 t h
  · have e : a = 5 := e
    subst e
    have ht : (effC o 5 nm v n).st = stampC n := by simp [effC]
    rw [ht] at h1 h2
    subst h2
    have hs := putK_sub (key := Prod.fst) (ok1 := fitsP) o.M.1 o.M.2 (tagC n, (nm, (v, stampC n)))
    refine ⟨x1, x2, x3, fun z hz => ?_, fun t ht => x5 t (hs.2.1 t ht), fun z hz => ?_, x7⟩
    · rcases hs.1 z hz with rfl | h
      · exact ⟨htg, hst, hv.1, hv.2⟩
      · exact x4 z h
    · rcases hs.1 z hz with rfl | h
      · exact hl
      · exact x6 z h
  · have e : a = 6 := e
    subst e
    have ht : (effC o 6 nm v n).tags = tagsM o.M.1 o.M.2 nm := by simp [effC]
    rw [ht] at h1 h2
    subst h2
    have hs := dropK_sub (key := Prod.fst) (ok1 := fitsP) o.M.1 o.M.2 (tagsM o.M.1 o.M.2 nm)
    have ht2 := @tagsM_sub o.M.1 o.M.2 nm
    refine ⟨x1, x2, x3, fun z hz => x4 z (hs.1 z hz), fun t ht => ?_, fun z hz => x6 z (hs.1 z hz), x7⟩
    rcases hs.2.1 t ht with h | h
    · obtain ⟨z, hz, rfl⟩ := ht2.2 t h
      exact (x4 z hz).1
    · exact x5 t h
/-- Acts that do not clash and can both be done are no register's. -/
theorem noreg {o x y : Ob} {a b va vb : Int} {na nb : List UInt8} (hc : opsB a b (na == nb) = false) (h1 : StepR o a na va 0 x) (h3 : StepR o b nb vb 1 y) : a ≠ 1 ∧ b ≠ 1 := by
  have k1 : kindA a = o.kd := h1.2.1
  have k3 : kindA b = o.kd := h3.2.1
  have hne : ¬ (a = 1 ∧ b = 1) := fun h => by unfold opsB at hc; simp [h.1, h.2] at hc
  refine ⟨fun e => hne ⟨e, kindA_one (by rw [k3, ← k1, e]; rfl)⟩, fun e => hne ⟨kindA_one (by rw [k1, ← k3, e]; rfl), e⟩⟩
def Far (o : Ob) : Prop := (∀ x ∈ o.S.1, x.1.1.1 ≠ 7) ∧ (∀ t ∈ o.S.2, t.1.1 ≠ 7) ∧ (∀ x ∈ o.M.1, x.1.1.1 ≠ 7) ∧ (∀ t ∈ o.M.2, t.1.1 ≠ 7)
/-- Either way round one object. -/
theorem order_end {o x y x2 y2 : Ob} {a b va vb : Int} {na nb : List UInt8} (hf : Far o) (hc : opsB a b (na == nb) = false) (h1 : StepR o a na va 0 x) (h2 : StepR x b nb vb 1 x2) (h3 : StepR o b nb vb 1 y) (h4 : StepR y a na va 0 y2) : x2 = y2 := by
  obtain ⟨na1, nb1⟩ := noreg hc h1 h3
  have hS : ∀ n, FreshK Prod.fst o.S (tagC n) := fun n => ⟨fun z hz e => hf.1 z hz (by rw [e]; rfl), fun h => hf.2.1 _ h rfl⟩
  have hM : ∀ n, FreshK Prod.fst o.M (tagC n) := fun n => ⟨fun z hz e => hf.2.2.1 z hz (by rw [e]; rfl), fun h => hf.2.2.2 _ h rfl⟩
  refine order_law (r := noR) (a := a) (b := b) (na := na) (nb := nb) (va := va) (vb := vb) hS hM (fun h => na1 h.1) (fun e hh => ?_) (stepR_step h1 na1) (stepR_step h2 nb1) (stepR_step h3 nb1) (stepR_step h4 na1)
  unfold opsB at hc
  rw [e] at hc
  simp at hc
  omega
end Go.Proofs.YtffnpfponnhddaaGreat
namespace Go.Proofs.YtffnpfponnhddaaGreat
open Go.RowKit

theorem fgreat12_any (A B : Option Addr) (n m c d : Nat) (w : World) :
    Calls Tryz.prog 14 #[.agg #[.slice A n c, .slice B m d]] w fun e w' => e = .returned (.bool (decide (200 < n) || decide (200 < m))) ∧ Below w.heap.size w w' := by
  go_enter Tryz.func14, Tryz.ntmps14
  go_wp2
  all_goals
    go_ret
    refine ⟨ret_bool ?_, (Below.refl _ _).alloc (Nat.le_refl _) _⟩
    rw [Bool.eq_iff_iff]
    simp only [Bool.or_eq_true, decide_eq_true_eq, true_iff]
    omega

theorem fgreat13_any (A B : Option Addr) (n m c d : Nat) (w : World) :
    Calls Tryz.prog 15 #[.agg #[.slice A n c, .slice B m d]] w fun e w' => e = .returned (.bool (decide (100 < n) || decide (200 < m))) ∧ Below w.heap.size w w' := by
  go_enter Tryz.func15, Tryz.ntmps15
  go_wp2
  all_goals
    go_ret
    refine ⟨ret_bool ?_, (Below.refl _ _).alloc (Nat.le_refl _) _⟩
    rw [Bool.eq_iff_iff]
    simp only [Bool.or_eq_true, decide_eq_true_eq, true_iff]
    omega

/-- Great14 at the state of no kind. -/
def fgr14 (l : Nat) (nm : ByteArray) : Bool := decide (100 < l) || decide (1000 < nm.size)
set_option maxHeartbeats 1000000 in
theorem fgreat14_any (a v o s n t ao : Int) (nm : ByteArray) (A : Option Addr) (l c : Nat) (k r0 r1 r2 n0 n1 : Value) (w : World) :
    Calls Tryz.prog 5 #[.agg #[k, r0, r1, r2, n0, n1, .slice none 0 0, .slice none 0 0, .slice none 0 0, .slice none 0 0],
      .agg #[.int .i64 a, .string nm, .int .i64 v, .int .i64 o, .int .u32 s, .int .i64 n, .int .u32 t, .int .i64 ao, .slice A l c]] w
      fun e w' => e = .returned (.bool (fgr14 l nm)) ∧ Below w.heap.size w w' := by
  go_enter Tryz.func5, Tryz.ntmps5
  go_wp2_with fail
  refine (fgreat12_any _ _ _ _ _ _ _).mono ?_
  rintro e w1 ⟨rfl, hb1⟩
  obtain ⟨hc1, hf1⟩ := bcell hb1
  have hz1 := hb1.size
  simp only [World.size_alloc] at hz1
  have hz2 : w.heap.size < w1.heap.size := by omega
  have hz3 : w.heap.size + 1 < w1.heap.size := by omega
  go_wp2_with fail
  refine (fgreat13_any _ _ _ _ _ _ _).mono ?_
  rintro e w2 ⟨rfl, hb2⟩
  obtain ⟨hc2, hf2⟩ := bcell hb2
  go_wp2
  all_goals
    go_ret
    refine ⟨ret_bool ?_, (((Below.refl _ _).alloc (Nat.le_refl _) _).alloc (by simp) _).trans ((hb1.mono (by simp; omega)).trans (hb2.mono (by omega)))⟩
    rw [Bool.eq_iff_iff]
    simp only [fgr14, Bool.or_eq_true, decide_eq_true_eq, true_iff]
    omega

/-- Great15: of a transaction of these parts. -/
def fgr15 (ps : List Pe) : Bool := decide (30 < ps.length) || ps.any fun p => decide (500 < (bs p.key).size) || fgr14 p.l (bs p.e.name)

/-- Keys and tags of parts are no longer than so. -/
def okPs (a b : Nat) (ps : List Pv) : Prop := ∀ p ∈ ps, p.1.length ≤ a ∧ p.2.tags.length ≤ b ∧ p.2.name.length ≤ 1000
theorem RdE.l {w : World} {B n : Nat} {A : Option Addr} {ps : List Pe} (h : RdE w B A n ps) : ∀ p ∈ ps, p.l = p.e.tags.length := fun p hp => (RdT.len (h.2 p hp)).symm
theorem okPs.pe {a b : Nat} {ps : List Pe} (h : okPs a b (ps.map Pe.core)) : ∀ p ∈ ps, p.key.length ≤ a ∧ p.e.tags.length ≤ b := fun p hp => by
  have := h p.core (List.mem_map.2 ⟨p, hp, rfl⟩)
  exact ⟨this.1, this.2.1⟩
theorem okPs.le {a b : Nat} {w : World} {B n : Nat} {A : Option Addr} {ps : List Pe} (h : okPs a b (ps.map Pe.core)) (hr : RdE w B A n ps) : ∀ p ∈ ps, p.l ≤ b := fun p hp => by rw [hr.l p hp]; exact (h.pe p hp).2
theorem okPs.sub {a b : Nat} {ps qs : List Pv} (h : okPs a b ps) (hs : ∀ q ∈ qs, q ∈ ps) : okPs a b qs := fun q hq => h q (hs q hq)
theorem fgr15_no {w : World} {B n : Nat} {A : Option Addr} {ps : List Pe} (hr : RdE w B A n ps) (h : fgr15 ps = false) : n ≤ 30 ∧ okPs 500 100 (ps.map Pe.core) := by
  unfold fgr15 at h
  rw [Bool.or_eq_false_iff, decide_eq_false_iff_not, List.any_eq_false] at h
  refine ⟨by rw [← hr.len]; omega, fun q hq => ?_⟩
  obtain ⟨p, hp, rfl⟩ := List.mem_map.1 hq
  have h2 := h.2 p hp
  have h3 := hr.l p hp
  simp only [fgr14, Bool.or_eq_true, decide_eq_true_eq, not_or, bs_size] at h2
  exact ⟨by show p.key.length ≤ 500; omega, by show p.e.tags.length ≤ 100; omega, by show p.e.name.length ≤ 1000; omega⟩
end Go.Proofs.YtffnpfponnhddaaGreat
