/- Plain words on tags' and texts' bytes, on sets of additions: what is wrong with one, its bytes, what a reader gives. Plain laws of sets and maps: what Put and Drop leave, told by members; OrsetWins' law on plain sets. -/
import Derived.Test.YtffnpfponnhddaaGreatN05
import Derived.Test.YtffnpfponnhddaaGreatN07
import Derived.Test.YtffnpfponnhddaaGreatM1
namespace Go.Proofs.YtffnpfponnhddaaGreat
open Go.RowKit

def writeT (t : Tm) : List UInt8 := if chkT t then writeI t.1 ++ numB t.2.toNat else []
def textB (e : List UInt8) : List UInt8 := numB e.length ++ e
theorem writeT_len (t : Tm) : (writeT t).length ≤ 27 := by
  unfold writeT
  split
  · rename_i h
    simp [chkT] at h
    have h1 := writeI_len t.1
    have h2 := numB_len t.2.toNat (by omega)
    rw [List.length_append]; omega
  · simp
theorem flatT_len : ∀ (xs : List Tm), ((xs.map writeT).flatten).length ≤ 27 * xs.length
  | [] => by simp
  | x :: xs => by
    have h1 := flatT_len xs
    have h2 := writeT_len x
    simp only [List.map_cons, List.flatten_cons, List.length_append, List.length_cons]
    omega
theorem textB_len {e : List UInt8} (h : e.length < 18446744073709551616) : (textB e).length ≤ 9 + e.length := by
  unfold textB
  have := numB_len e.length h
  rw [List.length_append]; omega
/-- The next tag of a reader. -/
def readT (S : Rs) : Tm × Rs :=
  let p := readI S
  let q := intS 15 p.2
  if q.2.fe ≠ 0 then (((0, 0), 0), q.2) else ((p.1, (q.1 : Int)), q.2)
theorem readT_wf {S : Rs} (h : S.wf) : (readT S).2.wf ∧ (readT S).1.wf := by
  have h0 := readI_wf h
  have h1 := Rs.wf_next h0.1 (fun v => if 15 < v then 2 else 0)
  unfold readT
  dsimp only
  split
  · exact ⟨h1, ⟨show (0 : Int) ≤ 0 by decide, show (0 : Int) < 4294967296 by decide⟩⟩
  · exact ⟨h1, h0.2⟩
/-- So many things of a reader, as long as nothing is wrong. -/
def readN {α : Type} (f : Rs → α × Rs) : Nat → Rs → List α × Rs
  | 0, S => ([], S)
  | n + 1, S => if S.fe ≠ 0 then ([], S) else ((f S).1 :: (readN f n (f S).2).1, (readN f n (f S).2).2)
theorem readN_bad {α : Type} {f : Rs → α × Rs} {S : Rs} (h : S.fe ≠ 0) : ∀ n, readN f n S = ([], S)
  | 0 => rfl
  | n + 1 => by rw [readN, if_pos h]
theorem readN_more {α : Type} {f : Rs → α × Rs} {S S2 : Rs} {a : α} (h : S.fe = 0) (hf : f S = (a, S2)) (n : Nat) : readN f (n + 1) S = (a :: (readN f n S2).1, (readN f n S2).2) := by
  rw [readN, if_neg (by simp [h]), hf]
theorem readN_wf {α : Type} {f : Rs → α × Rs} {P : α → Prop} (hf : ∀ S : Rs, S.wf → (f S).2.wf ∧ P (f S).1) : ∀ (n : Nat) {S : Rs}, S.wf → (readN f n S).2.wf ∧ (readN f n S).1.length ≤ n ∧ ∀ x ∈ (readN f n S).1, P x
  | 0, S, h => ⟨h, by simp [readN], by simp [readN]⟩
  | n + 1, S, h => by
    rw [readN]
    split
    · exact ⟨h, by simp, by simp⟩
    · have h1 := hf S h
      obtain ⟨h2, h3, h4⟩ := readN_wf hf n h1.1
      refine ⟨h2, by simp; omega, fun x hx => ?_⟩
      rcases List.mem_cons.1 hx with rfl | hx
      · exact h1.2
      · exact h4 x hx
/-- The next set of a reader: f reads a thing, err tells what is wrong. -/
def readSt {α : Type} (f : Rs → α × Rs) (err : List α → List Tm → Int) (S : Rs) : (List α × List Tm) × Rs :=
  let n := intS 4096 S
  let a := readN f n.1 n.2
  let m := intS 4096 a.2
  let g := readN readT m.1 m.2
  let T := failS g.2 (err a.1 g.1)
  if T.fe ≠ 0 then (([], []), T) else ((a.1, g.1), T)
theorem readSt_wf {α : Type} {f : Rs → α × Rs} {P : α → Prop} (hf : ∀ S : Rs, S.wf → (f S).2.wf ∧ P (f S).1) {err : List α → List Tm → Int} {S : Rs} (h : S.wf) : (readSt f err S).2.wf := by
  have h1 := Rs.wf_next h (fun v => if 4096 < v then 2 else 0)
  have h2 := readN_wf hf (intS 4096 S).1 h1
  have h3 := Rs.wf_next h2.1 (fun v => if 4096 < v then 2 else 0)
  have h4 := readN_wf (P := Tm.wf) (fun S h => readT_wf h) (intS 4096 (readN f (intS 4096 S).1 (intS 4096 S).2).2).1 h3
  have h5 := Rs.wf_fail h4.1 (err (readN f (intS 4096 S).1 (intS 4096 S).2).1 (readN readT (intS 4096 (readN f (intS 4096 S).1 (intS 4096 S).2).2).1 (intS 4096 (readN f (intS 4096 S).1 (intS 4096 S).2).2).2).1)
  unfold readSt
  dsimp only
  split
  · exact h5
  · exact h5
theorem failS_l (S : Rs) (e : Int) : (failS S e).l = S.l := by unfold failS; split <;> rfl
theorem nextS_l (right : Nat → Int) (S : Rs) : (nextS right S).2.l = S.l := by
  unfold nextS
  by_cases h : S.fe ≠ 0
  · rw [if_pos h]
  · rw [if_neg h]
    dsimp only
    obtain ⟨e, he⟩ : ∃ e, (if (numR (S.l.drop S.a)).2.2 = 0 then right (numR (S.l.drop S.a)).1 else (numR (S.l.drop S.a)).2.2) = e := ⟨_, rfl⟩
    rw [he]
    by_cases h2 : e ≠ 0
    · rw [if_pos h2]; exact failS_l S e
    · rw [if_neg h2]
theorem textS_wf {S : Rs} (m : Nat) (h : S.wf) : (textS m S).2.wf := by
  have h1 := Rs.wf_next h (fun v => if m < v then 2 else 0)
  have hl : (intS m S).2.l = S.l := nextS_l _ S
  have hz : ¬ (intS m S).2.fe ≠ 0 → (intS m S).2.fe = 0 := fun h => Classical.not_not.1 h
  unfold textS
  dsimp only
  split
  · exact h1
  · rename_i hf
    split
    · refine Rs.wf_fail ?_ 1
      refine ⟨?_, h1.2.1, h1.2.2⟩
      show S.a ≤ (intS m S).2.l.length
      rw [hl]; exact h.1
    · rename_i hlt
      have h2 := h1.1
      unfold intS at hlt h2 ⊢
      exact ⟨by dsimp only; omega, h1.2.1, h1.2.2⟩
theorem textS_len (m : Nat) (S : Rs) : (textS m S).1.length ≤ m := by
  have h := intS_le m S
  unfold textS
  dsimp only
  split
  · simp
  · split
    · simp
    · rw [List.length_take]; omega

/-- An addition: a tag, an element. -/
abbrev Am := Tm × List UInt8
def Am.enc (a : Am) : List Value := [.int .i64 a.1.1.1, .int .u32 a.1.1.2, .int .i64 a.1.2, .string (bs a.2)]
def Am.wf (a : Am) : Prop := a.1.wf
theorem Am.len {xs : List Am} : ∀ x ∈ xs.map Am.enc, x.length = 4 := by
  intro x hx; obtain ⟨t, _, rfl⟩ := List.mem_map.1 hx; rfl
theorem Am.one {xs : List Am} : ∀ x ∈ xs.map Am.enc, ∀ u ∈ x, u.oneCell' = true := by
  intro x hx u hu; obtain ⟨t, _, rfl⟩ := List.mem_map.1 hx
  simp only [Am.enc, List.mem_cons, List.not_mem_nil, or_false] at hu
  rcases hu with rfl | rfl | rfl | rfl <;> rfl
def RdA (w : World) (B : Nat) (A : Option Addr) (n : Nat) (xs : List Am) : Prop := Rd w B 4 A n (xs.map Am.enc)
theorem RdA.below {w w' : World} {B n : Nat} {A : Option Addr} {xs : List Am} (h : RdA w B A n xs) (hb : Below B w w') : RdA w' B A n xs := Rd.below h hb
theorem RdA.more {w : World} {B B' n : Nat} {A : Option Addr} {xs : List Am} (h : RdA w B A n xs) (hb : B ≤ B') : RdA w B' A n xs := Rd.more h hb
theorem RdA.len {w : World} {B n : Nat} {A : Option Addr} {xs : List Am} (h : RdA w B A n xs) : xs.length = n := by simpa using h.1
def elemB (e : List UInt8) : Bool := decide (1 ≤ e.length ∧ e.length ≤ 12)
def badA (xs : List Am) (gone : List Tm) : Bool := xs.any fun a => !elemB a.2 || gone.contains a.1
def oErr (xs : List Am) (gone : List Tm) : Int := sErr (xs.map Prod.fst) (badA xs gone) gone
def writeA (a : Am) : List UInt8 := writeT a.1 ++ textB a.2
/-- The first k things' part of a list's bytes; the same of the names that are gone, behind all things. -/
def partN {α : Type} (f : α → List UInt8) (xs : List α) (n k : Nat) : List UInt8 := numB n ++ ((xs.take k).map f).flatten
def partS {α : Type} (f : α → List UInt8) (xs : List α) (gone : List Tm) (n m k : Nat) : List UInt8 := partN f xs n n ++ (numB m ++ ((gone.take k).map writeT).flatten)
theorem partN_succ {α : Type} (f : α → List UInt8) {xs : List α} {n k : Nat} {x : α} (h : xs[k]? = some x) : partN f xs n k ++ f x = partN f xs n (k + 1) := by
  unfold partN; rw [List.take_add_one, h]; simp
theorem partS_succ {α : Type} (f : α → List UInt8) {xs : List α} {gone : List Tm} {n m k : Nat} {x : Tm} (h : gone[k]? = some x) : partS f xs gone n m k ++ writeT x = partS f xs gone n m (k + 1) := by
  unfold partS; rw [List.take_add_one, h]; simp
theorem flatB_len {α : Type} {f : α → List UInt8} {b : Nat} : ∀ (xs : List α), (∀ a ∈ xs, (f a).length ≤ b) → ((xs.map f).flatten).length ≤ b * xs.length
  | [], _ => by simp
  | x :: xs, h => by
    have h1 := flatB_len xs (fun a ha => h a (by simp [ha]))
    have h2 := h x (by simp)
    simp only [List.map_cons, List.flatten_cons, List.length_append, List.length_cons, Nat.mul_succ]
    omega
theorem partN_len {α : Type} {f : α → List UInt8} {b : Nat} {xs : List α} (h : ∀ a ∈ xs, (f a).length ≤ b) (n k : Nat) (hn : n ≤ 4096) (hk : k ≤ 4096) : (partN f xs n k).length ≤ 9 + b * 4096 := by
  have h1 := numB_len n (by omega)
  have h2 := flatB_len (f := f) (b := b) (xs.take k) (fun a ha => h a (List.mem_of_mem_take ha))
  have h3 : b * (xs.take k).length ≤ b * 4096 := Nat.mul_le_mul_left _ (Nat.le_trans (List.length_take_le _ _) hk)
  unfold partN; rw [List.length_append]; omega
theorem partS_len {α : Type} {f : α → List UInt8} {b : Nat} {xs : List α} (h : ∀ a ∈ xs, (f a).length ≤ b) (gone : List Tm) (n m k : Nat) (hn : n ≤ 4096) (hm : m ≤ 4096) (hk : k ≤ 4096) : (partS f xs gone n m k).length ≤ 18 + b * 4096 + 27 * 4096 := by
  have h1 := partN_len h n n hn hn
  have h4 := numB_len m (by omega)
  have h2 := flatT_len (gone.take k)
  have h3 : 27 * (gone.take k).length ≤ 27 * 4096 := Nat.mul_le_mul_left _ (Nat.le_trans (List.length_take_le _ _) hk)
  unfold partS; rw [List.length_append, List.length_append]; omega
/-- A set's bytes. -/
def writeO (xs : List Am) (gone : List Tm) : List UInt8 := if oErr xs gone ≠ 0 then [] else partS writeA xs gone xs.length gone.length gone.length
theorem writeA_len {a : Am} (h : a.2.length ≤ 12) : (writeA a).length ≤ 48 := by
  have h2 := writeT_len a.1
  have h3 := textB_len (e := a.2) (by omega)
  unfold writeA; rw [List.length_append]; omega
theorem badA_elem {xs : List Am} {gone : List Tm} (h : badA xs gone = false) : ∀ a ∈ xs, 1 ≤ a.2.length ∧ a.2.length ≤ 12 := by
  intro a ha
  unfold badA at h
  rw [List.any_eq_false] at h
  have := h a ha
  simp only [Bool.not_eq_true, Bool.or_eq_false_iff, Bool.not_eq_false', elemB, decide_eq_true_eq] at this
  exact this.1
/-- The next addition of a reader. -/
def readA (S : Rs) : Am × Rs := (((readT S).1, (textS 12 (readT S).2).1), (textS 12 (readT S).2).2)
theorem readA_wf {S : Rs} (h : S.wf) : (readA S).2.wf ∧ (readA S).1.wf := by
  have h1 := readT_wf h
  exact ⟨textS_wf 12 h1.1, h1.2⟩
end Go.Proofs.YtffnpfponnhddaaGreat
namespace Go.Proofs.YtffnpfponnhddaaGreat

theorem dropG_len' : ∀ (l g : List Tm), (dropG g l).length ≤ g.length + l.length
  | [], g => by simp [dropG]
  | t :: l, g => by
    have h := dropG_len' l (addT g t)
    have h2 : (addT g t).length ≤ g.length + 1 := by
      unfold addT insT
      split
      · omega
      · rw [List.length_append, List.length_cons, List.length_take, List.length_drop]; omega
    unfold dropG at h ⊢
    rw [List.foldl_cons, List.length_cons]
    omega
section
variable {α : Type} (key : α → Tm) (ok1 : α → Bool)
def badK (xs : List α) (gs : List Tm) : Bool := xs.any fun a => !ok1 a || gs.contains (key a)
def errK (xs : List α) (gs : List Tm) : Int := sErr (xs.map key) (badK key ok1 xs gs) gs
def putK (xs : List α) (gs : List Tm) (a : α) : (List α × List Tm) × Int :=
  if errK key ok1 xs gs ≠ 0 then (([], []), errK key ok1 xs gs) else if chkT (key a) = false then (([], []), 2) else if ok1 a = false then (([], []), 3)
  else if ((xs.map key).contains (key a) || gs.contains (key a)) = true then ((xs, gs), 0) else if xs.length = 4096 then (([], []), 4) else ((insK key xs a, gs), 0)
def dropK (xs : List α) (gs l : List Tm) : (List α × List Tm) × Int :=
  if errK key ok1 xs gs ≠ 0 then (([], []), errK key ok1 xs gs) else if 4096 < l.length then (([], []), 8) else if l.any (fun t => !chkT t) then (([], []), 2) else if 4096 < (dropG gs l).length then (([], []), 4)
  else ((xs.filter fun a => !(dropG gs l).contains (key a), dropG gs l), 0)
variable {key ok1}
theorem badK_false {xs : List α} {gs : List Tm} : badK key ok1 xs gs = false ↔ ∀ a ∈ xs, ok1 a = true ∧ key a ∉ gs := by
  unfold badK
  rw [List.any_eq_false]
  constructor
  · intro h a ha
    have := h a ha
    simp at this
    exact this
  · intro h a ha
    have := h a ha
    simp [this]
theorem errK_zero {xs : List α} {gs : List Tm} : errK key ok1 xs gs = 0 ↔ xs.length ≤ 4096 ∧ gs.length ≤ 4096 ∧ (∀ a ∈ xs, chkT (key a) = true) ∧ (∀ t ∈ gs, chkT t = true) ∧ ascTP (xs.map key) ∧ ascTP gs ∧ ∀ a ∈ xs, ok1 a = true ∧ key a ∉ gs := by
  unfold errK
  rw [sErr_zero, badK_false, List.length_map]
  constructor
  · rintro ⟨h1, h2, h3, h4, h5, h6, h7⟩
    exact ⟨h1, h2, fun a ha => h3 _ (List.mem_map_of_mem ha), h4, h5, h6, h7⟩
  · rintro ⟨h1, h2, h3, h4, h5, h6, h7⟩
    refine ⟨h1, h2, fun t ht => ?_, h4, h5, h6, h7⟩
    obtain ⟨a, ha, rfl⟩ := List.mem_map.1 ht
    exact h3 a ha
theorem errK_ext {xs ys : List α} {gs hs : List Tm} (h : errK key ok1 xs gs = 0) (h' : errK key ok1 ys hs = 0) (hx : ∀ z, z ∈ xs ↔ z ∈ ys) (hg : ∀ t, t ∈ gs ↔ t ∈ hs) : xs = ys ∧ gs = hs := by
  obtain ⟨_, _, _, _, h5, h6, _⟩ := errK_zero.1 h
  obtain ⟨_, _, _, _, k5, k6, _⟩ := errK_zero.1 h'
  exact ⟨ascK_ext h5 k5 hx, ascT_ext h6 k6 hg⟩
theorem putK_spec {xs : List α} {gs : List Tm} {a : α} (h : errK key ok1 xs gs = 0) (hc : chkT (key a) = true) (ho : ok1 a = true) (hn : xs.length < 4096) :
    (putK key ok1 xs gs a).2 = 0 ∧ (putK key ok1 xs gs a).1.2 = gs ∧ errK key ok1 (putK key ok1 xs gs a).1.1 gs = 0 ∧
      (∀ z, z ∈ (putK key ok1 xs gs a).1.1 ↔ z ∈ xs ∨ (z = a ∧ key a ∉ xs.map key ∧ key a ∉ gs)) ∧ (putK key ok1 xs gs a).1.1.length ≤ xs.length + 1 := by
  have hz := errK_zero.1 h
  obtain ⟨h1, h2, h3, h4, h5, h6, h7⟩ := hz
  unfold putK
  rw [if_neg (by rw [h]; simp), if_neg (by rw [hc]; simp), if_neg (by rw [ho]; simp)]
  by_cases hb : ((xs.map key).contains (key a) || gs.contains (key a)) = true
  · rw [if_pos hb]
    refine ⟨rfl, rfl, h, fun z => ?_, by simp⟩
    rw [Bool.or_eq_true, List.contains_iff_mem, List.contains_iff_mem] at hb
    constructor
    · exact .inl
    · rintro (h' | ⟨_, k1, k2⟩)
      · exact h'
      · exact absurd hb (by simp only [not_or]; exact ⟨k1, k2⟩)
  · rw [if_neg hb, if_neg (by omega)]
    have hb' : key a ∉ xs.map key ∧ key a ∉ gs := by
      constructor
      · intro hm; exact hb (by rw [Bool.or_eq_true]; exact .inl (List.contains_iff_mem.2 hm))
      · intro hm; exact hb (by rw [Bool.or_eq_true]; exact .inr (List.contains_iff_mem.2 hm))
    refine ⟨rfl, rfl, ?_, fun z => ?_, by rw [insK_len]; exact Nat.le_refl _⟩
    · rw [errK_zero]
      refine ⟨by rw [insK_len]; omega, h2, fun z hz => ?_, h4, insK_asc h5 hb'.1, h6, fun z hz => ?_⟩
      · rcases (insK_mem (key := key) xs a z).1 hz with rfl | hz
        · exact hc
        · exact h3 z hz
      · rcases (insK_mem (key := key) xs a z).1 hz with rfl | hz
        · exact ⟨ho, hb'.2⟩
        · exact h7 z hz
    · show z ∈ insK key xs a ↔ _
      rw [insK_mem]
      constructor
      · rintro (rfl | h')
        · exact .inr ⟨rfl, hb'⟩
        · exact .inl h'
      · rintro (h' | ⟨rfl, _⟩)
        · exact .inr h'
        · exact .inl rfl
theorem putK_err {xs : List α} {gs : List Tm} {a : α} (hc : chkT (key a) = false ∨ ok1 a = false) : (putK key ok1 xs gs a).2 ≠ 0 := by
  unfold putK
  by_cases h : errK key ok1 xs gs ≠ 0
  · rw [if_pos h]; exact h
  · rw [if_neg h]
    by_cases h1 : chkT (key a) = false
    · rw [if_pos h1]; simp
    · rw [if_neg h1]
      rcases hc with h2 | h2
      · exact absurd h2 h1
      · rw [if_pos h2]; simp
theorem dropK_spec {xs : List α} {gs l : List Tm} (h : errK key ok1 xs gs = 0) (hl : ∀ t ∈ l, chkT t = true) (hn : gs.length + l.length ≤ 4096) :
    (dropK key ok1 xs gs l).2 = 0 ∧ errK key ok1 (dropK key ok1 xs gs l).1.1 (dropK key ok1 xs gs l).1.2 = 0 ∧ (∀ z, z ∈ (dropK key ok1 xs gs l).1.1 ↔ z ∈ xs ∧ key z ∉ l) ∧
      (∀ t, t ∈ (dropK key ok1 xs gs l).1.2 ↔ t ∈ l ∨ t ∈ gs) ∧ (dropK key ok1 xs gs l).1.1.length ≤ xs.length ∧ (dropK key ok1 xs gs l).1.2.length ≤ gs.length + l.length := by
  obtain ⟨h1, h2, h3, h4, h5, h6, h7⟩ := errK_zero.1 h
  have hd := dropG_len' l gs
  obtain ⟨ha, hm⟩ := dropG_spec l h6
  have hany : l.any (fun t => !chkT t) = false := by
    rw [List.any_eq_false]; intro t ht; simp [hl t ht]
  unfold dropK
  rw [if_neg (by rw [h]; simp), if_neg (by omega), if_neg (by rw [hany]; simp), if_neg (by omega)]
  have hmem : ∀ z, z ∈ (xs.filter fun a => !(dropG gs l).contains (key a)) ↔ z ∈ xs ∧ key z ∉ l := by
    intro z
    rw [List.mem_filter]
    constructor
    · rintro ⟨hz, hk⟩
      refine ⟨hz, fun hkl => ?_⟩
      rw [Bool.not_eq_true', Bool.eq_false_iff] at hk
      exact hk (List.contains_iff_mem.2 ((hm _).2 (.inl hkl)))
    · rintro ⟨hz, hk⟩
      refine ⟨hz, ?_⟩
      rw [Bool.not_eq_true', Bool.eq_false_iff]
      intro hc
      rcases (hm _).1 (List.contains_iff_mem.1 hc) with h8 | h8
      · exact hk h8
      · exact (h7 z hz).2 h8
  refine ⟨rfl, ?_, hmem, hm, List.length_filter_le _ _, hd⟩
  rw [errK_zero]
  refine ⟨Nat.le_trans (List.length_filter_le _ _) h1, by show (dropG gs l).length ≤ 4096; omega, fun z hz => h3 z ((hmem z).1 hz).1, fun t ht => ?_, ascK_filter _ h5, ha, fun z hz => ⟨(h7 z ((hmem z).1 hz).1).1, fun hk => ?_⟩⟩
  · rcases (hm t).1 ht with h8 | h8
    · exact hl t h8
    · exact h4 t h8
  · rcases (hm _).1 hk with h8 | h8
    · exact ((hmem z).1 hz).2 h8
    · exact (h7 z ((hmem z).1 hz).1).2 h8
theorem dropG_sub : ∀ (l g : List Tm) (z : Tm), z ∈ dropG g l → z ∈ l ∨ z ∈ g
  | [], g, z, h => .inr h
  | t :: l, g, z, h => by
    have h1 := dropG_sub l (addT g t) z h
    rcases h1 with h1 | h1
    · exact .inl (List.mem_cons_of_mem _ h1)
    · unfold addT at h1
      split at h1
      · exact .inr h1
      · rcases (insT_mem g t z).1 h1 with rfl | h2
        · exact .inl (by simp)
        · exact .inr h2
theorem dropK_sub (xs : List α) (gs l : List Tm) : (∀ a ∈ (dropK key ok1 xs gs l).1.1, a ∈ xs) ∧ (∀ t ∈ (dropK key ok1 xs gs l).1.2, t ∈ l ∨ t ∈ gs) ∧ (dropK key ok1 xs gs l).1.1.length ≤ xs.length ∧ (dropK key ok1 xs gs l).1.2.length ≤ gs.length + l.length := by
  have hd := dropG_len' l gs
  unfold dropK
  by_cases h : errK key ok1 xs gs ≠ 0
  · rw [if_pos h]; simp
  rw [if_neg h]
  by_cases h1 : 4096 < l.length
  · rw [if_pos h1]; simp
  rw [if_neg h1]
  by_cases h2 : l.any (fun t => !chkT t) = true
  · rw [if_pos h2]; simp
  rw [if_neg h2]
  by_cases h3 : 4096 < (dropG gs l).length
  · rw [if_pos h3]; simp
  rw [if_neg h3]
  exact ⟨fun a ha => (List.mem_filter.1 ha).1, fun t ht => dropG_sub l gs t ht, List.length_filter_le _ _, hd⟩
theorem putK_sub (xs : List α) (gs : List Tm) (a0 : α) : (∀ a ∈ (putK key ok1 xs gs a0).1.1, a = a0 ∨ a ∈ xs) ∧ (∀ t ∈ (putK key ok1 xs gs a0).1.2, t ∈ gs) ∧ (putK key ok1 xs gs a0).1.1.length ≤ xs.length + 1 ∧ (putK key ok1 xs gs a0).1.2.length ≤ gs.length := by
  unfold putK
  by_cases h : errK key ok1 xs gs ≠ 0
  · rw [if_pos h]; simp
  rw [if_neg h]
  by_cases h1 : chkT (key a0) = false
  · rw [if_pos h1]; simp
  rw [if_neg h1]
  by_cases h2 : ok1 a0 = false
  · rw [if_pos h2]; simp
  rw [if_neg h2]
  by_cases h3 : ((xs.map key).contains (key a0) || gs.contains (key a0)) = true
  · rw [if_pos h3]; exact ⟨fun a ha => .inr ha, fun t ht => ht, Nat.le_succ _, Nat.le_refl _⟩
  rw [if_neg h3]
  by_cases h4 : xs.length = 4096
  · rw [if_pos h4]; simp
  rw [if_neg h4]
  exact ⟨fun a ha => (insK_mem (key := key) xs a0 a).1 ha, fun t ht => ht, by show (insK key xs a0).length ≤ _; rw [insK_len]; exact Nat.le_refl _, Nat.le_refl _⟩
theorem dropK_err {xs : List α} {gs l : List Tm} (hl : l.any (fun t => !chkT t) = true) : (dropK key ok1 xs gs l).2 ≠ 0 := by
  unfold dropK
  by_cases h : errK key ok1 xs gs ≠ 0
  · rw [if_pos h]; exact h
  · rw [if_neg h]
    by_cases h1 : 4096 < l.length
    · rw [if_pos h1]; simp
    · rw [if_neg h1, if_pos hl]; simp
end
end Go.Proofs.YtffnpfponnhddaaGreat
