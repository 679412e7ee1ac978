/- Merging two rising lists: what the program does with the sorted whole, and the document with the two, is the same (plain laws). slices.SortStableFunc at parts: up to 39 of them. Sets of additions: what is wrong with one, by the program and by the document. The document's sets of additions: the names of additions, what is wrong with a set. The statements' own To, From and Great of sets; the document's Same. slices.Clone, DeleteFunc, Grow and Concat at tags; Clone and DeleteFunc at additions. -/
import Derived.Test.YtpolplmniaoikaaGreatDoorMa
import Derived.Test.YtpolplmniaoikaaGreatDoorMk
import Derived.Test.YtpolplmniaoikaaGreatDoorN13
import Derived.Test.YtpolplmniaoikaaGreatDoorN15
import Derived.Lib.SliceRun
import Derived.Lib.AppendZeros
import Derived.Shelf.Abstract
namespace Go.Proofs.YtpolplmniaoikaaGreatDoor

section
variable {α : Type} [DecidableEq α] (κ : α → Int)
/-- The program's pass over the sorted whole. -/
def fldP : List α → List α → Option (List α)
  | out, [] => some out
  | out, p :: r => match out.getLast? with
    | some q => if κ q = κ p then (if q = p then fldP out r else none) else fldP (out ++ [p]) r
    | none => fldP (out ++ [p]) r
def mrgP : List α → Option (List α)
  | [] => some []
  | [x] => some [x]
  | x :: y :: l => if κ x = κ y then (if x = y then mrgP (x :: l) else none) else (mrgP (y :: l)).map (x :: ·)
  termination_by l => l.length
/-- The document's pass over both. -/
def mrgD : List α → List α → Option (List α)
  | [], bs => some bs
  | a :: ax, [] => some (a :: ax)
  | a :: ax, b :: bs => if κ a < κ b then (mrgD ax (b :: bs)).map (a :: ·) else if κ b < κ a then (mrgD (a :: ax) bs).map (b :: ·) else if a = b then (mrgD ax bs).map (a :: ·) else none
  termination_by ax bs => ax.length + bs.length
theorem mrgD_none (ax : List α) : mrgD κ ax [] = some ax := by cases ax <;> simp [mrgD]
theorem fldP_eq : ∀ (zs out : List α) (q : α), fldP κ (out ++ [q]) zs = (mrgP κ (q :: zs)).map (out ++ ·)
  | [], out, q => by simp [fldP, mrgP]
  | p :: r, out, q => by
    rw [fldP, List.getLast?_append]
    simp only [List.getLast?_singleton, Option.some_or]
    rw [mrgP]
    split
    · rename_i h
      split
      · exact fldP_eq r out q
      · rfl
    · rw [fldP_eq r (out ++ [q]) p]
      cases mrgP κ (p :: r) <;> simp
theorem fldP_nil (zs : List α) : fldP κ [] zs = mrgP κ zs := by
  cases zs with
  | nil => simp [fldP, mrgP]
  | cons p r =>
    rw [fldP]
    have h := fldP_eq κ r [] p
    simp only [List.nil_append] at h
    simp only [List.getLast?_nil, List.nil_append, h]
    cases mrgP κ (p :: r) <;> simp
theorem fldP_app {out r : List α} {p : α} (h : ∀ q, out.getLast? = some q → κ q ≠ κ p) : fldP κ out (p :: r) = fldP κ (out ++ [p]) r := by
  rw [fldP]
  split
  · rename_i q hq
    rw [if_neg (h q hq)]
  · rfl
theorem fldP_same {out r : List α} {p : α} (h : out.getLast? = some p) : fldP κ out (p :: r) = fldP κ out r := by
  rw [fldP, h]; simp
theorem fldP_bad {out r : List α} {p q : α} (h : out.getLast? = some q) (h1 : κ q = κ p) (h2 : q ≠ p) : fldP κ out (p :: r) = none := by
  rw [fldP, h]; simp [h1, h2]
variable {κ}
theorem mrgP_cons {a : α} {zs : List α} (h : ∀ z ∈ zs, κ a < κ z) : mrgP κ (a :: zs) = (mrgP κ zs).map (a :: ·) := by
  cases zs with
  | nil => simp [mrgP]
  | cons y l =>
    rw [mrgP, if_neg (by have := h y (by simp); omega)]
theorem mrgP_rise : ∀ {l : List α}, l.Pairwise (fun x y => κ x < κ y) → mrgP κ l = some l
  | [], _ => by simp [mrgP]
  | a :: l, h => by
    rw [List.pairwise_cons] at h
    rw [mrgP_cons h.1, mrgP_rise h.2]; rfl
theorem sort_head {a : α} {zs rest : List α} (hp : zs.Perm (a :: rest)) (hs : zs.Pairwise (fun x y => κ x ≤ κ y)) (hl : ∀ r ∈ rest, κ a < κ r) :
    ∃ zs', zs = a :: zs' ∧ zs'.Perm rest ∧ zs'.Pairwise (fun x y => κ x ≤ κ y) := by
  cases zs with
  | nil => exact absurd hp.length_eq (by simp)
  | cons z l =>
    rw [List.pairwise_cons] at hs
    by_cases hz : z = a
    · subst hz
      exact ⟨l, rfl, (List.perm_cons z).1 hp, hs.2⟩
    · exfalso
      have h1 : z ∈ a :: rest := hp.mem_iff.1 (by simp)
      rw [List.mem_cons] at h1
      rcases h1 with h1 | h1
      · exact hz h1
      have h2 : a ∈ z :: l := hp.mem_iff.2 (by simp)
      rw [List.mem_cons] at h2
      rcases h2 with h2 | h2
      · exact hz h2.symm
      have := hl z h1
      have := hs.1 a h2
      omega
theorem sort_two {a b : α} {zs rest : List α} (hab : κ a = κ b) (hp : zs.Perm (a :: b :: rest)) (hs : zs.Pairwise (fun x y => κ x ≤ κ y)) (hl : ∀ r ∈ rest, κ a < κ r) :
    ∃ x y zs', zs = x :: y :: zs' ∧ (x = a ∧ y = b ∨ x = b ∧ y = a) ∧ zs'.Perm rest ∧ zs'.Pairwise (fun x y => κ x ≤ κ y) := by
  cases zs with
  | nil => exact absurd hp.length_eq (by simp)
  | cons z l =>
    rw [List.pairwise_cons] at hs
    by_cases hz : z = a
    · subst hz
      obtain ⟨zs', h1, h2, h3⟩ := sort_head ((List.perm_cons z).1 hp) hs.2 (fun r hr => by have := hl r hr; omega)
      exact ⟨z, b, zs', by rw [h1], .inl ⟨rfl, rfl⟩, h2, h3⟩
    · by_cases hzb : z = b
      · subst hzb
        obtain ⟨zs', h1, h2, h3⟩ := sort_head ((List.perm_cons z).1 (hp.trans (List.Perm.swap _ _ _))) hs.2 hl
        exact ⟨z, a, zs', by rw [h1], .inr ⟨rfl, rfl⟩, h2, h3⟩
      · exfalso
        have h1 : z ∈ a :: b :: rest := hp.mem_iff.1 (by simp)
        simp only [List.mem_cons] at h1
        rcases h1 with h1 | h1 | h1
        · exact hz h1
        · exact hzb h1
        have h2 : a ∈ z :: l := hp.mem_iff.2 (by simp)
        rw [List.mem_cons] at h2
        rcases h2 with h2 | h2
        · exact hz h2.symm
        have := hl z h1
        have := hs.1 a h2
        omega
/-- The law: the sorted whole passed over is the two merged. -/
theorem mrg_law : ∀ (n : Nat) {ax bs zs : List α}, ax.length + bs.length ≤ n → ax.Pairwise (fun x y => κ x < κ y) → bs.Pairwise (fun x y => κ x < κ y) → zs.Perm (ax ++ bs) → zs.Pairwise (fun x y => κ x ≤ κ y) → mrgP κ zs = mrgD κ ax bs := by
  intro n
  induction n with
  | zero =>
    intro ax bs zs hn _ _ hp _
    obtain rfl : ax = [] := List.eq_nil_of_length_eq_zero (by omega)
    obtain rfl : bs = [] := List.eq_nil_of_length_eq_zero (by omega)
    obtain rfl : zs = [] := List.eq_nil_of_length_eq_zero (by simpa using hp.length_eq)
    simp [mrgP, mrgD]
  | succ n ih =>
    intro ax bs zs hn ha hb hp hs
    cases ax with
    | nil =>
      cases bs with
      | nil =>
        obtain rfl : zs = [] := List.eq_nil_of_length_eq_zero (by simpa using hp.length_eq)
        simp [mrgP, mrgD]
      | cons b bs =>
        rw [List.pairwise_cons] at hb
        obtain ⟨zs', rfl, h2, h3⟩ := sort_head (rest := bs) (by simpa using hp) hs hb.1
        rw [mrgP_cons (fun z hz => hb.1 z (h2.mem_iff.1 hz)), ih (ax := []) (bs := bs) (by simp at hn ⊢; omega) List.Pairwise.nil hb.2 (by simpa using h2) h3]
        simp [mrgD]
    | cons a ax =>
      have ha' := ha
      rw [List.pairwise_cons] at ha
      cases bs with
      | nil =>
        rw [List.append_nil] at hp
        obtain ⟨zs', rfl, h2, h3⟩ := sort_head hp hs ha.1
        rw [mrgP_cons (fun z hz => ha.1 z (h2.mem_iff.1 hz)), ih (ax := ax) (bs := []) (by simp at hn ⊢; omega) ha.2 List.Pairwise.nil (by simpa using h2) h3, mrgD_none, mrgD_none]
        rfl
      | cons b bs =>
        have hb' := hb
        rw [List.pairwise_cons] at hb
        rw [mrgD]
        by_cases h1 : κ a < κ b
        · rw [if_pos h1]
          have hl : ∀ r ∈ ax ++ b :: bs, κ a < κ r := fun r hr => by
            rw [List.mem_append, List.mem_cons] at hr
            rcases hr with hr | rfl | hr
            · exact ha.1 r hr
            · exact h1
            · exact Int.lt_trans h1 (hb.1 r hr)
          obtain ⟨zs', rfl, h2, h3⟩ := sort_head (rest := ax ++ b :: bs) hp hs hl
          rw [mrgP_cons (fun z hz => hl z (h2.mem_iff.1 hz)), ih (ax := ax) (bs := b :: bs) (by simp at hn ⊢; omega) ha.2 hb' h2 h3]
        · rw [if_neg h1]
          by_cases h4 : κ b < κ a
          · rw [if_pos h4]
            have hl : ∀ r ∈ (a :: ax) ++ bs, κ b < κ r := fun r hr => by
              rw [List.mem_append, List.mem_cons] at hr
              rcases hr with (rfl | hr) | hr
              · exact h4
              · exact Int.lt_trans h4 (ha.1 r hr)
              · exact hb.1 r hr
            obtain ⟨zs', rfl, h2, h3⟩ := sort_head (rest := (a :: ax) ++ bs) (hp.trans List.perm_middle) hs hl
            rw [mrgP_cons (fun z hz => hl z (h2.mem_iff.1 hz)), ih (ax := a :: ax) (bs := bs) (by simp at hn ⊢; omega) ha' hb.2 h2 h3]
          · rw [if_neg h4]
            have hab : κ a = κ b := by omega
            have hl : ∀ r ∈ ax ++ bs, κ a < κ r := fun r hr => by
              rw [List.mem_append] at hr
              rcases hr with hr | hr
              · exact ha.1 r hr
              · rw [hab]; exact hb.1 r hr
            have hp' : zs.Perm (a :: b :: (ax ++ bs)) := hp.trans ((List.perm_cons a).2 List.perm_middle)
            obtain ⟨x, y, zs', rfl, hxy, h2, h3⟩ := sort_two hab hp' hs hl
            by_cases hq : a = b
            · subst hq
              obtain ⟨rfl, rfl⟩ : x = a ∧ y = a := by rcases hxy with h | h <;> exact h
              rw [if_pos rfl, mrgP, if_pos rfl, if_pos rfl, mrgP_cons (fun z hz => hl z (h2.mem_iff.1 hz)), ih (ax := ax) (bs := bs) (by simp at hn ⊢; omega) ha.2 hb.2 h2 h3]
            · rw [if_neg hq]
              rcases hxy with ⟨rfl, rfl⟩ | ⟨rfl, rfl⟩
              · rw [mrgP, if_pos hab, if_neg hq]
              · rw [mrgP, if_pos hab.symm, if_neg (Ne.symm hq)]
/-- A rising list cut in two by any test, and merged again, is itself. -/
theorem mrg_halves {ps : List α} (h : ps.Pairwise (fun x y => κ x < κ y)) (t : α → Bool) : mrgD κ (ps.filter t) (ps.filter fun p => !t p) = some ps := by
  rw [← mrg_law _ (Nat.le_refl _) (h.filter t) (h.filter _) (List.filter_append_perm t ps).symm (h.imp fun h => Int.le_of_lt h), mrgP_rise h]
theorem mrg_self : ∀ {ps : List α}, mrgD κ ps ps = some ps
  | [] => by simp [mrgD]
  | a :: l => by
    rw [mrgD, if_neg (by omega), if_neg (by omega), if_pos rfl, mrg_self]; rfl
end
/-- In order, place by place: in order, pair by pair. -/
theorem So.pair {α : Type} {κ : α → Int} {a b : Nat} {xs : List α} (h : So κ a b xs) (ha : a = 0) (hb : xs.length ≤ b) : xs.Pairwise (fun x y => κ x ≤ κ y) := by
  rw [List.pairwise_iff_getElem]
  intro i j hi hj hij
  exact h i j _ _ (by omega) (by omega) (by omega) (List.getElem?_eq_getElem hi) (List.getElem?_eq_getElem hj)
end Go.Proofs.YtpolplmniaoikaaGreatDoor
namespace Go.Proofs.YtpolplmniaoikaaGreatDoor
open Go.RowKit

set_option maxRecDepth 100000 in
set_option maxHeartbeats 4000000 in
theorem stable_any (base : Nat) (A : Option Addr) (n c : Nat) (ps : List Pe) (w : World) (hB : base ≤ w.heap.size) (hown : Ow w base 101 10 (.slice A n c) (ps.map Pe.enc)) (hn : n ≤ 39) :
    Calls Tryz.prog 78 #[.slice A n c, .func (.func 79) #[] #[]] w
      fun e w' => e = .returned (.tuple #[]) ∧ ∃ ys : List Pe, ys.Perm ps ∧ ys.Pairwise (fun x y => x.num ≤ y.num) ∧ Ow w' base 101 10 (.slice A n c) (ys.map Pe.enc) ∧ w.grownBy w' (Value.slice A n c).ownBlock := by
  have hl : ps.length = n := by simpa using hown.rd.2.1
  suffices h : Calls Tryz.prog 120 #[.slice A n c, .int .i64 (n : Int), .func (.func 79) #[] #[]] w
      (fun e w' => e = .returned (.tuple #[]) ∧ ∃ ys : List Pe, ys.Perm ps ∧ ys.Pairwise (fun x y => x.num ≤ y.num) ∧ Ow w' base 101 10 (.slice A n c) (ys.map Pe.enc) ∧ w.grownBy w' (Value.slice A n c).ownBlock) by
    have h := Lib.hid h
    clear hown hl
    go_enter Tryz.func78, Tryz.ntmps78
    go_wp2_with fail
    refine h.out.mono ?_
    rintro e w' ⟨rfl, hR⟩
    go_wp2
    go_end0
    exact ⟨rfl, hR⟩
  have hownH := Lib.hid hown
  rcases Nat.eq_zero_or_pos n with h0 | hpos
  · subst h0
    obtain rfl := List.eq_nil_of_length_eq_zero hl
    have cN := Lib.hid (fun w => insort_none (.slice A 0 c) 0 0 (by omega) (by omega) (by omega) (.func (.func 79) #[] #[]) w)
    clear hown
    go_enter Tryz.func120, Tryz.ntmps120
    go_wp2
    refine wp_loop_rounds 1 ?_
    rw [rounds_succ]
    go_wp2_with fail
    refine (cN.out _).mono ?_
    rintro e w' ⟨rfl, rfl⟩
    go_wp2
    refine wp_loop_rounds 1 ?_
    rw [rounds_succ]
    go_wp2
    go_end0
    exact ⟨rfl, [], List.Perm.refl _, List.Pairwise.nil, hownH.out, World.grownBy.refl _ _⟩
  obtain ⟨g, rfl, hgb, _, _, _⟩ := hown.addr hpos
  clear hown
  by_cases h20 : n < 20
  · have hni : ¬ (20 : Int) ≤ (n : Int) := by omega
    have hni2 : ¬ (20 : Int) < (n : Int) := by omega
    have cS := insort_any base g n c 0 n ps w hB hownH.out (by omega) hpos (Nat.le_refl _)
    have cS := Lib.hid cS
    go_enter Tryz.func120, Tryz.ntmps120
    go_wp2
    refine wp_loop_rounds 1 ?_
    rw [rounds_succ]
    go_wp2_with fail
    refine cS.out.mono ?_
    rintro e w1 ⟨rfl, ys, hmv, hso, hown1, hg1⟩
    have hso := Lib.hid hso
    have hmv := Lib.hid hmv
    go_wp2
    refine wp_loop_rounds 1 ?_
    rw [rounds_succ]
    go_wp2
    go_end0
    exact ⟨rfl, ys, hmv.out.perm, So.pair hso.out rfl (by rw [hmv.out.len, hl]; exact Nat.le_refl _), hown1, hg1⟩
  have hge : (20 : Int) ≤ (n : Int) := by omega
  have hn40 : ¬ (40 : Int) ≤ (n : Int) := by omega
  have cS := Lib.hid (insort_any base g n c 0 20 ps w hB hownH.out (by omega) (by omega) (by omega))
  by_cases h21 : n = 20
  · subst h21
    have cN := Lib.hid (fun w => insort_none (.slice (some ⟨g, 0, none⟩) 20 c) 20 20 (by omega) (by omega) (by omega) (.func (.func 79) #[] #[]) w)
    go_enter Tryz.func120, Tryz.ntmps120
    go_wp2
    refine wp_loop_rounds 2 ?_
    rw [rounds_succ]
    go_wp2_with fail
    refine cS.out.mono ?_
    rintro e w1 ⟨rfl, ys, hmv, hso, hown1, hg1⟩
    have hso := Lib.hid hso
    have hmv := Lib.hid hmv
    go_wp2
    rw [rounds_succ]
    go_wp2_with fail
    refine (cN.out _).mono ?_
    rintro e w' ⟨rfl, rfl⟩
    go_wp2
    refine wp_loop_rounds 1 ?_
    rw [rounds_succ]
    go_wp2
    go_end0
    exact ⟨rfl, ys, hmv.out.perm, So.pair hso.out rfl (by rw [hmv.out.len, hl]; exact Nat.le_refl _), hown1, hg1⟩
  have hlt20 : (20 : Int) < (n : Int) := by omega
  have hnlt40 : ¬ (40 : Int) < (n : Int) := by omega
  have cT := Lib.hid (fun (ys : List Pe) w' hB' ho => insort_any base g n c 20 n ys w' hB' ho (by omega) (by omega) (Nat.le_refl _))
  have cM := Lib.hid (fun (zs : List Pe) w' hB' ho h1 h2 => symm_any base g n c (by omega) n 0 20 n zs w' (by omega) hB' ho (by omega) (by omega) (Nat.le_refl _) h1 h2)
  go_enter Tryz.func120, Tryz.ntmps120
  go_wp2
  refine wp_loop_rounds 2 ?_
  rw [rounds_succ]
  go_wp2_with fail
  refine cS.out.mono ?_
  rintro e w1 ⟨rfl, ys, hmv, hso, hown1, hg1⟩
  have hB1 := Nat.le_trans hB hg1.size
  have hso := Lib.hid hso
  have hmv := Lib.hid hmv
  go_wp2
  rw [rounds_succ]
  go_wp2_with fail
  refine (cT.out ys w1 hB1 hown1).mono ?_
  rintro e w2 ⟨rfl, zs, hmv2, hso2, hown2, hg2⟩
  have hB2 := Nat.le_trans hB1 hg2.size
  have hs1 : So Pe.num 0 20 zs := hso.out.same (fun k k1 k2 => hmv2.out k (.inl k2))
  have hp2 := Lib.hid (hmv2.perm.trans hmv.out.perm)
  have hg12 := Lib.hid (hg1.trans hg2)
  have cM := Lib.hid (cM.out zs w2 hB2 hown2 hs1 hso2)
  clear hown1 hown2 hmv2 hso2 hs1 hg1 hg2
  go_wp2
  refine wp_loop_rounds 2 ?_
  rw [rounds_succ]
  go_wp2
  refine wp_loop_rounds 1 ?_
  rw [rounds_succ]
  go_wp2_with fail
  refine cM.out.mono ?_
  rintro e w3 ⟨rfl, us, hmv3, hso3, hown3, hg3⟩
  have hmv3 := Lib.hid hmv3
  have hso3 := Lib.hid hso3
  go_wp2
  rw [rounds_succ]
  go_wp2
  go_end0
  exact ⟨rfl, us, hmv3.out.perm.trans hp2.out, So.pair hso3.out rfl (by rw [hmv3.out.len, hp2.out.length_eq, hl]; exact Nat.le_refl _), hown3, hg12.out.trans hg3⟩
end Go.Proofs.YtpolplmniaoikaaGreatDoor
namespace Go.Proofs.YtpolplmniaoikaaGreatDoor
open Go.RowKit

theorem all_chkA (xs : List Am) : (xs.map Prod.fst).all chkT = !xs.any (fun a => !chkT a.1) := by
  rw [List.all_map, List.all_eq_not_any_not]; rfl
theorem all_chkT (gs : List Tm) : gs.all chkT = !gs.any (fun t => !chkT t) := by rw [List.all_eq_not_any_not]
/-- What is wrong with a set, by what its parts are asked. -/
theorem oErr_parts {xs : List Am} {gs : List Tm} {n m : Nat} {b1 b2 b3 b4 b5 : Bool} (hn : xs.length = n) (hm : gs.length = m) (h1 : xs.any (fun a => !chkT a.1) = b1) (h2 : gs.any (fun t => !chkT t) = b2) (h3 : ascT (xs.map Prod.fst) = b3) (h4 : ascT gs = b4) (h5 : badA xs gs = b5) :
    oErr xs gs = if 4096 < n ∨ 4096 < m then 8 else if b1 || b2 then 2 else if b3 && b4 then (if b5 then 3 else 0) else 3 := by
  unfold oErr sErr
  rw [all_chkA, all_chkT, h1, h2, h3, h4, h5, List.length_map, hn, hm]
  cases b1 <;> cases b2 <;> cases b3 <;> cases b4 <;> cases b5 <;> rfl

end Go.Proofs.YtpolplmniaoikaaGreatDoor
namespace Go.Proofs.YtpolplmniaoikaaGreatDoor
open Go.RowKit

end Go.Proofs.YtpolplmniaoikaaGreatDoor
namespace Go.Proofs.YtpolplmniaoikaaGreatDoor
open Go.RowKit

theorem infoAddR : (Tryz.prog.info? 277).map (fun i => (i.zero, i.size, i.bytes)) = some (some (.agg #[.int .i64 0, .int .u32 0, .int .i64 0, .string ⟨#[]⟩]), 4, 40) := by kernel_rfl
theorem eAddR : ElemInfo Tryz.prog 87 277 4 40 := by
  obtain ⟨i, hi, h0, h1, h2⟩ := info_parts infoAddR
  exact ⟨Tryz.underlying87, ⟨i, _, hi, h0, h1, h2, rfl⟩, by decide⟩
def grO (n m : Nat) : Bool := decide (200 < n ∨ 200 < m)
set_option maxRecDepth 100000 in
theorem ogreat_any (A : Option Addr) (n c : Nat) (B : Option Addr) (m d : Nat) (w : World) :
    Calls Tryz.prog 83 #[.agg #[.slice A n c, .slice B m d]] w fun e w' => e = .returned (.bool (grO n m)) ∧ Below w.heap.size w w' := by
  generalize hr : grO n m = r
  unfold grO at hr
  have hrH := Lib.hid hr
  clear hr
  have hB0 : Below w.heap.size w (w.alloc (.cells #[.slice A n c, .slice B m d] 89)) := (Below.refl _ w).alloc (Nat.le_refl _) _
  by_cases h1 : (200 : Int) < (n : Int)
  · have hT : Hid (true = r) := Lib.hid (by rw [← hrH.out]; symm; exact decide_eq_true (by omega))
    go_enter Tryz.func83, Tryz.ntmps83
    go_wp2
    go_ret
    exact ⟨ret_bool hT.out, hB0⟩
  · have hd1 : decide ((200 : Int) < (n : Int)) = false := decide_eq_false h1
    by_cases h2 : (200 : Int) < (m : Int)
    · have hT : Hid (true = r) := Lib.hid (by rw [← hrH.out]; symm; exact decide_eq_true (by omega))
      go_enter Tryz.func83, Tryz.ntmps83
      go_wp2
      go_ret
      exact ⟨ret_bool hT.out, hB0⟩
    · have hd2 : decide ((200 : Int) < (m : Int)) = false := decide_eq_false h2
      have hT : Hid (false = r) := Lib.hid (by rw [← hrH.out]; symm; exact decide_eq_false (by omega))
      go_enter Tryz.func83, Tryz.ntmps83
      go_wp2
      go_ret
      exact ⟨ret_bool hT.out, hB0⟩
end Go.Proofs.YtpolplmniaoikaaGreatDoor
namespace Go.Proofs.YtpolplmniaoikaaGreatDoor
open Go.RowKit

theorem filter_takeG {α : Type} {l : List α} {p : α → Bool} {k : Nat} {u : α} (h : l[k]? = some u) : (l.take (k + 1)).filter p = (l.take k).filter p ++ if p u then [u] else [] := by
  rw [List.take_add_one, h, List.filter_append]
  cases hp : p u <;> simp [hp]
set_option maxRecDepth 100000 in
theorem cloneT_any (A : Option Addr) (n c : Nat) (xs : List Tm) (w : World) (hA : RdT w w.heap.size A n xs) (hn : n ≤ 100000) :
    Calls Tryz.prog 123 #[.slice A n c] w fun e w' => ∃ A' c', e = .returned (.slice A' n c') ∧ Ow w' w.heap.size 74 3 (.slice A' n c') (xs.map Tm.enc) ∧ Below w.heap.size w w' := by
  have hl := hA.len
  cases A with
  | none =>
    obtain rfl : n = 0 := by
      rcases Nat.eq_zero_or_pos n with h | h
      · exact h
      · obtain ⟨b, o, h2, _⟩ := hA.2 h; cases h2
    obtain rfl : xs = [] := List.eq_nil_of_length_eq_zero hl
    have hnil : ∀ w, (binOp .eql 77 (.slice none 0 c) (.slice none 0 0)).run Tryz.prog w = .ok (.bool true) w := fun w => by rw [Lib.run_eql_slice_nil w _ _ none 0 c 0 0 Tryz.underlying77]; rfl
    go_enter Tryz.func123, Tryz.ntmps123
    go_wp2
    go_ret
    exact ⟨none, 0, rfl, Ow.nil_ _ _ _ _, Below.refl _ _⟩
  | some a =>
    have hnil : ∀ w, (binOp .eql 77 (.slice (some a) n c) (.slice none 0 0)).run Tryz.prog w = .ok (.bool false) w := fun w => by rw [Lib.run_eql_slice_nil w _ _ (some a) n c 0 0 Tryz.underlying77]; rfl
    go_enter Tryz.func123, Tryz.ntmps123
    go_wp2_with (at_builtin; refine wpList_append_rd _ rfl _ _ _ rfl eTag (base := w.heap.size) (v := .slice (some ⟨w.heap.size, 0, none⟩) 0 0) (xs := []) rfl (Ow.made0 _ _ _ (Nat.le_refl _)) rfl (Rd.below hA ((Below.refl _ w).alloc (Nat.le_refl _) _)) Tm.len Tm.one (by simp [maxLen]; omega) (by simp; omega) (by simp) ?_; intro A2 n2 c2 w4 hn2 hown2 hg4 hat2; (obtain rfl : n2 = n := (by rw [hn2]; simp)); clear hn2)
    go_ret
    exact ⟨A2, c2, rfl, by simpa using hown2, ((Below.refl _ w).alloc (Nat.le_refl _) _).grown hg4 (by simp) (fun g e => by simp [Value.ownBlock] at e; omega)⟩
end Go.Proofs.YtpolplmniaoikaaGreatDoor
