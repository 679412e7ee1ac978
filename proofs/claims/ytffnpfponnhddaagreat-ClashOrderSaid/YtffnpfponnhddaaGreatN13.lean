/- Sets of additions: what is wrong with one, by the program and by the document. The document's sets of additions: the names of additions, what is wrong with a set. Regions that draw their order: an operation for which number m waits by way of another one. Writing an element of a row of one's own: elements of any number of cells. -/
import Derived.Test.YtffnpfponnhddaaGreatOsC
import Derived.Test.YtffnpfponnhddaaGreatGb
import Derived.Test.YtffnpfponnhddaaGreatGc
namespace Go.Proofs.YtffnpfponnhddaaGreat
open Go.RowKit

theorem all_chkA (xs : List Am) : (xs.map Prod.fst).all chkT = !xs.any (fun a => !chkT a.1) := by
  rw [List.all_map, List.all_eq_not_any_not]; rfl
theorem all_chkT (gs : List Tm) : gs.all chkT = !gs.any (fun t => !chkT t) := by rw [List.all_eq_not_any_not]
/-- What is wrong with a set, by what its parts are asked. -/
theorem oErr_parts {xs : List Am} {gs : List Tm} {n m : Nat} {b1 b2 b3 b4 b5 : Bool} (hn : xs.length = n) (hm : gs.length = m) (h1 : xs.any (fun a => !chkT a.1) = b1) (h2 : gs.any (fun t => !chkT t) = b2) (h3 : ascT (xs.map Prod.fst) = b3) (h4 : ascT gs = b4) (h5 : badA xs gs = b5) :
    oErr xs gs = if 4096 < n ∨ 4096 < m then 8 else if b1 || b2 then 2 else if b3 && b4 then (if b5 then 3 else 0) else 3 := by
  unfold oErr sErr
  rw [all_chkA, all_chkT, h1, h2, h3, h4, h5, List.length_map, hn, hm]
  cases b1 <;> cases b2 <;> cases b3 <;> cases b4 <;> cases b5 <;> rfl

set_option maxRecDepth 100000 in
set_option maxHeartbeats 1000000 in
theorem ocheck_any (A : Option Addr) (n c : Nat) (xs : List Am) (B : Option Addr) (m d : Nat) (gs : List Tm) (w : World) (hA : RdA w w.heap.size A n xs) (hB : RdT w w.heap.size B m gs) (hn : n ≤ maxLen) (hm : m ≤ maxLen) (hx : ∀ a ∈ xs, a.wf) (hg : ∀ t ∈ gs, t.wf) (hl : ∀ a ∈ xs, a.2.length ≤ maxLen) :
    Calls Tryz.prog 45 #[.agg #[.slice A n c, .slice B m d]] w fun e w' => e = .returned (.int .i64 (oErr xs gs)) ∧ Below w.heap.size w w' := by
  have hb0 : Below w.heap.size w (w.alloc (.cells #[.slice A n c, .slice B m d] 59)) := (Below.refl _ w).alloc (Nat.le_refl _) _
  have hbx : (w.alloc (.cells #[.slice A n c, .slice B m d] 59)).heap[w.heap.size]? = some (.cells #[.slice A n c, .slice B m d] 59 (0, 0)) := heap_at _ _ rfl
  generalize hW : w.alloc (.cells #[.slice A n c, .slice B m d] 59) = W at hb0 hbx
  have hbxH := Lib.hid hbx
  have hltx := blk_lt hbx
  have s0 := blk_cell hbx 0
  have s1 := blk_cell hbx 1
  simp at s0 s1
  have hnl := hA.len
  have hml := hB.len
  have c1 := Lib.hid (fun w' (h : Below w.heap.size w w') => cfA_gen 87 #[] (fun a => !chkT a.1) (fun _ _ => by kernel_rfl) w'.heap.size A n c xs w' ((hA.below h).more h.size) hn (fun x hxm w'' _ => chk1_any x (hx x hxm) w'') (Nat.le_refl _))
  have c2 := Lib.hid (fun w' (h : Below w.heap.size w w') => cfT_gen 68 #[] (fun t => !chkT t) (fun _ _ => by kernel_rfl) w'.heap.size B m d gs w' ((hB.below h).more h.size) hm (fun x hxm w'' _ => onotag_any x (hg x hxm) w'') (Nat.le_refl _))
  have c3 := Lib.hid (fun w' (h : Below w.heap.size w w') => strictA_any 89 #[] (fun _ _ => by kernel_rfl) w'.heap.size A n c xs w' ((hA.below h).more h.size) hn (fun x _ y _ w'' _ => chk2_any x y w'') (Nat.le_refl _))
  have c4 := Lib.hid (fun w' (h : Below w.heap.size w w') => strictT_any 61 #[] (fun _ _ => by kernel_rfl) w'.heap.size B m d gs w' ((hB.below h).more h.size) hm (fun x _ y _ w'' _ => pcmpt_any x y w'') (Nat.le_refl _))
  have c5 := Lib.hid (fun (hm4 : m ≤ 4096) (hasc : ascT gs = true) w' (h : Below W.heap.size W w') => cfA_gen 91 #[.pointer (some ⟨w.heap.size, 0, none⟩)] (fun a => !elemB a.2 || gs.contains a.1) (fun _ _ => by kernel_rfl) w'.heap.size A n c xs w' ((hA.below (hb0.trans (h.mono hb0.size))).more (hb0.trans (h.mono hb0.size)).size) hn
    (fun x hxm w'' h2 => chk3_any w.heap.size A n c xs B m d gs x w'' (blk_below (blk_below hbxH.out h) h2) ((hB.below ((hb0.trans (h.mono hb0.size)).trans (h2.mono (hb0.trans (h.mono hb0.size)).size))).more ((hb0.trans (h.mono hb0.size)).trans (h2.mono (hb0.trans (h.mono hb0.size)).size)).size) (by omega) ((ascT_asc gs).1 hasc) (hl x hxm)) (Nat.le_refl _))
  generalize hr : oErr xs gs = r
  obtain ⟨b1, h1⟩ : ∃ b, xs.any (fun a => !chkT a.1) = b := ⟨_, rfl⟩
  obtain ⟨b2, h2⟩ : ∃ b, gs.any (fun t => !chkT t) = b := ⟨_, rfl⟩
  obtain ⟨b3, h3⟩ : ∃ b, ascT (xs.map Prod.fst) = b := ⟨_, rfl⟩
  obtain ⟨b4, h4⟩ : ∃ b, ascT gs = b := ⟨_, rfl⟩
  obtain ⟨b5, h5⟩ : ∃ b, badA xs gs = b := ⟨_, rfl⟩
  rw [oErr_parts hnl hml h1 h2 h3 h4 h5] at hr
  rw [h1] at c1
  rw [h2] at c2
  rw [h3] at c3
  rw [h4] at c4 c5
  rw [show xs.any (fun a => !elemB a.2 || gs.contains a.1) = b5 from h5] at c5
  unfold maxLen at hn hm
  clear h1 h2 h3 h4 h5 hA hB hbx hx hg hl hnl hml
  by_cases hn4 : (4096 : Int) < (n : Int)
  · rw [if_pos (by omega)] at hr
    subst hr
    go_enter Tryz.func45, Tryz.ntmps45
    go_wp2
    go_ret
    exact ⟨rfl, hb0⟩
  have hdn : decide ((4096 : Int) < (n : Int)) = false := decide_eq_false hn4
  by_cases hm4 : (4096 : Int) < (m : Int)
  · rw [if_pos (by omega)] at hr
    subst hr
    go_enter Tryz.func45, Tryz.ntmps45
    go_wp2
    go_ret
    exact ⟨rfl, hb0⟩
  have hdm : decide ((4096 : Int) < (m : Int)) = false := decide_eq_false hm4
  have hm5 : m ≤ 4096 := by omega
  rw [if_neg (by omega)] at hr
  have hrH := Lib.hid hr
  clear hr
  go_enter Tryz.func45, Tryz.ntmps45
  go_wp2_with fail
  refine (c1.out _ hb0).mono ?_
  rintro e w1 ⟨rfl, hv1⟩
  have hG1 := hb0.trans (hv1.mono hb0.size)
  have hs1 := blk_below hbxH.out hv1
  clear s0 s1
  have hltx := blk_lt hs1
  have s0 := blk_cell hs1 0
  have s1 := blk_cell hs1 1
  simp at s0 s1
  cases b1
  case true =>
    have hT : Hid (2 = r) := Lib.hid (by rw [← hrH.out]; rfl)
    go_wp2
    go_ret
    exact ⟨ret_int hT.out, hG1⟩
  go_wp2_with fail
  refine (c2.out _ hG1).mono ?_
  rintro e w2 ⟨rfl, hv2⟩
  have hG2 := hG1.trans (hv2.mono hG1.size)
  have hs2 := blk_below hs1 hv2
  clear s0 s1
  have hltx := blk_lt hs2
  have s0 := blk_cell hs2 0
  have s1 := blk_cell hs2 1
  simp at s0 s1
  cases b2
  case true =>
    have hT : Hid (2 = r) := Lib.hid (by rw [← hrH.out]; rfl)
    go_wp2
    go_ret
    exact ⟨ret_int hT.out, hG2⟩
  go_wp2_with fail
  refine (c3.out _ hG2).mono ?_
  rintro e w3 ⟨rfl, hv3⟩
  have hG3 := hG2.trans (hv3.mono hG2.size)
  have hs3 := blk_below hs2 hv3
  clear s0 s1
  have hltx := blk_lt hs3
  have s0 := blk_cell hs3 0
  have s1 := blk_cell hs3 1
  simp at s0 s1
  cases b3
  case false =>
    have hT : Hid (3 = r) := Lib.hid (by rw [← hrH.out]; rfl)
    go_wp2
    go_ret
    exact ⟨ret_int hT.out, hG3⟩
  go_wp2_with fail
  refine (c4.out _ hG3).mono ?_
  rintro e w4 ⟨rfl, hv4⟩
  have hG4 := hG3.trans (hv4.mono hG3.size)
  have hs4 := blk_below hs3 hv4
  clear s0 s1
  have hltx := blk_lt hs4
  have s0 := blk_cell hs4 0
  have s1 := blk_cell hs4 1
  simp at s0 s1
  cases b4
  case false =>
    have hT : Hid (3 = r) := Lib.hid (by rw [← hrH.out]; rfl)
    go_wp2
    go_ret
    exact ⟨ret_int hT.out, hG4⟩
  have hW4 : Below W.heap.size W w4 := hv1.trans ((hv2.trans ((hv3.trans (hv4.mono hv3.size)).mono hv2.size)).mono hv1.size)
  have c5' := Lib.hid (c5.out hm5 rfl w4 hW4)
  go_wp2_with fail
  refine c5'.out.mono ?_
  rintro e w5 ⟨rfl, hv5⟩
  have hG5 := hG4.trans (hv5.mono hG4.size)
  cases b5
  case false =>
    have hT : Hid (0 = r) := Lib.hid (by rw [← hrH.out]; rfl)
    go_wp2
    go_ret
    exact ⟨ret_int hT.out, hG5⟩
  have hT : Hid (3 = r) := Lib.hid (by rw [← hrH.out]; rfl)
  go_wp2
  go_ret
  exact ⟨ret_int hT.out, hG5⟩
end Go.Proofs.YtffnpfponnhddaaGreat
namespace Go.Proofs.YtffnpfponnhddaaGreat
open Go.RowKit

end Go.Proofs.YtffnpfponnhddaaGreat
namespace Go.Proofs.YtffnpfponnhddaaGreat
open Go.RowKit

section
variable {P : Program} {ops : Array Oper} {Q : Exit → Act → World → Prop} {md : Region.Mode} {C E : World → Prop} {m : Nat}
theorem closedL_on {L : Array Bool} (hcl : ClosedL md ops L) {j i : Nat} {oj : Oper} (hj : ops[j]? = some oj) (hw : (oj.after.any fun e => Region.binds md e && e.on == i) = true) (hl : L.getD j false = true) : L.getD i false = true := by
  obtain ⟨e, he, hb⟩ := Array.any_eq_true'.1 hw
  simp only [Bool.and_eq_true, beq_iff_eq] at hb
  have := hcl j oj hj hl e he hb.1
  rwa [hb.2] at this
theorem wpM_take0c {i j : Nat} {oi oj om : Oper} {v : Value} {f : Nat} {L : Array Bool} {a : Act} {w : World} (hi : ops[i]? = some oi) (hj : ops[j]? = some oj) (hm : ops[m]? = some om)
    (hw : (om.after.any fun e => Region.binds md e && e.on == j) = true) (hw2 : (oj.after.any fun e => Region.binds md e && e.on == i) = true)
    (hs : Region.noSelect ops = true) (hf : Region.free md ops L i = true) (hr : (Region.ready md ops L).contains i = true) (him : i ≠ m)
    (hQ : ∀ c a w, Q (.panic c) (a.put oi.dst v) w → Q (.panic c) a w) (hcl : ClosedL md ops L) (hC : C w) (hE : L.getD m false = false → E w) (hy : YieldsIf P ops (fun w => C w ∧ E w) oi v a)
    (h : ClosedL md ops (L.setIfInBounds i true) → wpAnyM P md ops Q C E m f (L.setIfInBounds i true) (a.put oi.dst v) w) : wpAnyM P md ops Q C E m (f + 1) L a w := by
  refine wpAnyM_first (S := fun w => C w ∧ E w) hi (Region.noSelect_spec hs) hQ him (fun L w hcl hun hc he => ⟨hc, he ?_⟩) f L a w hcl (Region.free_spec hi hf) (by simpa using hr) hy hC hE (h (hcl.set (by simpa using hr)))
  rw [← Bool.not_eq_true]
  intro hlm
  have h2 := closedL_on hcl hj hw2 (closedL_on hcl hm hw hlm)
  rcases Nat.lt_or_ge i L.size with h' | h'
  · simp [h'] at hun h2; rw [hun] at h2; cases h2
  · simp [Array.getElem?_eq_none h'] at h2
end
end Go.Proofs.YtffnpfponnhddaaGreat
namespace Go.Proofs.YtffnpfponnhddaaGreat
open Go.RowKit

theorem setL_mid {α : Type} : ∀ (vs : List α) (l : List α) (i : Nat), i + vs.length ≤ l.length → setL l i vs = l.take i ++ vs ++ l.drop (i + vs.length)
  | [], l, i, h => by simp [setL]
  | v :: r, l, i, h => by
    have hi : i < l.length := by simp at h; omega
    rw [setL, setL_mid r (l.set i v) (i + 1) (by simp at h ⊢; omega), List.take_add_one, List.getElem?_set_self hi]
    simp only [Option.toList_some, List.length_cons]
    rw [List.take_set_of_le (Nat.le_refl _), List.drop_set_of_lt (by omega), show i + 1 + r.length = i + (r.length + 1) by omega]
    simp
theorem Ow.setL {w : World} {base g n c sz : Nat} {e : TypeId} {xs : List (List Value)} (h : Ow w base e sz (.slice (some ⟨g, 0, none⟩) n c) xs) {k : Nat} (hk : k < n) {vs : List Value} (hv : vs.length = sz) :
    Ow (w.setCells g (k * sz) vs) base e sz (.slice (some ⟨g, 0, none⟩) n c) (xs.set k vs) := by
  have hl : xs.length = n := h.rd.2.1
  have hall := h.1
  have h2 := h.2
  rw [hl] at h2
  have hflat : ∀ m, m ≤ n → (xs.take m).flatten = xs.flatten.take (m * sz) ∧ (xs.drop m).flatten = xs.flatten.drop (m * sz) := by
    intro m hm
    have h1 : xs.flatten = (xs.take m).flatten ++ (xs.drop m).flatten := by rw [← List.flatten_append, List.take_append_drop]
    have h2 : (xs.take m).flatten.length = m * sz := by rw [flat_len (fun x hx => hall x (List.mem_of_mem_take hx)), List.length_take, Nat.min_eq_left (by omega)]
    rw [h1, ← h2]
    exact ⟨(List.take_left' rfl).symm, (List.drop_left' rfl).symm⟩
  have hfl : xs.flatten.length = n * sz := by rw [flat_len hall, hl]
  have hle : k * sz + sz ≤ n * sz := by rw [← Nat.succ_mul]; exact Nat.mul_le_mul_right _ hk
  refine ⟨fun x hx => ?_, ?_⟩
  · rcases List.mem_or_eq_of_mem_set hx with h' | rfl
    · exact hall x h'
    · exact hv
  · have h3 := ownsRow_setCells vs (k * sz) h2
    rw [setL_mid vs _ _ (by rw [hv, hfl]; exact hle), hv] at h3
    rw [List.length_set, hl, List.set_eq_take_append_cons_drop, if_pos (by omega), List.flatten_append, List.flatten_cons, (hflat k (by omega)).1, (hflat (k + 1) (by omega)).2, Nat.succ_mul, ← List.append_assoc]
    exact h3
theorem gr_setCells {g : Nat} (vs : List Value) {a w : World} (i : Nat) (h : a.grownBy w (some g)) : a.grownBy (w.setCells g i vs) (some g) := grown_setCells vs i h
end Go.Proofs.YtffnpfponnhddaaGreat
