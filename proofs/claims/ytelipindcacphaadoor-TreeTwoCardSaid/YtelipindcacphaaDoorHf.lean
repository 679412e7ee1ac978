/- Interests of the program: check, outermost, Check, Make, Join, Minus. -/
import Derived.Test.YtelipindcacphaaDoorHe
import Derived.Test.YtelipindcacphaaDoorHc
namespace Go.Proofs.YtelipindcacphaaDoor
open Go.RowKit

/-- The variable of the library's that strings.Split reads holds some number. -/
def VarM (w : World) : Prop := ∃ m, w.cell? ⟨0, 0, none⟩ = some (.int .i64 m)
theorem VarM.lt {w : World} (h : VarM w) : 0 < w.heap.size := by
  obtain ⟨m, hm⟩ := h
  apply Classical.byContradiction
  intro hn
  have : w.heap[0]? = none := Array.getElem?_eq_none (by omega)
  simp [World.cell?, this] at hm
theorem VarM.below {w w' : World} {n : Nat} (h : VarM w) (hb : Below n w w') (hn : 0 < n) : VarM w' := by
  obtain ⟨m, hm⟩ := h
  exact ⟨m, (hb.cell (p := ⟨0, 0, none⟩) hn).trans hm⟩
theorem splitK_le : ∀ (k : Nat) (s : List UInt8), ∀ x ∈ Lib.splitK [47] 0 k s, x.length ≤ s.length
  | 0, s, x, hx => by
    obtain rfl : x = s := by simpa [Lib.splitK] using hx
    exact Nat.le_refl _
  | k + 1, s, x, hx => by
    rw [Lib.splitK] at hx
    split at hx
    · obtain rfl : x = s := by simpa using hx
      exact Nat.le_refl _
    · rcases List.mem_cons.1 hx with rfl | hx
      · rw [List.length_take]; omega
      · have := splitK_le k _ x hx
        rw [List.length_drop] at this
        omega
theorem split_bs (p : List UInt8) : Lib.splitB (bs [47]) 0 (Lib.countB (bs p) (bs [47])) (bs p) = (Lib.split p [47]).map bs := by
  have h := Lib.splitB_data (bs [47]) 0 (Lib.countB (bs p) (bs [47])) (bs p)
  have h2 : Lib.split p [47] = Lib.splitK (bs [47]).data.toList 0 (Lib.countB (bs p) (bs [47])) (bs p).data.toList := rfl
  rw [h2, ← h, List.map_map]
  conv => lhs; rw [← List.map_id (Lib.splitB (bs [47]) 0 (Lib.countB (bs p) (bs [47])) (bs p))]
  apply List.map_congr_left
  intro x _
  exact (bs_of x).symm
theorem splitS_any (p : List UInt8) (hp : p.length ≤ 1000000) (w : World) (hv : VarM w) :
    Calls Tryd.prog 47 #[.string (bs p), .string ⟨#[47]⟩] w fun e w' => ∃ A n c, e = .returned (.slice A n c) ∧ RdS w' w'.heap.size A n (Lib.split p [47]) ∧ n ≤ maxLen ∧ Below w.heap.size w w' := by
  obtain ⟨m, hm⟩ := hv
  have hb := split_bs p
  have hlen := Lib.splitB_all (bs [47]) (by decide) 0 _ (bs p) rfl
  have hcl := Lib.countB_le (bs [47]) (by decide) (bs p).size (bs p) (Nat.le_refl _)
  rw [bs_size] at hcl
  refine (shSplit (bs p) (bs [47]) m w (by rw [bs_size]; omega) hm (by decide)).mono ?_
  rintro e w' ⟨rfl, rfl⟩
  rw [hb] at hlen ⊢
  refine ⟨_, _, _, rfl, Rd.built (xs := (Lib.split p [47]).map encS) encS_len ?_ (by simpa using hlen), by simp [maxLen]; omega, (Below.refl _ _).alloc (Nat.le_refl _) _⟩
  rw [List.map_map]
  congr 1
  generalize Lib.split p [47] = l
  induction l with
  | nil => rfl
  | cons x l ih => rw [List.map_cons, List.map_cons, List.flatten_cons, ih]; rfl
set_option maxRecDepth 100000 in
set_option maxHeartbeats 1000000 in
theorem tcheck_any (most : Nat) (_hmost : most ≤ 1000) (A : Option Addr) (n c : Nat) (xs : List (List UInt8)) (w : World) (hA : RdS w w.heap.size A n xs) (hn : n ≤ maxLen) (hx : ∀ x ∈ xs, x.length ≤ maxLen) (hv : VarM w) :
    Calls Tryd.prog 24 #[.slice A n c, .int .i64 (most : Int)] w fun e w' => e = .returned (.int .i64 (chkN most xs)) ∧ Below w.heap.size w w' := by
  generalize hr : chkN most xs = r
  unfold chkN at hr
  rw [hA.len] at hr
  have c1 := Lib.hid (cfS_gen 46 #[] (fun p => decide (24 < p.length)) (fun _ _ => by kernel_rfl) w.heap.size A n c xs w hA hn (fun p hp w' _ => (tchk1_any p (hx p hp) w').mono (by rintro e w'' ⟨rfl, rfl⟩; exact ⟨rfl, Below.refl _ _⟩)) (Nat.le_refl _))
  unfold maxLen at hn
  by_cases hm : most < n
  · rw [if_pos (.inl hm)] at hr
    subst hr
    have hd : decide (most < n) = true := decide_eq_true hm
    go_enter Tryd.func24, Tryd.ntmps24
    go_wp2
    go_ret
    exact ⟨rfl, Below.refl _ _⟩
  have hd : decide (most < n) = false := decide_eq_false hm
  cases h24 : xs.any (fun p => decide (24 < p.length)) with
  | true =>
    rw [if_pos (.inr h24)] at hr
    subst hr
    rw [h24] at c1
    clear h24 hm
    go_enter Tryd.func24, Tryd.ntmps24
    go_wp2_with fail
    refine c1.out.mono ?_
    rintro e w1 ⟨rfl, hv1⟩
    go_wp2
    go_ret
    exact ⟨rfl, hv1⟩
  | false =>
    rw [if_neg (by rintro (h | h); exact hm h; rw [h24] at h; cases h)] at hr
    rw [h24] at c1
    have h24' : ∀ x ∈ xs, x.length ≤ 24 := fun x hx => by
      have := List.any_eq_false.1 h24 x hx
      simp at this; omega
    have hrH := Lib.hid hr
    have hl := hA.len
    have hvr := Lib.hid (fun w' (h : Below w.heap.size w w') => hv.below h hv.lt)
    clear h24 hm hr hv
    go_enter Tryd.func24, Tryd.ntmps24
    go_wp2_with fail
    refine c1.out.mono ?_
    rintro e w1 ⟨rfl, hv1⟩
    go_wp2_with fail
    go_loopg [17] (n + 1) (fun g i wr => ∃ k : Nat, k ≤ n ∧ g = n + 1 - k ∧ i = .int .i64 (k : Int) ∧ (∀ u ∈ xs.take k, (fun u : List UInt8 => !prefOk u) u = false) ∧ Below w.heap.size w wr)
    case atStart => exact ⟨0, Nat.zero_le _, rfl, rfl, by simp, hv1⟩
    case round =>
      clear hv1
      obtain ⟨k, hk, rfl, rfl, hno, hbr⟩ := hrel
      have hz := hbr.size
      by_cases hlt : k < n
      · obtain ⟨bA, oA, u, rfl, hbA, hp, hcp⟩ := (hA.below hbr).at_ hlt
        have p0 := hcp 0 _ rfl
        rw [Nat.add_zero, Nat.mul_one] at p0
        clear hcp
        have hum := List.mem_of_getElem? hp
        have hu24 := h24' u hum
        have hnoH := Lib.hid hno
        have hpH := Lib.hid hp
        have hlti : (k : Int) < (n : Int) := by omega
        clear hno hp
        by_cases hu : u = []
        · have hq : (bs u).toList.isEmpty = true := by rw [bs_emptyH, hu]; rfl
          have hT : Hid ((fun u : List UInt8 => !prefOk u) u = false) := Lib.hid (by rw [hu]; rfl)
          have hG := hbr
          clear hu
          go_wp2
          go_roundg (n + 1 - (k + 1))
          case measure => omega
          case rel => exact ⟨k + 1, by omega, rfl, by go_num, all_take_succ hnoH.out hpH.out hT.out, hG⟩
        · have hq : (bs u).toList.isEmpty = false := by rw [bs_emptyH, List.isEmpty_eq_false_iff]; exact hu
          have hpv : ((Lib.split u [47]).any fun s => !partB s) = !prefOk u := by
            rw [show prefOk u = pre 0 u by unfold prefOk; rw [show u.isEmpty = false from by rw [List.isEmpty_eq_false_iff]; exact hu]; rfl, ← split_parts, List.all_eq_not_any_not, Bool.not_not]
          have cs := Lib.hid (splitS_any u (by omega) wr (hvr.out wr hbr))
          have hsl : ∀ x ∈ Lib.split u [47], x.length ≤ maxLen := fun x hx => by
            have := splitK_le _ u x hx
            simp [maxLen]; omega
          clear hu
          go_wp2_with fail
          refine cs.out.mono ?_
          rintro e w2 ⟨S, q, d, rfl, hS, hq2, hv2⟩
          have c2 := cfS_gen 48 #[] (fun s => !partB s) (fun _ _ => by kernel_rfl) w2.heap.size S q d (Lib.split u [47]) w2 hS hq2 (fun p hp w' _ => (tchk2_any p (hsl p hp) w').mono (by rintro e w'' ⟨rfl, rfl⟩; exact ⟨rfl, Below.refl _ _⟩)) (Nat.le_refl _)
          rw [hpv] at c2
          have c2 := Lib.hid c2
          have hb2 := hbr.trans (hv2.mono hz)
          have hz2 := hb2.size
          clear hpv cs hS p0 hv2
          cases hc : prefOk u with
          | true =>
            rw [hc] at c2
            have hT : Hid ((fun u : List UInt8 => !prefOk u) u = false) := Lib.hid (by simp [hc])
            clear hc
            go_wp2_with fail
            refine c2.out.mono ?_
            rintro e w3 ⟨rfl, hv3⟩
            have hG := hb2.trans (hv3.mono hz2)
            go_wp2
            go_roundg (n + 1 - (k + 1))
            case measure => omega
            case rel => exact ⟨k + 1, by omega, rfl, by go_num, all_take_succ hnoH.out hpH.out hT.out, hG⟩
          | false =>
            rw [hc] at c2
            have hT : Hid (3 = r) := Lib.hid (by rw [← hrH.out, if_neg]; rw [List.all_eq_true]; intro h; have := h u hum; rw [hc] at this; cases this)
            clear hc
            go_wp2_with fail
            refine c2.out.mono ?_
            rintro e w3 ⟨rfl, hv3⟩
            have hG := hb2.trans (hv3.mono hz2)
            go_wp2
            go_ret
            exact ⟨ret_int hT.out, hG⟩
      · skip
        obtain rfl : k = n := by omega
        have hnli : ¬ (k : Int) < (k : Int) := by omega
        have hall := all_take_all hno hl
        have hT : Hid (0 = r) := Lib.hid (by rw [← hrH.out, if_pos]; rw [List.all_eq_true]; intro x hx; have := hall x hx; simpa using this)
        clear hall hno
        go_wp2
        go_ret
        exact ⟨ret_int hT.out, hbr⟩
set_option maxRecDepth 100000 in
set_option maxHeartbeats 1000000 in
theorem touter_any (A : Option Addr) (n c : Nat) (xs : List (List UInt8)) (w : World) (hA : RdS w w.heap.size A n xs) (hn : n ≤ 100000) (hx : ∀ x ∈ xs, x.length ≤ 1099511627776) :
    Calls Tryd.prog 41 #[.slice A n c] w fun e w' => ∃ A' n' c', e = .returned (.slice A' n' c') ∧ Ow w' w.heap.size 9 1 (.slice A' n' c') ((outW xs).map encS) ∧ Below w.heap.size w w' := by
  have hb0 : Below w.heap.size w (w.alloc (.cells #[.slice A n c] 22)) := (Below.refl _ w).alloc (Nat.le_refl _) _
  have cv := Lib.hid (valuesS_any A n c w)
  have cs := Lib.hid (sortedS_any w.heap.size A n c xs (w.alloc (.cells #[.slice A n c] 22)) (heap_at _ _ rfl) ((hA.below hb0).more hb0.size) hn)
  have hz0 := hb0.size
  have hsl : (sortS xs).length = n := by rw [sortS_len]; exact hA.len
  have hsx : ∀ x ∈ sortS xs, x.length ≤ 1099511627776 := fun x h => hx x (by simpa [sortS_mem] using h)
  have hT : Hid ((sortS xs).foldl outStep [] = outW xs) := Lib.hid rfl
  generalize outW xs = out at hT
  generalize sortS xs = ys at hT cs hsl hsx
  clear hA hx
  go_enter Tryd.func41, Tryd.ntmps41
  go_wp2_with fail
  refine cv.out.mono ?_
  rintro e w1 ⟨rfl, rfl⟩
  go_wp2_with fail
  refine cs.out.mono ?_
  rintro e w2 ⟨B, d, rfl, oB, hv2⟩
  have hb2 := hb0.trans (hv2.mono hz0)
  have hB : RdS w2 w2.heap.size B n ys := oB.rd.1
  have hz2 := hb2.size
  clear cv cs hb0 hv2 oB
  go_wp2_with fail
  go_loopg [4, 12] (n + 1) (fun g o i wr => ∃ (k q : Nat) (T : Option Addr) (c' : Nat), k ≤ n ∧ q ≤ k ∧ g = n + 1 - k ∧ i = .int .i64 (k : Int) ∧ o = .slice T q c' ∧ Ow wr w2.heap.size 9 1 (.slice T q c') (((ys.take k).foldl outStep []).map encS) ∧ Below w2.heap.size w2 wr)
  case atStart => exact ⟨0, 0, none, 0, Nat.zero_le _, Nat.le_refl _, rfl, rfl, rfl, Ow.nil_ _ _ _ _, Below.refl _ _⟩
  case round =>
    obtain ⟨k, q, T, c', hk, hqk, rfl, rfl, rfl, hown, hbr⟩ := hrel
    have hz := hbr.size
    by_cases hlt : k < n
    · obtain ⟨bB, oB, u, rfl, hbB, hp, hcp⟩ := (hB.below hbr).at_ hlt
      have p0 := hcp 0 _ rfl
      rw [Nat.add_zero, Nat.mul_one] at p0
      clear hcp
      have hbB2 : bB < wr.heap.size := by omega
      have hum := hsx u (List.mem_of_getElem? hp)
      have hst : Hid ((ys.take (k + 1)).foldl outStep [] = outStep ((ys.take k).foldl outStep []) u) := Lib.hid (by rw [List.take_add_one, hp, List.foldl_append]; rfl)
      have hLx : ∀ x ∈ (ys.take k).foldl outStep [], x.length ≤ 1099511627776 := by
        have h : ∀ (zs out : List (List UInt8)), (∀ x ∈ zs, x.length ≤ 1099511627776) → (∀ x ∈ out, x.length ≤ 1099511627776) → ∀ x ∈ zs.foldl outStep out, x.length ≤ 1099511627776 := by
          intro zs
          induction zs with
          | nil => intro out _ h2; exact h2
          | cons z zs ih =>
            intro out h1 h2
            rw [List.foldl_cons]
            refine ih _ (fun x hx => h1 x (by simp [hx])) (fun x hx => ?_)
            unfold outStep at hx
            split at hx
            · exact h2 x hx
            · rcases List.mem_append.1 hx with hx | hx
              · exact h2 x hx
              · obtain rfl := List.mem_singleton.1 hx; exact h1 x (by simp)
        exact h _ _ (fun x hx => hsx x (List.mem_of_mem_take hx)) (by simp)
      clear hp
      generalize (ys.take k).foldl outStep [] = L at hown hst hLx
      have hLl : L.length = q := by simpa using hown.rd.2.1
      have hLlH := Lib.hid hLl
      have hch := Lib.hid (thas_any T q c' L u wr hown.rd.1 (by simp [maxLen]; omega) hLx (by simp [maxLen]; omega))
      have hlti : (k : Int) < (n : Int) := by omega
      clear hLx hLl
      cases hc : hasW L u with
      | true =>
        rw [hc] at hch
        have hT2 : Hid (outStep L u = L) := Lib.hid (by unfold outStep; rw [if_pos hc])
        clear hc
        go_wp2_with fail
        refine hch.out.mono ?_
        rintro e w3 ⟨rfl, hv3⟩
        have hG := hbr.trans (hv3.mono hz)
        go_wp2
        go_roundg (n + 1 - (k + 1))
        case measure => omega
        case rel => exact ⟨k + 1, q, T, c', by omega, by omega, rfl, by go_num, rfl, by rw [hst.out, hT2.out]; exact hown.below hv3, hG⟩
      | false =>
        rw [hc] at hch
        have hT2 : Hid ((outStep L u).map encS = L.map encS ++ [[.string (bs u)]]) := Lib.hid (by unfold outStep; rw [if_neg (by rw [hc]; simp)]; simp [encS])
        clear hc
        go_wp2_with fail
        refine hch.out.mono ?_
        rintro e w3 ⟨rfl, hv3⟩
        have hz3 := hv3.size
        have hb3 := hbr.trans (hv3.mono hz)
        have hown3 := hown.below hv3
        have hbO : Below w3.heap.size w3 (w3.alloc (.cells #[.string (bs u)] 9)) := (Below.refl _ w3).alloc (Nat.le_refl _) _
        have hlk : Hid ((L.map encS).length = q) := Lib.hid (by rw [List.length_map]; exact hLlH.out)
        have hlen1 : ∀ y ∈ ([[.string (bs u)]] : List (List Value)), y.length = 1 := by simp
        have hone1 : ∀ y ∈ ([[.string (bs u)]] : List (List Value)), ∀ v ∈ y, v.oneCell' = true := by simp [Value.oneCell']
        go_wp2_with (at_builtin; refine wpList_append_rd _ rfl _ _ _ rfl eStr (base := w2.heap.size) (v := .slice T q c') (xs := L.map encS) rfl (hown3.below hbO) rfl (Rd.one' [.string (bs u)] rfl) hlen1 hone1 (by rw [hlk.out]; unfold maxLen; omega) (by rw [hlk.out]; omega) (by simp; omega) ?_; intro A4 n4 c4 w4 hn4 hown4 hg4 hat4; (obtain rfl : n4 = q + 1 := (by rw [hn4, hlk.out])); clear hn4)
        have hG : Below w2.heap.size w2 w4 := (hb3.alloc (by omega) _).grown hg4 (by simp; omega) (fun g e => (hown.block g e).1)
        go_roundg (n + 1 - (k + 1))
        case measure => omega
        case rel => exact ⟨k + 1, q + 1, A4, c4, by omega, by omega, rfl, by go_num, rfl, by rw [hst.out, hT2.out]; exact hown4, hG⟩
    · obtain rfl : k = n := by omega
      have hnli : ¬ (k : Int) < (k : Int) := by omega
      rw [List.take_of_length_le (by omega), hT.out] at hown
      go_wp2
      go_ret
      exact ⟨T, q, c', rfl, hown.base hz2, hb2.trans (hbr.mono hz2)⟩
end Go.Proofs.YtelipindcacphaaDoor
