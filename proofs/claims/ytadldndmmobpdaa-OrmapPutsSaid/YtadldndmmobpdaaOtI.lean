/- The document's Drop of sets. -/
import Derived.Test.YtadldndmmobpdaaOtH
import Derived.Test.YtadldndmmobpdaaOtD
import Derived.Test.YtadldndmmobpdaaM10
namespace Go.Proofs.Ytadldndmmobpdaa
open Go.RowKit

theorem addT_len (g : List Tm) (t : Tm) : (addT g t).length ≤ g.length + 1 := by
  unfold addT insT
  split
  · omega
  · rw [List.length_append, List.length_cons, List.length_take, List.length_drop]
    omega
theorem dropG_len : ∀ (l g : List Tm), (dropG g l).length ≤ g.length + l.length
  | [], g => by simp [dropG]
  | t :: l, g => by
    have h := dropG_len l (addT g t)
    have h2 := addT_len g t
    unfold dropG at h ⊢
    rw [List.foldl_cons, List.length_cons]
    omega
theorem dropO_eq {xs : List Am} {gs l : List Tm} (h : ascTP gs) (hb : badA xs gs = false) : (xs.filter fun a => !(dropG gs l).contains a.1) = xs.filter fun a => !l.contains a.1 := by
  refine List.filter_congr fun a ha => ?_
  congr 1
  have hn : a.1 ∉ gs := by
    unfold badA at hb
    rw [List.any_eq_false] at hb
    have := hb a ha
    simp at this
    exact this.2
  rw [Bool.eq_iff_iff, List.contains_iff_mem, List.contains_iff_mem, (dropG_spec l h).2]
  constructor
  · rintro (h | h)
    · exact h
    · exact absurd h hn
  · exact .inl
set_option maxRecDepth 100000 in
set_option maxHeartbeats 4000000 in
theorem rodrop_any (A : Option Addr) (n c : Nat) (xs : List Am) (B : Option Addr) (m d : Nat) (gs : List Tm) (C : Option Addr) (k f : Nat) (l : List Tm) (w : World) (hA : RdA w w.heap.size A n xs) (hB : RdT w w.heap.size B m gs) (hC : RdT w w.heap.size C k l) (hn : n ≤ 100000) (hm : m ≤ 100000) (hk : k ≤ 100000) (hx : ∀ a ∈ xs, a.wf) (hg : ∀ t ∈ gs, t.wf) (hlw : ∀ t ∈ l, t.wf) (hl : ∀ a ∈ xs, a.2.length ≤ maxLen) (hmd : m ≤ d) (hdm : d ≤ maxLen) :
    Calls Try.prog 41 #[.agg #[.slice A n c, .slice B m d], .slice C k f] w (PostO w (dropO xs gs l).1 (dropO xs gs l).2) := by
  have hb0 : Below w.heap.size w ((w.alloc (.cells #[.slice A n c, .slice B m d] 25)).alloc (.cells #[.slice none 0 0, .slice none 0 0] 25)) := ((Below.refl _ w).alloc (Nat.le_refl _) _).alloc (by simp) _
  have hbx : ((w.alloc (.cells #[.slice A n c, .slice B m d] 25)).alloc (.cells #[.slice none 0 0, .slice none 0 0] 25)).heap[w.heap.size]? = some (.cells #[.slice A n c, .slice B m d] 25 (0, 0)) := heap_old _ (by simp) (heap_at _ _ rfl)
  have hbr : ((w.alloc (.cells #[.slice A n c, .slice B m d] 25)).alloc (.cells #[.slice none 0 0, .slice none 0 0] 25)).heap[w.heap.size + 1]? = some (.cells #[.slice none 0 0, .slice none 0 0] 25 (0, 0)) := heap_at _ _ (by simp)
  generalize hW : ((w.alloc (.cells #[.slice A n c, .slice B m d] 25)).alloc (.cells #[.slice none 0 0, .slice none 0 0] 25)) = W at hb0 hbx hbr
  have hbxH := Lib.hid hbx
  have hbrH := Lib.hid hbr
  have hltx := blk_lt hbx
  have hltr := blk_lt hbr
  have s0 := blk_cell hbx 0
  have s1 := blk_cell hbx 1
  have r0 := blk_cell hbr 0
  have r1 := blk_cell hbr 1
  simp at s0 s1 r0 r1
  have hfr := blk_frozen hbr
  have hck := Lib.hid (rocheck_any A n c xs B m d gs W ((hA.below hb0).more hb0.size) ((hB.below hb0).more hb0.size) (by first | omega | (simp [maxLen]; omega)) (by first | omega | (simp [maxLen]; omega)) hx hg hl)
  have hct := Lib.hid (fun w' (h : Below w.heap.size w w') => right_any C k f l w' ((hC.below h).more h.size) (by simp [maxLen]; omega) hlw)
  generalize hr : dropO xs gs l = out
  unfold dropO at hr
  have hkl := hC.len
  have hallr : l.any (fun t => !chkT t) = !l.all chkT := by rw [List.all_eq_not_any_not]; simp
  rw [hkl, hallr] at hr
  generalize hpe : oErr xs gs = p at hck hr
  by_cases hp : p = 0
  case neg =>
    rw [if_pos hp] at hr
    subst hr
    have hpn : (p != 0) = true := by simpa using hp
    clear hpe hp hbx hbr hA hB hC hct
    go_enter Try.func41, Try.ntmps41
    go_wp2_with fail
    refine hck.out.mono ?_
    rintro e w1 ⟨rfl, hv1⟩
    have hG := hb0.trans (hv1.mono hb0.size)
    have hr1 := blk_below hbrH.out hv1
    have hlr1 := blk_lt hr1
    clear r0 r1 hfr
    have r0 := blk_cell hr1 0
    have r1 := blk_cell hr1 1
    have hfr := blk_frozen hr1
    simp at r0 r1
    have hGs : Below w.heap.size w ((w1.setCell ⟨w.heap.size + 1, 0, none⟩ (.slice none 0 0)).setCell ⟨w.heap.size + 1, 1, none⟩ (.slice none 0 0)) := (hG.setCell (by dsimp only; omega) _).setCell (by dsimp only; omega) _
    go_wp2
    exact bodyPost_ret (v := .tuple #[.agg #[.slice none 0 0, .slice none 0 0], .int .i64 p]) (by simp [results, Try.results41, go_sem, r0, r1]) rfl (PostO.nil_ hGs)
  subst hp
  rw [if_neg (by simp)] at hr
  obtain ⟨hn4, hm4, _, _, _, hasc, hbad⟩ := sErr_zero.1 hpe
  rw [List.length_map, hA.len] at hn4
  rw [hB.len] at hm4
  by_cases hk4 : 4096 < k
  case pos =>
    rw [if_pos hk4] at hr
    subst hr
    have hdk : decide ((4096 : Int) < (k : Int)) = true := decide_eq_true (by omega)
    clear hpe hbx hbr hA hB hC hct hasc
    go_enter Try.func41, Try.ntmps41
    go_wp2_with fail
    refine hck.out.mono ?_
    rintro e w1 ⟨rfl, hv1⟩
    have hG := hb0.trans (hv1.mono hb0.size)
    have hr1 := blk_below hbrH.out hv1
    have hlr1 := blk_lt hr1
    clear r0 r1 hfr
    have r0 := blk_cell hr1 0
    have r1 := blk_cell hr1 1
    have hfr := blk_frozen hr1
    simp at r0 r1
    have hGs : Below w.heap.size w ((w1.setCell ⟨w.heap.size + 1, 0, none⟩ (.slice none 0 0)).setCell ⟨w.heap.size + 1, 1, none⟩ (.slice none 0 0)) := (hG.setCell (by dsimp only; omega) _).setCell (by dsimp only; omega) _
    go_wp2
    exact bodyPost_ret (v := .tuple #[.agg #[.slice none 0 0, .slice none 0 0], .int .i64 8]) (by simp [results, Try.results41, go_sem, r0, r1]) rfl (PostO.nil_ hGs)
  rw [if_neg hk4] at hr
  have hdk : decide ((4096 : Int) < (k : Int)) = false := decide_eq_false (by omega)
  cases hb2 : l.all chkT
  case false =>
    rw [hb2] at hct hr
    rw [if_pos (by simp)] at hr
    subst hr
    clear hpe hbx hbr hA hB hC hasc
    go_enter Try.func41, Try.ntmps41
    go_wp2_with fail
    refine hck.out.mono ?_
    rintro e w1 ⟨rfl, hv1⟩
    have hG1 := hb0.trans (hv1.mono hb0.size)
    go_wp2_with fail
    refine (hct.out _ hG1).mono ?_
    rintro e w2 ⟨rfl, hv2⟩
    have hG := hG1.trans (hv2.mono hG1.size)
    have hr1 := blk_below (blk_below hbrH.out hv1) hv2
    have hlr1 := blk_lt hr1
    clear r0 r1 hfr
    have r0 := blk_cell hr1 0
    have r1 := blk_cell hr1 1
    have hfr := blk_frozen hr1
    simp at r0 r1
    have hGs : Below w.heap.size w ((w2.setCell ⟨w.heap.size + 1, 0, none⟩ (.slice none 0 0)).setCell ⟨w.heap.size + 1, 1, none⟩ (.slice none 0 0)) := (hG.setCell (by dsimp only; omega) _).setCell (by dsimp only; omega) _
    go_wp2
    exact bodyPost_ret (v := .tuple #[.agg #[.slice none 0 0, .slice none 0 0], .int .i64 2]) (by simp [results, Try.results41, go_sem, r0, r1]) rfl (PostO.nil_ hGs)
  rw [hb2] at hct hr
  rw [if_neg (by simp), dropO_eq hasc hbad] at hr
  have hAr := Lib.hid (fun w' (h : Below w.heap.size w w') => hA.below h)
  have hBr := Lib.hid (fun w' (h : Below w.heap.size w w') => hB.below h)
  have hCr := Lib.hid (fun w' (h : Below w.heap.size w w') => hC.below h)
  have hspec := Lib.hid (fun l' => dropG_spec l' hasc)
  have hgH := Lib.hid hg
  have hlwH := Lib.hid hlw
  have hrH := Lib.hid hr
  have hlenH := Lib.hid hB.len
  have hklH := Lib.hid hkl
  have hdmH := Lib.hid hdm
  have hzW := hb0.size
  clear hpe hbx hbr hA hB hC hx hg hlw hl hasc hr hkl hbad hallr hb2 hdm
  go_enter Try.func41, Try.ntmps41
  go_wp2_with fail
  refine hck.out.mono ?_
  rintro e w1 ⟨rfl, hv1⟩
  have hG1 := hb0.trans (hv1.mono hb0.size)
  go_wp2_with fail
  refine (hct.out _ hG1).mono ?_
  rintro e w2 ⟨rfl, hv2⟩
  have hG2 := hG1.trans (hv2.mono hG1.size)
  have hs2 := blk_below (blk_below hbxH.out hv1) hv2
  have hr2 := blk_below (blk_below hbrH.out hv1) hv2
  clear r0 r1 hfr s0 s1 hltx hltr hck hct hv1 hv2 hbxH hbrH hb0 hzW hW hG1
  clear w1 W
  have hltx := blk_lt hs2
  have hltr := blk_lt hr2
  have s0 := blk_cell hs2 0
  have s1 := blk_cell hs2 1
  simp at s0 s1
  have hsH := Lib.hid hs2
  have hrbH := Lib.hid hr2
  have hz2 := hG2.size
  clear hs2 hr2
  have hbO : Below w2.heap.size w2 (w2.alloc (.cells #[.slice none 0 0, .slice B m d] 25)) := (Below.refl _ w2).alloc (Nat.le_refl _) _
  have ho0H := Lib.hid (show (w2.alloc (.cells #[.slice none 0 0, .slice B m d] 25)).heap[w2.heap.size]? = some (.cells #[.slice none 0 0, .slice B m d] 25 (0, 0)) from heap_at _ _ rfl)
  have hv0 := Lib.hid hbO
  have hB0 := Lib.hid (RdT.more (hBr.out _ (hG2.trans (hbO.mono hz2))) (hG2.trans (hbO.mono hz2)).size)
  go_wp2_with fail
  clear s0 s1 hltx hbO
  go_loopg [8] (k + 1) (fun g i wr => ∃ (q t : Nat) (G : Option Addr) (d' : Nat), q ≤ k ∧ g = k + 1 - q ∧ i = .int .i64 (q : Int) ∧ wr.heap[w2.heap.size]? = some (.cells #[.slice none 0 0, .slice G t d'] 25 (0, 0)) ∧ RdT wr wr.heap.size G t (dropG gs (l.take q)) ∧ t ≤ d' ∧ d' ≤ maxLen ∧ Below w2.heap.size w2 wr)
  case atStart => exact ⟨0, m, B, d, Nat.zero_le _, rfl, rfl, ho0H.out, hB0.out, hmd, hdmH.out, hv0.out⟩
  case round =>
    obtain ⟨q, t, G, d', hq, rfl, rfl, ho, hown, htd, hdd, hbr⟩ := hrel
    have hz := hbr.size
    have hGw := hG2.trans (hbr.mono hz2)
    have hlto := blk_lt ho
    have o0 := blk_cell ho 0
    have o1 := blk_cell ho 1
    simp at o0 o1
    have hoH := Lib.hid ho
    have hownH := Lib.hid hown
    have htlen : Hid (t = (dropG gs (l.take q)).length) := Lib.hid hown.len.symm
    have htk : t ≤ 4096 + q := by
      have h1 := dropG_len (l.take q) gs
      rw [List.length_take] at h1
      have := htlen.out
      have := hlenH.out
      omega
    have hddH := Lib.hid hdd
    clear ho hown hdd
    by_cases hlt : q < k
    · obtain ⟨bA, oA, u, rfl, hbA, hqu, hcp⟩ := (hCr.out wr hGw).at_ hlt
      have p0 := hcp 0 _ rfl
      have p1 := hcp 1 _ rfl
      have p2 := hcp 2 _ rfl
      rw [Nat.add_zero] at p0
      have hlti : (q : Int) < (k : Int) := by omega
      have hbA3 : bA < wr.heap.size := by omega
      have hul : u ∈ l := List.mem_of_getElem? hqu
      have hst : Hid (dropG gs (l.take (q + 1)) = addT (dropG gs (l.take q)) u) := Lib.hid (by rw [List.take_add_one, hqu]; simp [dropG])
      have hwfD : Hid (∀ z ∈ dropG gs (l.take q), z.wf) := Lib.hid (fun z hz => by
        rcases ((hspec.out (l.take q)).2 z).1 hz with h | h
        · exact hlwH.out z (List.mem_of_mem_take h)
        · exact hgH.out z h)
      have huw := hlwH.out u hul
      clear hcp hqu hul
      go_upto_region 12 with (fail)
      refine wp_region_M (fun w' => KQ w2.heap.size wr w') (fun w' => w'.cell? ⟨w2.heap.size, 1, none⟩ = some (.slice G t d')) 8 (by kernel_rfl) (kq (Below.refl _ _).drew |>.1.mono (by omega) |> kq) o1 ?_
      intro hcl
      have hC : KQ w2.heap.size wr wr.drew := kq ((Below.refl _ _).drew)
      have hE : wr.drew.cell? ⟨w2.heap.size, 1, none⟩ = some (.slice G t d') := o1
      have hbA4 : bA < w2.heap.size := by omega
      (refine wpM_take (i := 0) (v := ?_) rfl (by kernel_rfl) (by kernel_rfl) (by kernel_rfl) (by decide) (fun _ _ _ h => h) hcl hC (fun _ => hE) (Or.inl ⟨by rfl, ?_⟩) ?_; rotate_left; (· (intro w hSw; (try dsimp only at hSw); go_simp; (try with_reducible rfl))); clear hcl; intro hcl; (try simp only [Act.put, List.getElem_toArray, List.getElem_cons_zero, List.getElem_cons_succ, List.setIfInBounds_toArray, List.set_cons_zero, List.set_cons_succ]))
      (refine wpM_take0c (i := 1) (j := 6) (v := ?_) rfl rfl rfl (by kernel_rfl) (by kernel_rfl) (by kernel_rfl) (by kernel_rfl) (by kernel_rfl) (by decide) (fun _ _ _ h => h) hcl hC (fun _ => hE) (Or.inl ⟨by rfl, ?_⟩) ?_; rotate_left; (· (intro w hSw; (try dsimp only at hSw); go_simp; (try with_reducible rfl))); clear hcl; intro hcl; (try simp only [Act.put, List.getElem_toArray, List.getElem_cons_zero, List.getElem_cons_succ, List.setIfInBounds_toArray, List.set_cons_zero, List.set_cons_succ]))
      (refine wpM_take (i := 2) (v := ?_) rfl (by kernel_rfl) (by kernel_rfl) (by kernel_rfl) (by decide) (fun _ _ _ h => h) hcl hC (fun _ => hE) (Or.inl ⟨by rfl, ?_⟩) ?_; rotate_left; (· (intro w hSw; (try dsimp only at hSw); go_simp; (try with_reducible rfl))); clear hcl; intro hcl; (try simp only [Act.put, List.getElem_toArray, List.getElem_cons_zero, List.getElem_cons_succ, List.setIfInBounds_toArray, List.set_cons_zero, List.set_cons_succ]))
      (refine wpM_take (i := 3) (v := ?_) rfl (by kernel_rfl) (by kernel_rfl) (by kernel_rfl) (by decide) (fun _ _ _ h => h) hcl hC (fun _ => hE) (Or.inl ⟨by rfl, ?_⟩) ?_; rotate_left; (· (intro w hSw; (try dsimp only at hSw); go_simp; (try with_reducible rfl))); clear hcl; intro hcl; (try simp only [Act.put, List.getElem_toArray, List.getElem_cons_zero, List.getElem_cons_succ, List.setIfInBounds_toArray, List.set_cons_zero, List.set_cons_succ]))
      (refine wpM_take (i := 4) (v := ?_) rfl (by kernel_rfl) (by kernel_rfl) (by kernel_rfl) (by decide) (fun _ _ _ h => h) hcl hC (fun _ => hE) (Or.inl ⟨by rfl, ?_⟩) ?_; rotate_left; (· (intro w hSw; (try dsimp only at hSw); go_simp; (try with_reducible rfl))); clear hcl; intro hcl; (try simp only [Act.put, List.getElem_toArray, List.getElem_cons_zero, List.getElem_cons_succ, List.setIfInBounds_toArray, List.set_cons_zero, List.set_cons_succ]))
      (refine wpM_take (i := 5) (v := ?_) rfl (by kernel_rfl) (by kernel_rfl) (by kernel_rfl) (by decide) (fun _ _ _ h => h) hcl hC (fun _ => hE) (Or.inl ⟨by rfl, ?_⟩) ?_; rotate_left; (· (intro w hSw; (try dsimp only at hSw); go_simp; (try with_reducible rfl))); clear hcl; intro hcl; (try simp only [Act.put, List.getElem_toArray, List.getElem_cons_zero, List.getElem_cons_succ, List.setIfInBounds_toArray, List.set_cons_zero, List.set_cons_succ]))
      refine wpM_only (i := 6) rfl (by kernel_rfl) hcl (fun K hK => ?_)
      go_simp
      refine (rgone_any G t d' (dropG gs (l.take q)) u wr.drew (RdT.below hownH.out ((Below.refl _ _).drew)) (by omega) hwfD.out huw (hspec.out (l.take q)).1 htd hddH.out).mono ?_
      rintro e w4 ⟨G4, k4, f4, rfl, hR4, hk4', hf4, hb4⟩
      have hC4 : KQ w2.heap.size wr w4 := kq_call hC (by omega) hb4
      have hW4 : w4.heap[w2.heap.size]? = some (.cells #[.slice none 0 0, .slice G t d'] 25 (0, 0)) := blk_below (heap_drew hoH.out) hb4
      have hE4 : w4.cell? ⟨w2.heap.size, 1, none⟩ = some (.slice G t d') := blk_cell hW4 1
      have hof4 := blk_frozen hW4
      have hl4 := blk_lt hW4
      have hz4 := hb4.size
      have hG4 : Below w2.heap.size w2 w4 := hbr.trans (hC4.1.mono (by omega))
      have hW4H := Lib.hid hW4
      have hR4H := Lib.hid hR4
      have hf4H := Lib.hid hf4
      clear hW4 hR4 hf4 hb4
      refine hK.out _ _ hC4 hE4 ?_
      clear hK K
      clear hcl
      intro hcl
      (try simp only [Act.put, List.getElem_toArray, List.getElem_cons_zero, List.getElem_cons_succ, List.setIfInBounds_toArray, List.set_cons_zero, List.set_cons_succ])
      clear hC hE
      have hC := hC4
      have hE := hE4
      (refine wpM_take (i := 7) (v := ?_) rfl (by kernel_rfl) (by kernel_rfl) (by kernel_rfl) (by decide) (fun _ _ _ h => h) hcl hC (fun _ => hE) (Or.inl ⟨by rfl, ?_⟩) ?_; rotate_left; (· (intro w hSw; (try dsimp only at hSw); go_simp; (try with_reducible rfl))); clear hcl; intro hcl; (try simp only [Act.put, List.getElem_toArray, List.getElem_cons_zero, List.getElem_cons_succ, List.setIfInBounds_toArray, List.set_cons_zero, List.set_cons_succ]))
      refine wpM_last (i := 8) rfl (by kernel_rfl) hcl (by kernel_rfl) (fun K hK => ?_)
      go_simp
      refine hK.out _ _ (kq_set hC4 (Nat.le_refl _) _) ?_
      clear hK K hcl
      intro hcl
      refine wpM_done (by kernel_rfl) ?_
      clear hcl
      try simp only [Act.put, List.getElem_toArray, List.getElem_cons_zero, List.getElem_cons_succ, List.setIfInBounds_toArray, List.set_cons_zero, List.set_cons_succ]
      clear hC hE hE4 o0 o1
      go_wp2
      go_roundg (k + 1 - (q + 1))
      case measure => omega
      case rel =>
        exact ⟨q + 1, k4, G4, f4, by omega, rfl, by go_num, by rw [blk_set hW4H.out]; rfl, by rw [hst.out]; exact (RdT.set_other hR4H.out hW4H.out 1 _).more (by simp), hk4', hf4H.out, hG4.setCell (by dsimp only; omega) _⟩
    · obtain rfl : q = k := by omega
      have hnli : ¬ (q : Int) < (q : Int) := by omega
      have hD : Hid (dropG gs (l.take q) = dropG gs l) := Lib.hid (by rw [List.take_of_length_le (by have := hklH.out; omega)])
      rw [hD.out] at htlen
      have hown := hownH.out
      rw [hD.out] at hown
      clear hownH
      have hr := hrH.out
      have hrr := blk_below hrbH.out hbr
      have hltr := blk_lt hrr
      have hne : w2.heap.size ≠ w.heap.size + 1 := by omega
      by_cases ht4 : 4096 < t
      · have hdt : decide ((4096 : Int) < (t : Int)) = true := decide_eq_true (by omega)
        rw [← htlen.out, if_pos ht4] at hr
        subst hr
        have r0 := blk_cell hrr 0
        have r1 := blk_cell hrr 1
        have hfr := blk_frozen hrr
        simp at r0 r1
        have hGs : Below w.heap.size w ((wr.setCell ⟨w.heap.size + 1, 0, none⟩ (.slice none 0 0)).setCell ⟨w.heap.size + 1, 1, none⟩ (.slice none 0 0)) := (hGw.setCell (by dsimp only; omega) _).setCell (by dsimp only; omega) _
        clear hrr hown hrbH hrH hD
        go_wp2
        exact bodyPost_ret (v := .tuple #[.agg #[.slice none 0 0, .slice none 0 0], .int .i64 4]) (by simp [results, Try.results41, go_sem, r0, r1]) rfl (PostO.nil_ hGs)
      · have hdt : decide ((4096 : Int) < (t : Int)) = false := decide_eq_false (by omega)
        rw [← htlen.out, if_neg ht4] at hr
        have hrH := Lib.hid hr
        have hrrH := Lib.hid hrr
        have hsr := blk_below hsH.out hbr
        have hltx := blk_lt hsr
        have s0 := blk_cell hsr 0
        have s1 := blk_cell hsr 1
        simp at s0 s1
        have hsrH := Lib.hid hsr
        have hownH := Lib.hid hown
        have hxn := Lib.hid (hAr.out w (Below.refl _ _)).len
        have hch := Lib.hid (fun (a : Am) w' (h : Below w.heap.size w w') => hastag_any C q f l a.1 w' ((RdT.below (hCr.out _ (Below.refl _ _)) h).more h.size) (by simp [maxLen]; omega))
        have htk4 : t ≤ 4096 := by omega
        clear hr hrr hsr hown hspec hgH hlwH hD htlen hdt htk
        have hdt : decide ((4096 : Int) < (t : Int)) = false := decide_eq_false (by omega)
        generalize dropG gs l = D at hownH hrH
        have hrbH2 := hrrH
        obtain ⟨wo, hwo⟩ : ∃ wo, wo = wr := ⟨_, rfl⟩
        subst hwo
        go_wp2_with fail
        clear s0 s1 hltx hltr hlto o0 o1
        go_loopg [9] (n + 1) (fun g i wr => ∃ (j p : Nat) (T : Option Addr) (c' : Nat), j ≤ n ∧ g = n + 1 - j ∧ i = .int .i64 (j : Int) ∧ wr.heap[w2.heap.size]? = some (.cells #[.slice T p c', .slice G t d'] 25 (0, 0)) ∧ Ow wr wo.heap.size 81 4 (.slice T p c') (((xs.take j).filter fun a => !l.contains a.1).map Am.enc) ∧ RdT wr wo.heap.size G t D ∧ Below w2.heap.size w2 wr ∧ wo.heap.size ≤ wr.heap.size)
        case atStart => exact ⟨0, 0, none, 0, Nat.zero_le _, rfl, rfl, hoH.out, Ow.nil_ _ _ _ _, hownH.out, hbr, Nat.le_refl _⟩
        case round =>
          have hzr := hbr.size
          have hlor := blk_lt hoH.out
          clear hownH hoH hrrH hsrH hrbH2 hGw hz hbr
          obtain ⟨j, p, T, c', hj, rfl, rfl, ho, hown, hRG, hbq, hzq⟩ := hrel
          have hz := hbq.size
          have hGq := hG2.trans (hbq.mono hz2)
          have hsr := blk_below hsH.out hbq
          have hrr := blk_below hrbH.out hbq
          have hltx := blk_lt hsr
          have s0 := blk_cell hsr 0
          have s1 := blk_cell hsr 1
          simp at s0 s1
          have hlto := blk_lt ho
          have hoH := Lib.hid ho
          have hsrH := Lib.hid hsr
          have hrrH := Lib.hid hrr
          by_cases hlt : j < n
          · obtain ⟨bA, oA, u, rfl, hbA, hqu, hcp⟩ := (hAr.out wr hGq).at_ hlt
            have p0 := hcp 0 _ rfl
            have p1 := hcp 1 _ rfl
            have p2 := hcp 2 _ rfl
            have p3 := hcp 3 _ rfl
            rw [Nat.add_zero] at p0
            clear hcp ho hsr hrr
            have hlti : (j : Int) < (n : Int) := by omega
            have hbA2 : bA < w.heap.size := hbA
            have hbA3 : bA < wr.heap.size := by omega
            have hst := Lib.hid (filter_takeG (p := fun a : Am => !l.contains a.1) hqu)
            have hlt2 : Hid ((((xs.take j).filter fun a => !l.contains a.1).map Am.enc).length = p) := Lib.hid hown.rd.2.1
            have htk : Hid (p ≤ j) := Lib.hid (by
              have h1 := hown.rd.2.1
              rw [List.length_map] at h1
              have h2 := List.length_filter_le (fun a : Am => !l.contains a.1) (xs.take j)
              rw [List.length_take] at h2
              omega)
            have cu := Lib.hid (hch.out u wr hGq)
            clear hqu
            generalize l.contains u.1 = b at cu hst
            go_wp2_with fail
            refine cu.out.mono ?_
            rintro e w3 ⟨rfl, hv3⟩
            have ho2 := blk_below hoH.out hv3
            have hs2 := blk_below hsrH.out hv3
            have hr2 := blk_below hrrH.out hv3
            have hown2 := hown.below hv3
            have hRG2 := RdT.below hRG (hv3.mono hzq)
            have hb2 := hbq.trans (hv3.mono hz)
            have hz2' := hv3.size
            cases b
            case true =>
              have hT : Hid ((((xs.take (j + 1)).filter fun a => !l.contains a.1).map Am.enc) = (((xs.take j).filter fun a => !l.contains a.1).map Am.enc)) := Lib.hid (by rw [hst.out]; simp)
              clear p0 p1 p2 p3 s0 s1
              go_wp2
              go_roundg (n + 1 - (j + 1))
              case measure => omega
              case rel => exact ⟨j + 1, p, T, c', by omega, rfl, by go_num, ho2, by rw [hT.out]; exact hown2, hRG2, hb2, by omega⟩
            case false =>
              have hT : Hid ((((xs.take (j + 1)).filter fun a => !l.contains a.1).map Am.enc) = (((xs.take j).filter fun a => !l.contains a.1).map Am.enc) ++ [[.int .i64 u.1.1.1, .int .u32 u.1.1.2, .int .i64 u.1.2, .string (bs u.2)]]) := Lib.hid (by rw [hst.out]; simp [Am.enc])
              have c0 := (hv3.cell (p := ⟨bA, _, none⟩) hbA3).trans p0
              have c1 := (hv3.cell (p := ⟨bA, _, none⟩) hbA3).trans p1
              have c2 := (hv3.cell (p := ⟨bA, _, none⟩) hbA3).trans p2
              have c3 := (hv3.cell (p := ⟨bA, _, none⟩) hbA3).trans p3
              have hbA4 : bA < w3.heap.size := by omega
              clear s0 s1 hltx p0 p1 p2 p3
              have hltx := blk_lt hs2
              have hlo2 := blk_lt ho2
              have s0 := blk_cell hs2 0
              have s1 := blk_cell hs2 1
              have o0 := blk_cell ho2 0
              have o1 := blk_cell ho2 1
              simp at s0 s1 o0 o1
              have ho2H := Lib.hid ho2
              have hRG2H := Lib.hid hRG2
              clear ho2 hs2 hRG2
              have hlen1 : ∀ y ∈ ([[.int .i64 u.1.1.1, .int .u32 u.1.1.2, .int .i64 u.1.2, .string (bs u.2)]] : List (List Value)), y.length = 4 := by simp
              have hone1 : ∀ y ∈ ([[.int .i64 u.1.1.1, .int .u32 u.1.1.2, .int .i64 u.1.2, .string (bs u.2)]] : List (List Value)), ∀ v ∈ y, v.oneCell' = true := by simp [Value.oneCell']
              have hx1 : w.heap.size < w2.heap.size := by omega
              have hx2 : bA < w2.heap.size := by omega
              go_upto_region 19 with (fail)
              refine wp_region_M (fun w' => KQ w2.heap.size w3 w') (fun w' => w'.cell? ⟨w2.heap.size, 0, none⟩ = some (.slice T p c')) 10 (by kernel_rfl) (kq (Below.refl _ _).drew |>.1.mono (by omega) |> kq) o0 ?_
              intro hcl
              have hC : KQ w2.heap.size w3 w3.drew := kq ((Below.refl _ _).drew)
              have hE : w3.drew.cell? ⟨w2.heap.size, 0, none⟩ = some (.slice T p c') := o0
              (refine wpM_take (i := 0) (v := ?_) rfl (by kernel_rfl) (by kernel_rfl) (by kernel_rfl) (by decide) (fun _ _ _ h => h) hcl hC (fun _ => hE) (Or.inl ⟨by rfl, ?_⟩) ?_; rotate_left; (· (intro w hSw; (try dsimp only at hSw); go_simp; (try with_reducible rfl))); clear hcl; intro hcl; (try simp only [Act.put, List.getElem_toArray, List.getElem_cons_zero, List.getElem_cons_succ, List.setIfInBounds_toArray, List.set_cons_zero, List.set_cons_succ]))
              (refine wpM_take0c (i := 1) (j := 8) (v := ?_) rfl rfl rfl (by kernel_rfl) (by kernel_rfl) (by kernel_rfl) (by kernel_rfl) (by kernel_rfl) (by decide) (fun _ _ _ h => h) hcl hC (fun _ => hE) (Or.inl ⟨by rfl, ?_⟩) ?_; rotate_left; (· (intro w hSw; (try dsimp only at hSw); go_simp; (try with_reducible rfl))); clear hcl; intro hcl; (try simp only [Act.put, List.getElem_toArray, List.getElem_cons_zero, List.getElem_cons_succ, List.setIfInBounds_toArray, List.set_cons_zero, List.set_cons_succ]))
              (refine wpM_take (i := 2) (v := ?_) rfl (by kernel_rfl) (by kernel_rfl) (by kernel_rfl) (by decide) (fun _ _ _ h => h) hcl hC (fun _ => hE) (Or.inl ⟨by rfl, ?_⟩) ?_; rotate_left; (· (intro w hSw; (try dsimp only at hSw); go_simp; (try with_reducible rfl))); clear hcl; intro hcl; (try simp only [Act.put, List.getElem_toArray, List.getElem_cons_zero, List.getElem_cons_succ, List.setIfInBounds_toArray, List.set_cons_zero, List.set_cons_succ]))
              (refine wpM_take (i := 3) (v := ?_) rfl (by kernel_rfl) (by kernel_rfl) (by kernel_rfl) (by decide) (fun _ _ _ h => h) hcl hC (fun _ => hE) (Or.inl ⟨by rfl, ?_⟩) ?_; rotate_left; (· (intro w hSw; (try dsimp only at hSw); go_simp; (try with_reducible rfl))); clear hcl; intro hcl; (try simp only [Act.put, List.getElem_toArray, List.getElem_cons_zero, List.getElem_cons_succ, List.setIfInBounds_toArray, List.set_cons_zero, List.set_cons_succ]))
              (refine wpM_take (i := 4) (v := ?_) rfl (by kernel_rfl) (by kernel_rfl) (by kernel_rfl) (by decide) (fun _ _ _ h => h) hcl hC (fun _ => hE) (Or.inl ⟨by rfl, ?_⟩) ?_; rotate_left; (· (intro w hSw; (try dsimp only at hSw); go_simp; (try with_reducible rfl))); clear hcl; intro hcl; (try simp only [Act.put, List.getElem_toArray, List.getElem_cons_zero, List.getElem_cons_succ, List.setIfInBounds_toArray, List.set_cons_zero, List.set_cons_succ]))
              (refine wpM_take (i := 5) (v := ?_) rfl (by kernel_rfl) (by kernel_rfl) (by kernel_rfl) (by decide) (fun _ _ _ h => h) hcl hC (fun _ => hE) (Or.inl ⟨by rfl, ?_⟩) ?_; rotate_left; (· (intro w hSw; (try dsimp only at hSw); go_simp; (try with_reducible rfl))); clear hcl; intro hcl; (try simp only [Act.put, List.getElem_toArray, List.getElem_cons_zero, List.getElem_cons_succ, List.setIfInBounds_toArray, List.set_cons_zero, List.set_cons_succ]))
              (refine wpM_take (i := 6) (v := ?_) rfl (by kernel_rfl) (by kernel_rfl) (by kernel_rfl) (by decide) (fun _ _ _ h => h) hcl hC (fun _ => hE) (Or.inl ⟨by rfl, ?_⟩) ?_; rotate_left; (· (intro w hSw; (try dsimp only at hSw); go_simp; (try with_reducible rfl))); clear hcl; intro hcl; (try simp only [Act.put, List.getElem_toArray, List.getElem_cons_zero, List.getElem_cons_succ, List.setIfInBounds_toArray, List.set_cons_zero, List.set_cons_succ]))
              refine wpM_only (i := 7) rfl (by kernel_rfl) hcl (fun K hK => ?_)
              go_simp
              have hW5 : (w3.alloc (.cells #[.int .i64 u.1.1.1, .int .u32 u.1.1.2, .int .i64 u.1.2, .string (bs u.2)] 81)).drew.heap[w2.heap.size]? = some (.cells #[.slice T p c', .slice G t d'] 25 (0, 0)) := heap_drew (heap_old _ hlo2 ho2H.out)
              have hC5 : KQ w2.heap.size w3 (w3.alloc (.cells #[.int .i64 u.1.1.1, .int .u32 u.1.1.2, .int .i64 u.1.2, .string (bs u.2)] 81)).drew := kq_drew ((Below.refl _ _).alloc (by omega) _)
              have hE5 : (w3.alloc (.cells #[.int .i64 u.1.1.1, .int .u32 u.1.1.2, .int .i64 u.1.2, .string (bs u.2)] 81)).drew.cell? ⟨w2.heap.size, 0, none⟩ = some (.slice T p c') := blk_cell hW5 0
              refine hK.out _ _ hC5 hE5 ?_
              clear hK K
              clear hcl
              intro hcl
              (try simp only [Act.put, List.getElem_toArray, List.getElem_cons_zero, List.getElem_cons_succ, List.setIfInBounds_toArray, List.set_cons_zero, List.set_cons_succ])
              clear hC hE
              have hbO : Below w3.heap.size w3 (w3.alloc (.cells #[.int .i64 u.1.1.1, .int .u32 u.1.1.2, .int .i64 u.1.2, .string (bs u.2)] 81)).drew := ((Below.refl _ w3).alloc (Nat.le_refl _) _).drew
              refine wpM_only (i := 8) rfl (by kernel_rfl) hcl (fun K hK => ?_)
              refine step_append_rd _ rfl _ _ _ rfl eAddR (base := wo.heap.size) (v := .slice T p c') (xs := (((xs.take j).filter fun a => !l.contains a.1).map Am.enc)) rfl (hown2.below hbO) rfl (Rd.one [.int .i64 u.1.1.1, .int .u32 u.1.1.2, .int .i64 u.1.2, .string (bs u.2)] rfl) hlen1 hone1 (by rw [hlt2.out]; have := htk.out; unfold maxLen; omega) (by rw [hlt2.out]; have := htk.out; omega) (by simp; omega) ?_
              intro A2 n2 c2 w4 hn2 hown4 hg4 hat4
              obtain rfl : n2 = p + 1 := by rw [hn2, hlt2.out]
              clear hn2
              have hbk := hown2.block
              have hW6 : w4.heap[w2.heap.size]? = some (.cells #[.slice T p c', .slice G t d'] 25 (0, 0)) := (hg4.block _ (blk_lt hW5) (fun e => by have := (hbk _ e.symm).1; omega)).trans hW5
              have hRG4 : RdT w4 wo.heap.size G t D := RdT.below hRG2H.out ((hbO.mono (by omega)).grown hg4 (by simp; omega) (fun g e => (hbk g e).1))
              have hC6 : KQ w2.heap.size w3 w4 := kq_grown hC5 (by omega) hg4 (fun g e => by have := (hbk g e).1; omega)
              have hE6 : w4.cell? ⟨w2.heap.size, 0, none⟩ = some (.slice T p c') := blk_cell hW6 0
              have hof6 := blk_frozen hW6
              have hl6 := blk_lt hW6
              have hz4 := hg4.size
              have hz5 : w3.heap.size ≤ w4.heap.size := hC6.1.size
              have hG6 : Below w2.heap.size w2 w4 := hb2.trans (hC6.1.mono (by omega))
              have hW6H := Lib.hid hW6
              have hRG4H := Lib.hid hRG4
              clear hW6 hW5 hRG4
              refine hK.out _ _ hC6 hE6 ?_
              clear hK K
              clear hcl
              intro hcl
              (try simp only [Act.put, List.getElem_toArray, List.getElem_cons_zero, List.getElem_cons_succ, List.setIfInBounds_toArray, List.set_cons_zero, List.set_cons_succ])
              have hC := hC6
              have hE := hE6
              (refine wpM_take (i := 9) (v := ?_) rfl (by kernel_rfl) (by kernel_rfl) (by kernel_rfl) (by decide) (fun _ _ _ h => h) hcl hC (fun _ => hE) (Or.inl ⟨by rfl, ?_⟩) ?_; rotate_left; (· (intro w hSw; (try dsimp only at hSw); go_simp; (try with_reducible rfl))); clear hcl; intro hcl; (try simp only [Act.put, List.getElem_toArray, List.getElem_cons_zero, List.getElem_cons_succ, List.setIfInBounds_toArray, List.set_cons_zero, List.set_cons_succ]))
              refine wpM_last (i := 10) rfl (by kernel_rfl) hcl (by kernel_rfl) (fun K hK => ?_)
              go_simp
              refine hK.out _ _ (kq_set hC6 (Nat.le_refl _) _) ?_
              clear hK K hcl
              intro hcl
              refine wpM_done (by kernel_rfl) ?_
              clear hcl
              try simp only [Act.put, List.getElem_toArray, List.getElem_cons_zero, List.getElem_cons_succ, List.setIfInBounds_toArray, List.set_cons_zero, List.set_cons_succ]
              clear hC hE hE6 hE5 o0 o1 s0 s1
              go_wp2
              go_roundg (n + 1 - (j + 1))
              case measure => omega
              case rel =>
                refine ⟨j + 1, p + 1, A2, c2, by omega, rfl, by go_num, by rw [blk_set hW6H.out]; rfl, ?_, RdT.set_other hRG4H.out hW6H.out 0 _, hG6.setCell (by dsimp only; omega) _, by simp; omega⟩
                rw [hT.out]
                exact hown4.set_blk hW6H.out (by decide) 0 _
          · obtain rfl : j = n := by omega
            have hnli : ¬ (j : Int) < (j : Int) := by omega
            have hlg : xs.length = j := hxn.out
            rw [List.take_of_length_le (by omega)] at hown
            have hp4 : p ≤ j := by
              have h1 := hown.rd.2.1
              rw [List.length_map] at h1
              have h2 := List.length_filter_le (fun a : Am => !l.contains a.1) xs
              omega
            have o0 := blk_cell ho 0
            have o1 := blk_cell ho 1
            simp at o0 o1
            have hltr := blk_lt hrr
            have r0 := blk_cell hrr 0
            have r1 := blk_cell hrr 1
            simp at r0 r1
            have hfr := blk_frozen hrr
            have ha5 := (hown.set_blk hrrH.out (by decide) 0 (.slice T p c')).set_blk (blk_set hrrH.out 0 _) (by decide) 1 (.slice G t d')
            have hb5 := RdT.set_other (RdT.set_other hRG hrrH.out 0 (.slice T p c')) (blk_set hrrH.out 0 (.slice T p c')) 1 (.slice G t d')
            have hGs : Below w.heap.size w ((wr.setCell ⟨w.heap.size + 1, 0, none⟩ (.slice T p c')).setCell ⟨w.heap.size + 1, 1, none⟩ (.slice G t d')) := (hGq.setCell (by dsimp only; omega) _).setCell (by dsimp only; omega) _
            have ha5H := Lib.hid ha5
            have hb5H := Lib.hid hb5
            have htd' : t ≤ d' := htd
            clear hown ha5 hb5 hoH hlg ho hsr hrr hRG
            go_wp2
            have hr := hrH.out
            subst hr
            exact bodyPost_ret (v := .tuple #[.agg #[.slice T p c', .slice G t d'], .int .i64 0]) (by simp [results, Try.results41, go_sem, r0, r1]) rfl ⟨T, p, c', G, t, d', rfl, ha5H.out.rd.1, hb5H.out.more (by simp; omega), by omega, by omega, ha5H.out.rd.2.2.1, ha5H.out.rd.2.2.2, htd', hddH.out, hGs⟩
end Go.Proofs.Ytadldndmmobpdaa
