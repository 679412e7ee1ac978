/- The document's Drop of maps. -/
import Derived.Test.YtadldndmmobpdaaM14
import Derived.Test.YtadldndmmobpdaaOtI
import Derived.Test.YtadldndmmobpdaaOmR
namespace Go.Proofs.Ytadldndmmobpdaa
open Go.RowKit

theorem dropM_eq {xs : List Pm} {gs l : List Tm} (h : ascTP gs) (hb : badP xs gs = false) : (xs.filter fun a => !(dropG gs l).contains a.1) = xs.filter fun a => !l.contains a.1 := by
  refine List.filter_congr fun a ha => ?_
  congr 1
  have hn : a.1 ∉ gs := by
    unfold badP at hb
    rw [List.any_eq_false] at hb
    have := hb a ha
    simp at this
    exact this.2
  rw [Bool.eq_iff_iff, List.contains_iff_mem, List.contains_iff_mem, (dropG_spec l h).2]
  constructor
  · rintro (h | h)
    · exact h
    · exact absurd h hn
  · exact .inl
theorem oErr_nil {xs : List Pm} {gs : List Tm} (h : mErr xs gs = 0) : oErr [] gs = 0 := by
  obtain ⟨_, hm4, _, hgs, _, hasc, _⟩ := sErr_zero.1 h
  exact sErr_zero.2 ⟨by simp, hm4, by simp, hgs, by simp [ascTP], hasc, rfl⟩
theorem dropM_of {xs : List Pm} {gs l : List Tm} (h : mErr xs gs = 0) : dropM xs gs l = if (dropO [] gs l).2 ≠ 0 then (([], []), (dropO [] gs l).2) else ((xs.filter fun a => !l.contains a.1, (dropO [] gs l).1.2), 0) := by
  obtain ⟨_, _, _, _, _, hasc, hbad⟩ := sErr_zero.1 h
  rw [← dropM_eq hasc hbad]
  unfold dropM dropO
  rw [h, oErr_nil h]
  generalize l.any (fun t => !chkT t) = b
  generalize dropG gs l = D
  by_cases h1 : 4096 < l.length <;> cases b <;> by_cases h3 : 4096 < D.length <;> simp [h1, h3]
set_option maxRecDepth 100000 in
set_option maxHeartbeats 4000000 in
theorem rmdrop_any (A : Option Addr) (n c : Nat) (xs : List Pm) (B : Option Addr) (m d : Nat) (gs : List Tm) (C : Option Addr) (k f : Nat) (l : List Tm) (w : World) (hA : RdP w w.heap.size A n xs) (hB : RdT w w.heap.size B m gs) (hC : RdT w w.heap.size C k l) (hn : n ≤ 100000) (hm : m ≤ 100000) (hk : k ≤ 100000) (hx : ∀ a ∈ xs, a.wf) (hg : ∀ t ∈ gs, t.wf) (hlw : ∀ t ∈ l, t.wf) (hl : ∀ a ∈ xs, a.2.1.length ≤ maxLen) (hmd : m ≤ d) (hdm : d ≤ maxLen) :
    Calls Try.prog 50 #[.agg #[.slice A n c, .slice B m d], .slice C k f] w (PostM w (dropM xs gs l).1 (dropM xs gs l).2) := by
  have hb0 : Below w.heap.size w ((w.alloc (.cells #[.slice A n c, .slice B m d] 52)).alloc (.cells #[.slice none 0 0, .slice none 0 0] 52)) := ((Below.refl _ w).alloc (Nat.le_refl _) _).alloc (by simp) _
  have hbx : ((w.alloc (.cells #[.slice A n c, .slice B m d] 52)).alloc (.cells #[.slice none 0 0, .slice none 0 0] 52)).heap[w.heap.size]? = some (.cells #[.slice A n c, .slice B m d] 52 (0, 0)) := heap_old _ (by simp) (heap_at _ _ rfl)
  have hbr : ((w.alloc (.cells #[.slice A n c, .slice B m d] 52)).alloc (.cells #[.slice none 0 0, .slice none 0 0] 52)).heap[w.heap.size + 1]? = some (.cells #[.slice none 0 0, .slice none 0 0] 52 (0, 0)) := heap_at _ _ (by simp)
  generalize hW : ((w.alloc (.cells #[.slice A n c, .slice B m d] 52)).alloc (.cells #[.slice none 0 0, .slice none 0 0] 52)) = W at hb0 hbx hbr
  have hbxH := Lib.hid hbx
  have hbrH := Lib.hid hbr
  have hltx := blk_lt hbx
  have hltr := blk_lt hbr
  have s0 := blk_cell hbx 0
  have s1 := blk_cell hbx 1
  have r0 := blk_cell hbr 0
  have r1 := blk_cell hbr 1
  simp at s0 s1 r0 r1
  have hfr := blk_frozen hbr
  have hck := Lib.hid (rmcheck_any A n c xs B m d gs W ((hA.below hb0).more hb0.size) ((hB.below hb0).more hb0.size) (by first | omega | (simp [maxLen]; omega)) (by first | omega | (simp [maxLen]; omega)) hx hg hl)
  have cD := Lib.hid (fun w' (h : Below w.heap.size w w') => rodrop_any none 0 0 [] B m d gs C k f l w' ⟨rfl, fun h => absurd h (by decide)⟩ ((hB.below h).more h.size) ((hC.below h).more h.size) (by omega) (by omega) (by omega) (by simp) hg hlw (by simp) hmd hdm)
  generalize hr : dropM xs gs l = out
  generalize hpe : mErr xs gs = p at hck
  by_cases hp : p = 0
  case neg =>
    unfold dropM at hr
    rw [if_pos (by rw [hpe]; exact hp), hpe] at hr
    subst hr
    have hpn : (p != 0) = true := by simpa using hp
    clear hpe hp hbx hbr hA hB hC cD
    go_enter Try.func50, Try.ntmps50
    go_wp2_with fail
    refine hck.out.mono ?_
    rintro e w1 ⟨rfl, hv1⟩
    have hG := hb0.trans (hv1.mono hb0.size)
    have hr1 := blk_below hbrH.out hv1
    have hlr1 := blk_lt hr1
    clear r0 r1 hfr
    have r0 := blk_cell hr1 0
    have r1 := blk_cell hr1 1
    have hfr := blk_frozen hr1
    simp at r0 r1
    have hGs : Below w.heap.size w ((w1.setCell ⟨w.heap.size + 1, 0, none⟩ (.slice none 0 0)).setCell ⟨w.heap.size + 1, 1, none⟩ (.slice none 0 0)) := (hG.setCell (by dsimp only; omega) _).setCell (by dsimp only; omega) _
    go_wp2
    exact bodyPost_ret (v := .tuple #[.agg #[.slice none 0 0, .slice none 0 0], .int .i64 p]) (by simp [results, Try.results50, go_sem, r0, r1]) rfl (PostM.nil_ hGs)
  subst hp
  obtain ⟨hn4, hm4, _, _, _, hasc, hbad⟩ := sErr_zero.1 hpe
  rw [List.length_map, hA.len] at hn4
  rw [hB.len] at hm4
  rw [dropM_of hpe] at hr
  have hAr := Lib.hid (fun w' (h : Below w.heap.size w w') => hA.below h)
  have hCr := Lib.hid (fun w' (h : Below w.heap.size w w') => hC.below h)
  have hklH := Lib.hid hC.len
  have hzW := hb0.size
  generalize (dropO [] gs l).2 = q at hr cD
  generalize (dropO [] gs l).1 = Z at hr cD
  have hrH := Lib.hid hr
  clear hpe hbx hbr hA hB hC hx hg hlw hl hasc hr hbad hdm hmd
  go_enter Try.func50, Try.ntmps50
  go_wp2_with fail
  refine hck.out.mono ?_
  rintro e w0 ⟨rfl, hv1⟩
  have hG1 := hb0.trans (hv1.mono hb0.size)
  have hs1 := blk_below hbxH.out hv1
  have hr1 := blk_below hbrH.out hv1
  clear r0 r1 hfr s0 s1 hltx hltr hck hv1 hbxH hbrH hb0 hzW hW
  clear W
  have hltx := blk_lt hs1
  have s0 := blk_cell hs1 0
  have s1 := blk_cell hs1 1
  simp at s0 s1
  have hs1H := Lib.hid hs1
  have hr1H := Lib.hid hr1
  clear hs1 hr1
  have hz1 := hG1.size
  go_wp2_with fail
  refine (cD.out w0 hG1).mono ?_
  rintro e w1 ⟨A2, n2, c2, G, t, d', rfl, _, hR1, _, htk4, _, _, htd, hdd, hv2⟩
  have hz12 := hv2.size
  have hG1' := hG1.trans (hv2.mono hz1)
  go_upto_region 5 with (fail)
  obtain ⟨w2, hwn⟩ : ∃ w9, w1.alloc (.cells #[.slice A2 n2 c2, .slice G t d'] 25) = w9 := ⟨_, rfl⟩
  have hbt : w2.heap[w1.heap.size]? = some (.cells #[.slice A2 n2 c2, .slice G t d'] 25 (0, 0)) := by rw [← hwn]; exact heap_at _ _ rfl
  have hb23 : Below w1.heap.size w1 w2 := by rw [← hwn]; exact (Below.refl _ w1).alloc (Nat.le_refl _) _
  rw [hwn]
  clear hwn
  have hG2 := hG1'.trans (hb23.mono hG1'.size)
  have hR2 := (RdT.below hR1 hb23).more hb23.size
  have hs2 := blk_below (blk_below hs1H.out hv2) hb23
  have hr2 := blk_below (blk_below hr1H.out hv2) hb23
  have hz2 := hG2.size
  clear s0 s1 hltx hs1H hr1H hR1 hv2 hb23 cD hG1'
  have hltx := blk_lt hs2
  have s0 := blk_cell hs2 0
  have s1 := blk_cell hs2 1
  simp at s0 s1
  have hltt := blk_lt hbt
  have t0 := blk_cell hbt 0
  have t1 := blk_cell hbt 1
  simp at t0 t1
  have hltr := blk_lt hr2
  by_cases hq0 : q = 0
  case neg =>
    have hr := hrH.out
    rw [if_pos hq0] at hr
    subst hr
    have hqn : (q != 0) = true := by simpa using hq0
    have r0 := blk_cell hr2 0
    have r1 := blk_cell hr2 1
    have hfr := blk_frozen hr2
    simp at r0 r1
    have hGs : Below w.heap.size w ((w2.setCell ⟨w.heap.size + 1, 0, none⟩ (.slice none 0 0)).setCell ⟨w.heap.size + 1, 1, none⟩ (.slice none 0 0)) := (hG2.setCell (by dsimp only; omega) _).setCell (by dsimp only; omega) _
    clear hr2 hs2 hbt
    go_wp2
    exact bodyPost_ret (v := .tuple #[.agg #[.slice none 0 0, .slice none 0 0], .int .i64 q]) (by simp [results, Try.results50, go_sem, r0, r1]) rfl (PostM.nil_ hGs)
  subst hq0
  have hr := hrH.out
  rw [if_neg (by simp)] at hr
  replace hrH := Lib.hid hr
  have hsH := Lib.hid hs2
  have hrbH := Lib.hid hr2
  have hddH := Lib.hid hdd
  clear hr hr2 hs2 hbt hdd
  generalize Z.2 = D at hR2 hrH
  go_upto_region 8 with (fail)
  obtain ⟨wo, hwn⟩ : ∃ w9, w2.alloc (.cells #[.slice none 0 0, .slice G t d'] 52) = w9 := ⟨_, rfl⟩
  have ho : wo.heap[w2.heap.size]? = some (.cells #[.slice none 0 0, .slice G t d'] 52 (0, 0)) := by rw [← hwn]; exact heap_at _ _ rfl
  have hbr : Below w2.heap.size w2 wo := by rw [← hwn]; exact (Below.refl _ w2).alloc (Nat.le_refl _) _
  rw [hwn]
  clear hwn
  have hoH := Lib.hid ho
  have hownH := Lib.hid ((RdT.below hR2 hbr).more hbr.size)
  have hz := hbr.size
  have hGw := hG2.trans (hbr.mono hz2)
  have hzr : w2.heap.size < wo.heap.size := blk_lt ho
  have hlt2 : w.heap.size + 1 < w2.heap.size := hltr
  clear t0 t1 hltt hR2 ho
  go_wp2_with fail
  clear s0 s1 hltx hltr
  have hxn := Lib.hid (hAr.out w (Below.refl _ _)).len
  have hch := Lib.hid (fun (a : Pm) w' (h : Below w.heap.size w w') => hastag_any C k f l a.1 w' ((RdT.below (hCr.out _ (Below.refl _ _)) h).more h.size) (by simp [maxLen]; omega))
  go_loopg [9] (n + 1) (fun g i wr => ∃ (j p : Nat) (T : Option Addr) (c' : Nat), j ≤ n ∧ g = n + 1 - j ∧ i = .int .i64 (j : Int) ∧ wr.heap[w2.heap.size]? = some (.cells #[.slice T p c', .slice G t d'] 52 (0, 0)) ∧ Ow wr wo.heap.size 94 7 (.slice T p c') (((xs.take j).filter fun a => !l.contains a.1).map Pm.enc) ∧ RdT wr wo.heap.size G t D ∧ Below w2.heap.size w2 wr ∧ wo.heap.size ≤ wr.heap.size)
  case atStart => exact ⟨0, 0, none, 0, Nat.zero_le _, rfl, rfl, hoH.out, Ow.nil_ _ _ _ _, hownH.out, hbr, Nat.le_refl _⟩
  case round =>
    have hzr := hbr.size
    have hlor := blk_lt hoH.out
    clear hownH hoH hGw hz hbr
    obtain ⟨j, p, T, c', hj, rfl, rfl, ho, hown, hRG, hbq, hzq⟩ := hrel
    have hz := hbq.size
    have hGq := hG2.trans (hbq.mono hz2)
    have hsr := blk_below hsH.out hbq
    have hrr := blk_below hrbH.out hbq
    have hltx := blk_lt hsr
    have s0 := blk_cell hsr 0
    have s1 := blk_cell hsr 1
    simp at s0 s1
    have hlto := blk_lt ho
    have hoH := Lib.hid ho
    have hsrH := Lib.hid hsr
    have hrrH := Lib.hid hrr
    by_cases hlt : j < n
    · obtain ⟨bA, oA, u, rfl, hbA, hqu, hcp⟩ := (hAr.out wr hGq).at_ hlt
      have p0 := hcp 0 _ rfl
      have p1 := hcp 1 _ rfl
      have p2 := hcp 2 _ rfl
      have p3 := hcp 3 _ rfl
      have p4 := hcp 4 _ rfl
      have p5 := hcp 5 _ rfl
      have p6 := hcp 6 _ rfl
      rw [Nat.add_zero] at p0
      clear hcp ho hsr hrr
      have hlti : (j : Int) < (n : Int) := by omega
      have hbA2 : bA < w.heap.size := hbA
      have hbA3 : bA < wr.heap.size := by omega
      have hst := Lib.hid (filter_takeG (p := fun a : Pm => !l.contains a.1) hqu)
      have hlt2 : Hid ((((xs.take j).filter fun a => !l.contains a.1).map Pm.enc).length = p) := Lib.hid hown.rd.2.1
      have htk : Hid (p ≤ j) := Lib.hid (by
        have h1 := hown.rd.2.1
        rw [List.length_map] at h1
        have h2 := List.length_filter_le (fun a : Pm => !l.contains a.1) (xs.take j)
        rw [List.length_take] at h2
        omega)
      have cu := Lib.hid (hch.out u wr hGq)
      clear hqu
      generalize l.contains u.1 = b at cu hst
      go_wp2_with fail
      refine cu.out.mono ?_
      rintro e w3 ⟨rfl, hv3⟩
      have ho2 := blk_below hoH.out hv3
      have hs2 := blk_below hsrH.out hv3
      have hr2 := blk_below hrrH.out hv3
      have hown2 := hown.below hv3
      have hRG2 := RdT.below hRG (hv3.mono hzq)
      have hb2 := hbq.trans (hv3.mono hz)
      have hz2' := hv3.size
      cases b
      case true =>
        have hT : Hid ((((xs.take (j + 1)).filter fun a => !l.contains a.1).map Pm.enc) = (((xs.take j).filter fun a => !l.contains a.1).map Pm.enc)) := Lib.hid (by rw [hst.out]; simp)
        clear p0 p1 p2 p3 p4 p5 p6 s0 s1
        go_wp2
        go_roundg (n + 1 - (j + 1))
        case measure => omega
        case rel => exact ⟨j + 1, p, T, c', by omega, rfl, by go_num, ho2, by rw [hT.out]; exact hown2, hRG2, hb2, by omega⟩
      case false =>
        have hT : Hid ((((xs.take (j + 1)).filter fun a => !l.contains a.1).map Pm.enc) = (((xs.take j).filter fun a => !l.contains a.1).map Pm.enc) ++ [[.int .i64 u.1.1.1, .int .u32 u.1.1.2, .int .i64 u.1.2, .string (bs u.2.1), .int .i64 u.2.2.1, .int .u32 u.2.2.2.1, .int .i64 u.2.2.2.2]]) := Lib.hid (by rw [hst.out]; simp [Pm.enc])
        have c0 := (hv3.cell (p := ⟨bA, _, none⟩) hbA3).trans p0
        have c1 := (hv3.cell (p := ⟨bA, _, none⟩) hbA3).trans p1
        have c2 := (hv3.cell (p := ⟨bA, _, none⟩) hbA3).trans p2
        have c3 := (hv3.cell (p := ⟨bA, _, none⟩) hbA3).trans p3
        have c4 := (hv3.cell (p := ⟨bA, _, none⟩) hbA3).trans p4
        have c5 := (hv3.cell (p := ⟨bA, _, none⟩) hbA3).trans p5
        have c6 := (hv3.cell (p := ⟨bA, _, none⟩) hbA3).trans p6
        have hbA4 : bA < w3.heap.size := by omega
        clear s0 s1 hltx p0 p1 p2 p3 p4 p5 p6
        have hltx := blk_lt hs2
        have hlo2 := blk_lt ho2
        have s0 := blk_cell hs2 0
        have s1 := blk_cell hs2 1
        have o0 := blk_cell ho2 0
        have o1 := blk_cell ho2 1
        simp at s0 s1 o0 o1
        have ho2H := Lib.hid ho2
        have hRG2H := Lib.hid hRG2
        clear ho2 hs2 hRG2
        have hlen1 : ∀ y ∈ ([[.int .i64 u.1.1.1, .int .u32 u.1.1.2, .int .i64 u.1.2, .string (bs u.2.1), .int .i64 u.2.2.1, .int .u32 u.2.2.2.1, .int .i64 u.2.2.2.2]] : List (List Value)), y.length = 7 := by simp
        have hone1 : ∀ y ∈ ([[.int .i64 u.1.1.1, .int .u32 u.1.1.2, .int .i64 u.1.2, .string (bs u.2.1), .int .i64 u.2.2.1, .int .u32 u.2.2.2.1, .int .i64 u.2.2.2.2]] : List (List Value)), ∀ v ∈ y, v.oneCell' = true := by simp [Value.oneCell']
        have hx1 : w.heap.size < w2.heap.size := by omega
        have hx2 : bA < w2.heap.size := by omega
        go_upto_region 12 with (fail)
        refine wp_region_M (fun w' => KQ w2.heap.size w3 w') (fun w' => w'.cell? ⟨w2.heap.size, 0, none⟩ = some (.slice T p c')) 10 (by kernel_rfl) (kq (Below.refl _ _).drew |>.1.mono (by omega) |> kq) o0 ?_
        intro hcl
        have hC : KQ w2.heap.size w3 w3.drew := kq ((Below.refl _ _).drew)
        have hE : w3.drew.cell? ⟨w2.heap.size, 0, none⟩ = some (.slice T p c') := o0
        (refine wpM_take (i := 0) (v := ?_) rfl (by kernel_rfl) (by kernel_rfl) (by kernel_rfl) (by decide) (fun _ _ _ h => h) hcl hC (fun _ => hE) (Or.inl ⟨by rfl, ?_⟩) ?_; rotate_left; (· (intro w hSw; (try dsimp only at hSw); go_simp; (try with_reducible rfl))); clear hcl; intro hcl; (try simp only [Act.put, List.getElem_toArray, List.getElem_cons_zero, List.getElem_cons_succ, List.setIfInBounds_toArray, List.set_cons_zero, List.set_cons_succ]))
        (refine wpM_take0c (i := 1) (j := 8) (v := ?_) rfl rfl rfl (by kernel_rfl) (by kernel_rfl) (by kernel_rfl) (by kernel_rfl) (by kernel_rfl) (by decide) (fun _ _ _ h => h) hcl hC (fun _ => hE) (Or.inl ⟨by rfl, ?_⟩) ?_; rotate_left; (· (intro w hSw; (try dsimp only at hSw); go_simp; (try with_reducible rfl))); clear hcl; intro hcl; (try simp only [Act.put, List.getElem_toArray, List.getElem_cons_zero, List.getElem_cons_succ, List.setIfInBounds_toArray, List.set_cons_zero, List.set_cons_succ]))
        (refine wpM_take (i := 2) (v := ?_) rfl (by kernel_rfl) (by kernel_rfl) (by kernel_rfl) (by decide) (fun _ _ _ h => h) hcl hC (fun _ => hE) (Or.inl ⟨by rfl, ?_⟩) ?_; rotate_left; (· (intro w hSw; (try dsimp only at hSw); go_simp; (try with_reducible rfl))); clear hcl; intro hcl; (try simp only [Act.put, List.getElem_toArray, List.getElem_cons_zero, List.getElem_cons_succ, List.setIfInBounds_toArray, List.set_cons_zero, List.set_cons_succ]))
        (refine wpM_take (i := 3) (v := ?_) rfl (by kernel_rfl) (by kernel_rfl) (by kernel_rfl) (by decide) (fun _ _ _ h => h) hcl hC (fun _ => hE) (Or.inl ⟨by rfl, ?_⟩) ?_; rotate_left; (· (intro w hSw; (try dsimp only at hSw); go_simp; (try with_reducible rfl))); clear hcl; intro hcl; (try simp only [Act.put, List.getElem_toArray, List.getElem_cons_zero, List.getElem_cons_succ, List.setIfInBounds_toArray, List.set_cons_zero, List.set_cons_succ]))
        (refine wpM_take (i := 4) (v := ?_) rfl (by kernel_rfl) (by kernel_rfl) (by kernel_rfl) (by decide) (fun _ _ _ h => h) hcl hC (fun _ => hE) (Or.inl ⟨by rfl, ?_⟩) ?_; rotate_left; (· (intro w hSw; (try dsimp only at hSw); go_simp; (try with_reducible rfl))); clear hcl; intro hcl; (try simp only [Act.put, List.getElem_toArray, List.getElem_cons_zero, List.getElem_cons_succ, List.setIfInBounds_toArray, List.set_cons_zero, List.set_cons_succ]))
        (refine wpM_take (i := 5) (v := ?_) rfl (by kernel_rfl) (by kernel_rfl) (by kernel_rfl) (by decide) (fun _ _ _ h => h) hcl hC (fun _ => hE) (Or.inl ⟨by rfl, ?_⟩) ?_; rotate_left; (· (intro w hSw; (try dsimp only at hSw); go_simp; (try with_reducible rfl))); clear hcl; intro hcl; (try simp only [Act.put, List.getElem_toArray, List.getElem_cons_zero, List.getElem_cons_succ, List.setIfInBounds_toArray, List.set_cons_zero, List.set_cons_succ]))
        (refine wpM_take (i := 6) (v := ?_) rfl (by kernel_rfl) (by kernel_rfl) (by kernel_rfl) (by decide) (fun _ _ _ h => h) hcl hC (fun _ => hE) (Or.inl ⟨by rfl, ?_⟩) ?_; rotate_left; (· (intro w hSw; (try dsimp only at hSw); go_simp; (try with_reducible rfl))); clear hcl; intro hcl; (try simp only [Act.put, List.getElem_toArray, List.getElem_cons_zero, List.getElem_cons_succ, List.setIfInBounds_toArray, List.set_cons_zero, List.set_cons_succ]))
        refine wpM_only (i := 7) rfl (by kernel_rfl) hcl (fun K hK => ?_)
        go_simp
        have hW5 : (w3.alloc (.cells #[.int .i64 u.1.1.1, .int .u32 u.1.1.2, .int .i64 u.1.2, .string (bs u.2.1), .int .i64 u.2.2.1, .int .u32 u.2.2.2.1, .int .i64 u.2.2.2.2] 94)).drew.heap[w2.heap.size]? = some (.cells #[.slice T p c', .slice G t d'] 52 (0, 0)) := heap_drew (heap_old _ hlo2 ho2H.out)
        have hC5 : KQ w2.heap.size w3 (w3.alloc (.cells #[.int .i64 u.1.1.1, .int .u32 u.1.1.2, .int .i64 u.1.2, .string (bs u.2.1), .int .i64 u.2.2.1, .int .u32 u.2.2.2.1, .int .i64 u.2.2.2.2] 94)).drew := kq_drew ((Below.refl _ _).alloc (by omega) _)
        have hE5 : (w3.alloc (.cells #[.int .i64 u.1.1.1, .int .u32 u.1.1.2, .int .i64 u.1.2, .string (bs u.2.1), .int .i64 u.2.2.1, .int .u32 u.2.2.2.1, .int .i64 u.2.2.2.2] 94)).drew.cell? ⟨w2.heap.size, 0, none⟩ = some (.slice T p c') := blk_cell hW5 0
        refine hK.out _ _ hC5 hE5 ?_
        clear hK K
        clear hcl
        intro hcl
        (try simp only [Act.put, List.getElem_toArray, List.getElem_cons_zero, List.getElem_cons_succ, List.setIfInBounds_toArray, List.set_cons_zero, List.set_cons_succ])
        clear hC hE
        have hbO : Below w3.heap.size w3 (w3.alloc (.cells #[.int .i64 u.1.1.1, .int .u32 u.1.1.2, .int .i64 u.1.2, .string (bs u.2.1), .int .i64 u.2.2.1, .int .u32 u.2.2.2.1, .int .i64 u.2.2.2.2] 94)).drew := ((Below.refl _ w3).alloc (Nat.le_refl _) _).drew
        refine wpM_only (i := 8) rfl (by kernel_rfl) hcl (fun K hK => ?_)
        refine step_append_rd _ rfl _ _ _ rfl ePutR (base := wo.heap.size) (v := .slice T p c') (xs := (((xs.take j).filter fun a => !l.contains a.1).map Pm.enc)) rfl (hown2.below hbO) rfl (Rd.one [.int .i64 u.1.1.1, .int .u32 u.1.1.2, .int .i64 u.1.2, .string (bs u.2.1), .int .i64 u.2.2.1, .int .u32 u.2.2.2.1, .int .i64 u.2.2.2.2] rfl) hlen1 hone1 (by rw [hlt2.out]; have := htk.out; unfold maxLen; omega) (by rw [hlt2.out]; have := htk.out; omega) (by simp; omega) ?_
        intro A2 n2 c2 w4 hn2 hown4 hg4 hat4
        obtain rfl : n2 = p + 1 := by rw [hn2, hlt2.out]
        clear hn2
        have hbk := hown2.block
        have hW6 : w4.heap[w2.heap.size]? = some (.cells #[.slice T p c', .slice G t d'] 52 (0, 0)) := (hg4.block _ (blk_lt hW5) (fun e => by have := (hbk _ e.symm).1; omega)).trans hW5
        have hRG4 : RdT w4 wo.heap.size G t D := RdT.below hRG2H.out ((hbO.mono (by omega)).grown hg4 (by simp; omega) (fun g e => (hbk g e).1))
        have hC6 : KQ w2.heap.size w3 w4 := kq_grown hC5 (by omega) hg4 (fun g e => by have := (hbk g e).1; omega)
        have hE6 : w4.cell? ⟨w2.heap.size, 0, none⟩ = some (.slice T p c') := blk_cell hW6 0
        have hof6 := blk_frozen hW6
        have hl6 := blk_lt hW6
        have hz4 := hg4.size
        have hz5 : w3.heap.size ≤ w4.heap.size := hC6.1.size
        have hG6 : Below w2.heap.size w2 w4 := hb2.trans (hC6.1.mono (by omega))
        have hW6H := Lib.hid hW6
        have hRG4H := Lib.hid hRG4
        clear hW6 hW5 hRG4
        refine hK.out _ _ hC6 hE6 ?_
        clear hK K
        clear hcl
        intro hcl
        (try simp only [Act.put, List.getElem_toArray, List.getElem_cons_zero, List.getElem_cons_succ, List.setIfInBounds_toArray, List.set_cons_zero, List.set_cons_succ])
        have hC := hC6
        have hE := hE6
        (refine wpM_take (i := 9) (v := ?_) rfl (by kernel_rfl) (by kernel_rfl) (by kernel_rfl) (by decide) (fun _ _ _ h => h) hcl hC (fun _ => hE) (Or.inl ⟨by rfl, ?_⟩) ?_; rotate_left; (· (intro w hSw; (try dsimp only at hSw); go_simp; (try with_reducible rfl))); clear hcl; intro hcl; (try simp only [Act.put, List.getElem_toArray, List.getElem_cons_zero, List.getElem_cons_succ, List.setIfInBounds_toArray, List.set_cons_zero, List.set_cons_succ]))
        refine wpM_last (i := 10) rfl (by kernel_rfl) hcl (by kernel_rfl) (fun K hK => ?_)
        go_simp
        refine hK.out _ _ (kq_set hC6 (Nat.le_refl _) _) ?_
        clear hK K hcl
        intro hcl
        refine wpM_done (by kernel_rfl) ?_
        clear hcl
        try simp only [Act.put, List.getElem_toArray, List.getElem_cons_zero, List.getElem_cons_succ, List.setIfInBounds_toArray, List.set_cons_zero, List.set_cons_succ]
        clear hC hE hE6 hE5 o0 o1 s0 s1
        go_wp2
        go_roundg (n + 1 - (j + 1))
        case measure => omega
        case rel =>
          refine ⟨j + 1, p + 1, A2, c2, by omega, rfl, by go_num, by rw [blk_set hW6H.out]; rfl, ?_, RdT.set_other hRG4H.out hW6H.out 0 _, hG6.setCell (by dsimp only; omega) _, by simp; omega⟩
          rw [hT.out]
          exact hown4.set_blk hW6H.out (by decide) 0 _
    · obtain rfl : j = n := by omega
      have hnli : ¬ (j : Int) < (j : Int) := by omega
      have hlg : xs.length = j := hxn.out
      rw [List.take_of_length_le (by omega)] at hown
      have hp4 : p ≤ j := by
        have h1 := hown.rd.2.1
        rw [List.length_map] at h1
        have h2 := List.length_filter_le (fun a : Pm => !l.contains a.1) xs
        omega
      have o0 := blk_cell ho 0
      have o1 := blk_cell ho 1
      simp at o0 o1
      have hltr := blk_lt hrr
      have r0 := blk_cell hrr 0
      have r1 := blk_cell hrr 1
      simp at r0 r1
      have hfr := blk_frozen hrr
      have ha5 := (hown.set_blk hrrH.out (by decide) 0 (.slice T p c')).set_blk (blk_set hrrH.out 0 _) (by decide) 1 (.slice G t d')
      have hb5 := RdT.set_other (RdT.set_other hRG hrrH.out 0 (.slice T p c')) (blk_set hrrH.out 0 (.slice T p c')) 1 (.slice G t d')
      have hGs : Below w.heap.size w ((wr.setCell ⟨w.heap.size + 1, 0, none⟩ (.slice T p c')).setCell ⟨w.heap.size + 1, 1, none⟩ (.slice G t d')) := (hGq.setCell (by dsimp only; omega) _).setCell (by dsimp only; omega) _
      have ha5H := Lib.hid ha5
      have hb5H := Lib.hid hb5
      have htd' : t ≤ d' := htd
      clear hown ha5 hb5 hoH hlg ho hsr hrr hRG
      go_wp2
      have hr := hrH.out
      subst hr
      exact bodyPost_ret (v := .tuple #[.agg #[.slice T p c', .slice G t d'], .int .i64 0]) (by simp [results, Try.results50, go_sem, r0, r1]) rfl ⟨T, p, c', G, t, d', rfl, ha5H.out.rd.1, hb5H.out.more (by simp; omega), by omega, by omega, ha5H.out.rd.2.2.1, ha5H.out.rd.2.2.2, htd', hddH.out, hGs⟩
end Go.Proofs.Ytadldndmmobpdaa
