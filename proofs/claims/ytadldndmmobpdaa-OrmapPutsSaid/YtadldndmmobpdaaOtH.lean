/- The document's gone: names with one more. -/
import Derived.Test.YtadldndmmobpdaaOtF
import Derived.Test.YtadldndmmobpdaaM1
import Derived.Test.YtadldndmmobpdaaOtG
namespace Go.Proofs.Ytadldndmmobpdaa
open Go.RowKit

theorem blk_cells3 {w : World} {g : Nat} {a b c : Value} {t : TypeId} (h : w.heap[g]? = some (.cells #[a, b, c] t (0, 0))) :
    g < w.heap.size ∧ w.cell? ⟨g, 0, none⟩ = some a ∧ w.cell? ⟨g, 1, none⟩ = some b ∧ w.cell? ⟨g, 2, none⟩ = some c := ⟨blk_lt h, blk_cell h 0, blk_cell h 1, blk_cell h 2⟩
def PostT (w : World) (G : List Tm) (e : Ending) (w' : World) : Prop :=
  ∃ C k f, e = .returned (.slice C k f) ∧ RdT w' w'.heap.size C k G ∧ k ≤ f ∧ f ≤ maxLen ∧ Below w.heap.size w w'
set_option maxRecDepth 100000 in
set_option maxHeartbeats 2000000 in
theorem rgone_any (B : Option Addr) (m d : Nat) (L : List Tm) (t : Tm) (w : World) (hB : RdT w w.heap.size B m L) (hm : m ≤ 100000) (hg : ∀ t ∈ L, t.wf) (ht : t.wf) (hasc : ascTP L) (hmd : m ≤ d) (hdm : d ≤ maxLen) :
    Calls Try.prog 92 #[.slice B m d, .agg #[.int .i64 t.1.1, .int .u32 t.1.2, .int .i64 t.2]] w (PostT w (addT L t)) := by
  have hb0 : Below w.heap.size w (w.alloc (.cells #[.int .i64 t.1.1, .int .u32 t.1.2, .int .i64 t.2] 79)) := (Below.refl _ w).alloc (Nat.le_refl _) _
  have hbx : (w.alloc (.cells #[.int .i64 t.1.1, .int .u32 t.1.2, .int .i64 t.2] 79)).heap[w.heap.size]? = some (.cells #[.int .i64 t.1.1, .int .u32 t.1.2, .int .i64 t.2] 79 (0, 0)) := heap_at _ _ rfl
  generalize hW : w.alloc (.cells #[.int .i64 t.1.1, .int .u32 t.1.2, .int .i64 t.2] 79) = W at hb0 hbx
  have hbxH := Lib.hid hbx
  have hltx := blk_lt hbx
  have p0 := blk_cell hbx 0
  have p1 := blk_cell hbx 1
  have p2 := blk_cell hbx 2
  simp at p0 p1 p2
  have hml := hB.len
  have hh := Lib.hid (hastag_any B m d L t W ((hB.below hb0).more hb0.size) (by simp [maxLen]; omega))
  have hBr := Lib.hid (fun w' (h : Below w.heap.size w w') => hB.below h)
  have hgH := Lib.hid hg
  have hcm := Lib.hid (fun (x : Tm) (hx : x.wf) => rcmpt_any x t hx ht)
  generalize hr : addT L t = out
  unfold addT at hr
  cases hc : L.contains t
  case true =>
    rw [hc, if_pos rfl] at hr
    subst hr
    rw [hc] at hh
    clear hbx hB
    go_enter Try.func92, Try.ntmps92
    go_wp2_with fail
    refine hh.out.mono ?_
    rintro e w1 ⟨rfl, hv1⟩
    have hG := hb0.trans (hv1.mono hb0.size)
    go_wp2
    go_ret
    exact ⟨B, m, d, rfl, (hBr.out _ hG).more hG.size, hmd, hdm, hG⟩
  rw [hc, if_neg (by simp)] at hr
  rw [hc] at hh
  have hbf := Lib.hid (fun (i : Nat) (x : Tm) (h : L[i]? = some x) => ascT_before hasc (t := t) h)
  have hPl := posT_le L t
  unfold insT at hr
  generalize posT L t = P at hr hbf hPl
  have hins := Lib.hid hr.symm
  have hlH := Lib.hid hml
  rw [hml] at hPl
  have hdm2 : d ≤ 9223372036854775807 := by simpa [maxLen] using hdm
  clear hbx hB hc hr hasc hg hml hdm
  go_enter Try.func92, Try.ntmps92
  go_wp2_with fail
  refine hh.out.mono ?_
  rintro e w1 ⟨rfl, hv1⟩
  have hG1 := hb0.trans (hv1.mono hb0.size)
  have hbb1 := Lib.hid (blk_below hbxH.out hv1)
  clear p0 p1 p2 hltx hh hv1 hb0 hbxH hW
  clear W
  go_wp2_with fail
  go_loopg [5] (m + 1) (fun g i wr => ∃ q : Nat, q ≤ P ∧ g = m + 1 - q ∧ i = .int .i64 (q : Int) ∧ Below w1.heap.size w1 wr)
  case atStart => exact ⟨0, Nat.zero_le _, rfl, rfl, Below.refl _ _⟩
  case round =>
    obtain ⟨q, hqP, rfl, rfl, hbr⟩ := hrel
    have hz := hbr.size
    have hGr := hG1.trans (hbr.mono hG1.size)
    have hbbr := blk_below hbb1.out hbr
    have hltb := blk_lt hbbr
    have p0 := blk_cell hbbr 0
    have p1 := blk_cell hbbr 1
    have p2 := blk_cell hbbr 2
    simp at p0 p1 p2
    have hbbrH := Lib.hid hbbr
    clear hbbr
    have hq0 : KQ wr.heap.size wr wr := kq (Below.refl _ _)
    by_cases hqm : q < m
    · obtain ⟨bT, oT, y, rfl, hbT, hy, hcy⟩ := (hBr.out wr hGr).at_ hqm
      have y0 := hcy 0 _ rfl
      have y1 := hcy 1 _ rfl
      have y2 := hcy 2 _ rfl
      rw [Nat.add_zero] at y0
      have hbT3 : bT < wr.heap.size := by omega
      have hqmi : (q : Int) < (m : Int) := by omega
      have hqmd : decide ((q : Int) < (m : Int)) = true := decide_eq_true hqmi
      have cu := Lib.hid (hcm.out y (hgH.out y (List.mem_of_getElem? hy)))
      have hbq := Lib.hid (hbf.out q y hy)
      clear hcy hy
      by_cases hqP2 : q < P
      · have hcd : decide (cmpT y t < 0) = true := decide_eq_true (hbq.out.2 hqP2)
        generalize cmpT y t = z at cu hbq hcd
        go_upto_region 4 with (fail)
        go_region_held3 (fun w' => KQ wr.heap.size wr w') (first
      | with_reducible exact kq_call (by assumption) (by simp) (by assumption)
      | with_reducible exact kq_alloc (by with_reducible assumption) (Nat.le_refl _) _
      | with_reducible exact kq_alloc (kq_drew (by assumption)) (Nat.le_refl _) _
      | ((with_reducible refine kq ?_); (repeat (first | (with_reducible exact Below.refl _ _) | (with_reducible refine Below.drew ?_) | (with_reducible refine Below.alloc ?_ (by simp) _) | (with_reducible refine Below.setCell ?_ (by simp) _) | (with_reducible exact (by assumption : KQ _ _ _).1))); done))
          (first
            | (go_at_call 83; ((with_reducible refine (cu.out _).mono ?_); rintro e w2 ⟨rfl, hv2⟩)))
        have hF : KQ wr.heap.size wr w2 := by with_reducible assumption
        have hb2 := hbr.trans (hF.1.mono hz)
        go_wp2
        go_roundg (m + 1 - (q + 1))
        case measure => omega
        case rel => exact ⟨q + 1, by omega, rfl, by go_num, hb2⟩
      · obtain rfl : q = P := by omega
        have hcd : decide (cmpT y t < 0) = false := decide_eq_false (fun e => hqP2 (hbq.out.1 e))
        generalize cmpT y t = z at cu hbq hcd
        go_upto_region 4 with (fail)
        go_region_held3 (fun w' => KQ wr.heap.size wr w') (first
      | with_reducible exact kq_call (by assumption) (by simp) (by assumption)
      | with_reducible exact kq_alloc (by with_reducible assumption) (Nat.le_refl _) _
      | with_reducible exact kq_alloc (kq_drew (by assumption)) (Nat.le_refl _) _
      | ((with_reducible refine kq ?_); (repeat (first | (with_reducible exact Below.refl _ _) | (with_reducible refine Below.drew ?_) | (with_reducible refine Below.alloc ?_ (by simp) _) | (with_reducible refine Below.setCell ?_ (by simp) _) | (with_reducible exact (by assumption : KQ _ _ _).1))); done))
          (first
            | (go_at_call 83; ((with_reducible refine (cu.out _).mono ?_); rintro e w2 ⟨rfl, hv2⟩)))
        have hF : KQ wr.heap.size wr w2 := by with_reducible assumption
        have hb2 := hbr.trans (hF.1.mono hz)
        have hGW := hG1.trans (hb2.mono hG1.size)
        have hbbH := Lib.hid (blk_below hbb1.out hb2)
        have hRd := hBr.out w2 hGW
        have r1 : RdT w2 w2.heap.size (some ⟨bT, oT, none⟩) q (L.take q) := by
          have := (hRd.front (q := q) (by omega)).more hGW.size
          rw [← List.map_take] at this; exact this
        have r3 : RdT w2 w2.heap.size (some ⟨bT, oT + q * 3, none⟩) (m - q) (L.drop q) := by
          have := (hRd.back (q := q) (by omega)).more hGW.size
          rw [← List.map_drop] at this; exact this
        have r1H := Lib.hid r1
        have r3H := Lib.hid r3
        have hl5H : Hid (((L.take q).map Tm.enc).length = q) := Lib.hid (by rw [List.length_map, List.length_take]; have := hlH.out; omega)
        have hcq : (d == q) = false := by rw [beq_eq_false_iff_ne]; omega
        have hcq3 : ¬ q = d := by omega
        have hcq5 : ¬ d = q := by omega
        have hcq4 : (q : Int) ≤ (d : Int) := by omega
        have hqmi2 : (q : Int) ≤ (m : Int) := by omega
        have hmdi : (m : Int) ≤ (d : Int) := by omega
        clear r1 r3 hRd hq0 hb2 hF p0 p1 p2 y0 y1 y2 hltb hbT3 hbT
        have e1H := Lib.hid (r1H.out.below ((Below.refl _ w2).alloc (Nat.le_refl _) (.cells #[] 79)))
        have e2H : Hid (0 + q ≤ maxLen ∧ (0 + q) * 24 ≤ 140737488355328 ∧ w2.heap.size ≤ (w2.alloc (.cells #[] 79)).heap.size) := Lib.hid ⟨by (simp [maxLen]; try omega), by (first | omega | decide | simp), by simp⟩
        go_upto_region 7 with ((at_builtin; refine wpList_append_rd _ rfl (.tmp 26) (.tmp 29) _ rfl eTag (base := w2.heap.size) (v := .slice (some ⟨w2.heap.size, 0, none⟩) 0 0) (xs := []) rfl (Ow.made0 _ _ _ (Nat.le_refl _)) rfl e1H.out Tm.len Tm.one e2H.out.1 e2H.out.2.1 e2H.out.2.2 ?_; intro A5 n5 c5 w5 hn5 ho5 hg5 hat5; (obtain rfl : q = n5 := by rw [hn5]; simp); clear hn5 hat5; rw [List.nil_append] at ho5))
        have hb5 : Below w2.heap.size w2 w5 := ((Below.refl _ w2).alloc (Nat.le_refl _) _).grown hg5 (by simp) (fun g e => by simp [Value.ownBlock] at e; omega)
        have hz5 := hb5.size
        obtain ⟨hlb5, z0, z1, z2⟩ := blk_cells3 (blk_below hbbH.out hb5)
        have e3H := Lib.hid (ho5.below ((Below.refl _ w5).alloc (Nat.le_refl _) (.cells #[.int .i64 t.1.1, .int .u32 t.1.2, .int .i64 t.2] 79)))
        have e4H : Hid (((L.take q).map Tm.enc).length + 1 ≤ maxLen ∧ (((L.take q).map Tm.enc).length + 1) * 24 ≤ 140737488355328 ∧ w2.heap.size ≤ (w5.alloc (.cells #[.int .i64 t.1.1, .int .u32 t.1.2, .int .i64 t.2] 79)).heap.size) := Lib.hid ⟨by (rw [hl5H.out]; simp [maxLen]; try omega), by (rw [hl5H.out]; try omega), by (simp; omega)⟩
        have hlen1 : ∀ y ∈ ([[.int .i64 t.1.1, .int .u32 t.1.2, .int .i64 t.2]] : List (List Value)), y.length = 3 := by simp
        have hone1 : ∀ y ∈ ([[.int .i64 t.1.1, .int .u32 t.1.2, .int .i64 t.2]] : List (List Value)), ∀ v ∈ y, v.oneCell' = true := by simp [Value.oneCell']
        have hbk5 := ho5.block
        clear e1H e2H hg5 ho5
        go_upto_region 8 with ((at_builtin; refine wpList_append_rd _ rfl (.tmp 31) (.tmp 33) _ rfl eTag (base := w2.heap.size) (v := .slice A5 q c5) (xs := (L.take q).map Tm.enc) rfl e3H.out rfl (Rd.one' [.int .i64 t.1.1, .int .u32 t.1.2, .int .i64 t.2] rfl) hlen1 hone1 e4H.out.1 e4H.out.2.1 e4H.out.2.2 ?_; intro A6 n6 c6 w6 hn6 ho6 hg6 hat6; (obtain rfl : n6 = q + 1 := by rw [hn6, hl5H.out]); clear hn6 hat6))
        have hb6 : Below w2.heap.size w2 w6 := (hb5.trans (((Below.refl _ w5).alloc (Nat.le_refl _) _).mono hz5)).grown hg6 (by simp; omega) (fun g e => (hbk5 g e).1)
        have hz6 := hb6.size
        have hl6 : ((L.take q).map Tm.enc ++ [([.int .i64 t.1.1, .int .u32 t.1.2, .int .i64 t.2] : List Value)]).length = q + 1 := by rw [List.length_append, hl5H.out]; rfl
        have e5H : Hid (((L.take q).map Tm.enc ++ [([.int .i64 t.1.1, .int .u32 t.1.2, .int .i64 t.2] : List Value)]).length + (m - q) ≤ maxLen ∧ (((L.take q).map Tm.enc ++ [([.int .i64 t.1.1, .int .u32 t.1.2, .int .i64 t.2] : List Value)]).length + (m - q)) * 24 ≤ 140737488355328) := Lib.hid ⟨by (rw [hl6]; simp [maxLen]; try omega), by (rw [hl6]; try omega)⟩
        have e6H := Lib.hid (r3H.out.below hb6)
        have hbk6 := ho6.block
        have hl6H := Lib.hid hl6
        clear e3H e4H hg6 hl6
        go_wp2_with ((at_builtin; refine wpList_append_rd _ rfl (.tmp 35) (.tmp 38) _ rfl eTag (base := w2.heap.size) (v := .slice A6 (q + 1) c6) (xs := (L.take q).map Tm.enc ++ [([.int .i64 t.1.1, .int .u32 t.1.2, .int .i64 t.2] : List Value)]) rfl ho6 rfl e6H.out Tm.len Tm.one e5H.out.1 e5H.out.2 hz6 ?_; intro A7 n7 c7 w7 hn7 ho7 hg7 hat7; (obtain rfl : n7 = q + 1 + (m - q) := by rw [hn7, hl6H.out]); clear hn7 hat7))
        have hb7 : Below w2.heap.size w2 w7 := hb6.grown hg7 hz6 (fun g e => (hbk6 g e).1)
        have hG7 : Below w.heap.size w w7 := hGW.trans (hb7.mono hGW.size)
        go_ret
        refine ⟨A7, q + 1 + (m - q), c7, rfl, ?_, ho7.rd.2.2.1, ho7.rd.2.2.2, hG7⟩
        have h7 := ho7.rd.1
        have e7 : (L.take q).map Tm.enc ++ [([.int .i64 t.1.1, .int .u32 t.1.2, .int .i64 t.2] : List Value)] ++ (L.drop q).map Tm.enc = out.map Tm.enc := by rw [hins.out]; simp [Tm.enc]
        rw [e7] at h7
        exact h7
    · obtain rfl : q = P := by omega
      obtain rfl : q = m := by omega
      have hqmd : decide ((q : Int) < (q : Int)) = false := decide_eq_false (by omega)
      have hl5H : Hid (((L.take q).map Tm.enc).length = q) := Lib.hid (by rw [List.length_map, List.length_take]; have := hlH.out; omega)
      have hLd : Hid (L.drop q = []) := Lib.hid (List.drop_eq_nil_of_le (by have := hlH.out; omega))
      have r3A : ∀ (A : Option Addr) (wd : World), Hid (RdT wd wd.heap.size A 0 (L.drop q)) := fun A wd => Lib.hid (by rw [hLd.out]; exact ⟨rfl, fun h => absurd h (by decide)⟩)
      have r1A : ∀ wd : World, Below w.heap.size w wd → Hid (RdT wd wd.heap.size B q (L.take q)) := fun wd hb => Lib.hid (by
        rw [List.take_of_length_le (by have := hlH.out; omega)]
        exact (hBr.out wd hb).more hb.size)
      have hcq4 : (q : Int) ≤ (d : Int) := by omega
      go_upto_region 4 with (fail)
      refine wp_region_M (fun _ => True) (fun _ => True) 99 (by kernel_rfl) trivial trivial ?_
      intro hcl
      have hC : True := trivial
      have hE : True := trivial
      (refine wpM_take (i := 0) (v := ?_) rfl (by kernel_rfl) (by kernel_rfl) (by kernel_rfl) (by decide) (fun _ _ _ h => h) hcl hC (fun _ => hE) (Or.inl ⟨by rfl, ?_⟩) ?_; rotate_left; (· (intro w hSw; (try dsimp only at hSw); go_simp; (try with_reducible rfl))); clear hcl; intro hcl; (try simp only [Act.put, List.getElem_toArray, List.getElem_cons_zero, List.getElem_cons_succ, List.setIfInBounds_toArray, List.set_cons_zero, List.set_cons_succ]))
      (refine wpM_take (i := 1) (v := ?_) rfl (by kernel_rfl) (by kernel_rfl) (by kernel_rfl) (by decide) (fun _ _ _ h => h) hcl hC (fun _ => hE) (Or.inl ⟨by rfl, ?_⟩) ?_; rotate_left; (· (intro w hSw; (try dsimp only at hSw); go_simp; (try with_reducible rfl))); clear hcl; intro hcl; (try simp only [Act.put, List.getElem_toArray, List.getElem_cons_zero, List.getElem_cons_succ, List.setIfInBounds_toArray, List.set_cons_zero, List.set_cons_succ]))
      (refine wpM_take (i := 2) (v := ?_) rfl (by kernel_rfl) (by kernel_rfl) (by kernel_rfl) (by decide) (fun _ _ _ h => h) hcl hC (fun _ => hE) (Or.inl ⟨by rfl, ?_⟩) ?_; rotate_left; (· (intro w hSw; (try dsimp only at hSw); go_simp; (try with_reducible rfl))); clear hcl; intro hcl; (try simp only [Act.put, List.getElem_toArray, List.getElem_cons_zero, List.getElem_cons_succ, List.setIfInBounds_toArray, List.set_cons_zero, List.set_cons_succ]))
      (refine wpM_take (i := 3) (v := ?_) rfl (by kernel_rfl) (by kernel_rfl) (by kernel_rfl) (by decide) (fun _ _ _ h => h) hcl hC (fun _ => hE) (Or.inl ⟨by rfl, ?_⟩) ?_; rotate_left; (· (intro w hSw; (try dsimp only at hSw); go_simp; (try with_reducible rfl))); clear hcl; intro hcl; (try simp only [Act.put, List.getElem_toArray, List.getElem_cons_zero, List.getElem_cons_succ, List.setIfInBounds_toArray, List.set_cons_zero, List.set_cons_succ]))
      (refine wpM_take (i := 4) (v := ?_) rfl (by kernel_rfl) (by kernel_rfl) (by kernel_rfl) (by decide) (fun _ _ _ h => h) hcl hC (fun _ => hE) (Or.inl ⟨by rfl, ?_⟩) ?_; rotate_left; (· (intro w hSw; (try dsimp only at hSw); go_simp; (try with_reducible rfl))); clear hcl; intro hcl; (try simp only [Act.put, List.getElem_toArray, List.getElem_cons_zero, List.getElem_cons_succ, List.setIfInBounds_toArray, List.set_cons_zero, List.set_cons_succ]))
      (refine wpM_take (i := 5) (v := undef) rfl (by kernel_rfl) (by kernel_rfl) (by kernel_rfl) (by decide) (fun _ _ _ h => h) hcl hC (fun _ => hE) (Or.inr ⟨by rfl, rfl⟩) ?_; clear hcl; intro hcl; (try simp only [Act.put, List.getElem_toArray, List.getElem_cons_zero, List.getElem_cons_succ, List.setIfInBounds_toArray, List.set_cons_zero, List.set_cons_succ]))
      (refine wpM_take (i := 6) (v := undef) rfl (by kernel_rfl) (by kernel_rfl) (by kernel_rfl) (by decide) (fun _ _ _ h => h) hcl hC (fun _ => hE) (Or.inr ⟨by rfl, rfl⟩) ?_; clear hcl; intro hcl; (try simp only [Act.put, List.getElem_toArray, List.getElem_cons_zero, List.getElem_cons_succ, List.setIfInBounds_toArray, List.set_cons_zero, List.set_cons_succ]))
      (refine wpM_take (i := 7) (v := undef) rfl (by kernel_rfl) (by kernel_rfl) (by kernel_rfl) (by decide) (fun _ _ _ h => h) hcl hC (fun _ => hE) (Or.inr ⟨by rfl, rfl⟩) ?_; clear hcl; intro hcl; (try simp only [Act.put, List.getElem_toArray, List.getElem_cons_zero, List.getElem_cons_succ, List.setIfInBounds_toArray, List.set_cons_zero, List.set_cons_succ]))
      (refine wpM_take (i := 8) (v := undef) rfl (by kernel_rfl) (by kernel_rfl) (by kernel_rfl) (by decide) (fun _ _ _ h => h) hcl hC (fun _ => hE) (Or.inr ⟨by rfl, rfl⟩) ?_; clear hcl; intro hcl; (try simp only [Act.put, List.getElem_toArray, List.getElem_cons_zero, List.getElem_cons_succ, List.setIfInBounds_toArray, List.set_cons_zero, List.set_cons_succ]))
      (refine wpM_take (i := 9) (v := undef) rfl (by kernel_rfl) (by kernel_rfl) (by kernel_rfl) (by decide) (fun _ _ _ h => h) hcl hC (fun _ => hE) (Or.inr ⟨by rfl, rfl⟩) ?_; clear hcl; intro hcl; (try simp only [Act.put, List.getElem_toArray, List.getElem_cons_zero, List.getElem_cons_succ, List.setIfInBounds_toArray, List.set_cons_zero, List.set_cons_succ]))
      (refine wpM_take (i := 10) (v := undef) rfl (by kernel_rfl) (by kernel_rfl) (by kernel_rfl) (by decide) (fun _ _ _ h => h) hcl hC (fun _ => hE) (Or.inr ⟨by rfl, rfl⟩) ?_; clear hcl; intro hcl; (try simp only [Act.put, List.getElem_toArray, List.getElem_cons_zero, List.getElem_cons_succ, List.setIfInBounds_toArray, List.set_cons_zero, List.set_cons_succ]))
      (refine wpM_take (i := 11) (v := undef) rfl (by kernel_rfl) (by kernel_rfl) (by kernel_rfl) (by decide) (fun _ _ _ h => h) hcl hC (fun _ => hE) (Or.inr ⟨by rfl, rfl⟩) ?_; clear hcl; intro hcl; (try simp only [Act.put, List.getElem_toArray, List.getElem_cons_zero, List.getElem_cons_succ, List.setIfInBounds_toArray, List.set_cons_zero, List.set_cons_succ]))
      (refine wpM_take (i := 12) (v := ?_) rfl (by kernel_rfl) (by kernel_rfl) (by kernel_rfl) (by decide) (fun _ _ _ h => h) hcl hC (fun _ => hE) (Or.inl ⟨by rfl, ?_⟩) ?_; rotate_left; (· (intro w hSw; (try dsimp only at hSw); go_simp; (try with_reducible rfl))); clear hcl; intro hcl; (try simp only [Act.put, List.getElem_toArray, List.getElem_cons_zero, List.getElem_cons_succ, List.setIfInBounds_toArray, List.set_cons_zero, List.set_cons_succ]))
      refine wpM_done (by kernel_rfl) ?_
      clear hcl hC hE
      try simp only [Act.put, List.getElem_toArray, List.getElem_cons_zero, List.getElem_cons_succ, List.setIfInBounds_toArray, List.set_cons_zero, List.set_cons_succ]
      have hb2 : Below w1.heap.size w1 wr.drew := hbr.drew
      have hGW := hG1.trans (hb2.mono hG1.size)
      have hbbH := Lib.hid (blk_below hbb1.out hb2)
      have r1H := r1A wr.drew hGW
      clear hq0 p0 p1 p2 hltb r1A hbbrH hqmd hbr hGr hz
      generalize wr.drew = wd at *
      cases B with
      | none =>
        obtain rfl : q = 0 := by
          rcases Nat.eq_zero_or_pos q with h | h
          · exact h
          · obtain ⟨_, _, _, he, _⟩ := (hBr.out w (Below.refl _ _)).at_ h
            cases he
        have r3H := r3A none wd
        clear r3A
        by_cases hd0 : d = 0
        · subst hd0
          have e1H := Lib.hid (r1H.out.below ((Below.refl _ wd).alloc (Nat.le_refl _) (.cells #[] 79)))
          have e2H : Hid (0 + 0 ≤ maxLen ∧ (0 + 0) * 24 ≤ 140737488355328 ∧ wd.heap.size ≤ (wd.alloc (.cells #[] 79)).heap.size) := Lib.hid ⟨by (simp [maxLen]; try omega), by (first | omega | decide | simp), by simp⟩
          go_upto_region 7 with ((at_builtin; refine wpList_append_rd _ rfl (.tmp 26) (.tmp 29) _ rfl eTag (base := wd.heap.size) (v := .slice (some ⟨wd.heap.size, 0, none⟩) 0 0) (xs := []) rfl (Ow.made0 _ _ _ (Nat.le_refl _)) rfl e1H.out Tm.len Tm.one e2H.out.1 e2H.out.2.1 e2H.out.2.2 ?_; intro A5 n5 c5 w5 hn5 ho5 hg5 hat5; (obtain rfl : 0 = n5 := by rw [hn5]; simp); clear hn5 hat5; rw [List.nil_append] at ho5))
          have hb5 : Below wd.heap.size wd w5 := ((Below.refl _ wd).alloc (Nat.le_refl _) _).grown hg5 (by simp) (fun g e => by simp [Value.ownBlock] at e; omega)
          have hz5 := hb5.size
          obtain ⟨hlb5, z0, z1, z2⟩ := blk_cells3 (blk_below hbbH.out hb5)
          have e3H := Lib.hid (ho5.below ((Below.refl _ w5).alloc (Nat.le_refl _) (.cells #[.int .i64 t.1.1, .int .u32 t.1.2, .int .i64 t.2] 79)))
          have e4H : Hid (((L.take 0).map Tm.enc).length + 1 ≤ maxLen ∧ (((L.take 0).map Tm.enc).length + 1) * 24 ≤ 140737488355328 ∧ wd.heap.size ≤ (w5.alloc (.cells #[.int .i64 t.1.1, .int .u32 t.1.2, .int .i64 t.2] 79)).heap.size) := Lib.hid ⟨by (rw [hl5H.out]; simp [maxLen]; try omega), by (rw [hl5H.out]; try omega), by (simp; omega)⟩
          have hlen1 : ∀ y ∈ ([[.int .i64 t.1.1, .int .u32 t.1.2, .int .i64 t.2]] : List (List Value)), y.length = 3 := by simp
          have hone1 : ∀ y ∈ ([[.int .i64 t.1.1, .int .u32 t.1.2, .int .i64 t.2]] : List (List Value)), ∀ v ∈ y, v.oneCell' = true := by simp [Value.oneCell']
          have hbk5 := ho5.block
          clear e1H e2H hg5 ho5
          go_upto_region 8 with ((at_builtin; refine wpList_append_rd _ rfl (.tmp 31) (.tmp 33) _ rfl eTag (base := wd.heap.size) (v := .slice A5 0 c5) (xs := (L.take 0).map Tm.enc) rfl e3H.out rfl (Rd.one' [.int .i64 t.1.1, .int .u32 t.1.2, .int .i64 t.2] rfl) hlen1 hone1 e4H.out.1 e4H.out.2.1 e4H.out.2.2 ?_; intro A6 n6 c6 w6 hn6 ho6 hg6 hat6; (obtain rfl : n6 = 0 + 1 := by rw [hn6, hl5H.out]); clear hn6 hat6))
          have hb6 : Below wd.heap.size wd w6 := (hb5.trans (((Below.refl _ w5).alloc (Nat.le_refl _) _).mono hz5)).grown hg6 (by simp; omega) (fun g e => (hbk5 g e).1)
          have hz6 := hb6.size
          have hl6 : ((L.take 0).map Tm.enc ++ [([.int .i64 t.1.1, .int .u32 t.1.2, .int .i64 t.2] : List Value)]).length = 0 + 1 := by rw [List.length_append, hl5H.out]; rfl
          have e5H : Hid (((L.take 0).map Tm.enc ++ [([.int .i64 t.1.1, .int .u32 t.1.2, .int .i64 t.2] : List Value)]).length + 0 ≤ maxLen ∧ (((L.take 0).map Tm.enc ++ [([.int .i64 t.1.1, .int .u32 t.1.2, .int .i64 t.2] : List Value)]).length + 0) * 24 ≤ 140737488355328) := Lib.hid ⟨by (rw [hl6]; simp [maxLen]; try omega), by (rw [hl6]; try omega)⟩
          have e6H := Lib.hid (r3H.out.below hb6)
          have hbk6 := ho6.block
          have hl6H := Lib.hid hl6
          clear e3H e4H hg6 hl6
          go_wp2_with ((at_builtin; refine wpList_append_rd _ rfl (.tmp 35) (.tmp 38) _ rfl eTag (base := wd.heap.size) (v := .slice A6 (0 + 1) c6) (xs := (L.take 0).map Tm.enc ++ [([.int .i64 t.1.1, .int .u32 t.1.2, .int .i64 t.2] : List Value)]) rfl ho6 rfl e6H.out Tm.len Tm.one e5H.out.1 e5H.out.2 hz6 ?_; intro A7 n7 c7 w7 hn7 ho7 hg7 hat7; (obtain rfl : n7 = 0 + 1 + 0 := by rw [hn7, hl6H.out]); clear hn7 hat7))
          have hb7 : Below wd.heap.size wd w7 := hb6.grown hg7 hz6 (fun g e => (hbk6 g e).1)
          have hG7 : Below w.heap.size w w7 := hGW.trans (hb7.mono hGW.size)
          go_ret
          refine ⟨A7, 0 + 1 + 0, c7, rfl, ?_, ho7.rd.2.2.1, ho7.rd.2.2.2, hG7⟩
          have h7 := ho7.rd.1
          have e7 : (L.take 0).map Tm.enc ++ [([.int .i64 t.1.1, .int .u32 t.1.2, .int .i64 t.2] : List Value)] ++ (L.drop 0).map Tm.enc = out.map Tm.enc := by rw [hins.out]; simp [Tm.enc]
          rw [e7] at h7
          exact h7
        · have hcq : (d == 0) = false := by rw [beq_eq_false_iff_ne]; omega
          have hcq3 : ¬ 0 = d := by omega
          have e1H := Lib.hid (r1H.out.below ((Below.refl _ wd).alloc (Nat.le_refl _) (.cells #[] 79)))
          have e2H : Hid (0 + 0 ≤ maxLen ∧ (0 + 0) * 24 ≤ 140737488355328 ∧ wd.heap.size ≤ (wd.alloc (.cells #[] 79)).heap.size) := Lib.hid ⟨by (simp [maxLen]; try omega), by (first | omega | decide | simp), by simp⟩
          go_upto_region 7 with ((at_builtin; refine wpList_append_rd _ rfl (.tmp 26) (.tmp 29) _ rfl eTag (base := wd.heap.size) (v := .slice (some ⟨wd.heap.size, 0, none⟩) 0 0) (xs := []) rfl (Ow.made0 _ _ _ (Nat.le_refl _)) rfl e1H.out Tm.len Tm.one e2H.out.1 e2H.out.2.1 e2H.out.2.2 ?_; intro A5 n5 c5 w5 hn5 ho5 hg5 hat5; (obtain rfl : 0 = n5 := by rw [hn5]; simp); clear hn5 hat5; rw [List.nil_append] at ho5))
          have hb5 : Below wd.heap.size wd w5 := ((Below.refl _ wd).alloc (Nat.le_refl _) _).grown hg5 (by simp) (fun g e => by simp [Value.ownBlock] at e; omega)
          have hz5 := hb5.size
          obtain ⟨hlb5, z0, z1, z2⟩ := blk_cells3 (blk_below hbbH.out hb5)
          have e3H := Lib.hid (ho5.below ((Below.refl _ w5).alloc (Nat.le_refl _) (.cells #[.int .i64 t.1.1, .int .u32 t.1.2, .int .i64 t.2] 79)))
          have e4H : Hid (((L.take 0).map Tm.enc).length + 1 ≤ maxLen ∧ (((L.take 0).map Tm.enc).length + 1) * 24 ≤ 140737488355328 ∧ wd.heap.size ≤ (w5.alloc (.cells #[.int .i64 t.1.1, .int .u32 t.1.2, .int .i64 t.2] 79)).heap.size) := Lib.hid ⟨by (rw [hl5H.out]; simp [maxLen]; try omega), by (rw [hl5H.out]; try omega), by (simp; omega)⟩
          have hlen1 : ∀ y ∈ ([[.int .i64 t.1.1, .int .u32 t.1.2, .int .i64 t.2]] : List (List Value)), y.length = 3 := by simp
          have hone1 : ∀ y ∈ ([[.int .i64 t.1.1, .int .u32 t.1.2, .int .i64 t.2]] : List (List Value)), ∀ v ∈ y, v.oneCell' = true := by simp [Value.oneCell']
          have hbk5 := ho5.block
          clear e1H e2H hg5 ho5
          go_upto_region 8 with ((at_builtin; refine wpList_append_rd _ rfl (.tmp 31) (.tmp 33) _ rfl eTag (base := wd.heap.size) (v := .slice A5 0 c5) (xs := (L.take 0).map Tm.enc) rfl e3H.out rfl (Rd.one' [.int .i64 t.1.1, .int .u32 t.1.2, .int .i64 t.2] rfl) hlen1 hone1 e4H.out.1 e4H.out.2.1 e4H.out.2.2 ?_; intro A6 n6 c6 w6 hn6 ho6 hg6 hat6; (obtain rfl : n6 = 0 + 1 := by rw [hn6, hl5H.out]); clear hn6 hat6))
          have hb6 : Below wd.heap.size wd w6 := (hb5.trans (((Below.refl _ w5).alloc (Nat.le_refl _) _).mono hz5)).grown hg6 (by simp; omega) (fun g e => (hbk5 g e).1)
          have hz6 := hb6.size
          have hl6 : ((L.take 0).map Tm.enc ++ [([.int .i64 t.1.1, .int .u32 t.1.2, .int .i64 t.2] : List Value)]).length = 0 + 1 := by rw [List.length_append, hl5H.out]; rfl
          have e5H : Hid (((L.take 0).map Tm.enc ++ [([.int .i64 t.1.1, .int .u32 t.1.2, .int .i64 t.2] : List Value)]).length + 0 ≤ maxLen ∧ (((L.take 0).map Tm.enc ++ [([.int .i64 t.1.1, .int .u32 t.1.2, .int .i64 t.2] : List Value)]).length + 0) * 24 ≤ 140737488355328) := Lib.hid ⟨by (rw [hl6]; simp [maxLen]; try omega), by (rw [hl6]; try omega)⟩
          have e6H := Lib.hid (r3H.out.below hb6)
          have hbk6 := ho6.block
          have hl6H := Lib.hid hl6
          clear e3H e4H hg6 hl6
          go_wp2_with ((at_builtin; refine wpList_append_rd _ rfl (.tmp 35) (.tmp 38) _ rfl eTag (base := wd.heap.size) (v := .slice A6 (0 + 1) c6) (xs := (L.take 0).map Tm.enc ++ [([.int .i64 t.1.1, .int .u32 t.1.2, .int .i64 t.2] : List Value)]) rfl ho6 rfl e6H.out Tm.len Tm.one e5H.out.1 e5H.out.2 hz6 ?_; intro A7 n7 c7 w7 hn7 ho7 hg7 hat7; (obtain rfl : n7 = 0 + 1 + 0 := by rw [hn7, hl6H.out]); clear hn7 hat7))
          have hb7 : Below wd.heap.size wd w7 := hb6.grown hg7 hz6 (fun g e => (hbk6 g e).1)
          have hG7 : Below w.heap.size w w7 := hGW.trans (hb7.mono hGW.size)
          go_ret
          refine ⟨A7, 0 + 1 + 0, c7, rfl, ?_, ho7.rd.2.2.1, ho7.rd.2.2.2, hG7⟩
          have h7 := ho7.rd.1
          have e7 : (L.take 0).map Tm.enc ++ [([.int .i64 t.1.1, .int .u32 t.1.2, .int .i64 t.2] : List Value)] ++ (L.drop 0).map Tm.enc = out.map Tm.enc := by rw [hins.out]; simp [Tm.enc]
          rw [e7] at h7
          exact h7
      | some a =>
        by_cases hdq : d = q
        · subst hdq
          have r3H := r3A (some a) wd
          clear r3A
          have e1H := Lib.hid (r1H.out.below ((Below.refl _ wd).alloc (Nat.le_refl _) (.cells #[] 79)))
          have e2H : Hid (0 + d ≤ maxLen ∧ (0 + d) * 24 ≤ 140737488355328 ∧ wd.heap.size ≤ (wd.alloc (.cells #[] 79)).heap.size) := Lib.hid ⟨by (simp [maxLen]; try omega), by (first | omega | decide | simp), by simp⟩
          go_upto_region 7 with ((at_builtin; refine wpList_append_rd _ rfl (.tmp 26) (.tmp 29) _ rfl eTag (base := wd.heap.size) (v := .slice (some ⟨wd.heap.size, 0, none⟩) 0 0) (xs := []) rfl (Ow.made0 _ _ _ (Nat.le_refl _)) rfl e1H.out Tm.len Tm.one e2H.out.1 e2H.out.2.1 e2H.out.2.2 ?_; intro A5 n5 c5 w5 hn5 ho5 hg5 hat5; (obtain rfl : d = n5 := by rw [hn5]; simp); clear hn5 hat5; rw [List.nil_append] at ho5))
          have hb5 : Below wd.heap.size wd w5 := ((Below.refl _ wd).alloc (Nat.le_refl _) _).grown hg5 (by simp) (fun g e => by simp [Value.ownBlock] at e; omega)
          have hz5 := hb5.size
          obtain ⟨hlb5, z0, z1, z2⟩ := blk_cells3 (blk_below hbbH.out hb5)
          have e3H := Lib.hid (ho5.below ((Below.refl _ w5).alloc (Nat.le_refl _) (.cells #[.int .i64 t.1.1, .int .u32 t.1.2, .int .i64 t.2] 79)))
          have e4H : Hid (((L.take d).map Tm.enc).length + 1 ≤ maxLen ∧ (((L.take d).map Tm.enc).length + 1) * 24 ≤ 140737488355328 ∧ wd.heap.size ≤ (w5.alloc (.cells #[.int .i64 t.1.1, .int .u32 t.1.2, .int .i64 t.2] 79)).heap.size) := Lib.hid ⟨by (rw [hl5H.out]; simp [maxLen]; try omega), by (rw [hl5H.out]; try omega), by (simp; omega)⟩
          have hlen1 : ∀ y ∈ ([[.int .i64 t.1.1, .int .u32 t.1.2, .int .i64 t.2]] : List (List Value)), y.length = 3 := by simp
          have hone1 : ∀ y ∈ ([[.int .i64 t.1.1, .int .u32 t.1.2, .int .i64 t.2]] : List (List Value)), ∀ v ∈ y, v.oneCell' = true := by simp [Value.oneCell']
          have hbk5 := ho5.block
          clear e1H e2H hg5 ho5
          go_upto_region 8 with ((at_builtin; refine wpList_append_rd _ rfl (.tmp 31) (.tmp 33) _ rfl eTag (base := wd.heap.size) (v := .slice A5 d c5) (xs := (L.take d).map Tm.enc) rfl e3H.out rfl (Rd.one' [.int .i64 t.1.1, .int .u32 t.1.2, .int .i64 t.2] rfl) hlen1 hone1 e4H.out.1 e4H.out.2.1 e4H.out.2.2 ?_; intro A6 n6 c6 w6 hn6 ho6 hg6 hat6; (obtain rfl : n6 = d + 1 := by rw [hn6, hl5H.out]); clear hn6 hat6))
          have hb6 : Below wd.heap.size wd w6 := (hb5.trans (((Below.refl _ w5).alloc (Nat.le_refl _) _).mono hz5)).grown hg6 (by simp; omega) (fun g e => (hbk5 g e).1)
          have hz6 := hb6.size
          have hl6 : ((L.take d).map Tm.enc ++ [([.int .i64 t.1.1, .int .u32 t.1.2, .int .i64 t.2] : List Value)]).length = d + 1 := by rw [List.length_append, hl5H.out]; rfl
          have e5H : Hid (((L.take d).map Tm.enc ++ [([.int .i64 t.1.1, .int .u32 t.1.2, .int .i64 t.2] : List Value)]).length + 0 ≤ maxLen ∧ (((L.take d).map Tm.enc ++ [([.int .i64 t.1.1, .int .u32 t.1.2, .int .i64 t.2] : List Value)]).length + 0) * 24 ≤ 140737488355328) := Lib.hid ⟨by (rw [hl6]; simp [maxLen]; try omega), by (rw [hl6]; try omega)⟩
          have e6H := Lib.hid (r3H.out.below hb6)
          have hbk6 := ho6.block
          have hl6H := Lib.hid hl6
          clear e3H e4H hg6 hl6
          go_wp2_with ((at_builtin; refine wpList_append_rd _ rfl (.tmp 35) (.tmp 38) _ rfl eTag (base := wd.heap.size) (v := .slice A6 (d + 1) c6) (xs := (L.take d).map Tm.enc ++ [([.int .i64 t.1.1, .int .u32 t.1.2, .int .i64 t.2] : List Value)]) rfl ho6 rfl e6H.out Tm.len Tm.one e5H.out.1 e5H.out.2 hz6 ?_; intro A7 n7 c7 w7 hn7 ho7 hg7 hat7; (obtain rfl : n7 = d + 1 + 0 := by rw [hn7, hl6H.out]); clear hn7 hat7))
          have hb7 : Below wd.heap.size wd w7 := hb6.grown hg7 hz6 (fun g e => (hbk6 g e).1)
          have hG7 : Below w.heap.size w w7 := hGW.trans (hb7.mono hGW.size)
          go_ret
          refine ⟨A7, d + 1 + 0, c7, rfl, ?_, ho7.rd.2.2.1, ho7.rd.2.2.2, hG7⟩
          have h7 := ho7.rd.1
          have e7 : (L.take d).map Tm.enc ++ [([.int .i64 t.1.1, .int .u32 t.1.2, .int .i64 t.2] : List Value)] ++ (L.drop d).map Tm.enc = out.map Tm.enc := by rw [hins.out]; simp [Tm.enc]
          rw [e7] at h7
          exact h7
        · have r3H := r3A (some (a.add (q * 3))) wd
          clear r3A
          have hcq : (d == q) = false := by rw [beq_eq_false_iff_ne]; omega
          have hcq3 : ¬ q = d := by omega
          have hqm0 : q ≤ d := hmd
          have e1H := Lib.hid (r1H.out.below ((Below.refl _ wd).alloc (Nat.le_refl _) (.cells #[] 79)))
          have e2H : Hid (0 + q ≤ maxLen ∧ (0 + q) * 24 ≤ 140737488355328 ∧ wd.heap.size ≤ (wd.alloc (.cells #[] 79)).heap.size) := Lib.hid ⟨by (simp [maxLen]; try omega), by (first | omega | decide | simp), by simp⟩
          go_upto_region 7 with ((at_builtin; refine wpList_append_rd _ rfl (.tmp 26) (.tmp 29) _ rfl eTag (base := wd.heap.size) (v := .slice (some ⟨wd.heap.size, 0, none⟩) 0 0) (xs := []) rfl (Ow.made0 _ _ _ (Nat.le_refl _)) rfl e1H.out Tm.len Tm.one e2H.out.1 e2H.out.2.1 e2H.out.2.2 ?_; intro A5 n5 c5 w5 hn5 ho5 hg5 hat5; (obtain rfl : q = n5 := by rw [hn5]; simp); clear hn5 hat5; rw [List.nil_append] at ho5))
          have hb5 : Below wd.heap.size wd w5 := ((Below.refl _ wd).alloc (Nat.le_refl _) _).grown hg5 (by simp) (fun g e => by simp [Value.ownBlock] at e; omega)
          have hz5 := hb5.size
          obtain ⟨hlb5, z0, z1, z2⟩ := blk_cells3 (blk_below hbbH.out hb5)
          have e3H := Lib.hid (ho5.below ((Below.refl _ w5).alloc (Nat.le_refl _) (.cells #[.int .i64 t.1.1, .int .u32 t.1.2, .int .i64 t.2] 79)))
          have e4H : Hid (((L.take q).map Tm.enc).length + 1 ≤ maxLen ∧ (((L.take q).map Tm.enc).length + 1) * 24 ≤ 140737488355328 ∧ wd.heap.size ≤ (w5.alloc (.cells #[.int .i64 t.1.1, .int .u32 t.1.2, .int .i64 t.2] 79)).heap.size) := Lib.hid ⟨by (rw [hl5H.out]; simp [maxLen]; try omega), by (rw [hl5H.out]; try omega), by (simp; omega)⟩
          have hlen1 : ∀ y ∈ ([[.int .i64 t.1.1, .int .u32 t.1.2, .int .i64 t.2]] : List (List Value)), y.length = 3 := by simp
          have hone1 : ∀ y ∈ ([[.int .i64 t.1.1, .int .u32 t.1.2, .int .i64 t.2]] : List (List Value)), ∀ v ∈ y, v.oneCell' = true := by simp [Value.oneCell']
          have hbk5 := ho5.block
          clear e1H e2H hg5 ho5
          go_upto_region 8 with ((at_builtin; refine wpList_append_rd _ rfl (.tmp 31) (.tmp 33) _ rfl eTag (base := wd.heap.size) (v := .slice A5 q c5) (xs := (L.take q).map Tm.enc) rfl e3H.out rfl (Rd.one' [.int .i64 t.1.1, .int .u32 t.1.2, .int .i64 t.2] rfl) hlen1 hone1 e4H.out.1 e4H.out.2.1 e4H.out.2.2 ?_; intro A6 n6 c6 w6 hn6 ho6 hg6 hat6; (obtain rfl : n6 = q + 1 := by rw [hn6, hl5H.out]); clear hn6 hat6))
          have hb6 : Below wd.heap.size wd w6 := (hb5.trans (((Below.refl _ w5).alloc (Nat.le_refl _) _).mono hz5)).grown hg6 (by simp; omega) (fun g e => (hbk5 g e).1)
          have hz6 := hb6.size
          have hl6 : ((L.take q).map Tm.enc ++ [([.int .i64 t.1.1, .int .u32 t.1.2, .int .i64 t.2] : List Value)]).length = q + 1 := by rw [List.length_append, hl5H.out]; rfl
          have e5H : Hid (((L.take q).map Tm.enc ++ [([.int .i64 t.1.1, .int .u32 t.1.2, .int .i64 t.2] : List Value)]).length + 0 ≤ maxLen ∧ (((L.take q).map Tm.enc ++ [([.int .i64 t.1.1, .int .u32 t.1.2, .int .i64 t.2] : List Value)]).length + 0) * 24 ≤ 140737488355328) := Lib.hid ⟨by (rw [hl6]; simp [maxLen]; try omega), by (rw [hl6]; try omega)⟩
          have e6H := Lib.hid (r3H.out.below hb6)
          have hbk6 := ho6.block
          have hl6H := Lib.hid hl6
          clear e3H e4H hg6 hl6
          go_wp2_with ((at_builtin; refine wpList_append_rd _ rfl (.tmp 35) (.tmp 38) _ rfl eTag (base := wd.heap.size) (v := .slice A6 (q + 1) c6) (xs := (L.take q).map Tm.enc ++ [([.int .i64 t.1.1, .int .u32 t.1.2, .int .i64 t.2] : List Value)]) rfl ho6 rfl e6H.out Tm.len Tm.one e5H.out.1 e5H.out.2 hz6 ?_; intro A7 n7 c7 w7 hn7 ho7 hg7 hat7; (obtain rfl : n7 = q + 1 + 0 := by rw [hn7, hl6H.out]); clear hn7 hat7))
          have hb7 : Below wd.heap.size wd w7 := hb6.grown hg7 hz6 (fun g e => (hbk6 g e).1)
          have hG7 : Below w.heap.size w w7 := hGW.trans (hb7.mono hGW.size)
          go_ret
          refine ⟨A7, q + 1 + 0, c7, rfl, ?_, ho7.rd.2.2.1, ho7.rd.2.2.2, hG7⟩
          have h7 := ho7.rd.1
          have e7 : (L.take q).map Tm.enc ++ [([.int .i64 t.1.1, .int .u32 t.1.2, .int .i64 t.2] : List Value)] ++ (L.drop q).map Tm.enc = out.map Tm.enc := by rw [hins.out]; simp [Tm.enc]
          rw [e7] at h7
          exact h7
end Go.Proofs.Ytadldndmmobpdaa
