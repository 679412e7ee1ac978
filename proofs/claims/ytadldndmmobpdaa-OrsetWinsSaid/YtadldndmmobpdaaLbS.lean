/- slices.SortFunc at tags. -/
import Derived.Test.YtadldndmmobpdaaSrB
import Derived.Test.YtadldndmmobpdaaM2
import Derived.Test.YtadldndmmobpdaaLbT
import Derived.Test.YtadldndmmobpdaaM1
import Derived.Test.YtadldndmmobpdaaTa
namespace Go.Proofs.Ytadldndmmobpdaa
open Go.RowKit

/-- Below, and no draw is given back. -/
abbrev GB (w w' : World) : Prop := Below w.heap.size w w' ∧ w.drawn ≤ w'.drawn
theorem gb_of {w w' : World} (h : ∃ q os, w' = Sort.grow (w.drewN q) os) : GB w w' := by
  obtain ⟨q, os, rfl⟩ := h
  exact ⟨⟨rfl, rfl, rfl, by simp [Sort.grow], fun k hk => by simp [Sort.grow, Array.getElem?_append, hk]⟩, by simp [Sort.grow, World.drewN]⟩
theorem gb_grow {w w' : World} (h : GB w w') : ∃ q os, w' = Sort.grow (w.drewN q) os := by
  refine ⟨w'.drawn - w.drawn, w'.heap.extract w.heap.size w'.heap.size, ?_⟩
  have hd : w.drawn + (w'.drawn - w.drawn) = w'.drawn := by have := h.2; omega
  have hh : w.heap ++ w'.heap.extract w.heap.size w'.heap.size = w'.heap := by
    apply Array.ext_getElem?
    intro i
    by_cases hi : i < w.heap.size
    · rw [Array.getElem?_append, if_pos hi, h.1.block i hi]
    · rw [Array.getElem?_append, if_neg hi, Array.getElem?_extract]
      have := h.1.size
      by_cases h2 : i < w'.heap.size
      · rw [if_pos (by omega)]
        congr 1
        omega
      · rw [if_neg (by omega)]
        exact (Array.getElem?_eq_none (by omega)).symm
  cases w'
  cases w
  have h1 := h.1.os
  have h2 := h.1.tape
  have h3 := h.1.output
  simp only [Sort.grow, World.drewN] at *
  subst h1 h2 h3
  rw [hh, hd]
abbrev KD (W w : World) : Prop := KQ W.heap.size W w ∧ W.drawn ≤ w.drawn
theorem kd_call {W w w1 : World} (h : KD W w) (hb : GB w w1) : KD W w1 := ⟨kq_call h.1 (Nat.le_refl _) hb.1, Nat.le_trans h.2 hb.2⟩
theorem kd_alloc {W w : World} (h : KD W w) (x : Obj) : KD W (w.alloc x) := ⟨kq_alloc h.1 (Nat.le_refl _) x, h.2⟩
theorem kd_drew {W w : World} (h : KD W w) : KD W w.drew := ⟨kq_drew h.1.1, Nat.le_succ_of_le h.2⟩
theorem kd_refl (W : World) : KD W W := ⟨kq (Below.refl _ _), Nat.le_refl _⟩
set_option maxRecDepth 100000 in
theorem cmp_laysT (x y : Tm) (w : World) :
    Calls Try.prog 87 #[.agg #[.int .i64 x.1.1, .int .u32 x.1.2, .int .i64 x.2], .agg #[.int .i64 y.1.1, .int .u32 y.1.2, .int .i64 y.2]] w fun e w' => e = .returned (.int .i64 (cmpT x y)) ∧ ∃ q os, w' = Sort.grow (w.drewN q) os := by
  generalize hr : cmpT x y = r
  unfold cmpT at hr
  have hc1 : ∀ w, Calls Try.prog 128 #[.agg #[.int .i64 x.1.1, .int .u32 x.1.2], .agg #[.int .i64 y.1.1, .int .u32 y.1.2]] w (fun e w' => e = .returned (.int .i64 (cmpI x.1 y.1)) ∧ GB w w') := fun w => (cmp_lays x.1 y.1 w).mono (fun _ _ h => ⟨h.1, gb_of h.2⟩)
  have hc2 := ccmp_any x.2 y.2
  have ho := or_any
  generalize cmpI x.1 y.1 = p at *
  generalize ordI x.2 y.2 = q at *
  have hc1 := Lib.hid hc1
  have hc2 := Lib.hid hc2
  have ho := Lib.hid (fun g w h0 h1 h2 => hr ▸ ho g p q w h0 h1 h2)
  clear hr
  have hB0 : GB w ((w.alloc (.cells #[.int .i64 x.1.1, .int .u32 x.1.2, .int .i64 x.2] 79)).alloc (.cells #[.int .i64 y.1.1, .int .u32 y.1.2, .int .i64 y.2] 79)) := ⟨((Below.refl _ w).alloc (Nat.le_refl _) _).alloc (by simp) _, Nat.le_refl _⟩
  have hbx : ((w.alloc (.cells #[.int .i64 x.1.1, .int .u32 x.1.2, .int .i64 x.2] 79)).alloc (.cells #[.int .i64 y.1.1, .int .u32 y.1.2, .int .i64 y.2] 79)).heap[w.heap.size]? = some (.cells #[.int .i64 x.1.1, .int .u32 x.1.2, .int .i64 x.2] 79 (0, 0)) := heap_old _ (by simp) (heap_at _ _ rfl)
  have hby : ((w.alloc (.cells #[.int .i64 x.1.1, .int .u32 x.1.2, .int .i64 x.2] 79)).alloc (.cells #[.int .i64 y.1.1, .int .u32 y.1.2, .int .i64 y.2] 79)).heap[w.heap.size + 1]? = some (.cells #[.int .i64 y.1.1, .int .u32 y.1.2, .int .i64 y.2] 79 (0, 0)) := heap_at _ _ (by simp)
  generalize hW : ((w.alloc (.cells #[.int .i64 x.1.1, .int .u32 x.1.2, .int .i64 x.2] 79)).alloc (.cells #[.int .i64 y.1.1, .int .u32 y.1.2, .int .i64 y.2] 79)) = W at hB0 hbx hby
  have hltx := blk_lt hbx
  have hlty := blk_lt hby
  have p0 := blk_cell hbx 0
  have p1 := blk_cell hbx 1
  have p2 := blk_cell hbx 2
  have q0 := blk_cell hby 0
  have q1 := blk_cell hby 1
  have q2 := blk_cell hby 2
  simp at p0 p1 p2 q0 q1 q2
  clear hbx hby
  go_enter Try.func87, Try.ntmps87
  go_wp2
  have hq0 : KD W W := kd_refl W
  go_region_held3 (fun w' => KD W w') (first
      | with_reducible assumption
      | with_reducible exact kd_call (by assumption) (by assumption)
      | with_reducible exact kd_alloc (by with_reducible assumption) _
      | with_reducible exact kd_alloc (kd_drew (by assumption)) _
      | with_reducible exact kd_drew (kd_refl _)
      | with_reducible exact kd_drew (by assumption))
    (first
      | (go_at_call 128; refine (hc1.out _).mono ?_; rintro e w1 ⟨rfl, hb1⟩)
      | (go_at_call 129; refine (hc2.out _).mono ?_; rintro e w2 ⟨rfl, rfl⟩)
      | (go_at_call 117; refine (ho.out _ _ (by simp) (blk_cell (heap_at _ _ (by simp)) 0) (blk_cell (heap_at _ _ (by simp)) 1)).mono ?_; rintro e w3 ⟨rfl, rfl⟩))
  go_wp2
  go_ret
  have hF := (by with_reducible assumption : KD W _)
  exact ⟨rfl, gb_grow ⟨hB0.1.trans (hF.1.1.mono hB0.1.size), Nat.le_trans hB0.2 hF.2⟩⟩
theorem ltOf_cmpT (x y : Tm) : ltOf cmpT x y = decide (cmpT x y < 0) := rfl
theorem swo_cmpT : Sort.SWO (ltOf cmpT) where
  irrefl x := by rw [ltOf_cmpT, decide_eq_false_iff_not]; exact ltT_irrefl x
  trans x y z h1 h2 := by
    rw [ltOf_cmpT, decide_eq_true_eq] at *
    exact ltT_trans h1 h2
  ntrans x y z h1 h2 := by
    rw [ltOf_cmpT, decide_eq_false_iff_not] at *
    intro h
    rcases Classical.em (x = y) with rfl | hne
    · exact h2 h
    · have h3 := ltT_total hne h1
      exact h2 (ltT_trans h3 h)
theorem cmp_handsT (g n : Nat) (w : World) : CmpLays Try.prog 87 #[] Tm.enc 3 cmpT g 0 n w := by
  intro m os dk _ x y
  exact cmp_laysT x y _

set_option maxRecDepth 100000 in
theorem sortfT_any (base : Nat) (A : Option Addr) (n c : Nat) (xs : List Tm) (w : World) (hown : Ow w base 79 3 (.slice A n c) (xs.map Tm.enc)) (hn : n ≤ 100000) :
    Calls Try.prog 86 #[.slice A n c, .func (.func 87) #[] #[]] w
      fun e w' => e = .returned (.tuple #[]) ∧ ∃ ys : List Tm, ys.Pairwise (fun x y => ¬ ltT y x) ∧ (∀ z, z ∈ ys ↔ z ∈ xs) ∧ Ow w' base 79 3 (.slice A n c) (ys.map Tm.enc) ∧ w.grownBy w' (Value.slice A n c).ownBlock := by
  have hl : xs.length = n := by simpa using hown.rd.2.1
  rcases Nat.eq_zero_or_pos n with h0 | hpos
  · subst h0
    obtain rfl := List.eq_nil_of_length_eq_zero hl
    have h := AnyF.slices_SortFunc_none sortTg A c (.func (.func 87) #[] #[]) w
    refine Calls.mono h ?_
    rintro e w' ⟨rfl, hw⟩
    subst hw
    exact ⟨rfl, [], .nil, fun _ => Iff.rfl, hown, World.grownBy.refl _ _⟩
  · obtain ⟨g, rfl, hgb, hgl, _, _⟩ := hown.addr hpos
    have hsz : xs.toArray.size = n := by simpa using hl
    have h := AnyQ.slices_SortFunc sortTg 3 Try.isAgg79 Try.sizeOf79 Tm.enc (fun _ => rfl) (fun x v hv => by simp [Tm.enc] at hv; rcases hv with rfl | rfl | rfl <;> rfl) cmpT swo_cmpT 87 #[] g 0 c xs.toArray w
      (enters_of Try.func87 (by kernel_rfl) rfl) (cmp_handsT g _ w) (holdsK_of (k := 3) (fun _ => rfl) (by decide) hown hpos) hgl (by omega)
    rw [hsz] at h
    refine Calls.mono h ?_
    rintro e w' ⟨rfl, d', m, os, hp, hs, rfl⟩
    obtain ⟨hp1, _, hp3⟩ := hp
    have hd : d'.size = n := hp1.trans hsz
    have hperm : d'.toList.Perm xs := by
      rw [← hd, Array.extract_size] at hp3
      have e2 : xs.toArray.extract 0 d'.size = xs.toArray := by rw [hd, ← hsz, Array.extract_size]
      rw [e2] at hp3
      simpa using hp3
    have hso := sorted_ow (m := m) (enc := Tm.enc) (ys := d'.toList) (fun _ => rfl) (by decide) hown hpos (by simpa using hd) os
    rw [Array.toArray_toList] at hso
    refine ⟨rfl, d'.toList, ?_, fun z => hperm.mem_iff, hso.1, hso.2⟩
    rw [List.pairwise_iff_getElem]
    intro i j hi hj hij
    have hi' : i < d'.size := by simpa using hi
    have hj' : j < d'.size := by simpa using hj
    have := hs i j (Nat.zero_le _) hij (by omega)
    rw [getElem!_pos d' i hi', getElem!_pos d' j hj', ltOf_cmpT, decide_eq_false_iff_not] at this
    simpa [ltT] using this

end Go.Proofs.Ytadldndmmobpdaa
