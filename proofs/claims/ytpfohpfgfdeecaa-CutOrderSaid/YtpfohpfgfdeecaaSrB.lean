/- slices.SortFunc and SortedFunc at names. -/
import Derived.Test.YtpfohpfgfdeecaaSrA
import Derived.Test.YtpfohpfgfdeecaaSrL
import Derived.Test.YtpfohpfgfdeecaaDmC
namespace Go.Proofs.Ytpfohpfgfdeecaa
open Go.RowKit

set_option maxRecDepth 100000 in
theorem cmp_lays (x y : Im) (w : World) :
    Calls Try.prog 31 #[.agg #[.int .i64 x.1, .int .u32 x.2], .agg #[.int .i64 y.1, .int .u32 y.2]] w fun e w' => e = .returned (.int .i64 (cmpI x y)) ∧ ∃ q os, w' = Sort.grow (w.drewN q) os := by
  generalize hr : cmpI x y = r
  rw [cmpI_ord] at hr
  have hc1 := ccmp_any x.1 y.1
  have hc2 := ccmpu_any x.2 y.2
  have ho := or_any
  generalize ordI x.1 y.1 = p at *
  generalize ordI x.2 y.2 = q at *
  have hc1 := Lib.hid hc1
  have hc2 := Lib.hid hc2
  have ho := Lib.hid (fun g w h0 h1 h2 => hr ▸ ho g p q w h0 h1 h2)
  clear hr
  go_enter Try.func31, Try.ntmps31
  go_wp2
  go_region_held3 (fun w' => KQ (w.heap.size + 2) ((w.alloc (.cells #[.int .i64 x.1, .int .u32 x.2] 37)).alloc (.cells #[.int .i64 y.1, .int .u32 y.2] 37)) w') (first
      | with_reducible exact kq_call (by assumption) (by simp) (by assumption)
      | with_reducible exact kq_grown (by assumption) (by simp) (by assumption) (by simp [Value.ownBlock])
      | ((with_reducible refine kq ?_); (repeat (first | (with_reducible exact Below.refl _ _) | (with_reducible refine Below.drew ?_) | (with_reducible refine Below.alloc ?_ (by simp) _) | (with_reducible refine Below.setCell ?_ (by simp) _) | (with_reducible exact (by assumption : KQ _ _ _).1))); done))
    (first
      | (go_at_call 43; refine (hc1.out _).mono ?_; rintro e w1 ⟨rfl, rfl⟩)
      | (go_at_call 44; refine (hc2.out _).mono ?_; rintro e w1 ⟨rfl, rfl⟩)
      | (go_at_call 42; refine (ho.out _ _ (by simp) (blk_cell (heap_drew (heap_at _ _ (by simp))) 0) (blk_cell (heap_drew (heap_at _ _ (by simp))) 1)).mono ?_; rintro e w1 ⟨rfl, rfl⟩))
  go_wp2
  go_ret
  refine ⟨rfl, 1, #[.cells #[.int .i64 x.1, .int .u32 x.2] 37, .cells #[.int .i64 y.1, .int .u32 y.2] 37, .cells #[.int .i64 p, .int .i64 q] 3], ?_⟩
  rw [Sort.alloc_eq_grow, Sort.alloc_eq_grow, Sort.alloc_eq_grow, Sort.grow_grow, Sort.grow_grow, Sort.drew_grow]
  rfl
theorem ltOf_cmp (x y : Im) : ltOf cmpI x y = decide (cmpI x y < 0) := rfl
theorem swo_cmp : Sort.SWO (ltOf cmpI) where
  irrefl x := by rw [ltOf_cmp, decide_eq_false_iff_not]; exact ltI_irrefl x
  trans x y z h1 h2 := by
    rw [ltOf_cmp, decide_eq_true_eq] at *
    exact ltI_trans h1 h2
  ntrans x y z h1 h2 := by
    rw [ltOf_cmp, decide_eq_false_iff_not] at *
    intro h
    rcases Classical.em (x = y) with rfl | hne
    · exact h2 h
    · have h3 := ltI_total hne h1
      exact h2 (ltI_trans h3 h)
theorem cmp_hands (g n : Nat) (w : World) : CmpLays Try.prog 31 #[] Im.enc 2 cmpI g 0 n w := by
  intro m os dk _ x y
  exact cmp_lays x y _

set_option maxRecDepth 100000 in
theorem sortf_any (base : Nat) (A : Option Addr) (n c : Nat) (xs : List Im) (w : World) (hown : Ow w base 37 2 (.slice A n c) (xs.map Im.enc)) (hn : n ≤ 1100) :
    Calls Try.prog 40 #[.slice A n c, .func (.func 31) #[] #[]] w
      fun e w' => e = .returned (.tuple #[]) ∧ ∃ ys : List Im, ys.Pairwise (fun x y => ¬ ltI y x) ∧ (∀ z, z ∈ ys ↔ z ∈ xs) ∧ Ow w' base 37 2 (.slice A n c) (ys.map Im.enc) ∧ w.grownBy w' (Value.slice A n c).ownBlock := by
  have hl : xs.length = n := by simpa using hown.rd.2.1
  rcases Nat.eq_zero_or_pos n with h0 | hpos
  · subst h0
    obtain rfl := List.eq_nil_of_length_eq_zero hl
    have h := AnyF.slices_SortFunc_none sortId A c (.func (.func 31) #[] #[]) w
    refine Calls.mono h ?_
    rintro e w' ⟨rfl, hw⟩
    subst hw
    exact ⟨rfl, [], .nil, fun _ => Iff.rfl, hown, World.grownBy.refl _ _⟩
  · obtain ⟨g, rfl, hgb, hgl, _, _⟩ := hown.addr hpos
    have hsz : xs.toArray.size = n := by simpa using hl
    have h := AnyQ.slices_SortFunc sortId 2 Try.isAgg37 Try.sizeOf37 Im.enc (fun _ => rfl) (fun x v hv => by simp [Im.enc] at hv; rcases hv with rfl | rfl <;> rfl) cmpI swo_cmp 31 #[] g 0 c xs.toArray w
      (enters_of Try.func31 (by kernel_rfl) rfl) (cmp_hands g _ w) (holdsK_of (k := 2) (fun _ => rfl) (by decide) hown hpos) hgl (by omega)
    rw [hsz] at h
    refine Calls.mono h ?_
    rintro e w' ⟨rfl, d', m, os, hp, hs, rfl⟩
    obtain ⟨hp1, _, hp3⟩ := hp
    have hd : d'.size = n := hp1.trans hsz
    have hperm : d'.toList.Perm xs := by
      rw [← hd, Array.extract_size] at hp3
      have e2 : xs.toArray.extract 0 d'.size = xs.toArray := by rw [hd, ← hsz, Array.extract_size]
      rw [e2] at hp3
      simpa using hp3
    have hso := sorted_ow (m := m) (enc := Im.enc) (ys := d'.toList) (fun _ => rfl) (by decide) hown hpos (by simpa using hd) os
    rw [Array.toArray_toList] at hso
    refine ⟨rfl, d'.toList, ?_, fun z => hperm.mem_iff, hso.1, hso.2⟩
    rw [List.pairwise_iff_getElem]
    intro i j hi hj hij
    have hi' : i < d'.size := by simpa using hi
    have hj' : j < d'.size := by simpa using hj
    have := hs i j (Nat.zero_le _) hij (by omega)
    rw [getElem!_pos d' i hi', getElem!_pos d' j hj', ltOf_cmp, decide_eq_false_iff_not] at this
    simpa [ltI] using this

set_option maxRecDepth 100000 in
theorem sortedf_any (Bs : Nat) (A : Option Addr) (la c : Nat) (xs : List Im) (w : World) (hs : w.heap[Bs]? = some (.cells #[.slice A la c] 25 (0, 0))) (hA : RdI w w.heap.size A la xs) (hla : la ≤ 1100) :
    Calls Try.prog 29 #[.func (.func 41) #[] #[.pointer (some ⟨Bs, 0, none⟩)], .func (.func 31) #[] #[]] w
      fun e w' => ∃ (A' : Option Addr) (c' : Nat) (ys : List Im), e = .returned (.slice A' la c') ∧ ys.Pairwise (fun x y => ¬ ltI y x) ∧ (∀ z, z ∈ ys ↔ z ∈ xs) ∧ Ow w' w.heap.size 37 2 (.slice A' la c') (ys.map Im.enc) ∧ Below w.heap.size w w' := by
  have h := collect_any Bs A la c xs w hs hA hla
  clear hs hA
  go_enter Try.func29, Try.ntmps29
  go_wp2_with fail
  refine h.mono ?_
  rintro e w1 ⟨A1, c1, rfl, hown, hb⟩
  have h2 := sortf_any w.heap.size A1 la c1 xs w1 hown hla
  go_wp2_with fail
  refine h2.mono ?_
  rintro e w2 ⟨rfl, ys, hp, hm, hown2, hg⟩
  have hpH := Lib.hid hp
  have hmH := Lib.hid hm
  clear hp hm
  have hG : Below w.heap.size w w2 := hb.grown hg hb.size (fun k e => (hown.block k e).1)
  go_wp2
  go_ret
  exact ⟨A1, c1, ys, rfl, hpH.out, hmH.out, hown2, hG⟩
end Go.Proofs.Ytpfohpfgfdeecaa
