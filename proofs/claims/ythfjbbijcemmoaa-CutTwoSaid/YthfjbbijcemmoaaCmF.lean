/- The document's LE of cuts; far. -/
import Derived.Test.YthfjbbijcemmoaaCmB
namespace Go.Proofs.Ythfjbbijcemmoaa
open Go.RowKit

theorem get_cells9' (v : Vm) (y : Value) (k : Nat) (hk : k < 8) : (#[.int .u32 v.d0, .int .u32 v.d1, .int .u32 v.d2, .int .u32 v.d3, .int .u32 v.d4, .int .u32 v.d5, .int .u32 v.d6, .int .u32 v.d7, y] : Array Value)[k]? = some (.int .u32 (v.get k)) := by
  obtain rfl | rfl | rfl | rfl | rfl | rfl | rfl | rfl : k = 0 ∨ k = 1 ∨ k = 2 ∨ k = 3 ∨ k = 4 ∨ k = 5 ∨ k = 6 ∨ k = 7 := by omega
  all_goals rfl
theorem all_take_succ' {p : Im → Bool} {xs : List Im} {k : Nat} {x : Im} (h : ∀ y ∈ xs.take k, p y = true) (hx : xs[k]? = some x) (hp : p x = true) : ∀ y ∈ xs.take (k + 1), p y = true := by
  intro y hy
  rw [List.take_add_one, hx] at hy
  rcases List.mem_append.1 hy with hy | hy
  · exact h y hy
  · simp at hy; subst hy; exact hp

set_option maxRecDepth 100000 in
set_option maxHeartbeats 1000000 in
theorem rle_any (v u : Vm) (A B : Option Addr) (n m c d : Nat) (xs ys : List Im) (w : World) (hA : RdI w w.heap.size A n xs) (hB : RdI w w.heap.size B m ys) (hn : n ≤ 1100) (hm : m ≤ 1100) (hv : v.wf) (hu : u.wf) (hx : ∀ x ∈ xs, x.wf) (hy : ∀ x ∈ ys, x.wf) :
    Calls Try.prog 54 #[.agg #[.int .u32 v.d0, .int .u32 v.d1, .int .u32 v.d2, .int .u32 v.d3, .int .u32 v.d4, .int .u32 v.d5, .int .u32 v.d6, .int .u32 v.d7, .slice A n c], .agg #[.int .u32 u.d0, .int .u32 u.d1, .int .u32 u.d2, .int .u32 u.d3, .int .u32 u.d4, .int .u32 u.d5, .int .u32 u.d6, .int .u32 u.d7, .slice B m d]] w fun e w' => ∃ r : Bool, e = .returned (.bool r) ∧ (r = true ↔ leC v xs u ys) ∧ Below w.heap.size w w' := by
  have hb0 : Below w.heap.size w ((w.alloc (.cells #[.int .u32 v.d0, .int .u32 v.d1, .int .u32 v.d2, .int .u32 v.d3, .int .u32 v.d4, .int .u32 v.d5, .int .u32 v.d6, .int .u32 v.d7, .slice A n c] 49)).alloc (.cells #[.int .u32 u.d0, .int .u32 u.d1, .int .u32 u.d2, .int .u32 u.d3, .int .u32 u.d4, .int .u32 u.d5, .int .u32 u.d6, .int .u32 u.d7, .slice B m d] 49)) := ((Below.refl _ w).alloc (Nat.le_refl _) _).alloc (by simp) _
  have hbA : ((w.alloc (.cells #[.int .u32 v.d0, .int .u32 v.d1, .int .u32 v.d2, .int .u32 v.d3, .int .u32 v.d4, .int .u32 v.d5, .int .u32 v.d6, .int .u32 v.d7, .slice A n c] 49)).alloc (.cells #[.int .u32 u.d0, .int .u32 u.d1, .int .u32 u.d2, .int .u32 u.d3, .int .u32 u.d4, .int .u32 u.d5, .int .u32 u.d6, .int .u32 u.d7, .slice B m d] 49)).heap[w.heap.size]? = some (.cells #[.int .u32 v.d0, .int .u32 v.d1, .int .u32 v.d2, .int .u32 v.d3, .int .u32 v.d4, .int .u32 v.d5, .int .u32 v.d6, .int .u32 v.d7, .slice A n c] 49 (0, 0)) := heap_old _ (by simp) (heap_at _ _ rfl)
  have hbB : ((w.alloc (.cells #[.int .u32 v.d0, .int .u32 v.d1, .int .u32 v.d2, .int .u32 v.d3, .int .u32 v.d4, .int .u32 v.d5, .int .u32 v.d6, .int .u32 v.d7, .slice A n c] 49)).alloc (.cells #[.int .u32 u.d0, .int .u32 u.d1, .int .u32 u.d2, .int .u32 u.d3, .int .u32 u.d4, .int .u32 u.d5, .int .u32 u.d6, .int .u32 u.d7, .slice B m d] 49)).heap[w.heap.size + 1]? = some (.cells #[.int .u32 u.d0, .int .u32 u.d1, .int .u32 u.d2, .int .u32 u.d3, .int .u32 u.d4, .int .u32 u.d5, .int .u32 u.d6, .int .u32 u.d7, .slice B m d] 49 (0, 0)) := heap_at _ _ (by simp)
  generalize hW : ((w.alloc (.cells #[.int .u32 v.d0, .int .u32 v.d1, .int .u32 v.d2, .int .u32 v.d3, .int .u32 v.d4, .int .u32 v.d5, .int .u32 v.d6, .int .u32 v.d7, .slice A n c] 49)).alloc (.cells #[.int .u32 u.d0, .int .u32 u.d1, .int .u32 u.d2, .int .u32 u.d3, .int .u32 u.d4, .int .u32 u.d5, .int .u32 u.d6, .int .u32 u.d7, .slice B m d] 49)) = W at hb0 hbA hbB
  have hltA := blk_lt hbA
  have hltB := blk_lt hbB
  have hAk := Lib.hid hbA
  have hBk := Lib.hid hbB
  have c1 := rccheck_any v A n c xs W ((hA.below hb0).more hb0.size) hn hv hx
  have c2 := fun w1 (hb : Below w.heap.size w w1) => rccheck_any u B m d ys w1 ((hB.below hb).more hb.size) hm hu hy
  have q0 := blk_cell hbA 0
  have q1 := blk_cell hbA 1
  have q2 := blk_cell hbA 2
  have q3 := blk_cell hbA 3
  have q4 := blk_cell hbA 4
  have q5 := blk_cell hbA 5
  have q6 := blk_cell hbA 6
  have q7 := blk_cell hbA 7
  have q8 := blk_cell hbA 8
  simp at q0 q1 q2 q3 q4 q5 q6 q7 q8
  clear hbA
  by_cases hp : cutErr v xs = 0
  · rw [hp] at c1
    have c1 := Lib.hid c1
    by_cases hq : cutErr u ys = 0
    · rw [hq] at c2
      have c2 := Lib.hid c2
      obtain ⟨hv1, _, _⟩ := cut_ok.1 hp
      obtain ⟨hu1, _, _⟩ := cut_ok.1 hq
      have hiff := Lib.hid (leC_iff hp hq hu)
      have hgv := Lib.hid (fun k : Nat => (⟨get_nn hv _, vchk_get hv1 (k : Int), get_nn hu _, vchk_get hu1 (k : Int)⟩ : 0 ≤ v.get k ∧ v.get k ≤ 1048576 ∧ 0 ≤ u.get k ∧ u.get k ≤ 1048576))
      have cH := Lib.hid (fun (x : Im) (hx : x.wf) w1 (hb : Below w.heap.size w w1) => rchas_any u B m d ys x w1 ((hB.below hb).more hb.size) hm hx)
      have hxH := Lib.hid hx
      clear hp hq hv1 hu1 hx
      go_enter Try.func54, Try.ntmps54
      go_wp2_with fail
      refine c1.out.mono ?_
      rintro e w1 ⟨rfl, hb1⟩
      have hG1 := hb0.trans (hb1.mono hb0.size)
      have hbB1 := blk_below hBk.out hb1
      have hltB1 := blk_lt hbB1
      have s0 := blk_cell hbB1 0
      have s1 := blk_cell hbB1 1
      have s2 := blk_cell hbB1 2
      have s3 := blk_cell hbB1 3
      have s4 := blk_cell hbB1 4
      have s5 := blk_cell hbB1 5
      have s6 := blk_cell hbB1 6
      have s7 := blk_cell hbB1 7
      have s8 := blk_cell hbB1 8
      simp at s0 s1 s2 s3 s4 s5 s6 s7 s8
      go_wp2_with fail
      refine (c2.out _ hG1).mono ?_
      rintro e w2 ⟨rfl, hb2⟩
      clear q0 q1 q2 q3 q4 q5 q6 q7 q8 s0 s1 s2 s3 s4 s5 s6 s7 s8
      have hbW2 : Below W.heap.size W w2 := hb1.trans (hb2.mono hb1.size)
      clear hbB1 hltB1 hG1 hb1 hb2
      go_wp2_with fail
      go_loopg [5] 9 (fun g i wr => ∃ k : Nat, k ≤ 8 ∧ g = 9 - k ∧ i = .int .i64 (k : Int) ∧ (∀ j : Nat, j < k → ∀ t : Int, u.get j < t → t ≤ v.get j → hasC u ys ((j : Int), t) = true) ∧ Below W.heap.size W wr)
      case atStart => exact ⟨0, by omega, rfl, rfl, fun j hj => absurd hj (Nat.not_lt_zero _), hbW2⟩
      case round =>
        clear hbW2
        obtain ⟨k, hk, rfl, rfl, hall, hbr⟩ := hrel
        have hallH := Lib.hid hall
        clear hall
        by_cases hlk : k < 8
        · obtain ⟨hv0, hv1, hu0, hu1⟩ := hgv.out k
          have hbBr := blk_below hBk.out hbr
          have hltBr := blk_lt hbBr
          have hcu : wr.cell? ⟨w.heap.size + 1, k, none⟩ = some (.int .u32 (u.get k)) := by rw [blk_cell hbBr]; exact get_cells9' u _ k hlk
          generalize hvk : v.get (k : Int) = zv at *
          generalize huk : u.get (k : Int) = zu at *
          have hki : (k : Int) < 8 := by omega
          have hk0 : (0 : Int) ≤ (k : Int) := by omega
          clear hbBr
          go_wp2_with fail
          obtain ⟨wo, hwo⟩ : ∃ wo, wr = wo := ⟨_, rfl⟩
          subst hwo
          have hbro := Lib.hid hbr
          go_loopg [6] ((zv + 1 - (zu + 1)).toNat + 1) (fun g s wr => ∃ t : Int, g = (zv + 1 - t).toNat + 1 ∧ s = .int .u32 t ∧ zu < t ∧ (t ≤ zv + 1 ∨ t = zu + 1) ∧ (∀ t' : Int, zu < t' → t' < t → hasC u ys ((k : Int), t') = true) ∧ Below W.heap.size W wr)
          case atStart => exact ⟨zu + 1, rfl, by go_num, by omega, .inr rfl, fun t' h1 h2 => absurd h2 (by omega), hbro.out⟩
          case round =>
            clear hbr hltBr hcu
            obtain ⟨t, rfl, rfl, ht0, ht1, hall, hbi⟩ := hrel
            have hallI := Lib.hid hall
            clear hall
            have hGi := hb0.trans (hbi.mono hb0.size)
            have hbBi := blk_below hBk.out hbi
            have hltBi := blk_lt hbBi
            have hbAi := blk_below hAk.out hbi
            have hltAi := blk_lt hbAi
            have hcv : wr.cell? ⟨w.heap.size, k, none⟩ = some (.int .u32 zv) := by rw [← hvk, blk_cell hbAi]; exact get_cells9' v _ k hlk
            by_cases htv : t ≤ zv
            · have hch := cH.out ((k : Int), t) ⟨by dsimp only; omega, by dsimp only; omega⟩ wr hGi
              dsimp only at hch
              generalize hcb : hasC u ys ((k : Int), t) = cb at hch
              have hch := Lib.hid hch
              have s0 := blk_cell hbBi 0
              have s1 := blk_cell hbBi 1
              have s2 := blk_cell hbBi 2
              have s3 := blk_cell hbBi 3
              have s4 := blk_cell hbBi 4
              have s5 := blk_cell hbBi 5
              have s6 := blk_cell hbBi 6
              have s7 := blk_cell hbBi 7
              have s8 := blk_cell hbBi 8
              simp at s0 s1 s2 s3 s4 s5 s6 s7 s8
              clear hbBi hbAi
              go_wp2_with fail
              refine hch.out.mono ?_
              rintro e w3 ⟨rfl, hb3⟩
              have hbi3 := hbi.trans (hb3.mono hbi.size)
              have hGi3 := hGi.trans (hb3.mono hGi.size)
              cases cb with
              | true =>
                have hcbH := Lib.hid hcb
                clear hcb
                go_wp2
                go_roundg ((zv + 1 - (t + 1)).toNat + 1)
                case measure => omega
                case rel =>
                  refine ⟨t + 1, rfl, by go_num, by omega, by omega, fun t' h1 h2 => ?_, hbi3⟩
                  rcases Int.lt_or_le t' t with h | h
                  · exact hallI.out t' h1 h
                  · obtain rfl : t' = t := by omega
                    exact hcbH.out
              | false =>
                have hno : Hid (¬ leC v xs u ys) := Lib.hid (fun hle => by
                  have := (hiff.out.1 hle).1 k t hk0 hki (by rw [huk]; exact ht0) (by rw [hvk]; exact htv)
                  rw [hcb] at this
                  exact absurd this (by decide))
                clear hcb
                go_wp2
                go_ret
                exact ⟨false, rfl, ⟨fun h => absurd h (by decide), fun h => absurd h hno.out⟩, hGi3⟩
            · clear hbBi hbAi hltBi
              go_wp2
              go_roundg (9 - (k + 1))
              case measure => omega
              case rel =>
                refine ⟨k + 1, by omega, rfl, by go_num, fun j hj t' h1 h2 => ?_, hbi⟩
                rcases Nat.lt_or_ge j k with h | h
                · exact hallH.out j h t' h1 h2
                · obtain rfl : j = k := by omega
                  rw [huk] at h1
                  rw [hvk] at h2
                  exact hallI.out t' h1 (by omega)
        · obtain rfl : k = 8 := by omega
          have hl := hA.len
          go_wp2_with fail
          obtain ⟨wo, hwo⟩ : ∃ wo, wr = wo := ⟨_, rfl⟩
          subst hwo
          have hbro := Lib.hid hbr
          go_loopg [7] (n + 1) (fun g i wr => ∃ k : Nat, k ≤ n ∧ g = n + 1 - k ∧ i = .int .i64 (k : Int) ∧ (∀ x ∈ xs.take k, hasC u ys x = true) ∧ Below W.heap.size W wr)
          case atStart => exact ⟨0, by omega, rfl, rfl, by simp, hbro.out⟩
          case round =>
            clear hbr
            obtain ⟨k, hk, rfl, rfl, hall, hbi⟩ := hrel
            have hGi := hb0.trans (hbi.mono hb0.size)
            have hbAi := blk_below hAk.out hbi
            have hltAi := blk_lt hbAi
            have hc8 := blk_cell hbAi 8
            simp at hc8
            by_cases hlt : k < n
            · obtain ⟨bA, oA, x, rfl, hbA, hp, hcp⟩ := (hA.below hGi).at_ hlt
              have p0 := hcp 0 _ rfl
              have p1 := hcp 1 _ rfl
              rw [Nat.add_zero] at p0
              clear hcp
              have hbA2 : bA < wr.heap.size := Nat.lt_of_lt_of_le hbA hGi.size
              have hxm := List.mem_of_getElem? hp
              have hch := fun w1 (hb : KQ wr.heap.size wr w1) => cH.out x (hxH.out x hxm) w1 (hGi.trans (hb.1.mono hGi.size))
              have hallI := Lib.hid (fun h => all_take_succ' (p := fun x => hasC u ys x) hall hp h)
              have hxmH := Lib.hid hxm
              clear hall hp hxm
              obtain ⟨x1, x2⟩ := x
              dsimp only at p0 p1 hch
              generalize hcb : hasC u ys (x1, x2) = cb at hch
              have hch := Lib.hid hch
              have hbBi := blk_below hBk.out hbi
              have hltBi := blk_lt hbBi
              have s0 := blk_cell hbBi 0
              have s1 := blk_cell hbBi 1
              have s2 := blk_cell hbBi 2
              have s3 := blk_cell hbBi 3
              have s4 := blk_cell hbBi 4
              have s5 := blk_cell hbBi 5
              have s6 := blk_cell hbBi 6
              have s7 := blk_cell hbBi 7
              have s8 := blk_cell hbBi 8
              simp at s0 s1 s2 s3 s4 s5 s6 s7 s8
              clear hbBi hbAi
              have hq0 : KQ wr.heap.size wr wr := kq (Below.refl _ _)
              cases cb with
              | true =>
                have hcbH := Lib.hid hcb
                clear hcb
                go_wp2_with fail
                go_region_held3 (fun w' => KQ wr.heap.size wr w') (first
      | with_reducible exact kq_call (by assumption) (by simp) (by assumption)
      | with_reducible exact kq_grown (by assumption) (by simp) (by assumption) (by simp [Value.ownBlock])
      | ((with_reducible refine kq ?_); (repeat (first | (with_reducible exact Below.refl _ _) | (with_reducible refine Below.drew ?_) | (with_reducible refine Below.alloc ?_ (by simp) _) | (with_reducible refine Below.setCell ?_ (by simp) _) | (with_reducible exact (by assumption : KQ _ _ _).1))); done)) (first | (go_at_call 44; refine (hch.out _ (by assumption)).mono ?_; rintro e w2 ⟨rfl, hb3⟩))
                have hF : KQ wr.heap.size wr w2 := by with_reducible assumption
                have hbi3 := hbi.trans (hF.1.mono hbi.size)
                go_wp2
                go_roundg (n + 1 - (k + 1))
                case measure => omega
                case rel => exact ⟨k + 1, by omega, rfl, by go_num, hallI.out hcbH.out, hbi3⟩
              | false =>
                have hno : Hid (¬ leC v xs u ys) := Lib.hid (fun hle => by
                  have := (hiff.out.1 hle).2 _ hxmH.out
                  rw [hcb] at this
                  exact absurd this (by decide))
                clear hcb
                go_wp2_with fail
                go_region_held3 (fun w' => KQ wr.heap.size wr w') (first
      | with_reducible exact kq_call (by assumption) (by simp) (by assumption)
      | with_reducible exact kq_grown (by assumption) (by simp) (by assumption) (by simp [Value.ownBlock])
      | ((with_reducible refine kq ?_); (repeat (first | (with_reducible exact Below.refl _ _) | (with_reducible refine Below.drew ?_) | (with_reducible refine Below.alloc ?_ (by simp) _) | (with_reducible refine Below.setCell ?_ (by simp) _) | (with_reducible exact (by assumption : KQ _ _ _).1))); done)) (first | (go_at_call 44; refine (hch.out _ (by assumption)).mono ?_; rintro e w2 ⟨rfl, hb3⟩))
                have hF : KQ wr.heap.size wr w2 := by with_reducible assumption
                have hGi3 := hGi.trans (hF.1.mono hGi.size)
                go_wp2
                go_ret
                exact ⟨false, rfl, ⟨fun h => absurd h (by decide), fun h => absurd h hno.out⟩, hGi3⟩
            · have hT : Hid (leC v xs u ys) := Lib.hid (hiff.out.2 ⟨fun o t g0 g8 h1 h2 => by
                  obtain ⟨j, rfl⟩ : ∃ j : Nat, o = j := ⟨o.toNat, by omega⟩
                  exact hallH.out j (by omega) t h1 h2, by rw [List.take_of_length_le (by omega)] at hall; exact hall⟩)
              clear hall hbAi
              go_wp2
              go_ret
              exact ⟨true, rfl, ⟨fun _ => hT.out, fun _ => rfl⟩, hGi⟩
    · have hno : ¬ leC v xs u ys := fun h => hq h.2.1
      generalize cutErr u ys = p at c2 hq
      have hqn : (p != 0) = true := by simpa using hq
      have c2 := Lib.hid c2
      go_enter Try.func54, Try.ntmps54
      go_wp2_with fail
      refine c1.out.mono ?_
      rintro e w1 ⟨rfl, hb1⟩
      have hG1 := hb0.trans (hb1.mono hb0.size)
      have hbB1 := blk_below hBk.out hb1
      have hltB1 := blk_lt hbB1
      have s0 := blk_cell hbB1 0
      have s1 := blk_cell hbB1 1
      have s2 := blk_cell hbB1 2
      have s3 := blk_cell hbB1 3
      have s4 := blk_cell hbB1 4
      have s5 := blk_cell hbB1 5
      have s6 := blk_cell hbB1 6
      have s7 := blk_cell hbB1 7
      have s8 := blk_cell hbB1 8
      simp at s0 s1 s2 s3 s4 s5 s6 s7 s8
      go_wp2_with fail
      refine (c2.out _ hG1).mono ?_
      rintro e w2 ⟨rfl, hb2⟩
      have hG2 := hG1.trans (hb2.mono hG1.size)
      go_wp2
      go_ret
      exact ⟨false, rfl, ⟨fun h => absurd h (by decide), fun h => absurd h hno⟩, hG2⟩
  · have hno : ¬ leC v xs u ys := fun h => hp h.1
    generalize cutErr v xs = p at c1 hp
    have hqn : (p != 0) = true := by simpa using hp
    have c1 := Lib.hid c1
    go_enter Try.func54, Try.ntmps54
    go_wp2_with fail
    refine c1.out.mono ?_
    rintro e w1 ⟨rfl, hb1⟩
    have hG1 := hb0.trans (hb1.mono hb0.size)
    go_wp2
    go_ret
    exact ⟨false, rfl, ⟨fun h => absurd h (by decide), fun h => absurd h hno⟩, hG1⟩

theorem total_any (v : Vm) (w : World) :
    Calls Try.prog 88 #[.agg #[.int .u32 v.d0, .int .u32 v.d1, .int .u32 v.d2, .int .u32 v.d3, .int .u32 v.d4, .int .u32 v.d5, .int .u32 v.d6, .int .u32 v.d7]] w fun e w' => ∃ z : Int, e = .returned (.int .u64 z) ∧ Below w.heap.size w w' := by
  have hb0 : Below w.heap.size w (w.alloc (.cells #[.int .u32 v.d0, .int .u32 v.d1, .int .u32 v.d2, .int .u32 v.d3, .int .u32 v.d4, .int .u32 v.d5, .int .u32 v.d6, .int .u32 v.d7] 25)) := (Below.refl _ w).alloc (Nat.le_refl _) _
  have hbA : (w.alloc (.cells #[.int .u32 v.d0, .int .u32 v.d1, .int .u32 v.d2, .int .u32 v.d3, .int .u32 v.d4, .int .u32 v.d5, .int .u32 v.d6, .int .u32 v.d7] 25)).heap[w.heap.size]? = some (.cells #[.int .u32 v.d0, .int .u32 v.d1, .int .u32 v.d2, .int .u32 v.d3, .int .u32 v.d4, .int .u32 v.d5, .int .u32 v.d6, .int .u32 v.d7] 25 (0, 0)) := heap_at _ _ rfl
  generalize hW : (w.alloc (.cells #[.int .u32 v.d0, .int .u32 v.d1, .int .u32 v.d2, .int .u32 v.d3, .int .u32 v.d4, .int .u32 v.d5, .int .u32 v.d6, .int .u32 v.d7] 25)) = W at hb0 hbA
  have hlt := blk_lt hbA
  go_enter Try.func88, Try.ntmps88
  go_wp2_with fail
  go_loopg [3, 4] 9 (fun g s i wr => ∃ (k : Nat) (z : Int), k ≤ 8 ∧ g = 9 - k ∧ s = .int .u64 z ∧ i = .int .i64 (k : Int) ∧ wr = W)
  case atStart => exact ⟨0, 0, by omega, rfl, rfl, rfl, rfl⟩
  case round =>
    obtain ⟨k, z, hk, rfl, rfl, rfl, rfl⟩ := hrel
    by_cases hlk : k < 8
    · have hcv : wr.cell? ⟨w.heap.size, k, none⟩ = some (.int .u32 (v.get k)) := by rw [blk_cell hbA]; exact get_cells v k hlk
      generalize v.get (k : Int) = y at hcv
      have hki : (k : Int) < 8 := by omega
      have hk0 : (0 : Int) ≤ (k : Int) := by omega
      have hbAk := Lib.hid hbA
      clear hbA
      go_wp2
      go_roundg (9 - (k + 1))
      case measure => omega
      case rel => exact ⟨k + 1, _, by omega, rfl, rfl, by go_num, rfl⟩
    · obtain rfl : k = 8 := by omega
      go_wp2
      go_ret
      exact ⟨_, rfl, hb0⟩
theorem far_any (v : Vm) (A : Option Addr) (n c : Nat) (w : World) :
    Calls Try.prog 50 #[.agg #[.int .u32 v.d0, .int .u32 v.d1, .int .u32 v.d2, .int .u32 v.d3, .int .u32 v.d4, .int .u32 v.d5, .int .u32 v.d6, .int .u32 v.d7, .slice A n c]] w fun e w' => ∃ r : Bool, e = .returned (.bool r) ∧ Below w.heap.size w w' := by
  have hb0 : Below w.heap.size w (w.alloc (.cells #[.int .u32 v.d0, .int .u32 v.d1, .int .u32 v.d2, .int .u32 v.d3, .int .u32 v.d4, .int .u32 v.d5, .int .u32 v.d6, .int .u32 v.d7, .slice A n c] 49)) := (Below.refl _ w).alloc (Nat.le_refl _) _
  have hbB : (w.alloc (.cells #[.int .u32 v.d0, .int .u32 v.d1, .int .u32 v.d2, .int .u32 v.d3, .int .u32 v.d4, .int .u32 v.d5, .int .u32 v.d6, .int .u32 v.d7, .slice A n c] 49)).heap[w.heap.size]? = some (.cells #[.int .u32 v.d0, .int .u32 v.d1, .int .u32 v.d2, .int .u32 v.d3, .int .u32 v.d4, .int .u32 v.d5, .int .u32 v.d6, .int .u32 v.d7, .slice A n c] 49 (0, 0)) := heap_at _ _ rfl
  generalize hW : w.alloc (.cells #[.int .u32 v.d0, .int .u32 v.d1, .int .u32 v.d2, .int .u32 v.d3, .int .u32 v.d4, .int .u32 v.d5, .int .u32 v.d6, .int .u32 v.d7, .slice A n c] 49) = W at hb0 hbB
  have hlt := blk_lt hbB
  have q0 := blk_cell hbB 0
  have q1 := blk_cell hbB 1
  have q2 := blk_cell hbB 2
  have q3 := blk_cell hbB 3
  have q4 := blk_cell hbB 4
  have q5 := blk_cell hbB 5
  have q6 := blk_cell hbB 6
  have q7 := blk_cell hbB 7
  have q8 := blk_cell hbB 8
  simp at q0 q1 q2 q3 q4 q5 q6 q7 q8
  have cT := Lib.hid (total_any v W)
  go_enter Try.func50, Try.ntmps50
  go_wp2_with fail
  refine cT.out.mono ?_
  rintro e w1 ⟨z, rfl, hb1⟩
  have hG := hb0.trans (hb1.mono hb0.size)
  go_wp2
  go_ret
  exact ⟨_, rfl, hG⟩
end Go.Proofs.Ythfjbbijcemmoaa
