/- The document's Leave: a transaction without the parts of some keys. -/
import Derived.Test.YtpolplmniaoikaaGreatDoorFu
import Derived.Test.YtpolplmniaoikaaGreatDoorM41
import Derived.Deep.QuietTactic
import Derived.BigQuiet
namespace Go.Proofs.YtpolplmniaoikaaGreatDoor
open Go.RowKit

theorem below_drK {w : World} {B : Nat} {v : World} (h : Below B v w) (n : Nat) : Below B v (w.drewN n) := h.trans ⟨rfl, rfl, rfl, Nat.le_refl _, fun _ _ => rfl⟩
set_option maxRecDepth 100000 in
set_option maxHeartbeats 4000000 in
theorem rleave_any (x : Im) (v : Vm) (t : Bool) (A : Option Addr) (n c : Nat) (ps : List Pe) (B : Option Addr) (m d : Nat) (xs : List (List UInt8)) (q : Bool) (w : World) (hA : RdE w w.heap.size A n ps) (hn : n ≤ 1000) (hB : RdS w w.heap.size B m xs) (hm : m ≤ maxLen) :
    Calls Tryz.prog 29 #[.agg #[.int .i64 x.1, .int .u32 x.2, .int .u32 v.d0, .int .u32 v.d1, .int .u32 v.d2, .int .u32 v.d3, .int .u32 v.d4, .int .u32 v.d5, .int .u32 v.d6, .int .u32 v.d7, .bool t, .slice A n c], .slice B m d, .bool q] w
      fun e w' => ∃ A' n' c', e = .returned (.agg #[.int .i64 x.1, .int .u32 x.2, .int .u32 v.d0, .int .u32 v.d1, .int .u32 v.d2, .int .u32 v.d3, .int .u32 v.d4, .int .u32 v.d5, .int .u32 v.d6, .int .u32 v.d7, .bool (leaveT t (ps.map Pe.core) xs q), .slice A' n' c']) ∧ Ow w' w.heap.size 81 10 (.slice A' n' c') ((ps.filter fun p => wantK xs p.key == q).map Pe.enc) ∧ Below w.heap.size w w' := by
  unfold maxLen at hm
  generalize htt : leaveT t (ps.map Pe.core) xs q = tt
  have httH : Hid ((t || ps.any fun p => !(wantK xs p.key == q)) = tt) := Lib.hid (by rw [← htt]; unfold leaveT; rw [List.any_map]; rfl)
  clear htt
  have hb0 : Below w.heap.size w (w.alloc (.cells #[.int .i64 x.1, .int .u32 x.2, .int .u32 v.d0, .int .u32 v.d1, .int .u32 v.d2, .int .u32 v.d3, .int .u32 v.d4, .int .u32 v.d5, .int .u32 v.d6, .int .u32 v.d7, .bool t, .slice A n c] 29)) := (Below.refl _ w).alloc (Nat.le_refl _) _
  have hbt : (w.alloc (.cells #[.int .i64 x.1, .int .u32 x.2, .int .u32 v.d0, .int .u32 v.d1, .int .u32 v.d2, .int .u32 v.d3, .int .u32 v.d4, .int .u32 v.d5, .int .u32 v.d6, .int .u32 v.d7, .bool t, .slice A n c] 29)).heap[w.heap.size]? = some (.cells #[.int .i64 x.1, .int .u32 x.2, .int .u32 v.d0, .int .u32 v.d1, .int .u32 v.d2, .int .u32 v.d3, .int .u32 v.d4, .int .u32 v.d5, .int .u32 v.d6, .int .u32 v.d7, .bool t, .slice A n c] 29 (0, 0)) := heap_at _ _ rfl
  generalize hWe : (w.alloc (.cells #[.int .i64 x.1, .int .u32 x.2, .int .u32 v.d0, .int .u32 v.d1, .int .u32 v.d2, .int .u32 v.d3, .int .u32 v.d4, .int .u32 v.d5, .int .u32 v.d6, .int .u32 v.d7, .bool t, .slice A n c] 29)) = W at hb0 hbt
  have hz0 := hb0.size
  have q0 := blk_cell hbt 0
  have q1 := blk_cell hbt 1
  have q2 := blk_cell hbt 2
  have q3 := blk_cell hbt 3
  have q4 := blk_cell hbt 4
  have q5 := blk_cell hbt 5
  have q6 := blk_cell hbt 6
  have q7 := blk_cell hbt 7
  have q8 := blk_cell hbt 8
  have q9 := blk_cell hbt 9
  have q10 := blk_cell hbt 10
  have q11 := blk_cell hbt 11
  simp at q0 q1 q2 q3 q4 q5 q6 q7 q8 q9 q10 q11
  have hltq := blk_lt hbt
  have hbtH := Lib.hid hbt
  have hAr := Lib.hid (fun w' (h : Below w.heap.size w w') => hA.below h)
  have hBr := Lib.hid (fun w' (h : Below w.heap.size w w') => hB.below h)
  have hal := Lib.hid hA.len
  have hbl0 := Lib.hid hB.len
  clear hbt hA hB
  go_enter Tryz.func29, Tryz.ntmps29
  go_wp2_with fail
  clear q0 q1 q2 q3 q4 q5 q6 q7 q8 q9 q10 q11 hltq
  go_loopg [8] (n + 1) (fun g' i wr => ∃ (k n' : Nat) (A' : Option Addr) (c' : Nat) (t' : Bool), k ≤ n ∧ g' = n + 1 - k ∧ i = .int .i64 k ∧ n' ≤ k ∧ t' = (t || (ps.take k).any fun p => !(wantK xs p.key == q)) ∧
    wr.heap[W.heap.size + 1]? = some (.cells #[.int .i64 x.1, .int .u32 x.2, .int .u32 v.d0, .int .u32 v.d1, .int .u32 v.d2, .int .u32 v.d3, .int .u32 v.d4, .int .u32 v.d5, .int .u32 v.d6, .int .u32 v.d7, .bool t', .slice A' n' c'] 29 (0, 0)) ∧ Ow wr (W.heap.size + 2) 81 10 (.slice A' n' c') (((ps.take k).filter fun p => wantK xs p.key == q).map Pe.enc) ∧
    Below (W.heap.size + 1) (W.alloc (.cells #[.int .i64 0, .int .u32 0, .int .u32 0, .int .u32 0, .int .u32 0, .int .u32 0, .int .u32 0, .int .u32 0, .int .u32 0, .int .u32 0, .bool false, .slice none 0 0] 29)) wr)
  case atStart =>
    exact ⟨0, 0, none, 0, t, Nat.zero_le _, rfl, rfl, Nat.le_refl _, by simp, heap_at _ _ (by simp), Ow.nil_ _ _ _ _, (Below.refl _ _).alloc (by simp) _⟩
  case round =>
    obtain ⟨k, n', A', c', t', hk, rfl, rfl, hnk, ht', hblk, hown, hbr⟩ := hrel
    have hbW : Below W.heap.size W wr := ((Below.refl _ W).alloc (Nat.le_refl _) _).trans (hbr.mono (Nat.le_succ _))
    have hbw : Below w.heap.size w wr := hb0.trans (hbW.mono hb0.size)
    have hbl := blk_lt hblk
    have hblH := Lib.hid hbl
    have htH := Lib.hid ht'
    have hblkH := Lib.hid hblk
    have hql : ((ps.take k).filter fun p => wantK xs p.key == q).length = n' := by simpa using hown.rd.2.1
    have hqlH := Lib.hid hql
    have hbt1 := blk_below hbtH.out hbW
    have hbt1H := Lib.hid hbt1
    have hlt1 := blk_lt hbt1
    have s11 := blk_cell hbt1 11
    simp at s11
    have hltw : w.heap.size < W.heap.size := blk_lt hbtH.out
    clear ht' hql
    by_cases hlt : k < n
    · obtain ⟨bA, oA, p, rfl, hbA, hp, hcp⟩ := (hAr.out wr hbw).1.at_ hlt
      have p0 := hcp 0 _ rfl
      rw [Nat.add_zero] at p0
      have hcpH := Lib.hid hcp
      clear hcp
      have hbA2 : bA < wr.heap.size := by omega
      have hbA4 : bA < W.heap.size := by omega
      have hlti : (k : Int) < (n : Int) := by omega
      have hpH2 := Lib.hid hp
      clear hp
      go_wp2_with fail
      obtain ⟨wo, rfl⟩ : ∃ wo : World, wo = wr := ⟨_, rfl⟩
      have p0H := Lib.hid p0
      clear s11 p0 hlt1 hbt1 hblk hbl
      go_loopg [9, 10] (m + 1) (fun g hs i wq => ∃ (j : Nat) (b : Bool), j ≤ m ∧ g = m + 1 - j ∧ hs = .bool b ∧ i = .int .i64 (j : Int) ∧ b = wantK (xs.take j) p.key ∧ Below wo.heap.size wo wq)
      case atStart => exact ⟨0, false, Nat.zero_le _, rfl, rfl, rfl, rfl, Below.refl _ _⟩
      case round =>
        obtain ⟨j, b, hj, rfl, rfl, rfl, hb, hbq⟩ := hrel
        have hzq := hbq.size
        have hbtq := blk_below hbt1H.out hbq
        have hltq := blk_lt hbtq
        have s11 := blk_cell hbtq 11
        simp at s11
        have p0 : wr.cell? ⟨bA, oA + k * 10, none⟩ = some (.string (bs p.key)) := (hbq.cell (p := ⟨bA, oA + k * 10, none⟩) hbA2).trans p0H.out
        have hbA3 : bA < wr.heap.size := by omega
        have hbH := Lib.hid hb
        clear hb
        by_cases hjm : j < m
        · obtain ⟨bB, oB, y, rfl, hbB, hy, hcy⟩ := (hBr.out wr (hbw.trans (hbq.mono (by have := hbw.size; omega)))).at_ hjm
          have y0 := hcy 0 _ rfl
          rw [Nat.add_zero, Nat.mul_one] at y0
          clear hcy
          have hbB2 : bB < wr.heap.size := by have := hbw.size; omega
          have hjmi : (j : Int) < (m : Int) := by omega
          have hst : wantK (xs.take (j + 1)) p.key = (wantK (xs.take j) p.key || decide (y = p.key)) := by
            unfold wantK; rw [List.take_add_one, hy, List.any_append]; simp
          rw [← hbH.out] at hst
          have hstH := Lib.hid hst
          clear hst hy hbtq
          have hq0 : KQ wr.heap.size wr wr := kq (Below.refl _ _)
          cases b with
          | true =>
            have hT : Hid (true = wantK (xs.take (j + 1)) p.key) := Lib.hid (by rw [hstH.out]; rfl)
            go_wp2_with fail
            go_quiet (fail)
            go_wp2
            go_roundg (m + 1 - (j + 1))
            case measure => omega
            case rel => exact ⟨j + 1, true, by omega, rfl, rfl, by go_num, hT.out, by first | exact below_drK hbq _ | exact hbq⟩
          | false =>
            by_cases hyk : y = p.key
            · have hqb : ((bs y).toList == (bs p.key).toList) = true := by rw [bs_toL, bs_toL, hyk]; simp
              have hT : Hid (true = wantK (xs.take (j + 1)) p.key) := Lib.hid (by rw [hstH.out, decide_eq_true hyk]; rfl)
              clear hyk
              go_wp2_with fail
              go_quiet (fail)
              go_wp2
              go_roundg (m + 1 - (j + 1))
              case measure => omega
              case rel => exact ⟨j + 1, true, by omega, rfl, rfl, by go_num, hT.out, by first | exact below_drK hbq _ | exact hbq⟩
            · have hqb : ((bs y).toList == (bs p.key).toList) = false := by rw [bs_toL, bs_toL, beq_eq_false_iff_ne]; exact hyk
              have hT : Hid (false = wantK (xs.take (j + 1)) p.key) := Lib.hid (by rw [hstH.out, decide_eq_false hyk]; rfl)
              clear hyk
              go_wp2_with fail
              go_quiet (fail)
              go_wp2
              go_roundg (m + 1 - (j + 1))
              case measure => omega
              case rel => exact ⟨j + 1, false, by omega, rfl, rfl, by go_num, hT.out, by first | exact below_drK hbq _ | exact hbq⟩
        · obtain rfl : j = m := by omega
          have hnlj : ¬ (j : Int) < (j : Int) := by omega
          have hbv : b = wantK xs p.key := by rw [hbH.out, List.take_of_length_le (by have := hbl0.out; omega)]
          have hblk1 := blk_below hblkH.out hbq
          have hbl1 := blk_lt hblk1
          have hbr1 := hbr.trans (hbq.mono (by have := hblH.out; omega))
          have hown1 := hown.below hbq
          have hbwr := hbw.trans (hbq.mono hbw.size)
          clear hbtq
          cases hpr : (b == q) with
          | false =>
            have hQ : Hid (((ps.take (k + 1)).filter fun p => wantK xs p.key == q) = (ps.take k).filter fun p => wantK xs p.key == q) := Lib.hid (by
              rw [List.take_add_one, hpH2.out, List.filter_append]; rw [hbv] at hpr; simp [hpr])
            have hT : Hid (true = (t || (ps.take (k + 1)).any fun p => !(wantK xs p.key == q))) := Lib.hid (by
              rw [List.take_add_one, hpH2.out]; rw [hbv] at hpr; simp [hpr])
            have hfro1 := blk_frozen hblk1
            have o10 := blk_cell hblk1 10
            simp at o10
            clear hbv s11 p0 p0H
            go_wp2
            go_roundg (n + 1 - (k + 1))
            case measure => omega
            case rel =>
              refine ⟨k + 1, n', A', c', true, by omega, rfl, by go_num, by omega, hT.out, ?_, by rw [hQ.out]; exact hown1.setCell (by simp) _, hbr1.setCell (by simp) _⟩
              rw [blk_set hblk1 10]; simp
          | true =>
            have hQ : Hid ((((ps.take (k + 1)).filter fun p => wantK xs p.key == q).map Pe.enc) = (((ps.take k).filter fun p => wantK xs p.key == q).map Pe.enc) ++ [Pe.enc p]) := Lib.hid (by
              rw [List.take_add_one, hpH2.out, List.filter_append]; rw [hbv] at hpr; simp [hpr])
            have hT : Hid (t' = (t || (ps.take (k + 1)).any fun p => !(wantK xs p.key == q))) := Lib.hid (by
              rw [List.take_add_one, hpH2.out, htH.out]; rw [hbv] at hpr; simp [hpr])
            clear p0
            have p0 : wr.cell? ⟨bA, oA + k * 10 + 0, none⟩ = _ := (hbq.cell (p := ⟨bA, oA + k * 10 + 0, none⟩) hbA2).trans (hcpH.out 0 _ rfl)
            have p1 : wr.cell? ⟨bA, oA + k * 10 + 1, none⟩ = _ := (hbq.cell (p := ⟨bA, oA + k * 10 + 1, none⟩) hbA2).trans (hcpH.out 1 _ rfl)
            have p2 : wr.cell? ⟨bA, oA + k * 10 + 2, none⟩ = _ := (hbq.cell (p := ⟨bA, oA + k * 10 + 2, none⟩) hbA2).trans (hcpH.out 2 _ rfl)
            have p3 : wr.cell? ⟨bA, oA + k * 10 + 3, none⟩ = _ := (hbq.cell (p := ⟨bA, oA + k * 10 + 3, none⟩) hbA2).trans (hcpH.out 3 _ rfl)
            have p4 : wr.cell? ⟨bA, oA + k * 10 + 4, none⟩ = _ := (hbq.cell (p := ⟨bA, oA + k * 10 + 4, none⟩) hbA2).trans (hcpH.out 4 _ rfl)
            have p5 : wr.cell? ⟨bA, oA + k * 10 + 5, none⟩ = _ := (hbq.cell (p := ⟨bA, oA + k * 10 + 5, none⟩) hbA2).trans (hcpH.out 5 _ rfl)
            have p6 : wr.cell? ⟨bA, oA + k * 10 + 6, none⟩ = _ := (hbq.cell (p := ⟨bA, oA + k * 10 + 6, none⟩) hbA2).trans (hcpH.out 6 _ rfl)
            have p7 : wr.cell? ⟨bA, oA + k * 10 + 7, none⟩ = _ := (hbq.cell (p := ⟨bA, oA + k * 10 + 7, none⟩) hbA2).trans (hcpH.out 7 _ rfl)
            have p8 : wr.cell? ⟨bA, oA + k * 10 + 8, none⟩ = _ := (hbq.cell (p := ⟨bA, oA + k * 10 + 8, none⟩) hbA2).trans (hcpH.out 8 _ rfl)
            have p9 : wr.cell? ⟨bA, oA + k * 10 + 9, none⟩ = _ := (hbq.cell (p := ⟨bA, oA + k * 10 + 9, none⟩) hbA2).trans (hcpH.out 9 _ rfl)
            rw [Nat.add_zero] at p0
            have o11 := blk_cell hblk1 11
            simp at o11
            clear hbv p0H
            go_upto_region 11 with (fail)
            refine wp_region_M (fun w' => KQ W.heap.size wr w') (fun w' => w'.cell? ⟨W.heap.size + 1, 11, none⟩ = some (.slice A' n' c')) 8 (by kernel_rfl) (kq (Below.refl _ _).drew) o11 ?_
            intro hcl
            have hC : KQ W.heap.size wr wr.drew := kq (Below.refl _ _).drew
            have hE : wr.drew.cell? ⟨W.heap.size + 1, 11, none⟩ = some (.slice A' n' c') := o11
            (refine wpM_take (i := 0) (v := ?_) rfl (by kernel_rfl) (by kernel_rfl) (by kernel_rfl) (by decide) (fun _ _ _ h => h) hcl hC (fun _ => hE) (Or.inl ⟨by rfl, ?_⟩) ?_; rotate_left; (· (intro w hSw; (try dsimp only at hSw); go_simp; (try with_reducible rfl))); clear hcl; intro hcl; (try simp only [Act.put, List.getElem_toArray, List.getElem_cons_zero, List.setIfInBounds_toArray, List.set_cons_zero, List.set_cons_succ]))
            (refine wpM_take0 (i := 1) (v := ?_) rfl rfl (by kernel_rfl) (by kernel_rfl) (by kernel_rfl) (by kernel_rfl) (by decide) (fun _ _ _ h => h) hcl hC (fun _ => hE) (Or.inl ⟨by rfl, ?_⟩) ?_; rotate_left; (· (intro w hSw; (try dsimp only at hSw); go_simp; (try with_reducible rfl))); clear hcl; intro hcl; (try simp only [Act.put, List.getElem_toArray, List.getElem_cons_zero, List.getElem_cons_succ, List.setIfInBounds_toArray, List.set_cons_zero, List.set_cons_succ]))
            (refine wpM_take (i := 2) (v := ?_) rfl (by kernel_rfl) (by kernel_rfl) (by kernel_rfl) (by decide) (fun _ _ _ h => h) hcl hC (fun _ => hE) (Or.inl ⟨by rfl, ?_⟩) ?_; rotate_left; (· (intro w hSw; (try dsimp only at hSw); go_simp; (try with_reducible rfl))); clear hcl; intro hcl; (try simp only [Act.put, List.getElem_toArray, List.getElem_cons_zero, List.getElem_cons_succ, List.setIfInBounds_toArray, List.set_cons_zero, List.set_cons_succ]))
            (refine wpM_take (i := 3) (v := ?_) rfl (by kernel_rfl) (by kernel_rfl) (by kernel_rfl) (by decide) (fun _ _ _ h => h) hcl hC (fun _ => hE) (Or.inl ⟨by rfl, ?_⟩) ?_; rotate_left; (· (intro w hSw; (try dsimp only at hSw); go_simp; (try with_reducible rfl))); clear hcl; intro hcl; (try simp only [Act.put, List.getElem_toArray, List.getElem_cons_zero, List.getElem_cons_succ, List.setIfInBounds_toArray, List.set_cons_zero, List.set_cons_succ]))
            (refine wpM_take (i := 4) (v := ?_) rfl (by kernel_rfl) (by kernel_rfl) (by kernel_rfl) (by decide) (fun _ _ _ h => h) hcl hC (fun _ => hE) (Or.inl ⟨by rfl, ?_⟩) ?_; rotate_left; (· (intro w hSw; (try dsimp only at hSw); go_simp; (try with_reducible rfl))); clear hcl; intro hcl; (try simp only [Act.put, List.getElem_toArray, List.getElem_cons_zero, List.getElem_cons_succ, List.setIfInBounds_toArray, List.set_cons_zero, List.set_cons_succ]))
            (refine wpM_take (i := 5) (v := ?_) rfl (by kernel_rfl) (by kernel_rfl) (by kernel_rfl) (by decide) (fun _ _ _ h => h) hcl hC (fun _ => hE) (Or.inl ⟨by rfl, ?_⟩) ?_; rotate_left; (· (intro w hSw; (try dsimp only at hSw); go_simp; (try with_reducible rfl))); clear hcl; intro hcl; (try simp only [Act.put, List.getElem_toArray, List.getElem_cons_zero, List.getElem_cons_succ, List.setIfInBounds_toArray, List.set_cons_zero, List.set_cons_succ]))
            (refine wpM_take (i := 6) (v := ?_) rfl (by kernel_rfl) (by kernel_rfl) (by kernel_rfl) (by decide) (fun _ _ _ h => h) hcl hC (fun _ => hE) (Or.inl ⟨by rfl, ?_⟩) ?_; rotate_left; (· (intro w hSw; (try dsimp only at hSw); go_simp; (try with_reducible rfl))); clear hcl; intro hcl; (try simp only [Act.put, List.getElem_toArray, List.getElem_cons_zero, List.getElem_cons_succ, List.setIfInBounds_toArray, List.set_cons_zero, List.set_cons_succ]))
            refine wpM_only (i := 7) rfl (by kernel_rfl) hcl (fun K hK => ?_)
            go_simp
            have hv3 : Below wr.heap.size wr (wr.alloc (.cells #[.string (bs p.key), .int .i64 p.e.act, .string (bs p.e.name), .int .i64 p.e.val, .int .i64 p.e.tag.1.1, .int .u32 p.e.tag.1.2, .int .i64 p.e.tag.2, .int .u32 p.e.st.1, .int .i64 p.e.st.2, .slice p.A p.l p.c] 81)).drew := ((Below.refl _ wr).alloc (Nat.le_refl _) _).drew
            have hC3 : KQ W.heap.size wr (wr.alloc (.cells #[.string (bs p.key), .int .i64 p.e.act, .string (bs p.e.name), .int .i64 p.e.val, .int .i64 p.e.tag.1.1, .int .u32 p.e.tag.1.2, .int .i64 p.e.tag.2, .int .u32 p.e.st.1, .int .i64 p.e.st.2, .slice p.A p.l p.c] 81)).drew := kq (hv3.mono (by omega))
            have hblk3 := blk_below hblk1 hv3
            have hE3 := blk_cell hblk3 11
            simp at hE3
            refine hK.out _ _ hC3 hE3 ?_
            clear hK K hE hC hcl
            intro hcl
            have hC := hC3
            (try simp only [Act.put, List.setIfInBounds_toArray, List.set_cons_zero, List.set_cons_succ])
            have hown3 := hown1.below hv3
            have hlo := blk_lt hblk3
            refine wpM_last (i := 8) rfl (by kernel_rfl) hcl (by kernel_rfl) (fun K hK => ?_)
            refine step_append_rd _ rfl _ _ _ rfl ePartD (base := W.heap.size + 2) (v := .slice A' n' c') (xs := ((ps.take k).filter fun p => wantK xs p.key == q).map Pe.enc) rfl hown3 rfl (Rd.one [.string (bs p.key), .int .i64 p.e.act, .string (bs p.e.name), .int .i64 p.e.val, .int .i64 p.e.tag.1.1, .int .u32 p.e.tag.1.2, .int .i64 p.e.tag.2, .int .u32 p.e.st.1, .int .i64 p.e.st.2, .slice p.A p.l p.c] rfl) (by simp) (by simp [Value.oneCell'])
              (by rw [List.length_map, hqlH.out]; unfold maxLen; omega) (by rw [List.length_map, hqlH.out]; omega) (by simp; omega) ?_
            intro A2 n2 c2 w4 hn2 hown4 hg4 hat4
            obtain rfl : n2 = n' + 1 := by rw [hn2, List.length_map, hqlH.out]
            clear hn2
            have hblk4 : w4.heap[W.heap.size + 1]? = some (.cells #[.int .i64 x.1, .int .u32 x.2, .int .u32 v.d0, .int .u32 v.d1, .int .u32 v.d2, .int .u32 v.d3, .int .u32 v.d4, .int .u32 v.d5, .int .u32 v.d6, .int .u32 v.d7, .bool t', .slice A' n' c'] 29 (0, 0)) := (hg4.block _ hlo (fun e => by have := (hown3.block _ e.symm).1; omega)).trans hblk3
            have hfr4 := blk_frozen hblk4
            have hlt4 := blk_lt hblk4
            have o114 := blk_cell hblk4 11
            simp at o114
            have hC4 := kq_grown hC (by omega) hg4 (fun g e => by have := (hown3.block g e).1; omega)
            refine hK.out _ _ hC4 ?_
            clear hK K hC hcl
            intro hcl
            have hC := hC4
            (try simp only [Act.put, List.setIfInBounds_toArray])
            (refine wpM_takeX (i := 9) (v := ?_) rfl (by kernel_rfl) (by kernel_rfl) (by kernel_rfl) (by decide) (fun _ _ _ h => h) hcl hC (by kernel_rfl) (Or.inl ⟨by rfl, ?_⟩) ?_; rotate_left; (· (intro w hSw; (try dsimp only at hSw); go_simp; (try with_reducible rfl))); clear hcl; intro hcl; (try simp only [Act.put, List.getElem_toArray, List.getElem_cons_zero, List.getElem_cons_succ, List.setIfInBounds_toArray, List.set_cons_zero, List.set_cons_succ]))
            refine wpM_last (i := 10) rfl (by kernel_rfl) hcl (by kernel_rfl) (fun K hK => ?_)
            go_simp
            refine hK.out _ _ (kq_set hC (by simp) _) ?_
            clear hK K hC hcl
            intro hcl
            refine wpM_done (by kernel_rfl) ?_
            clear hcl
            have hb4 : Below (W.heap.size + 1) wr w4 := (hv3.mono (by omega)).grown hg4 (by simp; omega) (fun g e => by have := (hown3.block g e).1; omega)
            have hownH : Hid (Ow w4 (W.heap.size + 2) 81 10 (.slice A2 (n' + 1) c2) (((ps.take (k + 1)).filter fun p => wantK xs p.key == q).map Pe.enc)) := Lib.hid (by rw [hQ.out]; exact hown4)
            have hblkN : Hid ((w4.setCell ⟨W.heap.size + 1, 11, none⟩ (.slice A2 (n' + 1) c2)).heap[W.heap.size + 1]? = some (.cells #[.int .i64 x.1, .int .u32 x.2, .int .u32 v.d0, .int .u32 v.d1, .int .u32 v.d2, .int .u32 v.d3, .int .u32 v.d4, .int .u32 v.d5, .int .u32 v.d6, .int .u32 v.d7, .bool t', .slice A2 (n' + 1) c2] 29 (0, 0))) := Lib.hid (by rw [blk_set hblk4 11]; simp)
            have hbrH := Lib.hid (hbr1.trans hb4)
            clear hown4 hblk4 hb4 hg4 hown3 hv3 hblk3 hC3 hC4 hE3
            go_wp2
            go_roundg (n + 1 - (k + 1))
            case measure => omega
            case rel =>
              exact ⟨k + 1, n' + 1, A2, c2, t', by omega, rfl, by go_num, by omega, hT.out, hblkN.out, hownH.out.setCell (by simp) _, hbrH.out.setCell (by simp) _⟩
    · obtain rfl : k = n := by omega
      have hnli : ¬ (k : Int) < (k : Int) := by omega
      have o0 := blk_cell hblk 0
      have o1 := blk_cell hblk 1
      have o2 := blk_cell hblk 2
      have o3 := blk_cell hblk 3
      have o4 := blk_cell hblk 4
      have o5 := blk_cell hblk 5
      have o6 := blk_cell hblk 6
      have o7 := blk_cell hblk 7
      have o8 := blk_cell hblk 8
      have o9 := blk_cell hblk 9
      have o10 := blk_cell hblk 10
      have o11 := blk_cell hblk 11
      simp at o0 o1 o2 o3 o4 o5 o6 o7 o8 o9 o10 o11
      have hres : wr.heap[W.heap.size]? = some (.cells #[.int .i64 0, .int .u32 0, .int .u32 0, .int .u32 0, .int .u32 0, .int .u32 0, .int .u32 0, .int .u32 0, .int .u32 0, .int .u32 0, .bool false, .slice none 0 0] 29) := (hbr.block _ (by omega)).trans (heap_at _ _ rfl)
      have r0 := blk_cell hres 0
      have r1 := blk_cell hres 1
      have r2 := blk_cell hres 2
      have r3 := blk_cell hres 3
      have r4 := blk_cell hres 4
      have r5 := blk_cell hres 5
      have r6 := blk_cell hres 6
      have r7 := blk_cell hres 7
      have r8 := blk_cell hres 8
      have r9 := blk_cell hres 9
      have r10 := blk_cell hres 10
      have r11 := blk_cell hres 11
      simp at r0 r1 r2 r3 r4 r5 r6 r7 r8 r9 r10 r11
      have hps : Hid (ps.take k = ps) := List.take_of_length_le (by have := hal.out; omega)
      have hT : Hid (t' = tt) := Lib.hid (by rw [htH.out, hps.out]; exact httH.out)
      have hfr := blk_frozen hres
      have hltr := blk_lt hres
      rw [hps.out] at hown
      rw [hT.out] at o10
      go_wp2
      refine bodyPost_ret (v := .agg #[.int .i64 x.1, .int .u32 x.2, .int .u32 v.d0, .int .u32 v.d1, .int .u32 v.d2, .int .u32 v.d3, .int .u32 v.d4, .int .u32 v.d5, .int .u32 v.d6, .int .u32 v.d7, .bool tt, .slice A' n' c']) (by simp [results, Tryz.results29, go_sem, r0, r1, r2, r3, r4, r5, r6, r7, r8, r9, r10, r11]) rfl ⟨A', n', c', rfl, ?_, ?_⟩
      · refine Ow.base (base := W.heap.size + 2) ?_ (by omega)
        (repeat (with_reducible refine Ow.setCell ?_ (by simp) _))
        exact hown
      · repeat (with_reducible refine Below.setCell ?_ (by simp; omega) _)
        exact hbw
end Go.Proofs.YtpolplmniaoikaaGreatDoor
