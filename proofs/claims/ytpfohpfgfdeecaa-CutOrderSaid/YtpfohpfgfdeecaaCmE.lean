/- cut.covers, cut.LE. -/
import Derived.Test.YtpfohpfgfdeecaaCmB
import Derived.Test.YtpfohpfgfdeecaaDtM
namespace Go.Proofs.Ytpfohpfgfdeecaa
open Go.RowKit

theorem get_cells9 (v : Vm) (y : Value) (k : Nat) (hk : k < 8) : (#[.int .u32 v.d0, .int .u32 v.d1, .int .u32 v.d2, .int .u32 v.d3, .int .u32 v.d4, .int .u32 v.d5, .int .u32 v.d6, .int .u32 v.d7, y] : Array Value)[k]? = some (.int .u32 (v.get k)) := by
  obtain rfl | rfl | rfl | rfl | rfl | rfl | rfl | rfl : k = 0 ∨ k = 1 ∨ k = 2 ∨ k = 3 ∨ k = 4 ∨ k = 5 ∨ k = 6 ∨ k = 7 := by omega
  all_goals rfl
theorem cnt_take {ys : List Im} {k : Nat} {x : Im} (h : ys[k]? = some x) (o s : Int) : cntI (ys.take (k + 1)) o s = cntI (ys.take k) o s + if x.1 = o ∧ x.2 ≤ s then 1 else 0 := by
  unfold cntI
  rw [List.take_add_one, h, List.countP_append]
  by_cases hh : x.1 = o ∧ x.2 ≤ s
  · rw [if_pos hh]; simp [hh.1, hh.2]
  · rw [if_neg hh]
    have : (x.1 == o && decide (x.2 ≤ s)) = false := by
      rw [Bool.eq_false_iff]
      intro h2
      rw [Bool.and_eq_true, beq_iff_eq, decide_eq_true_eq] at h2
      exact hh h2
    simp [this]
theorem cnt_len (ys : List Im) (o s : Int) : cntI ys o s ≤ ys.length := List.countP_le_length

set_option maxRecDepth 100000 in
set_option maxHeartbeats 1000000 in
theorem covers_any (v : Vm) (A : Option Addr) (n c : Nat) (xs : List Im) (o : Nat) (s : Int) (w : World) (hA : RdI w w.heap.size A n xs) (hn : n ≤ 1100) (ho : o < 8) (_hs0 : 0 ≤ s) (_hs1 : s < 4294967296) (h0 : 0 ≤ v.get o) (h1 : v.get o ≤ 1048576) :
    Calls Try.prog 16 #[.agg #[.int .u32 v.d0, .int .u32 v.d1, .int .u32 v.d2, .int .u32 v.d3, .int .u32 v.d4, .int .u32 v.d5, .int .u32 v.d6, .int .u32 v.d7, .slice A n c], .int .i64 (o : Int), .int .u32 s] w fun e w' => e = .returned (.bool (covB v xs o s)) ∧ Below w.heap.size w w' := by
  have hb0 : Below w.heap.size w (w.alloc (.cells #[.int .u32 v.d0, .int .u32 v.d1, .int .u32 v.d2, .int .u32 v.d3, .int .u32 v.d4, .int .u32 v.d5, .int .u32 v.d6, .int .u32 v.d7, .slice A n c] 30)) := (Below.refl _ w).alloc (Nat.le_refl _) _
  have hbB : (w.alloc (.cells #[.int .u32 v.d0, .int .u32 v.d1, .int .u32 v.d2, .int .u32 v.d3, .int .u32 v.d4, .int .u32 v.d5, .int .u32 v.d6, .int .u32 v.d7, .slice A n c] 30)).heap[w.heap.size]? = some (.cells #[.int .u32 v.d0, .int .u32 v.d1, .int .u32 v.d2, .int .u32 v.d3, .int .u32 v.d4, .int .u32 v.d5, .int .u32 v.d6, .int .u32 v.d7, .slice A n c] 30 (0, 0)) := heap_at _ _ rfl
  generalize hW : w.alloc (.cells #[.int .u32 v.d0, .int .u32 v.d1, .int .u32 v.d2, .int .u32 v.d3, .int .u32 v.d4, .int .u32 v.d5, .int .u32 v.d6, .int .u32 v.d7, .slice A n c] 30) = W at hb0 hbB
  have hlt := blk_lt hbB
  have hl := hA.len
  have hco : W.cell? ⟨w.heap.size, o, none⟩ = some (.int .u32 (v.get o)) := by rw [blk_cell hbB]; exact get_cells9 v _ o ho
  have hc8 := blk_cell hbB 8
  simp at hc8
  clear hbB
  have hcl := cnt_len xs o s
  rw [hl] at hcl
  generalize hr : covB v xs o s = r
  unfold covB at hr
  have hrH := Lib.hid hr
  clear hr
  generalize hz : v.get (o : Int) = z at *
  have ho8 : (o : Int) < 8 := by omega
  have ho0 : (0 : Int) ≤ (o : Int) := by omega
  go_enter Try.func16, Try.ntmps16
  go_wp2_with fail
  go_loopg [7, 17] (n + 1) (fun g b i wr => ∃ k : Nat, k ≤ n ∧ g = n + 1 - k ∧ b = .int .u32 (z + (cntI (xs.take k) o s : Int)) ∧ i = .int .i64 (k : Int) ∧ Below w.heap.size w wr)
  case atStart => exact ⟨0, Nat.zero_le _, rfl, by simp [cntI], rfl, hb0⟩
  case round =>
    clear hco hc8 hlt
    obtain ⟨k, hk, rfl, rfl, rfl, hbr⟩ := hrel
    have hz' := hbr.size
    have hck : cntI (xs.take k) o s ≤ k := Nat.le_trans (cnt_len _ _ _) (by simp; omega)
    by_cases hlk : k < n
    · obtain ⟨bA, oA, x, rfl, hbA, hp, hcp⟩ := (hA.below hbr).at_ hlk
      have p0 := hcp 0 _ rfl
      have p1 := hcp 1 _ rfl
      rw [Nat.add_zero] at p0
      clear hcp
      have hbA2 : bA < wr.heap.size := by omega
      have hst := Lib.hid (cnt_take hp o s)
      clear hp
      generalize cntI (xs.take k) o s = m at *
      obtain ⟨x1, x2⟩ := x
      dsimp only at p0 p1
      have hG : Below w.heap.size w (wr.alloc (.cells #[.int .i64 x1, .int .u32 x2] 37)) := hbr.alloc hz' _
      by_cases hx1 : x1 = (o : Int)
      · subst hx1
        by_cases hx2 : x2 ≤ s
        · have hm : Hid (z + (m : Int) + 1 = z + (cntI (xs.take (k + 1)) o s : Int)) := Lib.hid (by rw [hst.out, if_pos ⟨rfl, hx2⟩]; omega)
          clear hst
          go_wp2
          go_roundg (n + 1 - (k + 1))
          case measure => omega
          case rel => exact ⟨k + 1, by omega, rfl, by rw [← hm.out]; try go_num, by go_num, hG⟩
        · have hm : Hid (cntI (xs.take (k + 1)) o s = m) := Lib.hid (by rw [hst.out, if_neg (fun h => hx2 h.2)]; omega)
          clear hst
          go_wp2
          go_roundg (n + 1 - (k + 1))
          case measure => omega
          case rel => exact ⟨k + 1, by omega, rfl, by rw [hm.out], by go_num, hG⟩
      · have hm : Hid (cntI (xs.take (k + 1)) o s = m) := Lib.hid (by rw [hst.out, if_neg (fun h => hx1 h.1)]; omega)
        clear hst
        go_wp2
        go_roundg (n + 1 - (k + 1))
        case measure => omega
        case rel => exact ⟨k + 1, by omega, rfl, by rw [hm.out], by go_num, hG⟩
    · have hT : Hid (decide (s ≤ z + (cntI (xs.take k) o s : Int)) = r) := Lib.hid (by rw [List.take_of_length_le (by omega)]; exact hrH.out)
      clear hrH
      generalize cntI (xs.take k) o s = m at *
      go_wp2
      go_ret
      exact ⟨ret_bool hT.out, hbr⟩

set_option maxRecDepth 100000 in
set_option maxHeartbeats 1000000 in
/-- The closure of LE: is a name not known by the other cut? -/
theorem le1_pred (u : Vm) (A : Option Addr) (m d : Nat) (ys : List Im) (Bv base : Nat) (xs : List Im) (w : World) (hbB : w.heap[Bv]? = some (.cells #[.int .u32 u.d0, .int .u32 u.d1, .int .u32 u.d2, .int .u32 u.d3, .int .u32 u.d4, .int .u32 u.d5, .int .u32 u.d6, .int .u32 u.d7, .slice A m d] 30 (0, 0))) (hB : Bv < base) (hbw : base ≤ w.heap.size)
    (hA : RdI w base A m ys) (hm : m ≤ 1100) (hx : ∀ x ∈ xs, x.wf) :
    PredI 18 #[.pointer (some ⟨Bv, 0, none⟩)] (fun x => !hasC u ys x) base w xs := by
  intro x hxm w' hb
  have hv' := (hb.block _ hB).trans hbB
  have hlt : Bv < w'.heap.size := blk_lt hv'
  have q0 := blk_cell hv' 0
  have q1 := blk_cell hv' 1
  have q2 := blk_cell hv' 2
  have q3 := blk_cell hv' 3
  have q4 := blk_cell hv' 4
  have q5 := blk_cell hv' 5
  have q6 := blk_cell hv' 6
  have q7 := blk_cell hv' 7
  have q8 := blk_cell hv' 8
  simp at q0 q1 q2 q3 q4 q5 q6 q7 q8
  have hA' : RdI w' base A m ys := hA.below hb
  have hbs : base ≤ w'.heap.size := Nat.le_trans hbw hb.size
  have hh := fun w1 (h1 : Below w'.heap.size w' w1) => chas_any u A m d ys x w1 ((hA'.below (h1.mono hbs)).more (Nat.le_trans hbs h1.size)) hm (hx x hxm)
  obtain ⟨x1, x2⟩ := x
  dsimp only at hh
  generalize hcb : hasC u ys (x1, x2) = b at hh
  have hcbH := Lib.hid hcb
  clear hcb
  clear hv' hxm hb hB hbw hA hA' hbB
  have hh := Lib.hid hh
  show Calls Try.prog _ #[.agg #[.int .i64 x1, .int .u32 x2], .pointer (some ⟨Bv, 0, none⟩)] w' _
  go_enter Try.func18, Try.ntmps18
  go_wp2_with fail
  refine (hh.out _ ((Below.refl _ w').alloc (Nat.le_refl _) _)).mono ?_
  rintro e w1 ⟨rfl, hb1⟩
  have hF : Below w'.heap.size w' w1 := ((Below.refl _ w').alloc (Nat.le_refl _) _).trans (hb1.mono (by simp))
  go_wp2
  go_ret
  refine ⟨ret_bool ?_, hF⟩
  show (!b) = !hasC u ys (x1, x2)
  rw [hcbH.out]
set_option maxRecDepth 100000 in
theorem contf_gen (g : Nat) (lb : Array Value) (p : Im → Bool) (eg : ∀ args w, (callFunc g args).run Try.prog w = .ok (.enter g args) w) (B : Nat) (A : Option Addr) (n c : Nat) (xs : List Im) (w : World) (hA : RdI w w.heap.size A n xs) (hn : n ≤ maxLen) (hp : PredI g lb p B w xs) (hB : B ≤ w.heap.size) :
    Calls Try.prog 17 #[.slice A n c, .func (.func g) #[] lb] w
      fun e w' => e = .returned (.bool (xs.any p)) ∧ Below w.heap.size w w' := by
  have h1 := ixf_gen g lb p eg B A n c xs w hA hn hp hB
  have h2 := firstI_any p xs
  generalize xs.any p = b at *
  generalize firstI p xs = z at *
  have h2 := Lib.hid h2
  go_enter Try.func17, Try.ntmps17
  go_wp2_with fail
  refine h1.mono ?_
  rintro e w1 ⟨rfl, hb1⟩
  go_wp2
  go_ret
  first
    | exact ⟨rfl, hb1⟩
    | exact ⟨ret_bool h2.out, hb1⟩

set_option maxRecDepth 100000 in
set_option maxHeartbeats 1000000 in
theorem cle_any (v u : Vm) (A B : Option Addr) (n m c d : Nat) (xs ys : List Im) (w : World) (hA : RdI w w.heap.size A n xs) (hB : RdI w w.heap.size B m ys) (hn : n ≤ 1100) (hm : m ≤ 1100) (hv : v.wf) (hu : u.wf) (hx : ∀ x ∈ xs, x.wf) (hy : ∀ x ∈ ys, x.wf) :
    Calls Try.prog 7 #[.agg #[.int .u32 v.d0, .int .u32 v.d1, .int .u32 v.d2, .int .u32 v.d3, .int .u32 v.d4, .int .u32 v.d5, .int .u32 v.d6, .int .u32 v.d7, .slice A n c], .agg #[.int .u32 u.d0, .int .u32 u.d1, .int .u32 u.d2, .int .u32 u.d3, .int .u32 u.d4, .int .u32 u.d5, .int .u32 u.d6, .int .u32 u.d7, .slice B m d]] w fun e w' => ∃ r : Bool, e = .returned (.bool r) ∧ (r = true ↔ leC v xs u ys) ∧ Below w.heap.size w w' := by
  have hb0 : Below w.heap.size w ((w.alloc (.cells #[.int .u32 v.d0, .int .u32 v.d1, .int .u32 v.d2, .int .u32 v.d3, .int .u32 v.d4, .int .u32 v.d5, .int .u32 v.d6, .int .u32 v.d7, .slice A n c] 30)).alloc (.cells #[.int .u32 u.d0, .int .u32 u.d1, .int .u32 u.d2, .int .u32 u.d3, .int .u32 u.d4, .int .u32 u.d5, .int .u32 u.d6, .int .u32 u.d7, .slice B m d] 30)) := ((Below.refl _ w).alloc (Nat.le_refl _) _).alloc (by simp) _
  have hbA : ((w.alloc (.cells #[.int .u32 v.d0, .int .u32 v.d1, .int .u32 v.d2, .int .u32 v.d3, .int .u32 v.d4, .int .u32 v.d5, .int .u32 v.d6, .int .u32 v.d7, .slice A n c] 30)).alloc (.cells #[.int .u32 u.d0, .int .u32 u.d1, .int .u32 u.d2, .int .u32 u.d3, .int .u32 u.d4, .int .u32 u.d5, .int .u32 u.d6, .int .u32 u.d7, .slice B m d] 30)).heap[w.heap.size]? = some (.cells #[.int .u32 v.d0, .int .u32 v.d1, .int .u32 v.d2, .int .u32 v.d3, .int .u32 v.d4, .int .u32 v.d5, .int .u32 v.d6, .int .u32 v.d7, .slice A n c] 30 (0, 0)) := heap_old _ (by simp) (heap_at _ _ rfl)
  have hbB : ((w.alloc (.cells #[.int .u32 v.d0, .int .u32 v.d1, .int .u32 v.d2, .int .u32 v.d3, .int .u32 v.d4, .int .u32 v.d5, .int .u32 v.d6, .int .u32 v.d7, .slice A n c] 30)).alloc (.cells #[.int .u32 u.d0, .int .u32 u.d1, .int .u32 u.d2, .int .u32 u.d3, .int .u32 u.d4, .int .u32 u.d5, .int .u32 u.d6, .int .u32 u.d7, .slice B m d] 30)).heap[w.heap.size + 1]? = some (.cells #[.int .u32 u.d0, .int .u32 u.d1, .int .u32 u.d2, .int .u32 u.d3, .int .u32 u.d4, .int .u32 u.d5, .int .u32 u.d6, .int .u32 u.d7, .slice B m d] 30 (0, 0)) := heap_at _ _ (by simp)
  generalize hW : ((w.alloc (.cells #[.int .u32 v.d0, .int .u32 v.d1, .int .u32 v.d2, .int .u32 v.d3, .int .u32 v.d4, .int .u32 v.d5, .int .u32 v.d6, .int .u32 v.d7, .slice A n c] 30)).alloc (.cells #[.int .u32 u.d0, .int .u32 u.d1, .int .u32 u.d2, .int .u32 u.d3, .int .u32 u.d4, .int .u32 u.d5, .int .u32 u.d6, .int .u32 u.d7, .slice B m d] 30)) = W at hb0 hbA hbB
  have hltA := blk_lt hbA
  have hltB := blk_lt hbB
  have hAk := Lib.hid hbA
  have hBk := Lib.hid hbB
  have c1 := ccheck_any v A n c xs W ((hA.below hb0).more hb0.size) hn hv hx
  have c2 := fun w1 (hb : Below w.heap.size w w1) => ccheck_any u B m d ys w1 ((hB.below hb).more hb.size) hm hu hy
  have q0 := blk_cell hbA 0
  have q1 := blk_cell hbA 1
  have q2 := blk_cell hbA 2
  have q3 := blk_cell hbA 3
  have q4 := blk_cell hbA 4
  have q5 := blk_cell hbA 5
  have q6 := blk_cell hbA 6
  have q7 := blk_cell hbA 7
  have q8 := blk_cell hbA 8
  simp at q0 q1 q2 q3 q4 q5 q6 q7 q8
  clear hbA
  by_cases hp : cutErr v xs = 0
  · rw [hp] at c1
    have c1 := Lib.hid c1
    by_cases hq : cutErr u ys = 0
    · rw [hq] at c2
      have c2 := Lib.hid c2
      obtain ⟨hv1, _, _⟩ := cut_ok.1 hp
      obtain ⟨hu1, _, _⟩ := cut_ok.1 hq
      have hiff := Lib.hid (leC_cov hp hq hu)
      have hgv : ∀ k : Nat, 0 ≤ v.get k ∧ v.get k < 4294967296 := fun k => ⟨get_nn hv _, by have := vchk_get hv1 (k : Int); omega⟩
      have cC := Lib.hid (fun (k : Nat) (hk : k < 8) w1 (hb : Below w.heap.size w w1) => covers_any u B m d ys k (v.get k) w1 ((hB.below hb).more hb.size) hm hk (hgv k).1 (hgv k).2 (get_nn hu _) (vchk_get hu1 _))
      have hixH := Lib.hid (fun k hk => ix_vec v k hk)
      clear hp hq hv1 hu1
      go_enter Try.func7, Try.ntmps7
      go_wp2_with fail
      refine c1.out.mono ?_
      rintro e w1 ⟨rfl, hb1⟩
      have hG1 := hb0.trans (hb1.mono hb0.size)
      have hbB1 := blk_below hBk.out hb1
      have hltB1 := blk_lt hbB1
      have s0 := blk_cell hbB1 0
      have s1 := blk_cell hbB1 1
      have s2 := blk_cell hbB1 2
      have s3 := blk_cell hbB1 3
      have s4 := blk_cell hbB1 4
      have s5 := blk_cell hbB1 5
      have s6 := blk_cell hbB1 6
      have s7 := blk_cell hbB1 7
      have s8 := blk_cell hbB1 8
      simp at s0 s1 s2 s3 s4 s5 s6 s7 s8
      go_wp2_with fail
      refine (c2.out _ hG1).mono ?_
      rintro e w2 ⟨rfl, hb2⟩
      clear q0 q1 q2 q3 q4 q5 q6 q7 q8 s0 s1 s2 s3 s4 s5 s6 s7 s8
      have hG2 := hG1.trans (hb2.mono hG1.size)
      have hbW2 : Below W.heap.size W w2 := hb1.trans (hb2.mono hb1.size)
      have hbA2 := blk_below hAk.out hbW2
      have hltA2 := blk_lt hbA2
      have q0 := blk_cell hbA2 0
      have q1 := blk_cell hbA2 1
      have q2 := blk_cell hbA2 2
      have q3 := blk_cell hbA2 3
      have q4 := blk_cell hbA2 4
      have q5 := blk_cell hbA2 5
      have q6 := blk_cell hbA2 6
      have q7 := blk_cell hbA2 7
      have q8 := blk_cell hbA2 8
      simp at q0 q1 q2 q3 q4 q5 q6 q7 q8
      clear hbA2 hbB1 hltB1
      go_wp2_with fail
      go_loopg [17] 9 (fun g i wr => ∃ k : Nat, k ≤ 8 ∧ g = 9 - k ∧ i = .int .i64 (k : Int) ∧ (∀ j : Nat, j < k → covB u ys j (v.get j) = true) ∧ Below W.heap.size W wr)
      case atStart => exact ⟨0, by omega, rfl, rfl, fun j hj => absurd hj (Nat.not_lt_zero _), hbW2⟩
      case round =>
        clear q0 q1 q2 q3 q4 q5 q6 q7 q8 hltA2 hb1 hb2 hbW2 hG1 hG2
        obtain ⟨k, hk, rfl, rfl, hall, hbr⟩ := hrel
        have hGr := hb0.trans (hbr.mono hb0.size)
        have hbBr := blk_below hBk.out hbr
        have hltBr := blk_lt hbBr
        have hbAr := blk_below hAk.out hbr
        have hltAr := blk_lt hbAr
        by_cases hlk : k < 8
        · have hix := hixH.out k hlk
          have hallH := Lib.hid hall
          have hcC := Lib.hid (cC.out k hlk wr hGr)
          generalize hvk : v.get (k : Int) = z at *
          have s0 := blk_cell hbBr 0
          have s1 := blk_cell hbBr 1
          have s2 := blk_cell hbBr 2
          have s3 := blk_cell hbBr 3
          have s4 := blk_cell hbBr 4
          have s5 := blk_cell hbBr 5
          have s6 := blk_cell hbBr 6
          have s7 := blk_cell hbBr 7
          have s8 := blk_cell hbBr 8
          simp at s0 s1 s2 s3 s4 s5 s6 s7 s8
          clear hall hbBr hbAr hltAr
          go_wp2_with fail
          refine hcC.out.mono ?_
          rintro e w3 ⟨rfl, hb3⟩
          have hbr3 := hbr.trans (hb3.mono hbr.size)
          have hGr3 := hGr.trans (hb3.mono hGr.size)
          generalize hcb : covB u ys (k : Int) z = cb
          cases cb with
          | true =>
            have hcbH := Lib.hid hcb
            clear hcb
            go_wp2
            go_roundg (9 - (k + 1))
            case measure => omega
            case rel =>
              refine ⟨k + 1, by omega, rfl, by go_num, fun j hj => ?_, hbr3⟩
              rcases Nat.lt_or_ge j k with h | h
              · exact hallH.out j h
              · obtain rfl : j = k := by omega
                rw [hvk]; exact hcbH.out
          | false =>
            have hno : Hid (¬ leC v xs u ys) := Lib.hid (fun hle => by
              have := (hiff.out.1 hle).1 k hlk
              rw [hvk, hcb] at this
              exact absurd this (by decide))
            clear hcb
            go_wp2
            go_ret
            exact ⟨false, rfl, ⟨fun h => absurd h (by decide), fun h => absurd h hno.out⟩, hGr3⟩
        · obtain rfl : k = 8 := by omega
          have hiff2 : Hid ((!xs.any fun x => !hasC u ys x) = true ↔ leC v xs u ys) := Lib.hid (by
            rw [hiff.out]
            constructor
            · intro h
              refine ⟨fun j hj => hall j hj, fun x hx => ?_⟩
              have h2 : (xs.any fun x => !hasC u ys x) = false := by simpa using h
              have := List.any_eq_false.1 h2 x hx
              simpa using this
            · rintro ⟨_, h⟩
              have h2 : (xs.any fun x => !hasC u ys x) = false := by
                rw [List.any_eq_false]
                intro x hx
                rw [h x hx]; decide
              rw [h2]; rfl)
          have hcf := contf_gen 18 #[.pointer (some ⟨w.heap.size + 1, 0, none⟩)] (fun x => !hasC u ys x) (enters_of Try.func18 (by kernel_rfl) rfl) wr.heap.size A n c xs wr ((hA.below hGr).more hGr.size) (by simp [maxLen]; omega)
            (le1_pred u B m d ys _ _ xs wr hbBr hltBr (Nat.le_refl _) ((hB.below hGr).more hGr.size) hm hx) (Nat.le_refl _)
          generalize xs.any (fun x => !hasC u ys x) = ab at *
          have hcf := Lib.hid hcf
          have q0 := blk_cell hbAr 0
          have q1 := blk_cell hbAr 1
          have q2 := blk_cell hbAr 2
          have q3 := blk_cell hbAr 3
          have q4 := blk_cell hbAr 4
          have q5 := blk_cell hbAr 5
          have q6 := blk_cell hbAr 6
          have q7 := blk_cell hbAr 7
          have q8 := blk_cell hbAr 8
          simp at q0 q1 q2 q3 q4 q5 q6 q7 q8
          clear hall hbBr hbAr
          go_wp2_with fail
          refine hcf.out.mono ?_
          rintro e w3 ⟨rfl, hb3⟩
          have hGr3 := hGr.trans (hb3.mono hGr.size)
          go_wp2
          go_ret
          exact ⟨_, rfl, hiff2.out, hGr3⟩
    · have hno : ¬ leC v xs u ys := fun h => hq h.2.1
      generalize cutErr u ys = p at c2 hq
      have hqn : (p != 0) = true := by simpa using hq
      have c2 := Lib.hid c2
      go_enter Try.func7, Try.ntmps7
      go_wp2_with fail
      refine c1.out.mono ?_
      rintro e w1 ⟨rfl, hb1⟩
      have hG1 := hb0.trans (hb1.mono hb0.size)
      have hbB1 := blk_below hBk.out hb1
      have hltB1 := blk_lt hbB1
      have s0 := blk_cell hbB1 0
      have s1 := blk_cell hbB1 1
      have s2 := blk_cell hbB1 2
      have s3 := blk_cell hbB1 3
      have s4 := blk_cell hbB1 4
      have s5 := blk_cell hbB1 5
      have s6 := blk_cell hbB1 6
      have s7 := blk_cell hbB1 7
      have s8 := blk_cell hbB1 8
      simp at s0 s1 s2 s3 s4 s5 s6 s7 s8
      go_wp2_with fail
      refine (c2.out _ hG1).mono ?_
      rintro e w2 ⟨rfl, hb2⟩
      have hG2 := hG1.trans (hb2.mono hG1.size)
      go_wp2
      go_ret
      exact ⟨false, rfl, ⟨fun h => absurd h (by decide), fun h => absurd h hno⟩, hG2⟩
  · have hno : ¬ leC v xs u ys := fun h => hp h.1
    generalize cutErr v xs = p at c1 hp
    have hqn : (p != 0) = true := by simpa using hp
    have c1 := Lib.hid c1
    go_enter Try.func7, Try.ntmps7
    go_wp2_with fail
    refine c1.out.mono ?_
    rintro e w1 ⟨rfl, hb1⟩
    have hG1 := hb0.trans (hb1.mono hb0.size)
    go_wp2
    go_ret
    exact ⟨false, rfl, ⟨fun h => absurd h (by decide), fun h => absurd h hno⟩, hG1⟩
end Go.Proofs.Ytpfohpfgfdeecaa
