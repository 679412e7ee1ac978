/- Elems of sets, both: all elements, in order, each once. -/
import Derived.Test.YtadldndmmobpdaaOtA
import Derived.Test.YtadldndmmobpdaaStr
namespace Go.Proofs.Ytadldndmmobpdaa
open Go.RowKit

def elemsO (xs : List Am) (gs : List Tm) : List (List UInt8) := if oErr xs gs ≠ 0 then [] else (xs.map Prod.snd).foldl insS []
set_option maxRecDepth 100000 in
set_option maxHeartbeats 2000000 in
theorem oelems_any (A : Option Addr) (n c : Nat) (xs : List Am) (B : Option Addr) (m d : Nat) (gs : List Tm) (w : World) (hA : RdA w w.heap.size A n xs) (hB : RdT w w.heap.size B m gs) (hn : n ≤ 100000) (hm : m ≤ 100000) (hx : ∀ a ∈ xs, a.wf) (hg : ∀ t ∈ gs, t.wf) (hl : ∀ a ∈ xs, a.2.length ≤ maxLen) :
    Calls Try.prog 22 #[.agg #[.slice A n c, .slice B m d]] w fun r w' => ∃ T t c', r = .returned (.slice T t c') ∧ Ow w' w.heap.size 9 1 (.slice T t c') ((elemsO xs gs).map encS) ∧ Below w.heap.size w w' := by
  have hb0 : Below w.heap.size w (w.alloc (.cells #[.slice A n c, .slice B m d] 32)) := (Below.refl _ w).alloc (Nat.le_refl _) _
  have hbx : (w.alloc (.cells #[.slice A n c, .slice B m d] 32)).heap[w.heap.size]? = some (.cells #[.slice A n c, .slice B m d] 32 (0, 0)) := heap_at _ _ rfl
  generalize hW : w.alloc (.cells #[.slice A n c, .slice B m d] 32) = W at hb0 hbx
  have hbxH := Lib.hid hbx
  have hltx := blk_lt hbx
  have s0 := blk_cell hbx 0
  have s1 := blk_cell hbx 1
  simp at s0 s1
  have hnl := Lib.hid hA.len
  have hck := Lib.hid (ocheck_any A n c xs B m d gs W ((hA.below hb0).more hb0.size) ((hB.below hb0).more hb0.size) (by first | omega | (simp [maxLen]; omega)) (by first | omega | (simp [maxLen]; omega)) hx hg hl)
  have hAr := Lib.hid (fun w' (h : Below w.heap.size w w') => hA.below h)
  generalize hr : elemsO xs gs = out
  unfold elemsO at hr
  generalize hpe : oErr xs gs = p at hck hr
  by_cases hp : p = 0
  case neg =>
    rw [if_pos hp] at hr
    subst hr
    have hpn : (p != 0) = true := by simpa using hp
    clear hpe hp hbx hA hB
    go_enter Try.func22, Try.ntmps22
    go_wp2_with fail
    refine hck.out.mono ?_
    rintro e w1 ⟨rfl, hv1⟩
    have hG := hb0.trans (hv1.mono hb0.size)
    go_wp2
    go_ret
    exact ⟨none, 0, 0, rfl, Ow.nil_ _ _ _ _, hG⟩
  subst hp
  rw [if_neg (by simp)] at hr
  have hrH := Lib.hid hr
  have hzW := hb0.size
  clear hpe hr hbx hA hB hx hg hl
  go_enter Try.func22, Try.ntmps22
  go_wp2_with fail
  refine hck.out.mono ?_
  rintro e' w1 ⟨rfl, hv1⟩
  have hs1 := blk_below hbxH.out hv1
  clear s0 s1
  have hltx := blk_lt hs1
  have s0 := blk_cell hs1 0
  have s1 := blk_cell hs1 1
  simp at s0 s1
  clear hck
  go_wp2_with fail
  clear s0 s1 hltx hs1
  go_loopg [3, 12] (n + 1) (fun g o i wr => ∃ (k : Nat) (T : Option Addr) (c' : Nat), k ≤ n ∧ g = n + 1 - k ∧ i = .int .i64 (k : Int) ∧ o = .slice T k c' ∧ Ow wr W.heap.size 9 1 (.slice T k c') (((xs.take k).map Prod.snd).map encS) ∧ Below W.heap.size W wr)
  case atStart => exact ⟨0, none, 0, Nat.zero_le _, rfl, rfl, rfl, Ow.nil_ _ _ _ _, hv1⟩
  case round =>
    clear hv1
    obtain ⟨k, T, c', hk, rfl, rfl, rfl, hown, hbr⟩ := hrel
    have hz := hbr.size
    have hGw := hb0.trans (hbr.mono hzW)
    have hsr := blk_below hbxH.out hbr
    have hltx := blk_lt hsr
    have s0 := blk_cell hsr 0
    have s1 := blk_cell hsr 1
    simp at s0 s1
    by_cases hlt : k < n
    · obtain ⟨bA, oA, u, rfl, hbA, hq, hcp⟩ := (hAr.out wr hGw).at_ hlt
      have p0 := hcp 0 _ rfl
      have p1 := hcp 1 _ rfl
      have p2 := hcp 2 _ rfl
      have p3 := hcp 3 _ rfl
      rw [Nat.add_zero] at p0
      clear hcp hsr
      have hlti : (k : Int) < (n : Int) := by omega
      have hbA2 : bA < wr.heap.size := by omega
      have hst : Hid (((xs.take (k + 1)).map Prod.snd).map encS = ((xs.take k).map Prod.snd).map encS ++ [[.string (bs u.2)]]) := Lib.hid (by rw [List.take_add_one, hq]; simp [encS])
      have hlk : Hid ((((xs.take k).map Prod.snd).map encS).length = k) := Lib.hid (by simp; have := hnl.out; omega)
      clear hq
      have hbO : Below wr.heap.size wr ((wr.alloc (.cells #[.int .i64 u.1.1.1, .int .u32 u.1.1.2, .int .i64 u.1.2, .string (bs u.2)] 83)).alloc (.cells #[.string (bs u.2)] 9)) := ((Below.refl _ wr).alloc (Nat.le_refl _) _).alloc (by simp) _
      have hlen1 : ∀ y ∈ ([[.string (bs u.2)]] : List (List Value)), y.length = 1 := by simp
      have hone1 : ∀ y ∈ ([[.string (bs u.2)]] : List (List Value)), ∀ v ∈ y, v.oneCell' = true := by simp [Value.oneCell']
      go_wp2_with (at_builtin; refine wpList_append_rd _ rfl _ _ _ rfl eStr (base := W.heap.size) (v := .slice T k c') (xs := ((xs.take k).map Prod.snd).map encS) rfl (hown.below hbO) rfl (Rd.one' [.string (bs u.2)] (by simp)) hlen1 hone1 (by rw [hlk.out]; unfold maxLen; omega) (by rw [hlk.out]; omega) (by simp; omega) ?_; intro A2 n2 c2 w4 hn2 hown4 hg4 hat4; (obtain rfl : n2 = k + 1 := (by rw [hn2, hlk.out])); clear hn2)
      have hG : Below W.heap.size W w4 := ((hbr.alloc hz _).alloc (by simp; omega) _).grown hg4 (by simp; omega) (fun g e => (hown.block g e).1)
      go_roundg (n + 1 - (k + 1))
      case measure => omega
      case rel => exact ⟨k + 1, A2, c2, by omega, rfl, by go_num, rfl, by rw [hst.out]; exact hown4, hG⟩
    · obtain rfl : k = n := by omega
      have hnli : ¬ (k : Int) < (k : Int) := by omega
      rw [List.take_of_length_le (by have := hnl.out; omega)] at hown
      have cs := Lib.hid (sortS_any W.heap.size T k c' (xs.map Prod.snd) wr hown (by omega))
      have hbk := hown.block
      clear hsr s0 s1 hltx
      go_wp2_with fail
      refine cs.out.mono ?_
      rintro e w2 ⟨rfl, ho2, hg2⟩
      have cc := Lib.hid (compactS_any W.heap.size T k c' (sortS (xs.map Prod.snd)) w2 ho2 (by omega))
      go_wp2_with fail
      refine cc.out.mono ?_
      rintro e w3 ⟨n3, rfl, ho3, hg3⟩
      have hT : Hid (Lib.compact (sortS (xs.map Prod.snd)) = out) := Lib.hid (by rw [sorted_ins]; exact hrH.out)
      rw [hT.out] at ho3
      have hG2 : Below W.heap.size W w2 := hbr.grown hg2 hz (fun g e => (hbk g e).1)
      have hG3 : Below W.heap.size W w3 := hG2.grown hg3 hG2.size (fun g e => (hbk g e).1)
      go_wp2
      go_ret
      exact ⟨T, n3, c', rfl, ho3.base hzW, hb0.trans (hG3.mono hzW)⟩
end Go.Proofs.Ytadldndmmobpdaa
