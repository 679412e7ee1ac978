/- The statement DotsBack, walked. -/
import Derived.Test.YthfjbbijcemmoaaWk
import Derived.Test.YthfjbbijcemmoaaPdd
import Derived.Test.YthfjbbijcemmoaaPde
import Derived.Test.YthfjbbijcemmoaaRsN
namespace Go.Proofs.Ythfjbbijcemmoaa
open Go.RowKit

theorem grI_b {n : Nat} (h : grI n = false) : n ≤ 1100 := by
  unfold grI at h
  rw [decide_eq_false_iff_not] at h
  omega
set_option maxRecDepth 100000 in
set_option maxHeartbeats 2000000 in
theorem dback_any (A : Option Addr) (n c : Nat) (xs : List Im) (l : List UInt8) (w : World) (hA : RdI w w.heap.size A n xs) (hx : ∀ x ∈ xs, x.wf) :
    Calls Try.prog 8 #[.slice A n c, .string (bs l)] w fun e w' => e = .returned (.bool true) ∧ Below w.heap.size w w' := by
  have wk := Lib.hid works_any
  have g1 := great_any A n c
  cases hga : grI n with
  | true =>
    rw [hga] at g1
    go_enter Try.func8, Try.ntmps8
    go_wp2_with fail
    refine (wk.out _).mono ?_
    rintro e w1 ⟨rfl, hb1⟩
    go_wp2_with fail
    refine (g1 _).mono ?_
    rintro e w2 ⟨rfl, rfl⟩
    go_wp2
    go_ret
    exact ⟨rfl, hb1⟩
  | false =>
    rw [hga] at g1
    have hn := grI_b hga
    clear hga
    by_cases hl1 : 1000 < l.length
    · have hd : decide ((1000 : Int) < (((bs l).size : Nat) : Int)) = true := decide_eq_true (by rw [bs_size]; omega)
      go_enter Try.func8, Try.ntmps8
      go_wp2_with fail
      refine (wk.out _).mono ?_
      rintro e w1 ⟨rfl, hb1⟩
      go_wp2_with fail
      refine (g1 _).mono ?_
      rintro e w2 ⟨rfl, rfl⟩
      go_wp2
      go_ret
      exact ⟨rfl, hb1⟩
    · have hd : decide ((1000 : Int) < (((bs l).size : Nat) : Int)) = false := decide_eq_false (by rw [bs_size]; omega)
      have ho1 := Lib.hid (fun w' (hb : Below w.heap.size w w') => own_any A n c xs w' ((hA.below hb).more hb.size) hn)
      have hm1 := Lib.hid (fun A' c' w' (h1 : RdI w' w'.heap.size A' n xs) => make_any A' n c' xs w' h1 hn hx)
      have k1 := @make_ok xs
      generalize hp : makeOut xs = p at hm1 k1
      generalize makeErr xs = e1 at hm1 k1
      have k1H := Lib.hid k1
      clear hA hx hp k1
      go_enter Try.func8, Try.ntmps8
      go_wp2_with fail
      refine (wk.out _).mono ?_
      rintro e w1 ⟨rfl, hb1⟩
      go_wp2_with fail
      refine (g1 _).mono ?_
      rintro e wx ⟨rfl, rfl⟩
      go_wp2_with fail
      refine (ho1.out _ hb1).mono ?_
      rintro e w2 ⟨A2, c2, rfl, o2, hb2⟩
      replace hb2 := hb1.trans (hb2.mono hb1.size)
      go_wp2_with fail
      refine (hm1.out A2 c2 w2 o2.rd.1).mono ?_
      rintro e w3 ⟨A3, n3, c3, rfl, r3, hb3⟩
      replace hb3 := hb2.trans (hb3.mono hb2.size)
      clear hb1 hb2 o2 hm1 ho1
      by_cases he1 : e1 = 0
      · subst he1
        obtain ⟨hp, hpl, hp64, hpw⟩ := k1H.out rfl
        rw [← hp] at hpl hp64 hpw
        have hn3 : p.length = n3 := r3.1.len
        have ho3 := own_any A3 n3 c3 p w3 r3.1 (by omega)
        have hsz : ¬ 9223372036854775807 < (bs (writeD p)).size + (bs l).size := by
          have h7 := flatW_len p
          have h5 := numB_len p.length (by omega)
          rw [bs_size, bs_size]
          unfold writeD
          rw [if_neg (by simp [hpl]), List.length_append]
          omega
        have hwlen : (writeD p).length ≤ 2000 := by
          have h7 := flatW_len p
          have h5 := numB_len p.length (by omega)
          unfold writeD
          rw [if_neg (by simp [hpl]), List.length_append]
          omega
        have hback := readD_back hpl [] l
        have hap := bs_append (writeD p) l
        have hapH := Lib.hid hap
        have hbackH := Lib.hid hback
        have hwfH := Lib.hid (stR_wf (pre := []) (post := writeD p ++ l) (by simp; omega))
        have hwf2H := Lib.hid (stR_wf (pre := [] ++ writeD p) (post := l) (by simp; omega))
        have hlerr := Lib.hid hpl
        have hpwH := Lib.hid hpw
        clear k1H hp hap hback hpl hpw hwlen
        go_wp2_with fail
        refine ho3.mono ?_
        rintro e w4 ⟨A4, c4, rfl, o4, hb4⟩
        have r4 := r3.below hb4
        have hq4 := hb3.trans (hb4.mono hb3.size)
        have hWr := dtw_any A4 n3 c4 p w4 o4.rd.1 (by omega) hpwH.out
        rw [hlerr.out] at hWr
        clear ho3 o4
        go_wp2_with fail
        refine hWr.mono ?_
        rintro e w5 ⟨rfl, hb5⟩
        have r5 := r4.below hb5
        have hq5 := hq4.trans (hb5.mono hq4.size)
        clear hWr
        go_wp2_with fail
        rw [hapH.out]
        refine (pnew_any _ _).mono ?_
        rintro e w6 ⟨rfl, hw6⟩
        have hb6 : Below w5.heap.size w5 w6 := by rw [hw6]; exact (Below.refl _ w5).alloc (Nat.le_refl _) _
        have hP6 : RdrP w6 w5.heap.size (stR [] (writeD p ++ l)) := by rw [hw6]; exact ⟨_, heap_at _ _ rfl, .inl ⟨rfl, rfl⟩⟩
        clear hw6
        have r6 := r5.below hb6
        have hq6 := hq5.trans (hb6.mono hq5.size)
        have hrd := pdread_any _ _ w6 hP6 hwfH.out
        rw [hbackH.out] at hrd
        dsimp only at hrd
        go_wp2_with fail
        refine hrd.mono ?_
        rintro e w7 ⟨A7, n7, c7, rfl, o7, hP7, hg7⟩
        have hlt5 : w5.heap.size < w6.heap.size := hP6.lt
        have hz7 := hg7.size
        have r7 : RdI w7 w7.heap.size A3 n3 p := (r5.1.keep (w' := w7) (fun b o hb => (World.cell?_of_block (a := ⟨b, o, none⟩) (hg7.block b (by omega) (by simp; omega))).trans (hb6.cell (p := ⟨b, o, none⟩) hb))).more (by omega)
        have hq7 : Below w.heap.size w w7 := hq6.grown hg7 (by have := hq6.size; omega) (by rintro g e; injection e with e; have := hq5.size; omega)
        have hSm := same_any A7 A3 n7 n3 c7 c3 p p w7 o7.rd.1 r7 (Nat.le_trans o7.rd.2.2.1 o7.rd.2.2.2) r3.2
        rw [decide_eq_true (rfl : p = p)] at hSm
        clear hrd r4 r5 r6 o7 r7
        go_wp2_with fail
        refine hSm.mono ?_
        rintro e w8 ⟨rfl, hb8⟩
        have hP8 := hP7.below hb8
        have hq8 := hq7.trans (hb8.mono hq7.size)
        have hLf := pleft_any _ _ w8 hP8 hwf2H.out
        have hlen : (stR ([] ++ writeD p) l).l.length - (stR ([] ++ writeD p) l).a = l.length := by simp [stR]
        rw [hlen] at hLf
        have hsl : (((bs l).size : Nat) : Int) = (l.length : Int) := by rw [bs_size]
        clear hSm hP7 hlen
        go_wp2_with fail
        refine hLf.mono ?_
        rintro e w9 ⟨rfl, hb9⟩
        have hP9 := hP8.below hb9
        have hq9 := hq8.trans (hb9.mono hq8.size)
        have hfe : (stR ([] ++ writeD p) l).fe = 0 := rfl
        obtain ⟨ev, hbz, hez⟩ := hP9
        obtain ⟨_, rfl⟩ := hez.resolve_right (fun h9 => absurd (by assumption) h9.1)
        have hltz := blk_lt hbz
        have z0 := blk_cell hbz 0
        have z1 := blk_cell hbz 1
        have z2 := blk_cell hbz 2
        simp at z0 z1 z2
        clear hbz hez
        go_wp2
        go_ret
        exact ⟨rfl, hq9⟩
      · have hen : (e1 != 0) = true := by simpa using he1
        clear he1
        go_wp2
        go_ret
        exact ⟨rfl, hb3⟩
end Go.Proofs.Ythfjbbijcemmoaa
