/- Tags' and texts' bytes: WriteTag and Text, both. Bytes of stamps and of numbers with a sign: both. Effects' bytes: obj.Write. -/
import Derived.Test.YtfhandglpjnonaaGreatDoorN06
import Derived.Lib.Zigzag
import Derived.Test.YtfhandglpjnonaaGreatDoorN29
import Derived.Test.YtfhandglpjnonaaGreatDoorM47
set_option maxRecDepth 100000
set_option maxHeartbeats 16000000
namespace Go.Proofs.YtfhandglpjnonaaGreatDoor
open Go.RowKit
theorem pwtag_any (t : Tm) (ht : t.wf) (w : World) :
 Calls Tryz.prog 126 #[.agg #[.int .i64 t.1.1, .int .u32 t.1.2, .int .i64 t.2]] w fun e w' => e = .returned (.string (bs (writeT t))) ∧ Below w.heap.size w w' := by
 have hch := pchkt_any t ht
 have hwl := writeI_len t.1
 generalize hr : writeT t = out
 unfold writeT at hr
 have hB0 : Below w.heap.size w (w.alloc (.cells #[.int .i64 t.1.1, .int .u32 t.1.2, .int .i64 t.2] 131)) := (Below.refl _ w).alloc (Nat.le_refl _) _
 have hbx := tbox t w
 generalize hW : w.alloc (.cells #[.int .i64 t.1.1, .int .u32 t.1.2, .int .i64 t.2] 131) = W at hB0 hbx
 have hltx := jB hbx
 have p0 := jA hbx 0
 have p1 := jA hbx 1
 have p2 := jA hbx 2
 simp at p0 p1 p2
 cases hc : chkT t
 ·
  rw [hc] at hr hch
  rw [show errI false = 2 from rfl] at hch
  rw [if_neg (by simp)] at hr
  subst hr
  have hch := jH hch
  clear hc hbx
  go_enter Tryz.func126, Tryz.ntmps126
  go_wp2_with fail
  refine (hch.out _).mono ?_
  rintro e w1 ⟨rfl, hb⟩
  have hB : Below w.heap.size w w1 := hB0.trans (hb.mono hB0.size)
  go_wp2
  go_ret
  exact ⟨rfl, hB⟩
 ·
  rw [hc] at hr hch
  rw [show errI true = 0 from rfl] at hch
  rw [if_pos rfl] at hr
  have hch := jH hch
  obtain ⟨x, n⟩ := t
  dsimp only at hwl
  simp only [chkT, Bool.and_eq_true, decide_eq_true_eq] at hc
  obtain ⟨h1, h2, h3⟩ := hc
  obtain ⟨k, rfl⟩ : ∃ k : Nat, n = (k : Int) := ⟨n.toNat, by omega⟩
  have hk0 : (0 : Int) ≤ (k : Int) := by omega
  have hk8 : (k : Int) ≤ 15 := by omega
  simp only [Int.toNat_natCast] at hr
  have hT : Hid (bs (writeI x) ++ bs (numB k) = bs out) := jH (by rw [jM, hr])
  have hsz : ¬ 9223372036854775807 < (bs (writeI x)).size + (bs (numB k)).size := by
   have h5 := jN k (by omega)
   rw [jG, jG]; omega
  have ck := jH (fun w => num_any k (by omega) w)
  have wk : IntKind.u64.wrap (k : Int) = k := IntWalk.u64_in _ (by omega)
  have cx := jH (fun w => idw_any x ht w)
  have hbxH := jH hbx
  clear hr h1 h2 h3 hbx
  dsimp only at p0 p1 p2 hch hW
  go_enter Tryz.func126, Tryz.ntmps126
  go_wp2_with fail
  refine (hch.out _).mono ?_
  rintro e w1 ⟨rfl, hb⟩
  have hB : Below w.heap.size w w1 := hB0.trans (hb.mono hB0.size)
  have hbx1 := jD hbxH.out hb
  have hlt1 := jB hbx1
  clear p0 p1 p2
  have p0 := jA hbx1 0
  have p1 := jA hbx1 1
  have p2 := jA hbx1 2
  simp at p0 p1 p2
  clear hbx1 hb
  have hq0 : KQ w1.heap.size w1 w1 := kq (Below.refl _ _)
  go_wp2_with fail
  go_region_held3 (fun w' => KQ w1.heap.size w1 w') (first
   | with_reducible exact jP (by assumption) (by simp) (by assumption)
   | with_reducible exact yB (by assumption) (by simp) (by assumption) (by simp [Value.ownBlock])
   | ((with_reducible refine kq ?_); (repeat (first | (with_reducible exact Below.refl _ _) | (with_reducible refine Below.drew ?_) | (with_reducible refine Below.alloc ?_ (by simp) _) | (with_reducible refine Below.setCell ?_ (by simp) _) | (with_reducible exact (by assumption : KQ _ _ _).1))); done))
   (first
    | (go_at_call 93; ((with_reducible refine (ck.out _).mono ?_); rintro e w2 ⟨rfl, hb2⟩))
    | (go_at_call 50; ((with_reducible refine (cx.out _).mono ?_); rintro e w3 ⟨rfl, hb3⟩)))
  all_goals
   go_wp2
   go_ret
   exact ⟨ret_str hT.out, hB.trans ((by with_reducible assumption : KQ w1.heap.size w1 _).1.mono hB.size)⟩
theorem pwtext_any (s : List UInt8) (hs : s.length ≤ 1099511627776) (w : World) :
 Calls Tryz.prog 98 #[.string (bs s)] w fun e w' => e = .returned (.string (bs (textB s))) ∧ Below w.heap.size w w' := by
 have hT : Hid (bs (numB s.length) ++ bs s = bs (textB s)) := jH (by rw [jM]; rfl)
 have hsz : ¬ 9223372036854775807 < (bs (numB s.length)).size + (bs s).size := by
  have h5 := jN s.length (by omega)
  rw [jG, jG]; omega
 have ck := jH (fun w => num_any s.length (by omega) w)
 have wk : IntKind.u64.wrap (((bs s).size : Nat) : Int) = (s.length : Int) := by rw [jG]; exact IntWalk.u64_in _ (by omega)
 go_enter Tryz.func98, Tryz.ntmps98
 go_wp2_with fail
 refine (ck.out _).mono ?_
 rintro e w1 ⟨rfl, hb⟩
 go_wp2
 go_ret
 exact ⟨ret_str hT.out, hb⟩
theorem zig_pos {v : Int} (h0 : 0 ≤ v) (h2 : v ≤ 9223372036854775807) : bits .xor .u64 (v * 2) (v / 9223372036854775808) = ((zig v : Nat) : Int) := by
 rw [show v / 9223372036854775808 = 0 by omega, u64_xor _ _ (by omega) (by omega) (by decide) (by decide), show (0 : Int).toNat = 0 from rfl, Nat.xor_zero]
 unfold zig
 rw [if_pos h0]; omega
theorem zig_neg {v : Int} (h1 : -9223372036854775808 ≤ v) (h0 : v < 0) : bits .xor .u64 (IntKind.u64.wrap (IntKind.u64.wrap v * 2)) (IntKind.u64.wrap (v / 9223372036854775808)) = ((zig v : Nat) : Int) := by
 have e1 : IntKind.u64.wrap (IntKind.u64.wrap v * 2) = (((2 * v + 18446744073709551616).toNat : Nat) : Int) := by
  rw [IntKind.wrap_u64, IntKind.wrap_u64]; omega
 have e2 : IntKind.u64.wrap (v / 9223372036854775808) = ((2 ^ 64 - 1 : Nat) : Int) := by
  rw [IntKind.wrap_u64]; omega
 rw [e1, e2, bits_xor_u64_nat _ _ (by omega) (by decide), Nat.xor_comm, Lib.xor_ones64 _ (by omega)]
 unfold zig
 rw [if_neg (by omega)]; omega
theorem xor_zero64 {n : Int} (h0 : 0 ≤ n) (h1 : n < 9223372036854775808) : bits .xor .i64 n 0 = n := by
 show IntKind.i64.wrap ((BitVec.ofInt 64 n ^^^ BitVec.ofInt 64 0).toNat : Int) = n
 obtain ⟨k, rfl⟩ := Int.eq_ofNat_of_zero_le h0
 have h2 : (BitVec.ofInt 64 ((k : Nat) : Int)).toNat = k := by
  rw [BitVec.ofInt_natCast, BitVec.toNat_ofNat]; exact Nat.mod_eq_of_lt (by omega)
 rw [BitVec.toNat_xor, h2, show (BitVec.ofInt 64 0).toNat = 0 from rfl, Nat.xor_zero]
 exact IntWalk.i64_in _ (by omega)
theorem xor_ones_i64 {n : Int} (h0 : 0 ≤ n) (h1 : n < 9223372036854775808) : bits .xor .i64 n (-1) = -n - 1 := by
 show IntKind.i64.wrap ((BitVec.ofInt 64 n ^^^ BitVec.ofInt 64 (-1)).toNat : Int) = _
 obtain ⟨k, rfl⟩ := Int.eq_ofNat_of_zero_le h0
 have h := Lib.i64_not k (by omega)
 have h' : IntKind.i64.wrap ((BitVec.ofInt 64 (-1) ^^^ BitVec.ofInt 64 (k : Int)).toNat : Int) = -(k : Int) - 1 := h
 rw [BitVec.toNat_xor, Nat.xor_comm, ← BitVec.toNat_xor]
 exact h'
theorem plw_any (x : Sm) (hx : x.wf) (w : World) :
 Calls Tryz.prog 128 #[.agg #[.int .u32 x.1, .int .i64 x.2]] w fun e w' => e = .returned (.string (bs (writeS x))) ∧ Below w.heap.size w w' := by
 have hch := plchk_any x hx
 generalize hr : writeS x = out
 unfold writeS at hr
 cases hc : chkS x
 ·
  rw [hc] at hr hch
  rw [show errI false = 2 from rfl] at hch
  rw [if_neg (by simp)] at hr
  subst hr
  have hch := jH hch
  clear hc
  obtain ⟨o, s⟩ := x
  go_enter Tryz.func128, Tryz.ntmps128
  go_wp2_with fail
  refine (hch.out _).mono ?_
  rintro e w1 ⟨rfl, hb⟩
  have hB : Below w.heap.size w w1 := ((Below.refl _ w).alloc (Nat.le_refl _) _).trans (hb.mono (by simp))
  go_wp2
  go_ret
  exact ⟨rfl, hB⟩
 ·
  rw [hc] at hr hch
  rw [show errI true = 0 from rfl] at hch
  rw [if_pos rfl] at hr
  have hch := jH hch
  obtain ⟨o, s⟩ := x
  simp only [chkS, decide_eq_true_eq] at hc
  obtain ⟨h1, h2, h3⟩ := hc
  have h0 := hx.1
  dsimp only at h0
  obtain ⟨k, rfl⟩ : ∃ k : Nat, o = (k : Int) := ⟨o.toNat, by omega⟩
  obtain ⟨m, rfl⟩ : ∃ m : Nat, s = (m : Int) := ⟨s.toNat, by omega⟩
  have hk0 : (0 : Int) ≤ (k : Int) := by omega
  have hk1 : (k : Int) ≤ 1048576 := by omega
  have hm0 : (0 : Int) ≤ (m : Int) := by omega
  have hm8 : (m : Int) ≤ 7 := by omega
  simp only [Int.toNat_natCast] at hr
  have hT : Hid (bs (numB k) ++ bs (numB m) = bs out) := jH (by rw [jM, hr])
  have hsz : ¬ 9223372036854775807 < (bs (numB k)).size + (bs (numB m)).size := by
   have h5 := jN k (by omega)
   have h6 := jN m (by omega)
   rw [jG, jG]; omega
  have ck := jH (fun w => num_any k (by omega) w)
  have wk : IntKind.u64.wrap (k : Int) = k := IntWalk.u64_in _ (by omega)
  have wm : IntKind.u64.wrap (m : Int) = m := IntWalk.u64_in _ (by omega)
  have cm := jH (fun w => num_any m (by omega) w)
  clear hr hx h0 h1 h2 h3
  go_enter Tryz.func128, Tryz.ntmps128
  go_wp2_with fail
  refine (hch.out _).mono ?_
  rintro e w1 ⟨rfl, hb⟩
  have hz := hb.size
  simp only [World.size_alloc] at hz
  have hbI : w1.heap[w.heap.size]? = some (.cells #[.int .u32 (k : Int), .int .i64 (m : Int)] 133 (0, 0)) := (hb.block _ (by simp)).trans (jT _ _ rfl)
  have i0 := jA hbI 0
  have i1 := jA hbI 1
  simp at i0 i1
  have hB : Below w.heap.size w w1 := ((Below.refl _ w).alloc (Nat.le_refl _) _).trans (hb.mono (by simp))
  have hlt : w.heap.size < w1.heap.size := by omega
  have hq0 : KQ w1.heap.size w1 w1 := kq (Below.refl _ _)
  clear hbI hb hz
  go_wp2_with fail
  go_region_held3 (fun w' => KQ w1.heap.size w1 w') (first
   | with_reducible exact jP (by assumption) (by simp) (by assumption)
   | with_reducible exact yB (by assumption) (by simp) (by assumption) (by simp [Value.ownBlock])
   | ((with_reducible refine kq ?_); (repeat (first | (with_reducible exact Below.refl _ _) | (with_reducible refine Below.drew ?_) | (with_reducible refine Below.alloc ?_ (by simp) _) | (with_reducible refine Below.setCell ?_ (by simp) _) | (with_reducible exact (by assumption : KQ _ _ _).1))); done))
   (first | (go_at_call 93; (first | ((with_reducible refine (ck.out _).mono ?_); rintro e w2 ⟨rfl, hb2⟩) | ((with_reducible refine (cm.out _).mono ?_); rintro e w3 ⟨rfl, hb3⟩))))
  all_goals
   go_wp2
   go_ret
   exact ⟨ret_str hT.out, hB.trans ((by with_reducible assumption : KQ w1.heap.size w1 _).1.mono (by omega))⟩
theorem psg_any (v : Int) (h1 : -9223372036854775808 ≤ v) (h2 : v ≤ 9223372036854775807) (w : World) :
 Calls Tryz.prog 125 #[.int .i64 v] w fun e w' => e = .returned (.string (bs (writeZ v))) ∧ Below w.heap.size w w' := by
 have hc := jH (fun w => num_any (zig v) (zig_lt h1 h2) w)
 by_cases h0 : 0 ≤ v
 ·
  have hx := jH (zig_pos h0 h2)
  go_enter Tryz.func125, Tryz.ntmps125
  go_wp2_with fail
  rw [hx.out]
  refine (hc.out _).mono ?_
  rintro e w1 ⟨rfl, hb⟩
  go_wp2
  go_ret
  exact ⟨rfl, hb⟩
 ·
  have h3 : v < 0 := by omega
  have hx := jH (zig_neg h1 h3)
  go_enter Tryz.func125, Tryz.ntmps125
  go_wp2_with fail
  rw [hx.out]
  refine (hc.out _).mono ?_
  rintro e w1 ⟨rfl, hb⟩
  go_wp2
  go_ret
  exact ⟨rfl, hb⟩
theorem owrite_any (e : Ef) (A : Option Addr) (n c : Nat) (w : World) (hA : RdT w w.heap.size A n e.tags) (hn : n ≤ 100000) (hw : e.wf) (hl : e.name.length ≤ maxLen) :
 Calls Tryz.prog 97 #[.agg #[.int .i64 e.act, .string (bs e.name), .int .i64 e.val, .int .i64 e.tag.1.1, .int .u32 e.tag.1.2, .int .i64 e.tag.2, .int .u32 e.st.1, .int .i64 e.st.2, .slice A n c]] w fun r w' => r = .returned (.tuple #[.string (bs (writeE e)), .int .i64 (errE e)]) ∧ Below w.heap.size w w' := by
 have hb0 : Below w.heap.size w (w.alloc (.cells #[.int .i64 e.act, .string (bs e.name), .int .i64 e.val, .int .i64 e.tag.1.1, .int .u32 e.tag.1.2, .int .i64 e.tag.2, .int .u32 e.st.1, .int .i64 e.st.2, .slice A n c] 156)) := (Below.refl _ w).alloc (Nat.le_refl _) _
 have hbx : (w.alloc (.cells #[.int .i64 e.act, .string (bs e.name), .int .i64 e.val, .int .i64 e.tag.1.1, .int .u32 e.tag.1.2, .int .i64 e.tag.2, .int .u32 e.st.1, .int .i64 e.st.2, .slice A n c] 156)).heap[w.heap.size]? = some (.cells #[.int .i64 e.act, .string (bs e.name), .int .i64 e.val, .int .i64 e.tag.1.1, .int .u32 e.tag.1.2, .int .i64 e.tag.2, .int .u32 e.st.1, .int .i64 e.st.2, .slice A n c] 156 (0, 0)) := jT _ _ rfl
 generalize hW : w.alloc (.cells #[.int .i64 e.act, .string (bs e.name), .int .i64 e.val, .int .i64 e.tag.1.1, .int .u32 e.tag.1.2, .int .i64 e.tag.2, .int .u32 e.st.1, .int .i64 e.st.2, .slice A n c] 156) = W at hb0 hbx
 have hz0 := hb0.size
 have hck := jH (ocheck_e_any e A n c W ((hA.below hb0).more hb0.size) hn hw hl)
 have hbxH := jH hbx
 have hnl := jH hA.len
 have hAr := jH (fun w' (h : Below w.heap.size w w') => hA.below h)
 have hltx := jB hbx
 generalize hr : writeE e = out
 unfold writeE at hr
 have hwH := jH hw
 by_cases hp : errE e = 0
 case neg =>
  rw [if_pos hp] at hr
  subst hr
  generalize errE e = p at *
  have hpn : (p != 0) = true := by simpa using hp
  have q0 := jA hbx 0
  have q1 := jA hbx 1
  have q2 := jA hbx 2
  have q3 := jA hbx 3
  have q4 := jA hbx 4
  have q5 := jA hbx 5
  have q6 := jA hbx 6
  have q7 := jA hbx 7
  have q8 := jA hbx 8
  simp at q0 q1 q2 q3 q4 q5 q6 q7 q8
  clear hp hbx hA hw hl
  go_enter Tryz.func97, Tryz.ntmps97
  go_wp2_with fail
  refine hck.out.mono ?_
  rintro r w1 ⟨rfl, hv1⟩
  have hG := hb0.trans (hv1.mono hb0.size)
  go_wp2
  refine bodyPost_ret (v := .tuple #[.string (bs []), .int .i64 p]) (by simp [results, Tryz.results97, go_sem, bs_nil]) rfl ⟨rfl, hG⟩
 rw [if_neg (by simp [hp])] at hr
 rw [hp] at hck ⊢
 obtain ⟨ha1, ha6, hn12, ht4⟩ := errE_zero hp
 have hhl := headE_len hp hw
 have hH : Hid (bs (numB e.act.toNat) ++ bs (textB e.name) ++ bs (writeZ e.val) ++ bs (writeT e.tag) = bs (headE e)) := jH (by rw [jM, jM, jM]; rfl)
 have a1 := jN e.act.toNat (by omega)
 have a2 := textB_len (e := e.name) (by omega)
 have a3 : (writeZ e.val).length ≤ 9 := jN (zig e.val) (zig_lt hw.2.2.1.1 hw.2.2.1.2)
 have a4 := writeT_len e.tag
 have hs1 : ¬ 9223372036854775807 < (bs (numB e.act.toNat)).size + (bs (textB e.name)).size := by rw [jG, jG]; omega
 have hs2 : ¬ 9223372036854775807 < (bs (numB e.act.toNat)).size + (bs (textB e.name)).size + (bs (writeZ e.val)).size := by rw [jG, jG, jG]; omega
 have hs3 : ¬ 9223372036854775807 < (bs (numB e.act.toNat)).size + (bs (textB e.name)).size + (bs (writeZ e.val)).size + (bs (writeT e.tag)).size := by rw [jG, jG, jG, jG]; omega
 have wk : IntKind.u64.wrap e.act = ((e.act.toNat : Nat) : Int) := by rw [IntWalk.u64_in _ (by omega)]; omega
 have cN := jH (fun w => num_any e.act.toNat (by omega) w)
 have cT := jH (fun w => pwtext_any e.name (by omega) w)
 have cS := jH (fun w => psg_any e.val hw.2.2.1.1 hw.2.2.1.2 w)
 have cG := jH (fun w => pwtag_any e.tag hw.1 w)
 have hrH := jH hr
 rw [hnl.out] at ht4
 have q0 := jA hbx 0
 have q1 := jA hbx 1
 have q2 := jA hbx 2
 have q3 := jA hbx 3
 have q4 := jA hbx 4
 have q5 := jA hbx 5
 have q6 := jA hbx 6
 have q7 := jA hbx 7
 have q8 := jA hbx 8
 simp at q0 q1 q2 q3 q4 q5 q6 q7 q8
 clear a1 a2 a3 a4 hn12 hp hbx hA hw hl hr
 generalize e.act.toNat = k at hH hs1 hs2 hs3 wk cN
 have cF := jH (oform_any e.act)
 have cL := jH (fun w => plw_any e.st hwH.out.2.1 w)
 go_enter Tryz.func97, Tryz.ntmps97
 go_wp2_with fail
 refine hck.out.mono ?_
 rintro r w1 ⟨rfl, hb1⟩
 have hbx1 := jD hbxH.out hb1
 clear hltx hck q0 q1 q2 q3 q4 q5 q6 q7 q8
 have hltx := jB hbx1
 have q0 := jA hbx1 0
 have q1 := jA hbx1 1
 have q2 := jA hbx1 2
 have q3 := jA hbx1 3
 have q4 := jA hbx1 4
 have q5 := jA hbx1 5
 have q6 := jA hbx1 6
 have q7 := jA hbx1 7
 have q8 := jA hbx1 8
 simp at q0 q1 q2 q3 q4 q5 q6 q7 q8
 go_upto_region 4 with (fail)
 refine jW (fun w' => KQ w1.heap.size w1 w') (fun _ => True) 99 (by kernel_rfl) (kq (Below.refl _ _).drew) trivial ?_
 intro hcl
 have hC : KQ w1.heap.size w1 w1.drew := kq (Below.refl _ _).drew
 have hE := trivial
 (refine mT 0 ?_ rfl hcl hC hE ?_ ?_; rotate_left; (· (intro w hSw; (try dsimp only at hSw); go_simp; (try with_reducible rfl))); clear hcl; intro hcl; (try simp only [Act.put, List.getElem_toArray, List.getElem_cons_zero, List.setIfInBounds_toArray, List.set_cons_zero, List.set_cons_succ]))
 (refine mT 1 ?_ rfl hcl hC hE ?_ ?_; rotate_left; (· (intro w hSw; (try dsimp only at hSw); go_simp; (try with_reducible rfl))); clear hcl; intro hcl; (try simp only [Act.put, nA, nB, nC, nD, nE, nF]))
 (refine mT 2 ?_ rfl hcl hC hE ?_ ?_; rotate_left; (· (intro w hSw; (try dsimp only at hSw); go_simp; (try with_reducible rfl))); clear hcl; intro hcl; (try simp only [Act.put, nA, nB, nC, nD, nE, nF]))
 (refine mT 4 ?_ rfl hcl hC hE ?_ ?_; rotate_left; (· (intro w hSw; (try dsimp only at hSw); go_simp; (try with_reducible rfl))); clear hcl; intro hcl; (try simp only [Act.put, nA, nB, nC, nD, nE, nF]))
 (refine mT 5 ?_ rfl hcl hC hE ?_ ?_; rotate_left; (· (intro w hSw; (try dsimp only at hSw); go_simp; (try with_reducible rfl))); clear hcl; intro hcl; (try simp only [Act.put, nA, nB, nC, nD, nE, nF]))
 (refine mT 8 ?_ rfl hcl hC hE ?_ ?_; rotate_left; (· (intro w hSw; (try dsimp only at hSw); go_simp; (try with_reducible rfl))); clear hcl; intro hcl; (try simp only [Act.put, nA, nB, nC, nD, nE, nF]))
 (refine mT 9 ?_ rfl hcl hC hE ?_ ?_; rotate_left; (· (intro w hSw; (try dsimp only at hSw); go_simp; (try with_reducible rfl))); clear hcl; intro hcl; (try simp only [Act.put, nA, nB, nC, nD, nE, nF]))
 (refine mT 12 ?_ rfl hcl hC hE ?_ ?_; rotate_left; (· (intro w hSw; (try dsimp only at hSw); go_simp; (try with_reducible rfl))); clear hcl; intro hcl; (try simp only [Act.put, nA, nB, nC, nD, nE, nF]))
 (refine mT 13 ?_ rfl hcl hC hE ?_ ?_; rotate_left; (· (intro w hSw; (try dsimp only at hSw); go_simp; (try with_reducible rfl))); clear hcl; intro hcl; (try simp only [Act.put, nA, nB, nC, nD, nE, nF]))
 refine jK (i := 3) rfl (by kernel_rfl) hcl (fun K hK => ?_)
 go_simp
 refine (cN.out _).mono ?_
 rintro r v1 ⟨rfl, hv1⟩
 have hC' := jP hC (Nat.le_refl _) hv1
 refine hK.out _ _ hC' trivial ?_
 clear hK K
 clear hcl
 intro hcl
 (try simp only [Act.put, nA, nB, nC, nD, nE, nF])
 clear hC
 have hC := hC'
 clear hC'
 refine jK (i := 6) rfl (by kernel_rfl) hcl (fun K hK => ?_)
 go_simp
 refine (cT.out _).mono ?_
 rintro r v2 ⟨rfl, hv2⟩
 have hC' := jP hC (Nat.le_refl _) hv2
 refine hK.out _ _ hC' trivial ?_
 clear hK K
 clear hcl
 intro hcl
 (try simp only [Act.put, nA, nB, nC, nD, nE, nF])
 clear hC
 have hC := hC'
 clear hC'
 (refine mT 7 ?_ rfl hcl hC hE ?_ ?_; rotate_left; (· (intro w hSw; (try dsimp only at hSw); go_simp; (try with_reducible rfl))); clear hcl; intro hcl; (try simp only [Act.put, nA, nB, nC, nD, nE, nF]))
 refine jK (i := 10) rfl (by kernel_rfl) hcl (fun K hK => ?_)
 go_simp
 refine (cS.out _).mono ?_
 rintro r v3 ⟨rfl, hv3⟩
 have hC' := jP hC (Nat.le_refl _) hv3
 refine hK.out _ _ hC' trivial ?_
 clear hK K
 clear hcl
 intro hcl
 (try simp only [Act.put, nA, nB, nC, nD, nE, nF])
 clear hC
 have hC := hC'
 clear hC'
 (refine mT 11 ?_ rfl hcl hC hE ?_ ?_; rotate_left; (· (intro w hSw; (try dsimp only at hSw); go_simp; (try with_reducible rfl))); clear hcl; intro hcl; (try simp only [Act.put, nA, nB, nC, nD, nE, nF]))
 refine jK (i := 14) rfl (by kernel_rfl) hcl (fun K hK => ?_)
 go_simp
 refine (cG.out _).mono ?_
 rintro r v4 ⟨rfl, hv4⟩
 have hC' := jP hC (Nat.le_refl _) hv4
 refine hK.out _ _ hC' trivial ?_
 clear hK K
 clear hcl
 intro hcl
 (try simp only [Act.put, nA, nB, nC, nD, nE, nF])
 clear hC
 have hC := hC'
 clear hC'
 (refine mT 15 ?_ rfl hcl hC hE ?_ ?_; rotate_left; (· (intro w hSw; (try dsimp only at hSw); go_simp; (try with_reducible rfl))); clear hcl; intro hcl; (try simp only [Act.put, nA, nB, nC, nD, nE, nF]))
 (refine mT 16 ?_ rfl hcl hC hE ?_ ?_; rotate_left; (· (intro w hSw; (try dsimp only at hSw); go_simp; (try with_reducible rfl))); clear hcl; intro hcl; (try simp only [Act.put, nA, nB, nC, nD, nE, nF]))
 refine wpM_done (by kernel_rfl) ?_
 clear hcl
 try simp only [List.getElem_toArray, List.getElem_cons_zero, List.getElem_cons_succ, List.setIfInBounds_toArray, List.set_cons_zero, List.set_cons_succ]
 rw [hH.out]
 have hb4 : Below w1.heap.size w1 v4 := hC.1
 clear hC hE hv1 hv2 hv3 hv4
 have hbx4 := jD hbx1 hb4
 have hG4 := hb0.trans ((hb1.trans (hb4.mono hb1.size)).mono hz0)
 clear hltx q0 q1 q2 q3 q4 q5 q6 q7 q8 hs1 hs2 hs3 wk cN cT cS cG hb1 hbx1 hb4
 have hltx := jB hbx4
 have q0 := jA hbx4 0
 have q1 := jA hbx4 1
 have q2 := jA hbx4 2
 have q3 := jA hbx4 3
 have q4 := jA hbx4 4
 have q5 := jA hbx4 5
 have q6 := jA hbx4 6
 have q7 := jA hbx4 7
 have q8 := jA hbx4 8
 simp at q0 q1 q2 q3 q4 q5 q6 q7 q8
 go_wp2_with fail
 refine (cF.out _).mono ?_
 rintro r w5 ⟨rfl, hb5⟩
 have hbx5 := jD hbx4 hb5
 have hG5 := hG4.trans (hb5.mono hG4.size)
 have hba : Below w5.heap.size w5 (w5.alloc (.cells #[.bool (fNm e.act), .bool (fVl e.act), .bool (fAt e.act), .bool (fTg e.act)] 216)) := (Below.refl _ w5).alloc (Nat.le_refl _) _
 have hbF : (w5.alloc (.cells #[.bool (fNm e.act), .bool (fVl e.act), .bool (fAt e.act), .bool (fTg e.act)] 216)).heap[w5.heap.size]? = some (.cells #[.bool (fNm e.act), .bool (fVl e.act), .bool (fAt e.act), .bool (fTg e.act)] 216 (0, 0)) := jT _ _ rfl
 have hbx6 := jD hbx5 hba
 have hG6 := hG5.trans (hba.mono hG5.size)
 clear hltx q0 q1 q2 q3 q4 q5 q6 q7 q8 hG4 hG5 hbx4 hb5 hbx5
 go_upto_region 6 with (fail)
 generalize (w5.alloc (.cells #[.bool (fNm e.act), .bool (fVl e.act), .bool (fAt e.act), .bool (fTg e.act)] 216)) = X at *
 have hltx := jB hbx6
 have q0 := jA hbx6 0
 have q1 := jA hbx6 1
 have q2 := jA hbx6 2
 have q3 := jA hbx6 3
 have q4 := jA hbx6 4
 have q5 := jA hbx6 5
 have q6 := jA hbx6 6
 have q7 := jA hbx6 7
 have q8 := jA hbx6 8
 simp at q0 q1 q2 q3 q4 q5 q6 q7 q8
 have hltf := jB hbF
 have f0 := jA hbF 0
 have f1 := jA hbF 1
 have f2 := jA hbF 2
 have f3 := jA hbF 3
 simp at f0 f1 f2 f3
 clear hba
 have hrr := hrH.out
 cases hat : fAt e.act with
 | true =>
  have htg := fAt_fTg hat
  rw [if_pos hat] at hrr
  rw [hat, htg] at hbF
  rw [hat] at f2
  rw [htg] at f3
  have hO : Hid (bs (headE e) ++ bs (writeS e.st) = bs out) := jH (by rw [jM, hrr])
  have hsl := writeS_len e.st hwH.out.2.1
  have hs4 : ¬ 9223372036854775807 < (bs (headE e)).size + (bs (writeS e.st)).size := by rw [jG, jG]; omega
  clear hrr hrH hsl ha1 ha6 ht4 hhl
  go_wp2_with fail
  refine (cL.out _).mono ?_
  rintro r w7 ⟨rfl, hb7⟩
  have hbF7 := jD hbF hb7
  have hltf7 := jB hbF7
  have f3 := jA hbF7 3
  simp at f3
  have hG7 := hG6.trans (hb7.mono hG6.size)
  clear q0 q1 q2 q3 q4 q5 q6 q7 q8 f0 f1 f2
  go_wp2
  refine bodyPost_ret (v := .tuple #[.string (bs out), .int .i64 0]) (by simp [results, Tryz.results97, go_sem, hO.out]) rfl ⟨rfl, hG7⟩
 | false =>
  rw [if_neg (by simp [hat])] at hrr
  rw [hat] at f2
  cases htg : fTg e.act with
  | false =>
   rw [if_neg (by simp [htg])] at hrr
   rw [htg] at f3
   have hO : Hid (bs (headE e) = bs out) := jH (by rw [hrr])
   clear hrr hrH hhl
   go_wp2
   refine bodyPost_ret (v := .tuple #[.string (bs out), .int .i64 0]) (by simp [results, Tryz.results97, go_sem, hO.out]) rfl ⟨rfl, hG6⟩
  | true =>
   rw [if_pos htg] at hrr
   rw [htg] at f3
   have hb0g := jN n (by omega)
   have hs4 : ¬ 9223372036854775807 < (bs (headE e)).size + (bs (numB n)).size := by rw [jG, jG]; omega
   have hO : Hid (bs (headE e) ++ bs (numB n) = bs (partG (headE e) e.tags 0)) := jH (by rw [jM]; simp [partG, hnl.out])
   have hPL := jH (fun k => partG_len (headE e) e.tags k (by rw [hnl.out]; exact ht4))
   have cM := jH (fun w => num_any n (by omega) w)
   have wn : IntKind.u64.wrap (n : Int) = n := IntWalk.u64_in _ (by omega)
   have cW := jH (fun t (ht : Tm.wf t) w => pwtag_any t ht w)
   have hgH := jH hwH.out.2.2.2.1
   clear hb0g hrr
   go_wp2_with fail
   refine (cM.out _).mono ?_
   rintro r w7 ⟨rfl, hb7⟩
   have hbx7 := jD hbx6 hb7
   have hltx7 := jB hbx7
   have q8 := jA hbx7 8
   simp at q8
   have hG7 := hG6.trans (hb7.mono hG6.size)
   clear q0 q1 q2 q3 q4 q5 q6 q7 f0 f1 f2 f3 hltf hltx
   have hcc := jH hO.out
   clear hO hltx7
   have hltx := jB hbx7
   go_wp2_with fail
   rw [hcc.out]
   go_loopg [5, 52] (n + 1) (fun g o i wr => ∃ k : Nat, k ≤ n ∧ g = n + 1 - k ∧ i = .int .i64 (k : Int) ∧ o = .string (bs (partG (headE e) e.tags k)) ∧ Below w.heap.size w wr)
   case atStart => exact ⟨0, Nat.zero_le _, rfl, rfl, rfl, hG7⟩
   case round =>
    clear hG7 hbx7 q8 hltx
    obtain ⟨k, hk, rfl, rfl, rfl, hbr⟩ := hrel
    have hpl := hPL.out k
    by_cases hlt : k < n
    ·
     obtain ⟨bA, oA, u, rfl, hbA, hq, hcp⟩ := (hAr.out wr hbr).at_ hlt
     have p0 := hcp 0 _ rfl
     have p1 := hcp 1 _ rfl
     have p2 := hcp 2 _ rfl
     rw [Nat.add_zero] at p0
     clear hcp
     have hlti : (k : Int) < (n : Int) := by omega
     have hzr := hbr.size
     have hbA2 : bA < wr.heap.size := by omega
     have huw := hgH.out u (List.mem_of_getElem? hq)
     have hst := jH (show bs (partG (headE e) e.tags k) ++ bs (writeT u) = bs (partG (headE e) e.tags (k + 1)) by rw [jM, partG_succ _ hq])
     have hwl := writeT_len u
     have hs5 : ¬ 9223372036854775807 < (bs (partG (headE e) e.tags k)).size + (bs (writeT u)).size := by rw [jG, jG]; omega
     have c1 := jH (cW.out u huw)
     clear hq huw hpl hwl
     go_wp2_with fail
     refine (c1.out _).mono ?_
     rintro r v1 ⟨rfl, hv1⟩
     have hG1 : Below w.heap.size w v1 := hbr.trans (((Below.refl _ wr).alloc (Nat.le_refl _) _).trans (hv1.mono (by simp)) |>.mono hzr)
     go_wp2
     go_roundg (n + 1 - (k + 1))
     case measure => omega
     case rel => exact ⟨k + 1, by omega, rfl, by go_num, congrArg Value.string hst.out, hG1⟩
    ·
     obtain rfl : k = n := by omega
     have hnli : ¬ (k : Int) < (k : Int) := by omega
     have hT : Hid (bs (partG (headE e) e.tags k) = bs out) := jH (by have h := hrH.out; rw [if_neg (by simp [hat]), if_pos htg, hnl.out] at h; rw [h])
     go_wp2
     refine bodyPost_ret (v := .tuple #[.string (bs out), .int .i64 0]) (by simp [results, Tryz.results97, go_sem, hT.out]) rfl ⟨rfl, hbr⟩
end Go.Proofs.YtfhandglpjnonaaGreatDoor
