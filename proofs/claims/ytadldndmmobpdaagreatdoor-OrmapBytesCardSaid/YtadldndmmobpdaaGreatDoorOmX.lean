/- ormap.Write: a map's bytes. -/
import Derived.Test.YtadldndmmobpdaaGreatDoorOmW
import Derived.Test.YtadldndmmobpdaaGreatDoorOmK
import Derived.Test.YtadldndmmobpdaaGreatDoorByt
import Derived.Test.YtadldndmmobpdaaGreatDoorOmT
namespace Go.Proofs.YtadldndmmobpdaaGreatDoor
open Go.RowKit

theorem infoU8i : ∃ i, Tryz.prog.info? 5 = some i ∧ i.zero = some (.int .u8 0) ∧ i.size = 1 ∧ i.bytes = 1 := info_parts infoU8
set_option maxRecDepth 100000 in
set_option maxHeartbeats 4000000 in
theorem pwriteM_any (A : Option Addr) (n c : Nat) (xs : List Pm) (B : Option Addr) (m d : Nat) (gs : List Tm) (w : World) (hA : RdP w w.heap.size A n xs) (hB : RdT w w.heap.size B m gs) (hn : n ≤ 100000) (hm : m ≤ 100000) (hx : ∀ a ∈ xs, a.wf) (hg : ∀ t ∈ gs, t.wf) (hl : ∀ a ∈ xs, a.2.1.length ≤ maxLen) :
    Calls Tryz.prog 5 #[.agg #[.slice A n c, .slice B m d]] w fun e w' => e = .returned (.tuple #[.string (bs (writeM xs gs)), .int .i64 (mErr xs gs)]) ∧ Below w.heap.size w w' := by
  have hb0 : Below w.heap.size w (w.alloc (.cells #[.slice A n c, .slice B m d] 32)) := (Below.refl _ w).alloc (Nat.le_refl _) _
  have hbx : (w.alloc (.cells #[.slice A n c, .slice B m d] 32)).heap[w.heap.size]? = some (.cells #[.slice A n c, .slice B m d] 32 (0, 0)) := heap_at _ _ rfl
  generalize hW : w.alloc (.cells #[.slice A n c, .slice B m d] 32) = W at hb0 hbx
  have hbxH := Lib.hid hbx
  have hltx := blk_lt hbx
  have s0 := blk_cell hbx 0
  have s1 := blk_cell hbx 1
  simp at s0 s1
  have hnl := Lib.hid hA.len
  have hml := Lib.hid hB.len
  have hck := Lib.hid (mcheck_any A n c xs B m d gs W ((hA.below hb0).more hb0.size) ((hB.below hb0).more hb0.size) (by simp [maxLen]; omega) (by simp [maxLen]; omega) hx hg hl)
  have hAr := Lib.hid (fun w' (h : Below w.heap.size w w') => hA.below h)
  have hBr := Lib.hid (fun w' (h : Below w.heap.size w w') => hB.below h)
  obtain ⟨iu, hiu, hz1, hz2, hz3⟩ := infoU8i
  generalize hr : writeM xs gs = out
  unfold writeM at hr
  generalize hpe : mErr xs gs = p at hck hr ⊢
  by_cases hp : p = 0
  case neg =>
    rw [if_pos hp] at hr
    subst hr
    have hpn : (p != 0) = true := by simpa using hp
    clear hpe hp hbx hA hB
    go_enter Tryz.func5, Tryz.ntmps5
    go_wp2_with fail
    refine hck.out.mono ?_
    rintro e w1 ⟨rfl, hv1⟩
    have hG := hb0.trans (hv1.mono hb0.size)
    go_wp2
    refine bodyPost_ret (v := .tuple #[.string (bs []), .int .i64 p]) (by simp [results, Tryz.results5, go_sem, bs_nil]) rfl ⟨rfl, hG⟩
  subst hp
  rw [if_neg (by simp)] at hr
  have hrH := Lib.hid hr
  obtain ⟨hn4, hm4, hcx, hcg, _, _, hbad⟩ := sErr_zero.1 hpe
  rw [List.length_map, hnl.out] at hn4
  rw [hml.out] at hm4
  have hel := badP_elem hbad
  have hlen48 : ∀ a ∈ xs, (writeP a).length ≤ 75 := fun a ha => writeP_len (hel a ha).2 (hx a ha)
  have hPN := Lib.hid (fun k (hk : k ≤ n) => partN_len hlen48 n k hn4 (by omega))
  have hPS := Lib.hid (fun k (hk : k ≤ m) => partS_len hlen48 gs n m k hn4 hm4 (by omega))
  have cN := Lib.hid (fun w => num_any n (by omega) w)
  have cM := Lib.hid (fun w => num_any m (by omega) w)
  have wn : IntKind.u64.wrap (n : Int) = n := IntWalk.u64_in _ (by omega)
  have wm : IntKind.u64.wrap (m : Int) = m := IntWalk.u64_in _ (by omega)
  have cT := Lib.hid (fun (t : Tm) (ht : t.wf) => pwtag_any t ht)
  have hxH := Lib.hid hx
  have hgH := Lib.hid hg
  have helH := Lib.hid hel
  clear hpe hr hbx hA hB hcx hcg hbad hel hlen48 hx hg hl
  go_enter Tryz.func5, Tryz.ntmps5
  go_wp2_with fail
  refine hck.out.mono ?_
  rintro e w1 ⟨rfl, hv1⟩
  have hs1 := blk_below hbxH.out hv1
  clear s0 s1
  have hltx := blk_lt hs1
  have s0 := blk_cell hs1 0
  have s1 := blk_cell hs1 1
  simp at s0 s1
  go_wp2_with fail
  refine (cN.out _).mono ?_
  rintro e w2 ⟨rfl, hv2⟩
  have hG2 : Below W.heap.size W w2 := hv1.trans (hv2.mono hv1.size)
  have hs2 := blk_below hs1 hv2
  clear s0 s1
  have hltx := blk_lt hs2
  have s0 := blk_cell hs2 0
  have s1 := blk_cell hs2 1
  simp at s0 s1
  have hnb := numB_len n (by omega)
  obtain ⟨vb, w3, hcv, hby, hv3⟩ := conv_byb (P := Tryz.prog) (src := 9) (dst := 53) (e := 5) w2 (numB n) (by omega) Tryz.underlying9 Tryz.underlying53 Tryz.underlying5 (base := W.heap.size) hG2.size
  obtain ⟨gb, cb, rfl, _, _⟩ := hby.form
  have hG3 : Below W.heap.size W w3 := hG2.trans (hv3.mono hG2.size)
  have hs3 := blk_below hs2 hv3
  clear s0 s1
  have hltx := blk_lt hs3
  have s0 := blk_cell hs3 0
  have s1 := blk_cell hs3 1
  simp at s0 s1
  have hp0 : Hid (partN writeP xs n 0 = numB n) := Lib.hid (by simp [partN])
  clear hs1 hs2 hck
  have hzW := hb0.size
  go_wp2_with fail
  clear hnb hcv hv1 hv2 hv3 hG2 cN wn s0 s1 hltx
  go_loopg [5, 24] (n + 1) (fun g b i wr => ∃ (k g' l' c' : Nat), k ≤ n ∧ g = n + 1 - k ∧ i = .int .i64 (k : Int) ∧ b = .slice (some ⟨g', 0, none⟩) l' c' ∧ Byb wr W.heap.size 5 (.slice (some ⟨g', 0, none⟩) l' c') (partN writeP xs n k) ∧ Below W.heap.size W wr)
  case atStart => exact ⟨0, gb, _, cb, Nat.zero_le _, rfl, rfl, rfl, by rw [hp0.out]; exact hby, hG3⟩
  case round =>
    clear hby hG3 hs3
    obtain ⟨k, g', l', c', hk, rfl, rfl, rfl, hby, hbr⟩ := hrel
    have hz := hbr.size
    have hGw := hb0.trans (hbr.mono hzW)
    by_cases hlt : k < n
    · obtain ⟨bA, oA, u, rfl, hbA, hq, hcp⟩ := (hAr.out wr hGw).at_ hlt
      have p0 := hcp 0 _ rfl
      have p1 := hcp 1 _ rfl
      have p2 := hcp 2 _ rfl
      have p3 := hcp 3 _ rfl
      have p4 := hcp 4 _ rfl
      have p5 := hcp 5 _ rfl
      have p6 := hcp 6 _ rfl
      rw [Nat.add_zero] at p0
      clear hcp
      have hlti : (k : Int) < (n : Int) := by omega
      have hbA2 : bA < wr.heap.size := by omega
      have huw := hxH.out u (List.mem_of_getElem? hq)
      have hue := helH.out u (List.mem_of_getElem? hq)
      have hst := Lib.hid (partN_succ writeP (n := n) hq)
      have hpl := hPN.out k (by omega)
      have hwa : Hid (bs (writeT u.1) ++ bs (textB u.2.1) ++ bs (writeZ u.2.2.1) ++ bs (writeS u.2.2.2) = bs (writeP u)) := Lib.hid (by rw [bs_append, bs_append, bs_append]; rfl)
      have hwl := writeT_len u.1
      have htl := textB_len (e := u.2.1) (by omega)
      have hzl : (writeZ u.2.2.1).length ≤ 9 := numB_len _ (zig_lt huw.2.2.1 huw.2.2.2)
      have hsl := writeS_len u.2.2.2 huw.2.1
      have hsz : ¬ 9223372036854775807 < (bs (writeT u.1)).size + (bs (textB u.2.1)).size := by rw [bs_size, bs_size]; omega
      have hsz2 : ¬ 9223372036854775807 < (bs (writeT u.1)).size + (bs (textB u.2.1)).size + (bs (writeZ u.2.2.1)).size := by rw [bs_size, bs_size, bs_size]; omega
      have hsz3 : ¬ 9223372036854775807 < (bs (writeT u.1)).size + (bs (textB u.2.1)).size + (bs (writeZ u.2.2.1)).size + (bs (writeS u.2.2.2)).size := by rw [bs_size, bs_size, bs_size, bs_size]; omega
      have hal : (writeP u).length ≤ 75 := writeP_len hue.2 huw
      have c1 := Lib.hid (cT.out u.1 huw.1)
      have c2 := Lib.hid (fun w => pwtext_any u.2.1 (by omega) w)
      have c3 := Lib.hid (psg_any u.2.2.1 huw.2.2.1 huw.2.2.2)
      have c4 := Lib.hid (plw_any u.2.2.2 huw.2.1)
      clear hq huw hsl hzl
      go_upto_region 8 with (fail)
      obtain ⟨wb, hwb⟩ : ∃ wb, wr.alloc (.cells #[.int .i64 u.1.1.1, .int .u32 u.1.1.2, .int .i64 u.1.2, .string (bs u.2.1), .int .i64 u.2.2.1, .int .u32 u.2.2.2.1, .int .i64 u.2.2.2.2] 64) = wb := ⟨_, rfl⟩
      have hbb : wb.heap[wr.heap.size]? = some (.cells #[.int .i64 u.1.1.1, .int .u32 u.1.1.2, .int .i64 u.1.2, .string (bs u.2.1), .int .i64 u.2.2.1, .int .u32 u.2.2.2.1, .int .i64 u.2.2.2.2] 64 (0, 0)) := by rw [← hwb]; exact heap_at _ _ rfl
      have hvb : Below wr.heap.size wr wb := by rw [← hwb]; exact (Below.refl _ wr).alloc (Nat.le_refl _) _
      rw [hwb]
      clear hwb p0 p1 p2 p3 p4 p5 p6
      have hbyb := hby.below hvb
      have hgne := Lib.hid hby.lt
      have hbrb := hbr.trans (hvb.mono hz)
      have hlb := blk_lt hbb
      have r0 := blk_cell hbb 0
      have r1 := blk_cell hbb 1
      have r2 := blk_cell hbb 2
      have r3 := blk_cell hbb 3
      have r4 := blk_cell hbb 4
      have r5 := blk_cell hbb 5
      have r6 := blk_cell hbb 6
      simp at r0 r1 r2 r3 r4 r5 r6
      have hbbH := Lib.hid hbb
      clear hbb hby hvb
      refine wp_region_M (fun w' => w'.cell? ⟨wr.heap.size, 0, none⟩ = some (.int .i64 u.1.1.1) ∧ w'.cell? ⟨wr.heap.size, 1, none⟩ = some (.int .u32 u.1.1.2) ∧ w'.cell? ⟨wr.heap.size, 2, none⟩ = some (.int .i64 u.1.2) ∧ w'.cell? ⟨wr.heap.size, 3, none⟩ = some (.string (bs u.2.1)) ∧ w'.cell? ⟨wr.heap.size, 4, none⟩ = some (.int .i64 u.2.2.1) ∧ w'.cell? ⟨wr.heap.size, 5, none⟩ = some (.int .u32 u.2.2.2.1) ∧ w'.cell? ⟨wr.heap.size, 6, none⟩ = some (.int .i64 u.2.2.2.2)) (fun _ => True) 99 (by kernel_rfl) ⟨r0, r1, r2, r3, r4, r5, r6⟩ trivial ?_
      intro hcl
      have hC : wb.drew.cell? ⟨wr.heap.size, 0, none⟩ = some (.int .i64 u.1.1.1) ∧ wb.drew.cell? ⟨wr.heap.size, 1, none⟩ = some (.int .u32 u.1.1.2) ∧ wb.drew.cell? ⟨wr.heap.size, 2, none⟩ = some (.int .i64 u.1.2) ∧ wb.drew.cell? ⟨wr.heap.size, 3, none⟩ = some (.string (bs u.2.1)) ∧ wb.drew.cell? ⟨wr.heap.size, 4, none⟩ = some (.int .i64 u.2.2.1) ∧ wb.drew.cell? ⟨wr.heap.size, 5, none⟩ = some (.int .u32 u.2.2.2.1) ∧ wb.drew.cell? ⟨wr.heap.size, 6, none⟩ = some (.int .i64 u.2.2.2.2) := ⟨r0, r1, r2, r3, r4, r5, r6⟩
      have hE := trivial
      (refine wpM_take (i := 0) (v := ?_) rfl (by kernel_rfl) (by kernel_rfl) (by kernel_rfl) (by decide) (fun _ _ _ h => h) hcl hC (fun _ => hE) (Or.inl ⟨by rfl, ?_⟩) ?_; rotate_left; (· (intro w hSw; (try dsimp only at hSw); go_simp; (try with_reducible rfl))); clear hcl; intro hcl; (try simp only [Act.put, List.getElem_toArray, List.getElem_cons_zero, List.getElem_cons_succ, List.setIfInBounds_toArray, List.set_cons_zero, List.set_cons_succ]))
      (refine wpM_take (i := 1) (v := ?_) rfl (by kernel_rfl) (by kernel_rfl) (by kernel_rfl) (by decide) (fun _ _ _ h => h) hcl hC (fun _ => hE) (Or.inl ⟨by rfl, ?_⟩) ?_; rotate_left; (· (intro w hSw; (try dsimp only at hSw); go_simp; (try with_reducible rfl))); clear hcl; intro hcl; (try simp only [Act.put, List.getElem_toArray, List.getElem_cons_zero, List.getElem_cons_succ, List.setIfInBounds_toArray, List.set_cons_zero, List.set_cons_succ]))
      (refine wpM_take (i := 2) (v := ?_) rfl (by kernel_rfl) (by kernel_rfl) (by kernel_rfl) (by decide) (fun _ _ _ h => h) hcl hC (fun _ => hE) (Or.inl ⟨by rfl, ?_⟩) ?_; rotate_left; (· (intro w hSw; (try dsimp only at hSw); go_simp; (try with_reducible rfl))); clear hcl; intro hcl; (try simp only [Act.put, List.getElem_toArray, List.getElem_cons_zero, List.getElem_cons_succ, List.setIfInBounds_toArray, List.set_cons_zero, List.set_cons_succ]))
      (refine wpM_take (i := 4) (v := ?_) rfl (by kernel_rfl) (by kernel_rfl) (by kernel_rfl) (by decide) (fun _ _ _ h => h) hcl hC (fun _ => hE) (Or.inl ⟨by rfl, ?_⟩) ?_; rotate_left; (· (intro w hSw; (try dsimp only at hSw); go_simp; (try with_reducible rfl))); clear hcl; intro hcl; (try simp only [Act.put, List.getElem_toArray, List.getElem_cons_zero, List.getElem_cons_succ, List.setIfInBounds_toArray, List.set_cons_zero, List.set_cons_succ]))
      (refine wpM_take (i := 5) (v := ?_) rfl (by kernel_rfl) (by kernel_rfl) (by kernel_rfl) (by decide) (fun _ _ _ h => h) hcl hC (fun _ => hE) (Or.inl ⟨by rfl, ?_⟩) ?_; rotate_left; (· (intro w hSw; (try dsimp only at hSw); go_simp; (try with_reducible rfl))); clear hcl; intro hcl; (try simp only [Act.put, List.getElem_toArray, List.getElem_cons_zero, List.getElem_cons_succ, List.setIfInBounds_toArray, List.set_cons_zero, List.set_cons_succ]))
      (refine wpM_take (i := 8) (v := ?_) rfl (by kernel_rfl) (by kernel_rfl) (by kernel_rfl) (by decide) (fun _ _ _ h => h) hcl hC (fun _ => hE) (Or.inl ⟨by rfl, ?_⟩) ?_; rotate_left; (· (intro w hSw; (try dsimp only at hSw); go_simp; (try with_reducible rfl))); clear hcl; intro hcl; (try simp only [Act.put, List.getElem_toArray, List.getElem_cons_zero, List.getElem_cons_succ, List.setIfInBounds_toArray, List.set_cons_zero, List.set_cons_succ]))
      (refine wpM_take (i := 9) (v := ?_) rfl (by kernel_rfl) (by kernel_rfl) (by kernel_rfl) (by decide) (fun _ _ _ h => h) hcl hC (fun _ => hE) (Or.inl ⟨by rfl, ?_⟩) ?_; rotate_left; (· (intro w hSw; (try dsimp only at hSw); go_simp; (try with_reducible rfl))); clear hcl; intro hcl; (try simp only [Act.put, List.getElem_toArray, List.getElem_cons_zero, List.getElem_cons_succ, List.setIfInBounds_toArray, List.set_cons_zero, List.set_cons_succ]))
      (refine wpM_take (i := 12) (v := ?_) rfl (by kernel_rfl) (by kernel_rfl) (by kernel_rfl) (by decide) (fun _ _ _ h => h) hcl hC (fun _ => hE) (Or.inl ⟨by rfl, ?_⟩) ?_; rotate_left; (· (intro w hSw; (try dsimp only at hSw); go_simp; (try with_reducible rfl))); clear hcl; intro hcl; (try simp only [Act.put, List.getElem_toArray, List.getElem_cons_zero, List.getElem_cons_succ, List.setIfInBounds_toArray, List.set_cons_zero, List.set_cons_succ]))
      (refine wpM_take (i := 13) (v := ?_) rfl (by kernel_rfl) (by kernel_rfl) (by kernel_rfl) (by decide) (fun _ _ _ h => h) hcl hC (fun _ => hE) (Or.inl ⟨by rfl, ?_⟩) ?_; rotate_left; (· (intro w hSw; (try dsimp only at hSw); go_simp; (try with_reducible rfl))); clear hcl; intro hcl; (try simp only [Act.put, List.getElem_toArray, List.getElem_cons_zero, List.getElem_cons_succ, List.setIfInBounds_toArray, List.set_cons_zero, List.set_cons_succ]))
      refine wpM_only (i := 3) rfl (by kernel_rfl) hcl (fun K hK => ?_)
      go_simp
      refine (c1.out _).mono ?_
      rintro e v1 ⟨rfl, hv1⟩
      have hb1 := blk_below (heap_drew hbbH.out) hv1
      have x0 := blk_cell hb1 0
      have x1 := blk_cell hb1 1
      have x2 := blk_cell hb1 2
      have x3 := blk_cell hb1 3
      have x4 := blk_cell hb1 4
      have x5 := blk_cell hb1 5
      have x6 := blk_cell hb1 6
      have hD1 := (And.intro x0 (And.intro x1 (And.intro x2 (And.intro x3 (And.intro x4 (And.intro x5 x6))))))
      refine hK.out _ _ hD1 trivial ?_
      clear hK K
      clear hcl
      intro hcl
      (try simp only [Act.put, List.getElem_toArray, List.getElem_cons_zero, List.getElem_cons_succ, List.setIfInBounds_toArray, List.set_cons_zero, List.set_cons_succ])
      clear hC
      have hC := hD1
      refine wpM_only (i := 6) rfl (by kernel_rfl) hcl (fun K hK => ?_)
      go_simp
      refine (c2.out _).mono ?_
      rintro e v2 ⟨rfl, hv2⟩
      have hb2 := blk_below hb1 hv2
      have y0 := blk_cell hb2 0
      have y1 := blk_cell hb2 1
      have y2 := blk_cell hb2 2
      have y3 := blk_cell hb2 3
      have y4 := blk_cell hb2 4
      have y5 := blk_cell hb2 5
      have y6 := blk_cell hb2 6
      have hD2 := (And.intro y0 (And.intro y1 (And.intro y2 (And.intro y3 (And.intro y4 (And.intro y5 y6))))))
      refine hK.out _ _ hD2 trivial ?_
      clear hK K
      clear hcl
      intro hcl
      (try simp only [Act.put, List.getElem_toArray, List.getElem_cons_zero, List.getElem_cons_succ, List.setIfInBounds_toArray, List.set_cons_zero, List.set_cons_succ])
      clear hC
      have hC := hD2
      (refine wpM_take (i := 7) (v := ?_) rfl (by kernel_rfl) (by kernel_rfl) (by kernel_rfl) (by decide) (fun _ _ _ h => h) hcl hC (fun _ => hE) (Or.inl ⟨by rfl, ?_⟩) ?_; rotate_left; (· (intro w hSw; (try dsimp only at hSw); go_simp; (try with_reducible rfl))); clear hcl; intro hcl; (try simp only [Act.put, List.getElem_toArray, List.getElem_cons_zero, List.getElem_cons_succ, List.setIfInBounds_toArray, List.set_cons_zero, List.set_cons_succ]))
      refine wpM_only (i := 10) rfl (by kernel_rfl) hcl (fun K hK => ?_)
      go_simp
      refine (c3.out _).mono ?_
      rintro e v3 ⟨rfl, hv3⟩
      have hb3 := blk_below hb2 hv3
      have o0 := blk_cell hb3 0
      have o1 := blk_cell hb3 1
      have o2 := blk_cell hb3 2
      have o3 := blk_cell hb3 3
      have o4 := blk_cell hb3 4
      have o5 := blk_cell hb3 5
      have o6 := blk_cell hb3 6
      have hD3 := (And.intro o0 (And.intro o1 (And.intro o2 (And.intro o3 (And.intro o4 (And.intro o5 o6))))))
      refine hK.out _ _ hD3 trivial ?_
      clear hK K
      clear hcl
      intro hcl
      (try simp only [Act.put, List.getElem_toArray, List.getElem_cons_zero, List.getElem_cons_succ, List.setIfInBounds_toArray, List.set_cons_zero, List.set_cons_succ])
      clear hC
      have hC := hD3
      (refine wpM_take (i := 11) (v := ?_) rfl (by kernel_rfl) (by kernel_rfl) (by kernel_rfl) (by decide) (fun _ _ _ h => h) hcl hC (fun _ => hE) (Or.inl ⟨by rfl, ?_⟩) ?_; rotate_left; (· (intro w hSw; (try dsimp only at hSw); go_simp; (try with_reducible rfl))); clear hcl; intro hcl; (try simp only [Act.put, List.getElem_toArray, List.getElem_cons_zero, List.getElem_cons_succ, List.setIfInBounds_toArray, List.set_cons_zero, List.set_cons_succ]))
      refine wpM_only (i := 14) rfl (by kernel_rfl) hcl (fun K hK => ?_)
      go_simp
      refine (c4.out _).mono ?_
      rintro e v4 ⟨rfl, hv4⟩
      have hb4 := blk_below hb3 hv4
      have t0 := blk_cell hb4 0
      have t1 := blk_cell hb4 1
      have t2 := blk_cell hb4 2
      have t3 := blk_cell hb4 3
      have t4 := blk_cell hb4 4
      have t5 := blk_cell hb4 5
      have t6 := blk_cell hb4 6
      have hD4 := (And.intro t0 (And.intro t1 (And.intro t2 (And.intro t3 (And.intro t4 (And.intro t5 t6))))))
      refine hK.out _ _ hD4 trivial ?_
      clear hK K
      clear hcl
      intro hcl
      (try simp only [Act.put, List.getElem_toArray, List.getElem_cons_zero, List.getElem_cons_succ, List.setIfInBounds_toArray, List.set_cons_zero, List.set_cons_succ])
      clear hC
      have hC := hD4
      (refine wpM_take (i := 15) (v := ?_) rfl (by kernel_rfl) (by kernel_rfl) (by kernel_rfl) (by decide) (fun _ _ _ h => h) hcl hC (fun _ => hE) (Or.inl ⟨by rfl, ?_⟩) ?_; rotate_left; (· (intro w hSw; (try dsimp only at hSw); go_simp; (try with_reducible rfl))); clear hcl; intro hcl; (try simp only [Act.put, List.getElem_toArray, List.getElem_cons_zero, List.getElem_cons_succ, List.setIfInBounds_toArray, List.set_cons_zero, List.set_cons_succ]))
      have hby2 := (((hbyb.below ((Below.refl _ _).drew.trans hv1)).below hv2).below hv3).below hv4
      refine wpM_only (i := 16) rfl (by kernel_rfl) hcl (fun K hK => ?_)
      refine step_append_byb rfl _ _ _ _ rfl Tryz.underlying53 Tryz.underlying9 hiu hz1 hz2 hz3 rfl hby2 (writeP u) (by simp [Act.eval, Act.put]; first | exact hwa.out | (rw [hwa.out])) (by omega) (by have := hv1.size; have := hv2.size; have := hv3.size; have := hv4.size; simp at *; omega) ?_
      intro g2 l2 c2' v5 hby3 hg3
      have hb5 : v5.heap[wr.heap.size]? = some (.cells #[.int .i64 u.1.1.1, .int .u32 u.1.1.2, .int .i64 u.1.2, .string (bs u.2.1), .int .i64 u.2.2.1, .int .u32 u.2.2.2.1, .int .i64 u.2.2.2.2] 64 (0, 0)) := (hg3.block _ (blk_lt hb4) (fun e => by have := (hgne.out _ e.symm).2; omega)).trans hb4
      have q0 := blk_cell hb5 0
      have q1 := blk_cell hb5 1
      have q2 := blk_cell hb5 2
      have q3 := blk_cell hb5 3
      have q4 := blk_cell hb5 4
      have q5 := blk_cell hb5 5
      have q6 := blk_cell hb5 6
      have hC5 := (And.intro q0 (And.intro q1 (And.intro q2 (And.intro q3 (And.intro q4 (And.intro q5 q6))))))
      have hz12 := hv1.size
      have hz13 := hv2.size
      have hz14 := hv3.size
      have hz15 := hv4.size
      have hz16 := hbrb.size
      have hGr : Below W.heap.size W v5 := ((((hbrb.drew.trans (hv1.mono (by simpa using hz16))).trans (hv2.mono (by simp at *; omega))).trans (hv3.mono (by simp at *; omega))).trans (hv4.mono (by simp at *; omega))).grown hg3 (by simp at *; omega) (fun j e => (hgne.out j e).1)
      clear hb1 hb2 hb3 hb4 hb5 hv1 hv2 hv3 hv4 hg3 hby2 hbyb r0 r1 r2 r3 r4 r5 r6 x0 x1 x2 x3 x4 x5 x6 y0 y1 y2 y3 y4 y5 y6 o0 o1 o2 o3 o4 o5 o6 t0 t1 t2 t3 t4 t5 t6 hbbH hbrb hz12 hz13 hz14 hz15 hz16
      refine hK.out _ _ hC5 trivial ?_
      clear hK K
      clear hcl
      intro hcl
      (try simp only [Act.put, List.getElem_toArray, List.getElem_cons_zero, List.getElem_cons_succ, List.setIfInBounds_toArray, List.set_cons_zero, List.set_cons_succ])
      clear hC hD1 hD2 hD3 hD4
      have hC := hC5
      (refine wpM_take (i := 17) (v := ?_) rfl (by kernel_rfl) (by kernel_rfl) (by kernel_rfl) (by decide) (fun _ _ _ h => h) hcl hC (fun _ => hE) (Or.inl ⟨by rfl, ?_⟩) ?_; rotate_left; (· (intro w hSw; (try dsimp only at hSw); go_simp; (try with_reducible rfl))); clear hcl; intro hcl; (try simp only [Act.put, List.getElem_toArray, List.getElem_cons_zero, List.getElem_cons_succ, List.setIfInBounds_toArray, List.set_cons_zero, List.set_cons_succ]))
      refine wpM_done (by kernel_rfl) ?_
      clear hcl hC hC5 q0 q1 q2 q3 q4 q5 q6
      try simp only [Act.put, List.getElem_toArray, List.getElem_cons_zero, List.getElem_cons_succ, List.setIfInBounds_toArray, List.set_cons_zero, List.set_cons_succ]
      go_wp2
      go_roundg (n + 1 - (k + 1))
      case measure => omega
      case rel => exact ⟨k + 1, g2, l2, c2', by omega, rfl, by go_num, rfl, by rw [← hst.out]; exact hby3, hGr⟩
    · obtain rfl : k = n := by omega
      have hnli : ¬ (k : Int) < (k : Int) := by omega
      have hsr := blk_below hbxH.out hbr
      have hltx := blk_lt hsr
      have s0 := blk_cell hsr 0
      have s1 := blk_cell hsr 1
      simp at s0 s1
      have hpl := hPN.out k (by omega)
      go_wp2_with fail
      refine (cM.out _).mono ?_
      rintro e w5 ⟨rfl, hv5⟩
      have hG5 := hbr.trans (hv5.mono hz)
      have hs5 := blk_below hsr hv5
      clear s0 s1
      have hltx := blk_lt hs5
      have s0 := blk_cell hs5 0
      have s1 := blk_cell hs5 1
      simp at s0 s1
      have hmb := numB_len m (by omega)
      have hby5 := hby.below hv5
      have hz5 := hG5.size
      go_wp2_with (at_builtin; refine wpList_append_byb rfl _ _ _ _ rfl Tryz.underlying53 Tryz.underlying9 hiu hz1 hz2 hz3 rfl hby5 (numB m) rfl (by omega) hz5 ?_; intro g6 l6 c6 w6 hby6 hg6; (have hG6 : Below W.heap.size W w6 := hG5.grown hg6 hz5 (fun j e => (hby5.lt j e).1)); (have hs6 := blk_below hbxH.out hG6); (clear s0 s1 hltx); (have hltx := blk_lt hs6); (have s0 := blk_cell hs6 0); (have s1 := blk_cell hs6 1); (simp at s0 s1))
      have hp1 : Hid (partS writeP xs gs k m 0 = partN writeP xs k k ++ numB m) := Lib.hid (by simp [partS])
      clear hpl hmb hby5 hby hG5 hg6 hs5 hsr hbr hGw hz5 hv5 hs6
      clear s0 s1 hltx
      go_loopg [5, 56] (m + 1) (fun g b i wr => ∃ (q g' l' c' : Nat), q ≤ m ∧ g = m + 1 - q ∧ i = .int .i64 (q : Int) ∧ b = .slice (some ⟨g', 0, none⟩) l' c' ∧ Byb wr W.heap.size 5 (.slice (some ⟨g', 0, none⟩) l' c') (partS writeP xs gs k m q) ∧ Below W.heap.size W wr)
      case atStart => exact ⟨0, g6, l6, c6, Nat.zero_le _, rfl, rfl, rfl, by rw [hp1.out]; exact hby6, hG6⟩
      case round =>
        clear hby6 hG6
        obtain ⟨q, g', l', c', hk, rfl, rfl, rfl, hby, hbr⟩ := hrel
        have hz := hbr.size
        have hGw := hb0.trans (hbr.mono hzW)
        by_cases hlt : q < m
        · obtain ⟨bA, oA, u, rfl, hbA, hq, hcp⟩ := (hBr.out wr hGw).at_ hlt
          have p0 := hcp 0 _ rfl
          have p1 := hcp 1 _ rfl
          have p2 := hcp 2 _ rfl
          rw [Nat.add_zero] at p0
          clear hcp
          have hlti : (q : Int) < (m : Int) := by omega
          have hbA2 : bA < wr.heap.size := by omega
          have huw := hgH.out u (List.mem_of_getElem? hq)
          have hst := Lib.hid (partS_succ writeP (xs := xs) (n := k) (m := m) hq)
          have hpl := hPS.out q (by omega)
          have hwl := writeT_len u
          have c1 := Lib.hid (cT.out u huw)
          clear hq huw
          go_wp2_with fail
          refine (c1.out _).mono ?_
          rintro e v1 ⟨rfl, hv1⟩
          have hvb : Below wr.heap.size wr v1 := ((Below.refl _ wr).alloc (Nat.le_refl _) _).trans (hv1.mono (by simp))
          have hby1 := hby.below hvb
          have hG1 := hbr.trans (hvb.mono hz)
          have hz1' := hG1.size
          go_wp2_with (at_builtin; refine wpList_append_byb rfl _ _ _ _ rfl Tryz.underlying53 Tryz.underlying9 hiu hz1 hz2 hz3 rfl hby1 (writeT u) rfl (by omega) hz1' ?_; intro g6 l6 c6 w6 hby6 hg6; (have hG6 : Below W.heap.size W w6 := hG1.grown hg6 hz1' (fun j e => (hby1.lt j e).1)))
          go_roundg (m + 1 - (q + 1))
          case measure => omega
          case rel => exact ⟨q + 1, g6, l6, c6, by omega, rfl, by go_num, rfl, by rw [← hst.out]; exact hby6, hG6⟩
        · obtain rfl : q = m := by omega
          have hnli : ¬ (q : Int) < (q : Int) := by omega
          have hcv := conv_rd hby.rd.1 c'
          have hT : Hid (partS writeP xs gs k q q = out) := Lib.hid (by have := hrH.out; rw [hnl.out, hml.out] at this; exact this)
          rw [hT.out] at hcv
          clear hby
          go_wp2
          refine bodyPost_ret (v := .tuple #[.string (bs out), .int .i64 0]) (by simp [results, Tryz.results5, go_sem]) rfl ⟨rfl, hGw⟩
end Go.Proofs.YtadldndmmobpdaaGreatDoor
