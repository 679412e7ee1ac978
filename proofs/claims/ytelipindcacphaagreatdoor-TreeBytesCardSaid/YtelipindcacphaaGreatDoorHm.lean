/- Interests of a reader, both: Read. -/
import Derived.Test.YtelipindcacphaaGreatDoorHl
import Derived.Test.YtelipindcacphaaGreatDoorRsV
namespace Go.Proofs.YtelipindcacphaaGreatDoor
open Go.RowKit

/-- So many texts of a reader. -/
def readTs : Nat → Rs → List (List UInt8) × Rs
  | 0, S => ([], S)
  | n + 1, S => ((readTs n S).1 ++ [(textS 24 (readTs n S).2).1], (textS 24 (readTs n S).2).2)
/-- The next interests of a reader. -/
def readW (S : Rs) : List (List UInt8) × Rs :=
  let p := intS 16 S
  let q := readTs p.1 p.2
  let T := failS q.2 (chkW q.1)
  if T.fe ≠ 0 then ([], T) else (q.1, T)
theorem readTs_len (S : Rs) : ∀ n, (readTs n S).1.length = n
  | 0 => rfl
  | n + 1 => by simp [readTs, readTs_len S n]
theorem readTs_wf {S : Rs} (h : S.wf) : ∀ n, (readTs n S).2.wf ∧ ∀ x ∈ (readTs n S).1, x.length ≤ 24
  | 0 => ⟨h, by simp [readTs]⟩
  | n + 1 => by
    obtain ⟨h1, h2⟩ := readTs_wf h n
    refine ⟨textS_wf 24 h1, fun x hx => ?_⟩
    rcases List.mem_append.1 hx with hx | hx
    · exact h2 x hx
    · rw [List.mem_singleton.1 hx]; exact textS_len 24 _
theorem readW_wf {S : Rs} (h : S.wf) : (readW S).2.wf := by
  have h1 := (readTs_wf (Rs.wf_next h (fun v => if 16 < v then 2 else 0)) (intS 16 S).1).1
  unfold readW
  dsimp only
  split
  · exact Rs.wf_fail h1 _
  · exact Rs.wf_fail h1 _
theorem readW_len (S : Rs) : (readW S).1.length ≤ 16 := by
  have h := intS_le 16 S
  unfold readW
  dsimp only
  split
  · simp
  · rw [readTs_len]; exact h
/-- The variable's block is no reader's. -/
theorem VarM.neP {w : World} {B : Nat} {S : Rs} (hv : VarM w) (h : RdrP w B S) : B ≠ 1 := by
  rintro rfl
  obtain ⟨m, hm⟩ := hv
  obtain ⟨ev, hb, _⟩ := h
  have := blk_cell hb 0
  simp at this
  rw [hm] at this
  cases this
theorem VarM.neD {w : World} {B : Nat} {S : Rs} (hv : VarM w) (h : RdrD w B S) : B ≠ 1 := by
  rintro rfl
  obtain ⟨m, hm⟩ := hv
  unfold RdrD at h
  have := blk_cell h 0
  simp at this
  rw [hm] at this
  cases this
theorem VarM.grown {w w' : World} {B : Nat} (hv : VarM w) (hg : w.grownBy w' (some B)) (hne : B ≠ 1) : VarM w' := by
  have hlt := hv.lt
  obtain ⟨m, hm⟩ := hv
  refine ⟨m, ?_⟩
  have hb := hg.block _ hlt (fun e => hne (Option.some.inj e).symm)
  unfold World.cell? at hm ⊢
  dsimp only at hm ⊢
  rw [hb]
  exact hm

set_option maxRecDepth 100000 in
set_option maxHeartbeats 1000000 in
theorem tread_any (B : Nat) (S : Rs) (w : World) (h : RdrP w B S) (hS : S.wf) (hvm : VarM w) :
    Calls Tryz.prog 10 #[.pointer (some ⟨B, 0, none⟩)] w
      fun r w' => ∃ A n c, r = .returned (.slice A n c) ∧ Ow w' w.heap.size 9 1 (.slice A n c) ((readW S).1.map encS) ∧ RdrP w' B (readW S).2 ∧ w.grownBy w' (some B) := by
  have hw1 : (intS 16 S).2.wf := Rs.wf_next hS _
  have c1 := pint_any 16 B (by omega) S w h hS
  have hle1 := intS_le 16 S
  obtain ⟨xs, T, hT⟩ : ∃ xs T, readW S = (xs, T) := ⟨_, _, rfl⟩
  rw [hT]
  unfold readW at hT
  dsimp only at hT
  generalize intS 16 S = p at *
  obtain ⟨m, S1⟩ := p
  dsimp only at *
  have hBlt := h.lt
  have hne := hvm.neP h
  have c1 := Lib.hid c1
  have hwH := Lib.hid hw1
  have m0 : (0 : Int) ≤ (m : Int) := by omega
  have hTH := Lib.hid hT
  clear hw1 hT hS h
  go_enter Tryz.func10, Tryz.ntmps10
  go_wp2_with fail
  refine c1.out.mono ?_
  rintro e w1 ⟨rfl, hR1, hg1⟩
  go_wp2_with fail
  go_loopg [3, 6] (m + 1) (fun g l i wr => ∃ (k : Nat) (A : Option Addr) (c : Nat), k ≤ m ∧ g = m + 1 - k ∧ i = .int .i64 (k : Int) ∧ l = .slice A k c ∧ Ow wr w.heap.size 9 1 (.slice A k c) ((readTs k S1).1.map encS) ∧ RdrP wr B (readTs k S1).2 ∧ w.grownBy wr (some B))
  case atStart => exact ⟨0, none, 0, Nat.zero_le _, rfl, rfl, rfl, Ow.nil_ _ _ _ _, hR1, hg1⟩
  case round =>
    clear hR1 hg1
    obtain ⟨k, A, c, hk, rfl, rfl, rfl, hown, hR, hg⟩ := hrel
    have hz := hg.size
    have hBr := hR.lt
    by_cases hlt : k < m
    · have hwk := (readTs_wf hwH.out k).1
      have c2 := Lib.hid (ptext_any 24 B (by omega) _ wr hR hwk)
      obtain ⟨u, S2, hu⟩ : ∃ u S2, textS 24 (readTs k S1).2 = (u, S2) := ⟨_, _, rfl⟩
      have hst1 : (readTs (k + 1) S1).1 = (readTs k S1).1 ++ [u] := by rw [readTs, hu]
      have hst2 : (readTs (k + 1) S1).2 = S2 := by rw [readTs, hu]
      rw [hu] at c2
      have hlk := readTs_len S1 k
      have h1H := Lib.hid hst1
      have h2H := Lib.hid hst2
      have hlH := Lib.hid hlk
      clear hst1 hst2 hu hlk hwk
      go_wp2_with fail
      refine c2.out.mono ?_
      rintro e w2 ⟨rfl, hR2, hg2⟩
      have hz2 := hg2.size
      have hown2 := hown.keptB hg2 hBlt
      have hbO : Below w2.heap.size w2 (w2.alloc (.cells #[.string (bs u)] 9)) := (Below.refl _ w2).alloc (Nat.le_refl _) _
      have hlen1 : ∀ y ∈ ([[.string (bs u)]] : List (List Value)), y.length = 1 := by simp
      have hone1 : ∀ y ∈ ([[.string (bs u)]] : List (List Value)), ∀ v ∈ y, v.oneCell' = true := by simp [Value.oneCell']
      go_wp2_with (at_builtin; refine wpList_append_rd _ rfl _ _ _ rfl eStr (base := w.heap.size) (v := .slice A k c) (xs := (readTs k S1).1.map encS) rfl (hown2.below hbO) rfl (Rd.one' [.string (bs u)] rfl) hlen1 hone1 (by rw [List.length_map, hlH.out]; unfold maxLen; omega) (by rw [List.length_map, hlH.out]; omega) (by simp; omega) ?_; intro A2 n2 c2 w4 hn2 hown4 hg4 hat2; (obtain rfl : n2 = k + 1 := (by rw [hn2, List.length_map, hlH.out])); clear hn2)
      go_roundg (m + 1 - (k + 1))
      case measure => omega
      case rel =>
        refine ⟨k + 1, A2, c2, by omega, rfl, by go_num, rfl, ?_, ?_, ?_⟩
        · rw [h1H.out, List.map_append]; exact hown4
        · rw [h2H.out]
          exact (hR2.below hbO).appended (hown2.below hbO) hg4 (by decide) (by decide)
        · exact gr_then (gr_alloc (hg.trans hg2) _) hg4 (fun g e => (hown.block g e).1)
    · obtain rfl : k = m := by omega
      have hxw := (readTs_wf hwH.out k).2
      have hlk := readTs_len S1 k
      have hTT := hTH.out
      generalize readTs k S1 = q at hown hR hxw hlk hTT
      obtain ⟨l, S3⟩ := q
      dsimp only at hown hR hxw hlk hTT
      have c3 := (fun A n c xs w hA hn hx hv => tCheck_any A n c xs w hA hn hx hv) A k c l wr hown.rd.1 (by omega) (fun x hx => Nat.le_trans (hxw x hx) (by decide)) (hvm.grown hg hne)
      by_cases hf : S3.fe = 0
      · generalize hle : chkW l = p at c3 hTT
        have c3 := Lib.hid c3
        have hRk := Lib.hid hR
        by_cases hp : p = 0
        · subst hp
          have hfs : failS S3 0 = S3 := by unfold failS; rw [if_neg (by simp)]
          rw [hfs, if_neg (by simp [hf])] at hTT
          obtain ⟨rfl, rfl⟩ := Prod.mk.inj hTT
          have hfsH := Lib.hid hfs
          clear hTT hle hxw hfs
          obtain ⟨ev, hbz, hez⟩ := hR
          obtain ⟨_, rfl⟩ := hez.resolve_right (fun h9 => absurd (by assumption) h9.1)
          have hltz := blk_lt hbz
          have z0 := blk_cell hbz 0
          have z1 := blk_cell hbz 1
          have z2 := blk_cell hbz 2
          simp at z0 z1 z2
          clear hbz hez
          go_wp2_with fail
          refine (perr_any _ _ _ hltz z2).mono ?_
          rintro e w' ⟨rfl, rfl⟩
          go_wp2_with fail
          refine c3.out.mono ?_
          rintro e w2 ⟨rfl, hb2⟩
          have hR2 := hRk.out.below hb2
          have hown2 := hown.below hb2
          clear z0 z1 z2 hltz
          go_wp2_with fail
          refine (pfail_any B S3 0 _ hR2).mono ?_
          rintro e w3 ⟨rfl, hR3, hg3⟩
          rw [hfsH.out] at hR3
          have hR3k := Lib.hid hR3
          have hfin := (hg.trans (gr_below hb2 _)).trans hg3
          have hown3 := hown2.keptB hg3 hBlt
          obtain ⟨ev, hbz, hez⟩ := hR3
          obtain ⟨_, rfl⟩ := hez.resolve_right (fun h9 => absurd (by assumption) h9.1)
          have hltz := blk_lt hbz
          have z0 := blk_cell hbz 0
          have z1 := blk_cell hbz 1
          have z2 := blk_cell hbz 2
          simp at z0 z1 z2
          clear hbz hez
          go_wp2
          go_ret
          exact ⟨A, k, c, rfl, hown3, hR3k.out, hfin⟩
        · have hfe := failS_fe (S := S3) hp
          rw [if_pos hfe] at hTT
          obtain ⟨rfl, rfl⟩ := Prod.mk.inj hTT
          have hpH := Lib.hid hp
          clear hTT hle hxw hp
          obtain ⟨ev, hbz, hez⟩ := hR
          obtain ⟨_, rfl⟩ := hez.resolve_right (fun h9 => absurd (by assumption) h9.1)
          have hltz := blk_lt hbz
          have z0 := blk_cell hbz 0
          have z1 := blk_cell hbz 1
          have z2 := blk_cell hbz 2
          simp at z0 z1 z2
          clear hbz hez
          go_wp2_with fail
          refine (perr_any _ _ _ hltz z2).mono ?_
          rintro e w' ⟨rfl, rfl⟩
          go_wp2_with fail
          refine c3.out.mono ?_
          rintro e w2 ⟨rfl, hb2⟩
          have hR2 := hRk.out.below hb2
          clear z0 z1 z2 hltz
          go_wp2_with fail
          refine (pfail_any B S3 p _ hR2).mono ?_
          rintro e w3 ⟨rfl, hR3, hg3⟩
          have hR3k := Lib.hid hR3
          have hfin := (hg.trans (gr_below hb2 _)).trans hg3
          obtain ⟨ev, hbz, hez⟩ := hR3
          obtain ⟨hne, Fz, rfl, hFz⟩ : (failS S3 p).fe ≠ 0 ∧ ∃ F, ev = .iface 54 (.pointer (some ⟨F, 0, none⟩)) ∧ _ := hez.resolve_left (fun h9 => absurd h9.1 (by assumption))
          have hltz := blk_lt hbz
          have z0 := blk_cell hbz 0
          have z1 := blk_cell hbz 1
          have z2 := blk_cell hbz 2
          simp at z0 z1 z2
          clear hbz hFz hne hez
          go_wp2
          go_ret
          exact ⟨none, 0, 0, rfl, Ow.nil_ _ _ _ _, hR3k.out, hfin⟩
      · have hfs : failS S3 (chkW l) = S3 := by unfold failS; rw [if_neg (fun h => hf h.1)]
        rw [hfs, if_pos hf] at hTT
        obtain ⟨rfl, rfl⟩ := Prod.mk.inj hTT
        have hRk := Lib.hid hR
        have hen2 : (S3.fe == 0) = false := by simpa using hf
        clear hTT hfs hxw c3
        obtain ⟨ev, hbz, hez⟩ := hR
        obtain ⟨hne, Fz, rfl, hFz⟩ : S3.fe ≠ 0 ∧ ∃ F, ev = .iface 54 (.pointer (some ⟨F, 0, none⟩)) ∧ _ := hez.resolve_left (fun h9 => absurd h9.1 (by assumption))
        have hltz := blk_lt hbz
        have z0 := blk_cell hbz 0
        have z1 := blk_cell hbz 1
        have z2 := blk_cell hbz 2
        simp at z0 z1 z2
        clear hbz hFz hne hez
        go_wp2
        go_ret
        exact ⟨none, 0, 0, rfl, Ow.nil_ _ _ _ _, hRk.out, hg⟩
set_option maxRecDepth 100000 in
set_option maxHeartbeats 1000000 in
theorem rtread_any (B : Nat) (S : Rs) (w : World) (h : RdrD w B S) (hS : S.wf) (hvm : VarM w) :
    Calls Tryz.prog 11 #[.pointer (some ⟨B, 0, none⟩)] w
      fun r w' => ∃ A n c, r = .returned (.slice A n c) ∧ Ow w' w.heap.size 9 1 (.slice A n c) ((readW S).1.map encS) ∧ RdrD w' B (readW S).2 ∧ w.grownBy w' (some B) := by
  have hw1 : (intS 16 S).2.wf := Rs.wf_next hS _
  have c1 := dint_any 16 B (by omega) S w h hS
  have hle1 := intS_le 16 S
  obtain ⟨xs, T, hT⟩ : ∃ xs T, readW S = (xs, T) := ⟨_, _, rfl⟩
  rw [hT]
  unfold readW at hT
  dsimp only at hT
  generalize intS 16 S = p at *
  obtain ⟨m, S1⟩ := p
  dsimp only at *
  have hBlt := h.lt
  have hne := hvm.neD h
  have c1 := Lib.hid c1
  have hwH := Lib.hid hw1
  have m0 : (0 : Int) ≤ (m : Int) := by omega
  have hTH := Lib.hid hT
  clear hw1 hT hS h
  go_enter Tryz.func11, Tryz.ntmps11
  go_wp2_with fail
  refine c1.out.mono ?_
  rintro e w1 ⟨rfl, hR1, hg1⟩
  go_wp2_with fail
  go_loopg [3, 5] (m + 1) (fun g l i wr => ∃ (k : Nat) (A : Option Addr) (c : Nat), k ≤ m ∧ g = m + 1 - k ∧ i = .int .i64 (k : Int) ∧ l = .slice A k c ∧ Ow wr w.heap.size 9 1 (.slice A k c) ((readTs k S1).1.map encS) ∧ RdrD wr B (readTs k S1).2 ∧ w.grownBy wr (some B))
  case atStart => exact ⟨0, none, 0, Nat.zero_le _, rfl, rfl, rfl, Ow.nil_ _ _ _ _, hR1, hg1⟩
  case round =>
    clear hR1 hg1
    obtain ⟨k, A, c, hk, rfl, rfl, rfl, hown, hR, hg⟩ := hrel
    have hz := hg.size
    have hBr := hR.lt
    by_cases hlt : k < m
    · have hwk := (readTs_wf hwH.out k).1
      have c2 := Lib.hid (dtext_any 24 B (by omega) _ wr hR hwk)
      obtain ⟨u, S2, hu⟩ : ∃ u S2, textS 24 (readTs k S1).2 = (u, S2) := ⟨_, _, rfl⟩
      have hst1 : (readTs (k + 1) S1).1 = (readTs k S1).1 ++ [u] := by rw [readTs, hu]
      have hst2 : (readTs (k + 1) S1).2 = S2 := by rw [readTs, hu]
      rw [hu] at c2
      have hlk := readTs_len S1 k
      have h1H := Lib.hid hst1
      have h2H := Lib.hid hst2
      have hlH := Lib.hid hlk
      clear hst1 hst2 hu hlk hwk
      go_wp2_with fail
      refine c2.out.mono ?_
      rintro e w2 ⟨rfl, hR2, hg2⟩
      have hz2 := hg2.size
      have hown2 := hown.keptB hg2 hBlt
      have hbO : Below w2.heap.size w2 (w2.alloc (.cells #[.string (bs u)] 9)) := (Below.refl _ w2).alloc (Nat.le_refl _) _
      have hlen1 : ∀ y ∈ ([[.string (bs u)]] : List (List Value)), y.length = 1 := by simp
      have hone1 : ∀ y ∈ ([[.string (bs u)]] : List (List Value)), ∀ v ∈ y, v.oneCell' = true := by simp [Value.oneCell']
      go_wp2_with (at_builtin; refine wpList_append_rd _ rfl _ _ _ rfl eStr (base := w.heap.size) (v := .slice A k c) (xs := (readTs k S1).1.map encS) rfl (hown2.below hbO) rfl (Rd.one' [.string (bs u)] rfl) hlen1 hone1 (by rw [List.length_map, hlH.out]; unfold maxLen; omega) (by rw [List.length_map, hlH.out]; omega) (by simp; omega) ?_; intro A2 n2 c2 w4 hn2 hown4 hg4 hat2; (obtain rfl : n2 = k + 1 := (by rw [hn2, List.length_map, hlH.out])); clear hn2)
      go_roundg (m + 1 - (k + 1))
      case measure => omega
      case rel =>
        refine ⟨k + 1, A2, c2, by omega, rfl, by go_num, rfl, ?_, ?_, ?_⟩
        · rw [h1H.out, List.map_append]; exact hown4
        · rw [h2H.out]
          exact (hR2.below hbO).appended (hown2.below hbO) hg4 (by decide) (by decide)
        · exact gr_then (gr_alloc (hg.trans hg2) _) hg4 (fun g e => (hown.block g e).1)
    · obtain rfl : k = m := by omega
      have hxw := (readTs_wf hwH.out k).2
      have hlk := readTs_len S1 k
      have hTT := hTH.out
      generalize readTs k S1 = q at hown hR hxw hlk hTT
      obtain ⟨l, S3⟩ := q
      dsimp only at hown hR hxw hlk hTT
      have c3 := (fun A n c xs w hA hn hx _ => rCheckW_any A n c xs w hA hn hx) A k c l wr hown.rd.1 (by omega) (fun x hx => Nat.le_trans (hxw x hx) (by decide)) (hvm.grown hg hne)
      by_cases hf : S3.fe = 0
      · generalize hle : chkW l = p at c3 hTT
        have c3 := Lib.hid c3
        have hRk := Lib.hid hR
        by_cases hp : p = 0
        · subst hp
          have hfs : failS S3 0 = S3 := by unfold failS; rw [if_neg (by simp)]
          rw [hfs, if_neg (by simp [hf])] at hTT
          obtain ⟨rfl, rfl⟩ := Prod.mk.inj hTT
          have hfsH := Lib.hid hfs
          clear hTT hle hxw hfs
          have hbz := hR
          unfold RdrD at hbz
          rw [(by assumption : S3.fe = 0)] at hbz
          have hltz := blk_lt hbz
          have z0 := blk_cell hbz 0
          have z1 := blk_cell hbz 1
          have z2 := blk_cell hbz 2
          have z3 := blk_cell hbz 3
          simp at z0 z1 z2 z3
          clear hbz
          skip
          go_wp2_with fail
          refine c3.out.mono ?_
          rintro e w2 ⟨rfl, hb2⟩
          have hR2 := hRk.out.below hb2
          have hown2 := hown.below hb2
          clear z0 z1 z2 hltz
          go_wp2_with fail
          refine (dfail_any B S3 0 _ hR2).mono ?_
          rintro e w3 ⟨rfl, hR3, hg3⟩
          rw [hfsH.out] at hR3
          have hR3k := Lib.hid hR3
          have hfin := (hg.trans (gr_below hb2 _)).trans hg3
          have hown3 := hown2.keptB hg3 hBlt
          have hbz := hR3
          unfold RdrD at hbz
          rw [(by assumption : S3.fe = 0)] at hbz
          have hltz := blk_lt hbz
          have z0 := blk_cell hbz 0
          have z1 := blk_cell hbz 1
          have z2 := blk_cell hbz 2
          have z3 := blk_cell hbz 3
          simp at z0 z1 z2 z3
          clear hbz
          go_wp2
          go_ret
          exact ⟨A, k, c, rfl, hown3, hR3k.out, hfin⟩
        · have hfe := failS_fe (S := S3) hp
          rw [if_pos hfe] at hTT
          obtain ⟨rfl, rfl⟩ := Prod.mk.inj hTT
          have hpH := Lib.hid hp
          clear hTT hle hxw hp
          have hbz := hR
          unfold RdrD at hbz
          rw [(by assumption : S3.fe = 0)] at hbz
          have hltz := blk_lt hbz
          have z0 := blk_cell hbz 0
          have z1 := blk_cell hbz 1
          have z2 := blk_cell hbz 2
          have z3 := blk_cell hbz 3
          simp at z0 z1 z2 z3
          clear hbz
          skip
          go_wp2_with fail
          refine c3.out.mono ?_
          rintro e w2 ⟨rfl, hb2⟩
          have hR2 := hRk.out.below hb2
          clear z0 z1 z2 hltz
          go_wp2_with fail
          refine (dfail_any B S3 p _ hR2).mono ?_
          rintro e w3 ⟨rfl, hR3, hg3⟩
          have hR3k := Lib.hid hR3
          have hfin := (hg.trans (gr_below hb2 _)).trans hg3
          have hbz := hR3
          unfold RdrD at hbz
          have hltz := blk_lt hbz
          have z0 := blk_cell hbz 0
          have z1 := blk_cell hbz 1
          have z2 := blk_cell hbz 2
          have z3 := blk_cell hbz 3
          simp at z0 z1 z2 z3
          have hen : ((failS S3 p).fe != 0) = true := by rw [bne_iff_ne]; assumption
          clear hbz
          go_wp2
          go_ret
          exact ⟨none, 0, 0, rfl, Ow.nil_ _ _ _ _, hR3k.out, hfin⟩
      · have hfs : failS S3 (chkW l) = S3 := by unfold failS; rw [if_neg (fun h => hf h.1)]
        rw [hfs, if_pos hf] at hTT
        obtain ⟨rfl, rfl⟩ := Prod.mk.inj hTT
        have hRk := Lib.hid hR
        have hen2 : (S3.fe == 0) = false := by simpa using hf
        clear hTT hfs hxw c3
        have hbz := hR
        unfold RdrD at hbz
        have hltz := blk_lt hbz
        have z0 := blk_cell hbz 0
        have z1 := blk_cell hbz 1
        have z2 := blk_cell hbz 2
        have z3 := blk_cell hbz 3
        simp at z0 z1 z2 z3
        have hen : (S3.fe != 0) = true := by rw [bne_iff_ne]; assumption
        clear hbz
        go_wp2
        go_ret
        exact ⟨none, 0, 0, rfl, Ow.nil_ _ _ _ _, hRk.out, hg⟩
end Go.Proofs.YtelipindcacphaaGreatDoor
