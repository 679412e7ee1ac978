/- The document's Parts of a list of who each comes behind. -/
import Derived.Test.YtebpghpeeedgcaaNb
import Derived.Deep.CutBlock
namespace Go.Proofs.Ytebpghpeeedgcaa
open Go.RowKit

theorem rowB_congr {n : Nat} {f f' : Nat → Bool} (h : ∀ m, m < n → f m = f' m) : rowB n f = rowB n f' := by
  unfold rowB
  congr 1
  refine List.map_congr_left fun m hm => ?_
  rw [h m (List.mem_range.1 hm)]
theorem rp_bool (g : Gr) : ∃ RB : Nat → Nat → Bool, ∀ i m, RB i m = true ↔ Rp g i m := ⟨fun i m => @decide (Rp g i m) (Classical.propDecidable _), fun i m => by simp⟩
theorem tof_bool : ∃ TB : List (List Nat) → Nat → Bool, ∀ o j, TB o j = true ↔ Tof o j := ⟨fun o j => @decide (Tof o j) (Classical.propDecidable _), fun o j => by simp⟩
theorem unB_mono {n : Nat} {f f' : Nat → Bool} (h : ∀ j, f j = true → f' j = true) : unB n f' ≤ unB n f := by
  induction n with
  | zero => exact Nat.le_refl _
  | succ n ih =>
    rw [unB, unB]
    by_cases h1 : f n = true
    · rw [if_pos h1, if_pos (h n h1)]; omega
    · rw [if_neg h1]
      split <;> omega
theorem unB_lt {n k : Nat} {f f' : Nat → Bool} (h : ∀ j, f j = true → f' j = true) (hk : k < n) (h0 : f k = false) (h1 : f' k = true) : unB n f' < unB n f := by
  induction n with
  | zero => omega
  | succ n ih =>
    rw [unB, unB]
    by_cases e : k = n
    · subst e
      have := unB_mono (n := k) h
      rw [if_pos h1, if_neg (by rw [h0]; decide)]
      omega
    · have := ih (by omega)
      by_cases h2 : f n = true
      · rw [if_pos h2, if_pos (h n h2)]; omega
      · rw [if_neg h2]
        split <;> omega
theorem filter_range (p : Nat → Bool) (m : Nat) : (List.range (m + 1)).filter p = if p m = true then (List.range m).filter p ++ [m] else (List.range m).filter p := by
  rw [List.range_succ, List.filter_append]
  by_cases h : p m = true
  · rw [if_pos h]; simp [h]
  · rw [if_neg h]; simp [h]
theorem filter_asc (p : Nat → Bool) (n : Nat) : ((List.range n).filter p).Pairwise (· < ·) := List.pairwise_lt_range.filter _
theorem infoBools : (Try.prog.info? 23).map (fun i => (i.zero, i.size, i.bytes)) = some (some (.slice none 0 0), 1, 24) := by kernel_rfl
theorem eBools : ElemInfo Try.prog 46 23 1 24 := by
  obtain ⟨i, hi, h0, h1, h2⟩ := info_parts infoBools
  exact ⟨Try.underlying46, ⟨i, _, hi, h0, h1, h2, rfl⟩, by decide⟩
/-- The matrix, as far as it is made. -/
structure Mat (w : World) (base : Nat) (TA : Option Addr) (k tc n : Nat) (RB : Nat → Nat → Bool) (bb : Nat → Nat) : Prop where
  own : Ow w base 23 1 (.slice TA k tc) ((List.range k).map fun i => [.slice (some ⟨bb i, 0, none⟩) n n])
  row : ∀ i, i < k → base ≤ bb i ∧ w.heap[bb i]? = some (.cells (rowB n (RB i)) 4 (0, 0))
theorem Mat.kept {w w' : World} {base k tc n : Nat} {TA : Option Addr} {RB : Nat → Nat → Bool} {bb : Nat → Nat} (h : Mat w base TA k tc n RB bb) (hb : Below w.heap.size w w') : Mat w' base TA k tc n RB bb :=
  ⟨h.own.below hb, fun i hi => ⟨(h.row i hi).1, blk_below (h.row i hi).2 hb⟩⟩
theorem Mat.at_ {w : World} {base k tc n : Nat} {TA : Option Addr} {RB : Nat → Nat → Bool} {bb : Nat → Nat} (h : Mat w base TA k tc n RB bb) {i : Nat} (hi : i < k) : ∃ t, TA = some ⟨t, 0, none⟩ ∧ t < w.heap.size ∧ w.cell? ⟨t, i, none⟩ = some (.slice (some ⟨bb i, 0, none⟩) n n) ∧ bb i < w.heap.size ∧
    ∀ m, m < n → w.cell? ⟨bb i, m, none⟩ = some (.bool (RB i m)) := by
  obtain ⟨t, hA, _, hl, _, hc⟩ := h.own.addr (by omega)
  have h1 := hc i _ (by rw [List.getElem?_map, List.getElem?_range hi]; rfl) 0 _ rfl
  rw [Nat.mul_one, Nat.add_zero] at h1
  have h2 := (h.row i hi).2
  refine ⟨t, hA, hl, h1, blk_lt h2, fun m hm => ?_⟩
  rw [blk_cell h2 m, rowB_at _ hm]
/-- What is handed back so far. -/
structure OutW (w : World) (base : Nat) (OA : Option Addr) (oc : Nat) (ps : List Rw) (o : List (List Nat)) : Prop where
  own : Ow w base 31 1 (.slice OA ps.length oc) (ps.map Rw.enc)
  prs : ∀ r ∈ ps, Ow w base 3 1 (.slice r.A r.l r.c) (r.xs.map eI)
  psx : ps.map Rw.xs = o.map fun l => l.map Int.ofNat
def PtP (xs : List (List Int)) (_n : Nat) (E : Int) (w : World) (e : Ending) (w' : World) : Prop :=
  ∃ (OA : Option Addr) (oc : Nat) (ps : List Rw) (o : List (List Nat)), e = .returned (.tuple #[.slice OA ps.length oc, .int .i64 E]) ∧ RdG w' w'.heap.size OA ps.length ps ∧ (∀ r ∈ ps, r.l ≤ 100000) ∧ ps.map Rw.xs = o.map (fun l => l.map Int.ofNat) ∧ (E = 0 → Full (gOf xs) o) ∧ (E ≠ 0 → o = []) ∧ Below w.heap.size w w'
set_option maxRecDepth 100000 in
set_option maxHeartbeats 4000000 in
theorem rsparts_any (A : Option Addr) (n c : Nat) (rs : List Rw) (w : World) (hA : RdG w w.heap.size A n rs) (hn : n ≤ maxLen) (hm : ∀ r ∈ rs, r.l ≤ 1000000) :
    Calls Try.prog 9 #[.slice A n c] w fun e w' => PtP (rs.map Rw.xs) n (checkS n rs) w e w' := by
  have hl := Lib.hid hA.len
  have hAH := Lib.hid hA
  have hmH := Lib.hid hm
  have cL := Lib.hid (rscheck_any A n c rs w hA hn hm)
  obtain ⟨E, hE⟩ : ∃ E, checkS n rs = E := ⟨_, rfl⟩
  rw [hE] at cL ⊢
  by_cases hE0 : E = 0
  case neg =>
    have hEd : (E != 0) = true := by simpa using hE0
    clear hA hm hE
    go_enter Try.func9, Try.ntmps9
    go_wp2_with fail
    refine cL.out.mono ?_
    rintro e w1 ⟨rfl, hb1⟩
    have hE0H := Lib.hid hE0
    clear hE0
    go_wp2
    go_ret2
    exact ⟨none, 0, [], [], rfl, RdG.nil_, by simp, rfl, fun h => absurd h hE0H.out, fun _ => rfl, hb1⟩
  subst hE0
  have hn1 : n ≤ 1024 := by
    unfold checkS at hE
    split at hE
    · omega
    · rename_i h
      unfold longP at h
      rw [Bool.not_eq_true, Bool.or_eq_false_iff, decide_eq_false_iff_not] at h
      omega
  have hxl : (rs.map Rw.xs).length = n := by rw [List.length_map]; exact hl.out
  have hxlH := Lib.hid hxl
  have hgl : (gOf (rs.map Rw.xs)).length = n := by rw [gOf_len]; exact hxl
  have hglH := Lib.hid hgl
  obtain ⟨RB, hRB⟩ := rp_bool (gOf (rs.map Rw.xs))
  replace hRB := Lib.hid hRB
  obtain ⟨TB, hTB⟩ := tof_bool
  replace hTB := Lib.hid hTB
  clear hA hm hE hn hgl hxl
  go_enter Try.func9, Try.ntmps9
  go_wp2_with fail
  refine cL.out.mono ?_
  rintro e w1 ⟨rfl, hb1⟩
  have hb1H := Lib.hid hb1
  clear hb1 cL
  go_wp2_with fail
  go_loopg [6, 7] (n + 1) (fun gg tv iv wr => ∃ (k : Nat) (TA : Option Addr) (tc : Nat) (bb : Nat → Nat), k ≤ n ∧ gg = n + 1 - k ∧ iv = .int .i64 (k : Int) ∧ tv = .slice TA k tc ∧ Mat wr w.heap.size TA k tc n RB bb ∧ Below w.heap.size w wr)
  case atStart => exact ⟨0, none, 0, fun _ => 0, Nat.zero_le _, rfl, rfl, rfl, ⟨Ow.nil_ _ _ _ _, fun i hi => absurd hi (Nat.not_lt_zero i)⟩, hb1H.out⟩
  case round =>
    obtain ⟨k, TA, tc, bb, hk, rfl, rfl, rfl, hM, hbr⟩ := hrel
    obtain ⟨wv, hwv⟩ : ∃ wv, wv = wr := ⟨_, rfl⟩
    obtain rfl := hwv
    have hzv := hbr.size
    have hMH := Lib.hid hM
    clear hM
    by_cases hlt : k < n
    · have hlti : (k : Int) < (n : Int) := by omega
      have cF := Lib.hid (rfrom_any A n c rs k wv ((hAH.out.below hbr).more hzv) (by omega) hmH.out hlt)
      go_wp2_with fail
      refine cF.out.mono ?_
      rintro e w2 ⟨b, rfl, ⟨hbb, sn, hsn, hsr⟩, hb2⟩
      have hz2 := hb2.size
      have hM2 := hMH.out.kept hb2
      have hrow : w2.heap[b]? = some (.cells (rowB n (RB k)) 4 (0, 0)) := by
        rw [hsn, rowB_congr (f' := RB k) fun m hm => by rw [Bool.eq_iff_iff, hRB.out]; exact hsr m hm]
      have hM2H := Lib.hid hM2
      have hrowH := Lib.hid hrow
      have hbr2 := hbr.trans (hb2.mono hzv)
      have hkl : ((List.range k).map fun i => [Value.slice (some ⟨bb i, 0, none⟩) n n]).length = k := by simp
      have hklH := Lib.hid hkl
      clear hsn hsr hM2 hrow cF hkl
      go_wp2_with (at_builtin; refine wpList_append_rd _ rfl _ _ _ rfl eBools (base := w.heap.size) (v := .slice TA k tc) (xs := (List.range k).map fun i => [Value.slice (some ⟨bb i, 0, none⟩) n n]) rfl (hM2H.out.own.below ((Below.refl _ w2).alloc (Nat.le_refl _) _)) rfl (Rd.one' [Value.slice (some ⟨b, 0, none⟩) n n] rfl) (by simp) (by simp [Value.oneCell']) (by rw [hklH.out]; simp [maxLen]; omega) (by rw [hklH.out]; omega) (by simp; omega) ?_; intro A5 n5 c5 w5 hn5 hown5 hg5 hat5; (obtain rfl : n5 = k + 1 := (by rw [hn5, hklH.out])); clear hn5)
      have hgr : Gk (fun b => (Value.slice TA k tc).ownBlock = some b) w2 w5 := ((Gk.refl _ w2).alloc _).grown hg5 (fun k e => .inl e)
      have hb5 : Below w.heap.size w w5 := hbr2.trans (hgr.below hbr2.size (fun q hq => (hM2H.out.own.block q hq).1))
      have hne : ∀ q, w2.heap[q]? = some (.cells (rowB n (RB k)) 4 (0, 0)) ∨ (∃ i, i < k ∧ q = bb i) → (Value.slice TA k tc).ownBlock ≠ some q := by
        rintro q (hq | ⟨i, hi, rfl⟩)
        · exact Ow.ne_blkK hM2H.out.own hq (by decide)
        · exact Ow.ne_blkK hM2H.out.own (hM2H.out.row i hi).2 (by decide)
      have hM5 : Mat w5 w.heap.size A5 (k + 1) c5 n RB (fun i => if i = k then b else bb i) := by
        refine ⟨?_, fun i hi => ?_⟩
        · rw [List.range_succ, List.map_append]
          have e1 : ((List.range k).map fun i => [Value.slice (some ⟨if i = k then b else bb i, 0, none⟩) n n]) = (List.range k).map fun i => [Value.slice (some ⟨bb i, 0, none⟩) n n] := by
            refine List.map_congr_left fun i hi => ?_
            rw [if_neg (by have := List.mem_range.1 hi; omega)]
          rw [e1]
          simpa using hown5
        · by_cases e : i = k
          · rw [if_pos e, e]
            exact ⟨by omega, hgr.blk hrowH.out (hne b (.inl hrowH.out))⟩
          · rw [if_neg e]
            exact ⟨(hM2H.out.row i (by omega)).1, hgr.blk (hM2H.out.row i (by omega)).2 (hne _ (.inr ⟨i, by omega, rfl⟩))⟩
      go_roundg (n + 1 - (k + 1))
      case measure => omega
      case rel => exact ⟨k + 1, A5, c5, _, by omega, rfl, by go_num, rfl, hM5, hb5⟩
    · obtain rfl : n = k := by omega
      have hnlt : ¬ (n : Int) < (n : Int) := by omega
      have hmk := make_bool n (by omega)
      have hTB0 : Hid (rowB n (fun _ => false) = rowB n (TB [])) := Lib.hid (rowB_congr fun m _ => by
        cases h : TB [] m with
        | false => rfl
        | true => exact absurd ((hTB.out [] m).1 h) (tof_nil m))
      obtain ⟨U, hU⟩ : ∃ U, wv.alloc (.cells (rowB n fun _ => false) 4) = U := ⟨_, rfl⟩
      have hbU : Below wv.heap.size wv U := by rw [← hU]; exact (Below.refl _ wv).alloc (Nat.le_refl _) _
      have hthU : U.heap[wv.heap.size]? = some (.cells (rowB n (TB [])) 4 (0, 0)) := by rw [← hU, ← hTB0.out]; exact heap_at _ _ rfl
      have hltU := blk_lt hthU
      have hthH := Lib.hid hthU
      have hbUH := Lib.hid hbU
      have hun0 : unB n (TB []) ≤ n := unB_le _ _
      clear hthU hbU
      go_wp2_with fail
      try rw [hU]
      clear hU hmk
      go_loopg [9] (unB n (TB []) + 1) (fun gg ov wr => ∃ (o : List (List Nat)) (ps : List Rw) (OA : Option Addr) (oc : Nat), gg = unB n (TB o) + 1 ∧ ov = .slice OA ps.length oc ∧ OutW wr U.heap.size OA oc ps o ∧ Pre (gOf (rs.map Rw.xs)) o ∧
        wr.heap[wv.heap.size]? = some (.cells (rowB n (TB o)) 4 (0, 0)) ∧ ps.length + unB n (TB o) ≤ n ∧ U.heap.size ≤ wr.heap.size ∧ Below wv.heap.size wv wr)
      case atStart => exact ⟨[], [], none, 0, rfl, rfl, ⟨Ow.nil_ _ _ _ _, (fun r hr => by cases hr), rfl⟩, pre_nil _, hthH.out, by simpa using hun0, Nat.le_refl _, hbUH.out⟩
      case round =>
        obtain ⟨o, ps, OA, oc, rfl, rfl, hO, hP, hth, hpl, hzU, hbw⟩ := hrel
        obtain ⟨wu, hwu⟩ : ∃ wu, wu = wr := ⟨_, rfl⟩
        obtain rfl := hwu
        have hOH := Lib.hid hO
        have hPH := Lib.hid hP
        have hthH2 := Lib.hid hth
        have hMw := Lib.hid (hMH.out.kept hbw)
        clear hO hP hth
        go_upto_block 4 with (fail)
        go_cut [10] (fun s10 wx => ∃ z : Int, s10 = .int .i64 z ∧ ((z = -1 ∧ ∀ i, i < n → ¬ Rdy (gOf (rs.map Rw.xs)) (Tof o) i) ∨ ∃ i0 : Nat, z = (i0 : Int) ∧ i0 < n ∧ Nxt (gOf (rs.map Rw.xs)) (Tof o) i0) ∧ wu = wx)
        case first =>
          go_wp2_with fail
          go_loopg [10, 11] (n + 1) (fun gg nv iv wx => ∃ (k : Nat) (z : Int), k ≤ n ∧ gg = n + 1 - k ∧ iv = .int .i64 (k : Int) ∧ nv = .int .i64 z ∧ ((z = -1 ∧ ∀ i, i < k → ¬ Rdy (gOf (rs.map Rw.xs)) (Tof o) i) ∨ ∃ i0 : Nat, z = (i0 : Int) ∧ i0 < n ∧ Nxt (gOf (rs.map Rw.xs)) (Tof o) i0) ∧ wu = wx)
          case atStart => exact ⟨0, -1, Nat.zero_le _, rfl, rfl, rfl, .inl ⟨rfl, fun i hi => absurd hi (Nat.not_lt_zero i)⟩, rfl⟩
          case round =>
            obtain ⟨k, z, hk, rfl, rfl, rfl, hz, rfl⟩ := hrel
            rcases hz with ⟨rfl, hno⟩ | ⟨i0, rfl, hi0, hnx⟩
            · have hnoH := Lib.hid hno
              clear hno
              by_cases hlt2 : k < n
              · have hlt2i : (k : Int) < (n : Int) := by omega
                have ck := blk_cell hthH2.out k
                rw [rowB_at _ hlt2] at ck
                obtain ⟨t0, hTA, hlt0, hct, hlb, hcb⟩ := hMw.out.at_ hlt2
                subst hTA
                have hlth := blk_lt hthH2.out
                go_wp2_with fail
                go_loopg [12, 13] (n + 1) (fun gg rv jv wx => ∃ (m : Nat) (rb : Bool), m ≤ n ∧ gg = n + 1 - m ∧ jv = .int .i64 (m : Int) ∧ rv = .bool rb ∧ (rb = true → ¬ Tof o k ∧ ∀ m', m' < m → Rp (gOf (rs.map Rw.xs)) k m' → Tof o m' ∨ m' = k ∨ Rp (gOf (rs.map Rw.xs)) m' k) ∧ (rb = false → ¬ Rdy (gOf (rs.map Rw.xs)) (Tof o) k) ∧ wu = wx)
                case atStart =>
                  refine ⟨0, !TB o k, Nat.zero_le _, rfl, rfl, rfl, fun h => ⟨fun ht => ?_, fun m' hm' => absurd hm' (Nat.not_lt_zero m')⟩, fun h hr => ?_, rfl⟩
                  · rw [(hTB.out o k).2 ht] at h; cases h
                  · have h1 : TB o k = true := by simpa using h
                    exact hr.2.1 ((hTB.out o k).1 h1)
                case round =>
                  obtain ⟨m, rb, hm, rfl, rfl, rfl, hrt, hrf, rfl⟩ := hrel
                  cases rb with
                  | false =>
                    have hno2 : Hid (∀ i, i < k + 1 → ¬ Rdy (gOf (rs.map Rw.xs)) (Tof o) i) := Lib.hid (fun i hi => by
                      by_cases e : i = k
                      · rw [e]; exact hrf rfl
                      · exact hnoH.out i (by omega))
                    clear hrt hrf
                    by_cases hlt3 : m < n
                    · have hlt3i : (m : Int) < (n : Int) := by omega
                      go_wp2
                      go_roundg (n + 1 - (k + 1))
                      case measure => omega
                      case rel => exact ⟨k + 1, -1, by omega, rfl, by go_num, rfl, .inl ⟨rfl, hno2.out⟩, rfl⟩
                    · have hnlt3 : ¬ (m : Int) < (n : Int) := by omega
                      go_wp2
                      go_roundg (n + 1 - (k + 1))
                      case measure => omega
                      case rel => exact ⟨k + 1, -1, by omega, rfl, by go_num, rfl, .inl ⟨rfl, hno2.out⟩, rfl⟩
                  | true =>
                    have hrtH := Lib.hid (hrt rfl)
                    clear hrt hrf
                    by_cases hlt3 : m < n
                    · have hlt3i : (m : Int) < (n : Int) := by omega
                      have hkni : (k : Int) < (n : Int) := by omega
                      have c1 := hcb m hlt3
                      have c2 := blk_cell hthH2.out m
                      rw [rowB_at _ hlt3] at c2
                      obtain ⟨t1, hTA1, _, hct1, hlb1, hcb1⟩ := hMw.out.at_ hlt3
                      injection hTA1 with hTA1
                      injection hTA1 with hTA1
                      subst hTA1
                      have c3 := hcb1 k hlt2
                      clear hcb hcb1
                      have hgo : (Rp (gOf (rs.map Rw.xs)) k m → Tof o m ∨ m = k ∨ Rp (gOf (rs.map Rw.xs)) m k) → Hid (¬ Tof o k ∧ ∀ m', m' < m + 1 → Rp (gOf (rs.map Rw.xs)) k m' → Tof o m' ∨ m' = k ∨ Rp (gOf (rs.map Rw.xs)) m' k) := fun h => Lib.hid (⟨hrtH.out.1, fun m' hm' hr => by
                        by_cases e : m' = m
                        · rw [e] at hr ⊢; exact h hr
                        · exact hrtH.out.2 m' (by omega) hr⟩)
                      cases b1 : RB k m with
                      | false =>
                        have hT := hgo (fun hr => by rw [(hRB.out k m).2 hr] at b1; cases b1)
                        rw [b1] at c1
                        clear b1 hgo c2 c3
                        go_wp2
                        go_roundg (n + 1 - (m + 1))
                        case measure => omega
                        case rel => exact ⟨m + 1, true, by omega, rfl, by go_num, rfl, (fun _ => hT.out), (fun h => by cases h), rfl⟩
                      | true =>
                      rw [b1] at c1
                      have hr1 := Lib.hid ((hRB.out k m).1 b1)
                      clear b1
                      cases b2 : TB o m with
                      | true =>
                        have hT := hgo (fun _ => .inl ((hTB.out o m).1 b2))
                        rw [b2] at c2
                        clear b2 hgo c3
                        go_wp2
                        go_roundg (n + 1 - (m + 1))
                        case measure => omega
                        case rel => exact ⟨m + 1, true, by omega, rfl, by go_num, rfl, (fun _ => hT.out), (fun h => by cases h), rfl⟩
                      | false =>
                      have hn2 := Lib.hid (show ¬ Tof o m from fun h => by rw [(hTB.out o m).2 h] at b2; cases b2)
                      rw [b2] at c2
                      clear b2
                      by_cases hmk2 : m = k
                      · have hT := hgo (fun _ => .inr (.inl hmk2))
                        have hmkd : ((m : Int) == (k : Int)) = true := by rw [hmk2]; simp
                        clear hgo c3
                        replace hmk2 := Lib.hid hmk2
                        go_wp2
                        go_roundg (n + 1 - (m + 1))
                        case measure => omega
                        case rel => exact ⟨m + 1, true, by omega, rfl, by go_num, rfl, (fun _ => hT.out), (fun h => by cases h), rfl⟩
                      · have hmkd : ((m : Int) == (k : Int)) = false := by rw [beq_eq_false_iff_ne]; omega
                        cases b3 : RB m k with
                        | true =>
                          have hT := hgo (fun _ => .inr (.inr ((hRB.out m k).1 b3)))
                          rw [b3] at c3
                          clear b3 hgo
                          go_wp2
                          go_roundg (n + 1 - (m + 1))
                          case measure => omega
                          case rel => exact ⟨m + 1, true, by omega, rfl, by go_num, rfl, (fun _ => hT.out), (fun h => by cases h), rfl⟩
                        | false =>
                          have hT : Hid (¬ Rdy (gOf (rs.map Rw.xs)) (Tof o) k) := Lib.hid (fun hr => by
                            rcases hr.2.2 m (by rw [hglH.out]; exact hlt3) hr1.out with h1 | h1 | h1
                            · exact hn2.out h1
                            · exact hmk2 h1
                            · rw [(hRB.out m k).2 h1] at b3; cases b3)
                          rw [b3] at c3
                          clear b3 hgo
                          go_wp2
                          go_roundg (n + 1 - (m + 1))
                          case measure => omega
                          case rel => exact ⟨m + 1, false, by omega, rfl, by go_num, rfl, (fun h => by cases h), (fun _ => hT.out), rfl⟩
                    · have hnlt3 : ¬ (m : Int) < (n : Int) := by omega
                      have hT : Hid (Nxt (gOf (rs.map Rw.xs)) (Tof o) k) := Lib.hid ⟨⟨by rw [hglH.out]; exact hlt2, hrtH.out.1, fun j hj hr => hrtH.out.2 j (by rw [hglH.out] at hj; omega) hr⟩, fun i hi => by
                        refine Nat.le_of_not_lt fun hc => hnoH.out i hc hi⟩
                      go_wp2
                      go_roundg (n + 1 - (k + 1))
                      case measure => omega
                      case rel => exact ⟨k + 1, (k : Int), by omega, rfl, by go_num, rfl, .inr ⟨k, rfl, hlt2, hT.out⟩, rfl⟩
              · have hnlt2 : ¬ (k : Int) < (n : Int) := by omega
                have hT : Hid (∀ i, i < n → ¬ Rdy (gOf (rs.map Rw.xs)) (Tof o) i) := Lib.hid (fun i hi => hnoH.out i (by omega))
                go_wp2
                go_meet
                exact ⟨-1, rfl, .inl ⟨rfl, hT.out⟩, rfl⟩
            · have hnxH := Lib.hid hnx
              have hzn : ¬ ((i0 : Int)) < 0 := by omega
              have hznd : decide ((i0 : Int) < 0) = false := decide_eq_false hzn
              clear hnx
              by_cases hlt2 : k < n
              · have hlt2i : (k : Int) < (n : Int) := by omega
                go_wp2
                go_meet
                exact ⟨_, rfl, .inr ⟨i0, rfl, hi0, hnxH.out⟩, rfl⟩
              · have hnlt2 : ¬ (k : Int) < (n : Int) := by omega
                go_wp2
                go_meet
                exact ⟨_, rfl, .inr ⟨i0, rfl, hi0, hnxH.out⟩, rfl⟩
        case rest =>
        obtain ⟨z, rfl, hz, hwx⟩ := hcut
        obtain rfl := hwx
        rcases hz with ⟨rfl, hno⟩ | ⟨i0, rfl, hi0, hnx⟩
        · have hT : Hid (Full (gOf (rs.map Rw.xs)) o) := Lib.hid ⟨hPH.out, fun i hi => hno i (by have := hi.1; rw [hglH.out] at this; exact this) hi⟩
          clear hno
          go_wp2
          go_ret2
          refine ⟨OA, oc, ps, o, rfl, ⟨hOH.out.own.rd.1, fun r hr => (hOH.out.prs r hr).rd.1⟩, fun r hr => ?_, hOH.out.psx, fun _ => hT.out, fun h => absurd rfl h, ?_⟩
          · have h1 := (hOH.out.prs r hr).rd.2.1
            have h2 : r.xs ∈ ps.map Rw.xs := List.mem_map.2 ⟨r, hr, rfl⟩
            rw [hOH.out.psx] at h2
            obtain ⟨l, hl1, hl2⟩ := List.mem_map.1 h2
            obtain ⟨q, hq⟩ := List.mem_iff_getElem?.1 hl1
            have h3 := nodup_le n (l := l) ((hPH.out.asc hq).imp (fun h => Nat.ne_of_lt h)) (fun x hx => by have := hPH.out.lt hq hx; rw [hglH.out] at this; exact this)
            rw [List.length_map, ← hl2, List.length_map] at h1
            omega
          · exact hbr.trans (hbw.mono hzv)
        · have hnxH := Lib.hid hnx
          obtain ⟨ip, hip⟩ : ∃ ip : Nat → Bool, ip = fun j => decide (j = i0) || (RB i0 j && RB j i0) := ⟨_, rfl⟩
          have hipH : Hid (∀ j, ip j = true ↔ j = i0 ∨ Rp (gOf (rs.map Rw.xs)) i0 j ∧ Rp (gOf (rs.map Rw.xs)) j i0) := Lib.hid (fun j => by rw [hip]; simp [hRB.out])
          have hipE := Lib.hid hip
          have hzn : ¬ ((i0 : Int)) < 0 := by omega
          clear hnx hip
          have hst0 : Hid (wu.heap[wv.heap.size]? = some (.cells (rowB n fun j => TB o j || (decide (j < 0) && ip j)) 4 (0, 0))) := Lib.hid (by rw [hthH2.out]; congr 2; simp)
          go_wp2_with fail
          go_loopg [14, 15] (n + 1) (fun gg pv jv wx => ∃ (m : Nat) (PA : Option Addr) (pc : Nat) (pl : List Nat), m ≤ n ∧ gg = n + 1 - m ∧ jv = .int .i64 (m : Int) ∧ pv = .slice PA pl.length pc ∧ pl = (List.range m).filter ip ∧ Ow wx U.heap.size 3 1 (.slice PA pl.length pc) (pl.map eN) ∧
            OutW wx U.heap.size OA oc ps o ∧ (∀ r ∈ ps, ∀ q, (Value.slice PA pl.length pc).ownBlock = some q → (Value.slice r.A r.l r.c).ownBlock ≠ some q) ∧
            wx.heap[wv.heap.size]? = some (.cells (rowB n fun j => TB o j || (decide (j < m) && ip j)) 4 (0, 0)) ∧ U.heap.size ≤ wx.heap.size ∧ Below wv.heap.size wv wx)
          case atStart => exact ⟨0, none, 0, [], Nat.zero_le _, rfl, rfl, rfl, rfl, Ow.nil_ _ _ _ _, hOH.out, (fun r hr q hq => by cases hq), hst0.out, hzU, hbw⟩
          case round =>
            obtain ⟨m, PA, pc, pl, hm, rfl, rfl, rfl, hpl2, hpo, hO2, hne, hst, hzx, hbx⟩ := hrel
            obtain ⟨wx, hwx⟩ : ∃ wx, wx = wr := ⟨_, rfl⟩
            obtain rfl := hwx
            have hpll : pl.length ≤ n := by
              rw [hpl2]
              have := List.length_filter_le ip (List.range m)
              rw [List.length_range] at this
              omega
            have hplH := Lib.hid hpl2
            have hpoH := Lib.hid hpo
            have hO2H := Lib.hid hO2
            have hneH := Lib.hid hne
            have hstH := Lib.hid hst
            clear hpl2 hpo hO2 hne hst
            by_cases hlt2 : m < n
            · have hlt2i : (m : Int) < (n : Int) := by omega
              have hMx := hMH.out.kept hbx
              have hini : (i0 : Int) < (n : Int) := by omega
              obtain ⟨t0, hTA, hlt0, hct, hlb, hcb⟩ := hMx.at_ hi0
              subst hTA
              obtain ⟨t1, hTA1, _, hct1, hlb1, hcb1⟩ := hMx.at_ hlt2
              injection hTA1 with hTA1
              injection hTA1 with hTA1
              subst hTA1
              have c1 := hcb m hlt2
              have c3 := hcb1 i0 hi0
              have hlst := blk_lt hstH.out
              clear hcb hcb1 hMx
              by_cases hmi : m = i0
              · have hmd : ((m : Int) == (i0 : Int)) = true := by rw [hmi]; simp
                have hipm : ip m = true := (hipH.out m).2 (.inl hmi)
                clear c1 c3
                replace hmi := Lib.hid hmi
                have hfl : Hid (pl ++ [m] = (List.range (m + 1)).filter ip) := Lib.hid (by rw [filter_range, if_pos hipm, ← hplH.out])
                have hipmH := Lib.hid hipm
                clear hipm
                go_wp2_with (at_builtin; refine wpList_append_rd _ rfl _ _ _ rfl eInt (base := U.heap.size) (v := .slice PA pl.length pc) (xs := pl.map eN) rfl (hpoH.out.below ((Below.refl _ wx).alloc (Nat.le_refl _) _)) rfl (Rd.one' (eN m) rfl) (by simp [eN]) (by simp [eN, Value.oneCell']) (by rw [List.length_map]; simp [maxLen]; omega) (by rw [List.length_map]; omega) (by simp; omega) ?_; intro A5 n5 c5 w5 hn5 hown5 hg5 hat5; (obtain rfl : n5 = pl.length + 1 := (by rw [hn5, List.length_map])); clear hn5; (have hgr : Gk (fun b => (Value.slice PA pl.length pc).ownBlock = some b) wx w5 := ((Gk.refl _ wx).alloc _).grown hg5 (fun k e => .inl e)); (have hst5 := hgr.blk hstH.out (fun e => Ow.ne_blkK hpoH.out hstH.out (by decide) e)); (have hl5 := blk_lt hst5); (have hf5 := blk_frozen hst5 m); (have q5 := blk_cell hst5 m); rw [rowB_at _ hlt2] at q5)
                have hS : (w5.setCell ⟨wv.heap.size, m, none⟩ (.bool true)).heap[wv.heap.size]? = some (.cells (rowB n fun j => TB o j || (decide (j < m + 1) && ip j)) 4 (0, 0)) := by
                  rw [rowB_store hst5 true]
                  refine congrArg (fun z => some (Obj.cells z 4 (0, 0))) (rowB_congr fun j _ => ?_)
                  unfold upd
                  by_cases e : j = m
                  · rw [if_pos e, e, hipmH.out]; simp
                  · rw [if_neg e, show decide (j < m + 1) = decide (j < m) by rw [Bool.eq_iff_iff, decide_eq_true_iff, decide_eq_true_iff]; omega]
                have hthb : wv.heap.size < U.heap.size := hltU
                have hz5 := hgr.size
                have hnw : ∀ q, (Value.slice A5 (pl.length + 1) c5).ownBlock = some q → (Value.slice PA pl.length pc).ownBlock = some q ∨ wx.heap.size ≤ q := by
                  intro q hq
                  rcases hat5 with h1 | h1
                  · exact .inl (h1.symm.trans hq)
                  · rw [h1] at hq
                    injection hq with hq
                    right; simp at hq; omega
                have hO5 : OutW (w5.setCell ⟨wv.heap.size, m, none⟩ (.bool true)) U.heap.size OA oc ps o :=
                  ⟨(hgr.ow hO2H.out.own (fun q hq e => hpoH.out.ne_own hO2H.out.own (by decide) e hq)).setCell (a := ⟨wv.heap.size, m, none⟩) hthb _, fun r hr => (hgr.ow (hO2H.out.prs r hr) (fun q hq e => hneH.out r hr q e hq)).setCell (a := ⟨wv.heap.size, m, none⟩) hthb _, hO2H.out.psx⟩
                have hP5 : Ow (w5.setCell ⟨wv.heap.size, m, none⟩ (.bool true)) U.heap.size 3 1 (.slice A5 (pl ++ [m]).length c5) ((pl ++ [m]).map eN) := by
                  rw [List.map_append, List.length_append]
                  exact hown5.setCell (a := ⟨wv.heap.size, m, none⟩) hthb _
                have hN5 : ∀ r ∈ ps, ∀ q, (Value.slice A5 (pl ++ [m]).length c5).ownBlock = some q → (Value.slice r.A r.l r.c).ownBlock ≠ some q := by
                  intro r hr q hq h2
                  rcases hnw q (by rw [List.length_append] at hq; exact hq) with h3 | h3
                  · exact hneH.out r hr q h3 h2
                  · have := ((hO2H.out.prs r hr).block q h2).2; omega
                have hB5 : Below wv.heap.size wv (w5.setCell ⟨wv.heap.size, m, none⟩ (.bool true)) := (hbx.trans (hgr.below (by omega) (fun q hq => by have := (hpoH.out.block q hq).1; omega))).setCell (by simp) _
                have hZ5 : U.heap.size ≤ (w5.setCell ⟨wv.heap.size, m, none⟩ (.bool true)).heap.size := by simp; omega
                clear hat5 hnw hown5 hg5 hgr
                go_roundg (n + 1 - (m + 1))
                case measure => omega
                case rel => exact ⟨m + 1, A5, c5, pl ++ [m], by omega, rfl, by go_num, by rw [List.length_append]; rfl, hfl.out, hP5, hO5, hN5, hS, hZ5, hB5⟩
              · have hmd : ((m : Int) == (i0 : Int)) = false := by rw [beq_eq_false_iff_ne]; omega
                have hipv : ip m = (RB i0 m && RB m i0) := by rw [hipE.out]; simp [hmi]
                cases b1 : RB i0 m with
                | false =>
                rw [b1] at c1
                have hipm : ip m = false := by rw [hipv, b1]; rfl
                clear c3 b1 hipv
                have hT : Hid (wx.heap[wv.heap.size]? = some (.cells (rowB n fun j => TB o j || (decide (j < m + 1) && ip j)) 4 (0, 0))) := Lib.hid (by
                  rw [hstH.out]
                  refine congrArg (fun z => some (Obj.cells z 4 (0, 0))) (rowB_congr fun j _ => ?_)
                  by_cases e : j = m
                  · rw [e, hipm]; simp
                  · rw [show decide (j < m + 1) = decide (j < m) by rw [Bool.eq_iff_iff, decide_eq_true_iff, decide_eq_true_iff]; omega])
                have hfl : Hid (pl = (List.range (m + 1)).filter ip) := Lib.hid (by rw [filter_range, hipm, if_neg (by decide)]; exact hplH.out)
                clear hipm
                go_wp2
                go_roundg (n + 1 - (m + 1))
                case measure => omega
                case rel => exact ⟨m + 1, PA, pc, pl, by omega, rfl, by go_num, rfl, hfl.out, hpoH.out, hO2H.out, hneH.out, hT.out, hzx, hbx⟩
                | true =>
                rw [b1] at c1
                cases b2 : RB m i0 with
                | false =>
                rw [b2] at c3
                have hipm : ip m = false := by rw [hipv, b1, b2]; rfl
                clear b1 b2 hipv
                have hT : Hid (wx.heap[wv.heap.size]? = some (.cells (rowB n fun j => TB o j || (decide (j < m + 1) && ip j)) 4 (0, 0))) := Lib.hid (by
                  rw [hstH.out]
                  refine congrArg (fun z => some (Obj.cells z 4 (0, 0))) (rowB_congr fun j _ => ?_)
                  by_cases e : j = m
                  · rw [e, hipm]; simp
                  · rw [show decide (j < m + 1) = decide (j < m) by rw [Bool.eq_iff_iff, decide_eq_true_iff, decide_eq_true_iff]; omega])
                have hfl : Hid (pl = (List.range (m + 1)).filter ip) := Lib.hid (by rw [filter_range, hipm, if_neg (by decide)]; exact hplH.out)
                clear hipm
                go_wp2
                go_roundg (n + 1 - (m + 1))
                case measure => omega
                case rel => exact ⟨m + 1, PA, pc, pl, by omega, rfl, by go_num, rfl, hfl.out, hpoH.out, hO2H.out, hneH.out, hT.out, hzx, hbx⟩
                | true =>
                rw [b2] at c3
                have hipm : ip m = true := by rw [hipv, b1, b2]; rfl
                clear b1 b2 hipv
                have hfl : Hid (pl ++ [m] = (List.range (m + 1)).filter ip) := Lib.hid (by rw [filter_range, if_pos hipm, ← hplH.out])
                have hipmH := Lib.hid hipm
                clear hipm
                go_wp2_with (at_builtin; refine wpList_append_rd _ rfl _ _ _ rfl eInt (base := U.heap.size) (v := .slice PA pl.length pc) (xs := pl.map eN) rfl (hpoH.out.below ((Below.refl _ wx).alloc (Nat.le_refl _) _)) rfl (Rd.one' (eN m) rfl) (by simp [eN]) (by simp [eN, Value.oneCell']) (by rw [List.length_map]; simp [maxLen]; omega) (by rw [List.length_map]; omega) (by simp; omega) ?_; intro A5 n5 c5 w5 hn5 hown5 hg5 hat5; (obtain rfl : n5 = pl.length + 1 := (by rw [hn5, List.length_map])); clear hn5; (have hgr : Gk (fun b => (Value.slice PA pl.length pc).ownBlock = some b) wx w5 := ((Gk.refl _ wx).alloc _).grown hg5 (fun k e => .inl e)); (have hst5 := hgr.blk hstH.out (fun e => Ow.ne_blkK hpoH.out hstH.out (by decide) e)); (have hl5 := blk_lt hst5); (have hf5 := blk_frozen hst5 m); (have q5 := blk_cell hst5 m); rw [rowB_at _ hlt2] at q5)
                have hS : (w5.setCell ⟨wv.heap.size, m, none⟩ (.bool true)).heap[wv.heap.size]? = some (.cells (rowB n fun j => TB o j || (decide (j < m + 1) && ip j)) 4 (0, 0)) := by
                  rw [rowB_store hst5 true]
                  refine congrArg (fun z => some (Obj.cells z 4 (0, 0))) (rowB_congr fun j _ => ?_)
                  unfold upd
                  by_cases e : j = m
                  · rw [if_pos e, e, hipmH.out]; simp
                  · rw [if_neg e, show decide (j < m + 1) = decide (j < m) by rw [Bool.eq_iff_iff, decide_eq_true_iff, decide_eq_true_iff]; omega]
                have hthb : wv.heap.size < U.heap.size := hltU
                have hz5 := hgr.size
                have hnw : ∀ q, (Value.slice A5 (pl.length + 1) c5).ownBlock = some q → (Value.slice PA pl.length pc).ownBlock = some q ∨ wx.heap.size ≤ q := by
                  intro q hq
                  rcases hat5 with h1 | h1
                  · exact .inl (h1.symm.trans hq)
                  · rw [h1] at hq
                    injection hq with hq
                    right; simp at hq; omega
                have hO5 : OutW (w5.setCell ⟨wv.heap.size, m, none⟩ (.bool true)) U.heap.size OA oc ps o :=
                  ⟨(hgr.ow hO2H.out.own (fun q hq e => hpoH.out.ne_own hO2H.out.own (by decide) e hq)).setCell (a := ⟨wv.heap.size, m, none⟩) hthb _, fun r hr => (hgr.ow (hO2H.out.prs r hr) (fun q hq e => hneH.out r hr q e hq)).setCell (a := ⟨wv.heap.size, m, none⟩) hthb _, hO2H.out.psx⟩
                have hP5 : Ow (w5.setCell ⟨wv.heap.size, m, none⟩ (.bool true)) U.heap.size 3 1 (.slice A5 (pl ++ [m]).length c5) ((pl ++ [m]).map eN) := by
                  rw [List.map_append, List.length_append]
                  exact hown5.setCell (a := ⟨wv.heap.size, m, none⟩) hthb _
                have hN5 : ∀ r ∈ ps, ∀ q, (Value.slice A5 (pl ++ [m]).length c5).ownBlock = some q → (Value.slice r.A r.l r.c).ownBlock ≠ some q := by
                  intro r hr q hq h2
                  rcases hnw q (by rw [List.length_append] at hq; exact hq) with h3 | h3
                  · exact hneH.out r hr q h3 h2
                  · have := ((hO2H.out.prs r hr).block q h2).2; omega
                have hB5 : Below wv.heap.size wv (w5.setCell ⟨wv.heap.size, m, none⟩ (.bool true)) := (hbx.trans (hgr.below (by omega) (fun q hq => by have := (hpoH.out.block q hq).1; omega))).setCell (by simp) _
                have hZ5 : U.heap.size ≤ (w5.setCell ⟨wv.heap.size, m, none⟩ (.bool true)).heap.size := by simp; omega
                clear hat5 hnw hown5 hg5 hgr
                go_roundg (n + 1 - (m + 1))
                case measure => omega
                case rel => exact ⟨m + 1, A5, c5, pl ++ [m], by omega, rfl, by go_num, by rw [List.length_append]; rfl, hfl.out, hP5, hO5, hN5, hS, hZ5, hB5⟩
            · obtain rfl : n = m := by omega
              have hnlt2 : ¬ (n : Int) < (n : Int) := by omega
              have hpm : ∀ j, j ∈ pl ↔ j < n ∧ ip j = true := fun j => by rw [hplH.out, List.mem_filter, List.mem_range]
              have hpart : PartOf (gOf (rs.map Rw.xs)) i0 pl := ⟨by rw [hplH.out]; exact filter_asc _ _, fun j => by rw [hpm, hipH.out, hglH.out]⟩
              have hPn := Lib.hid (pre_snoc hPH.out hnxH.out hpart)
              have hi0p : i0 ∈ pl := (hpm i0).2 ⟨hi0, (hipH.out i0).2 (.inl rfl)⟩
              have hmono : ∀ j, TB o j = true → TB (o ++ [pl]) j = true := fun j hj => (hTB.out _ j).2 (tof_snoc.2 (.inl ((hTB.out o j).1 hj)))
              have hi0f : TB o i0 = false := by
                cases h : TB o i0 with
                | false => rfl
                | true => exact absurd ((hTB.out o i0).1 h) hnxH.out.1.2.1
              have hltn := Lib.hid (unB_lt (n := n) hmono hi0 hi0f ((hTB.out _ i0).2 (tof_snoc.2 (.inr hi0p))))
              have hT : Hid (wx.heap[wv.heap.size]? = some (.cells (rowB n (TB (o ++ [pl]))) 4 (0, 0))) := Lib.hid (by
                rw [hstH.out]
                refine congrArg (fun z => some (Obj.cells z 4 (0, 0))) (rowB_congr fun j hj => ?_)
                rw [Bool.eq_iff_iff, hTB.out, tof_snoc, ← hTB.out, hpm, Bool.or_eq_true, Bool.and_eq_true, decide_eq_true_iff])
              have hpsl : ps.length ≤ n := by omega
              clear hpm hpart hi0p hmono hi0f
              go_wp2_with (at_builtin; refine wpList_append_rd _ rfl _ _ _ rfl eInts (base := U.heap.size) (v := .slice OA ps.length oc) (xs := ps.map Rw.enc) rfl (hO2H.out.own.below ((Below.refl _ wx).alloc (Nat.le_refl _) _)) rfl (Rd.one' [Value.slice PA pl.length pc] rfl) (by simp) (by simp [Value.oneCell']) (by rw [List.length_map]; simp [maxLen]; omega) (by rw [List.length_map]; omega) (by simp; omega) ?_; intro A5 n5 c5 w5 hn5 hown5 hg5 hat5; (obtain rfl : n5 = ps.length + 1 := (by rw [hn5, List.length_map])); clear hn5)
              have hgr : Gk (fun b => (Value.slice OA ps.length oc).ownBlock = some b) wx w5 := ((Gk.refl _ wx).alloc _).grown hg5 (fun k e => .inl e)
              have hst5 := hgr.blk hT.out (fun e => Ow.ne_blkK hO2H.out.own hT.out (by decide) e)
              have hB5 : Below wv.heap.size wv w5 := hbx.trans (hgr.below (by omega) (fun q hq => by have := (hO2H.out.own.block q hq).1; omega))
              have hpl5 : Ow w5 U.heap.size 3 1 (.slice PA pl.length pc) (pl.map eN) := hgr.ow hpoH.out (fun q hq e => hpoH.out.ne_own hO2H.out.own (by decide) hq e)
              have hO5 : OutW w5 U.heap.size A5 c5 (ps ++ [⟨PA, pl.length, pc, pl.map Int.ofNat⟩]) (o ++ [pl]) := by
                refine ⟨?_, fun r hr => ?_, ?_⟩
                · rw [List.map_append, List.length_append]
                  exact hown5
                · rcases List.mem_append.1 hr with hr | hr
                  · exact hgr.ow (hO2H.out.prs r hr) (fun q hq e => (hO2H.out.prs r hr).ne_own hO2H.out.own (by decide) hq e)
                  · obtain rfl := List.mem_singleton.1 hr
                    rw [map_eN] at hpl5
                    exact hpl5
                · rw [List.map_append, List.map_append, hO2H.out.psx]; rfl
              have hZ5 : U.heap.size ≤ w5.heap.size := Nat.le_trans hzx hgr.size
              clear hat5 hown5 hg5 hgr hpl5
              go_roundg (unB n (TB (o ++ [pl])) + 1)
              case measure => have := hltn.out; omega
              case rel => exact ⟨o ++ [pl], ps ++ [⟨PA, pl.length, pc, pl.map Int.ofNat⟩], A5, c5, rfl, by rw [List.length_append]; rfl, hO5, hPn.out, hst5, by have := hltn.out; rw [List.length_append, List.length_singleton]; omega, hZ5, hB5⟩
end Go.Proofs.Ytebpghpeeedgcaa
