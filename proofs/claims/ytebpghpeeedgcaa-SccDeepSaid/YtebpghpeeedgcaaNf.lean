/- scc.Parts walked whole. -/
import Derived.Test.YtebpghpeeedgcaaNg
import Derived.Deep.CutBlock
namespace Go.Proofs.Ytebpghpeeedgcaa
open Go.RowKit

set_option maxRecDepth 100000 in
set_option maxHeartbeats 8000000 in
theorem sparts_any (A : Option Addr) (n c : Nat) (rs : List Rw) (w : World) (hA : RdG w w.heap.size A n rs) (hn : n ≤ maxLen) (hm : ∀ r ∈ rs, r.l ≤ 100000) :
    Calls Try.prog 7 #[.slice A n c] w fun e w' => PsP (rs.map Rw.xs) n (checkS n rs) w e w' := by
  have hl := Lib.hid hA.len
  have hAH := Lib.hid hA
  have hmH := Lib.hid hm
  have cL := Lib.hid (scheck_any A n c rs w hA hn (fun r hr => Nat.le_trans (hm r hr) (by decide)))
  obtain ⟨E, hE⟩ : ∃ E, checkS n rs = E := ⟨_, rfl⟩
  rw [hE] at cL ⊢
  by_cases hE0 : E = 0
  case neg =>
    have hEd : (E != 0) = true := by simpa using hE0
    clear hA hm hE
    go_enter Try.func7, Try.ntmps7
    go_wp2_with fail
    refine cL.out.mono ?_
    rintro e w1 ⟨rfl, hb1⟩
    have hE0H := Lib.hid hE0
    clear hE0
    go_wp2
    go_ret2
    exact ⟨none, 0, [], [], rfl, RdG.nil_, by simp, rfl, fun h => absurd h hE0H.out, fun _ => rfl, hb1⟩
  subst hE0
  have hn1 : n ≤ 1024 := by
    unfold checkS at hE
    split at hE
    · omega
    · rename_i h
      unfold longP at h
      rw [Bool.not_eq_true, Bool.or_eq_false_iff, decide_eq_false_iff_not] at h
      omega
  have hok : okX n rs = true := by
    unfold checkS at hE
    split at hE
    · omega
    · split at hE
      · assumption
      · omega
  obtain ⟨g, hg⟩ : ∃ g, gOf (rs.map Rw.xs) = g := ⟨_, rfl⟩
  have hbh : Hid (Bh w w.heap.size A n rs g) := Lib.hid (by rw [← hg]; exact bh_of hA hok hm)
  have hgn : g.length = n := hbh.out.len
  have hgH := Lib.hid hg
  clear hA hm hE hn hok hg
  go_enter Try.func7, Try.ntmps7
  go_wp2_with fail
  refine cL.out.mono ?_
  rintro e w1 ⟨rfl, hb1⟩
  have hz1 := hb1.size
  have cF := Lib.hid (find_any A n c g rs w1 ⟨(hbh.out.rd.below hb1).more hz1, hbh.out.xs, hbh.out.ok, hbh.out.max⟩ (by omega))
  go_wp2_with fail
  refine cF.out.mono ?_
  rintro e w2 ⟨base, p, bn, bl, bx, bo, bp, s, S, K, ps, rfl, hW, hI, hC, hall, hpb, hb2⟩
  have hTar := Lib.hid (hI.tar hbh.out.ok (fun x hx => hall x (by omega)))
  obtain ⟨KA, kc, hK, hkl, hkc, hkr⟩ := hW.pts.form
  rw [List.length_map] at hK hkl
  subst hK
  have hpl : ps.length = s.pts.length := by have := congrArg List.length hW.psx; simpa using this
  have hPn : ps.length ≤ n := by have := hC.c1; have := hC.c2; omega
  have hb02 : Below w.heap.size w w2 := hb1.trans (hb2.mono hz1)
  have hWH := Lib.hid hW
  have hplH := Lib.hid hpl
  clear hI hC hall hkl hkc hkr cL cF hb1 hb2 hW hpl
  have b8 := blk_cell hWH.out.box 8
  simp at b8
  have hlp := blk_lt hWH.out.box
  have hmk1 := make_int ps.length (by omega)
  have hmk2 := make_ints ps.length (by omega)
  obtain ⟨U, hU⟩ : ∃ U, ((w2.alloc (.cells #[.pointer (some ⟨p, 0, none⟩)] 38)).alloc (.cells (rowN ps.length fun _ => 0) 3)).alloc (.cells (Array.replicate ps.length (Value.slice none 0 0)) 31) = U := ⟨_, rfl⟩
  have hbU : Below w2.heap.size w2 U := by rw [← hU]; exact (((Below.refl _ w2).alloc (Nat.le_refl _) _).alloc (by simp) _).alloc (by simp; omega) _
  have hqU : U.heap[w2.heap.size]? = some (.cells #[.pointer (some ⟨p, 0, none⟩)] 38 (0, 0)) := by rw [← hU]; exact heap_old _ (by simp; omega) (heap_old _ (by simp) (heap_at _ _ rfl))
  have hfU : U.heap[w2.heap.size + 1]? = some (.cells (rowN ps.length (cntK (ceK s.prt (edgesK g 0 0)) [])) 3 (0, 0)) := by rw [← hU]; exact heap_old _ (by simp) (heap_at _ _ (by simp))
  have hvU : U.heap[w2.heap.size + 1 + 1]? = some (.cells (List.replicate ps.length (Value.slice none 0 0)).toArray 31 (0, 0)) := by rw [← hU, List.toArray_replicate]; exact heap_at _ _ (by simp)
  have hltv := blk_lt hvU
  have hCW0 : Hid (CW (w2.heap.size + 1) (w2.heap.size + 1 + 1) U.heap.size ps.length (cntK (ceK s.prt (edgesK g 0 0)) []) (waitK (ceK s.prt (edgesK g 0 0))) (List.replicate ps.length (Value.slice none 0 0)) U) :=
    Lib.hid ⟨hfU, hvU, Fam.zero U U.heap.size 3 ps.length⟩
  have hqH := Lib.hid hqU
  have hbUH := Lib.hid hbU
  clear hqU hfU hvU hbU
  go_wp2_with fail
  try rw [hU]
  clear hU hmk1 hmk2 b8
  go_loopg [42] (n + 1) (fun gg iv wr => ∃ (k : Nat) (vs : List Value), k ≤ n ∧ gg = n + 1 - k ∧ iv = .int .i64 (k : Int) ∧ CW (w2.heap.size + 1) (w2.heap.size + 1 + 1) U.heap.size ps.length (cntK (ceK s.prt (edgesK g k 0)) []) (waitK (ceK s.prt (edgesK g k 0))) vs wr ∧ U.heap.size ≤ wr.heap.size ∧ Below (w2.heap.size + 1) U wr)
  case atStart => exact ⟨0, _, Nat.zero_le _, rfl, rfl, hCW0.out, Nat.le_refl _, Below.refl _ _⟩
  case round =>
    obtain ⟨k, vs, hk, rfl, rfl, hCW, hzU, hbr⟩ := hrel
    obtain ⟨wv, hwv⟩ : ∃ wv, wv = wr := ⟨_, rfl⟩
    obtain rfl := hwv
    have hCWH := Lib.hid hCW
    clear hCW hCW0
    have hbw : Below w.heap.size w wv := hb02.trans ((hbUH.out.trans (hbr.mono (by omega))).mono hb02.size)
    by_cases hlt : k < n
    · have hlti : (k : Int) < (n : Int) := by omega
      obtain ⟨bA, oA, r, hAe, hbA, hcA, hrl, hrm, hrow⟩ := (hbh.out.below hbw).row hlt
      subst hAe
      have hrlH := Lib.hid hrl
      have hrowH := Lib.hid hrow
      clear hrow hrl
      go_wp2_with fail
      go_loopg [49] (r.l + 1) (fun gg jv wx => ∃ (m : Nat) (vs2 : List Value), m ≤ r.l ∧ gg = r.l + 1 - m ∧ jv = .int .i64 (m : Int) ∧ CW (w2.heap.size + 1) (w2.heap.size + 1 + 1) U.heap.size ps.length (cntK (ceK s.prt (edgesK g k m)) []) (waitK (ceK s.prt (edgesK g k m))) vs2 wx ∧ U.heap.size ≤ wx.heap.size ∧ Below (w2.heap.size + 1) U wx)
      case atStart => exact ⟨0, vs, Nat.zero_le _, rfl, rfl, hCWH.out, hzU, hbr⟩
      case round =>
        clear hcA
        obtain ⟨m, vs2, hm, rfl, rfl, hCW, hzx, hbx⟩ := hrel
        obtain ⟨wx, hwx⟩ : ∃ wx, wx = wr := ⟨_, rfl⟩
        obtain rfl := hwx
        have hCWH2 := Lib.hid hCW
        clear hCW
        have hb2x : Below w2.heap.size w2 wx := hbUH.out.trans (hbx.mono (by omega))
        have hbw2 : Below w.heap.size w wx := hb02.trans (hb2x.mono hb02.size)
        by_cases hlt2 : m < r.l
        · have hlt2i : (m : Int) < (r.l : Int) := by omega
          obtain ⟨x, hx⟩ : ∃ x, (sucs g k)[m]? = some x := ⟨_, List.getElem?_eq_getElem (by rw [← hrlH.out]; exact hlt2)⟩
          have hxn : x < n := by
            have := hTar.out.ok k x (List.mem_of_getElem? hx)
            omega
          have hWx := hWH.out.below hb2x
          have bq := blk_cell (show wx.heap[w2.heap.size]? = _ from (hbx.block _ (by omega)).trans hqH.out) 0
          have b7 := blk_cell hWx.box 7
          simp at bq b7
          have hlq := blk_lt (show wx.heap[w2.heap.size]? = _ from (hbx.block _ (by omega)).trans hqH.out)
          have hlx := blk_lt hWx.box
          have hlpr := blk_lt hWx.prt
          have ci := blk_cell hWx.prt k
          have cx := blk_cell hWx.prt x
          rw [rowN_at _ hlt] at ci
          rw [rowN_at _ hxn] at cx
          have hlfx := blk_lt hCWH2.out.hl
          have hvsx := blk_lt hCWH2.out.hv
          obtain ⟨b2, o2, hA2, hb2, hc2⟩ := hrowH.out m x hx
          have hc3 := (hbw2.cell (p := ⟨b2, o2 + m, none⟩) hb2).trans ((hbw.cell (p := ⟨b2, o2 + m, none⟩) hb2).symm.trans hc2)
          rw [hA2]
          clear hc2
          have hpk : s.prt k < ps.length := by rw [hplH.out]; exact hTar.out.lt (by omega)
          have hpx : s.prt x < ps.length := by rw [hplH.out]; exact hTar.out.lt (by omega)
          have hlti3 : (k : Int) < (n : Int) := by omega
          have hxni : (x : Int) < (n : Int) := by omega
          go_wp2_with fail
          go_region
          have hk1 : IntKind.i64.wrap ((m : Int) + 1) = ((m + 1 : Nat) : Int) := by rw [IntWalk.i64_in _ (by omega)]; omega
          have hce := Lib.hid (ceK_row (g := g) (pt := s.prt) hx)
          by_cases hpq : s.prt k = s.prt x
          · have hpqd : (((s.prt k : Nat) : Int) == ((s.prt x : Nat) : Int)) = true := by rw [hpq]; simp
            go_wp2_with fail
            rw [← hA2]
            have e1 : ceK s.prt (edgesK g k (m + 1)) = ceK s.prt (edgesK g k m) := by rw [hce.out, if_pos hpq]
            go_roundg (r.l + 1 - (m + 1))
            case measure => omega
            case rel => exact ⟨m + 1, vs2, by omega, rfl, by go_num, by rw [e1]; exact hCWH2.out.below (Below.refl _ _).drew, hzx, hbx.drew⟩
          · have hpqd : (((s.prt k : Nat) : Int) == ((s.prt x : Nat) : Int)) = false := by
              rw [beq_eq_false_iff_ne]; omega
            have e1 : Hid (ceK s.prt (edgesK g k (m + 1)) = ceK s.prt (edgesK g k m) ++ [(s.prt k, s.prt x)]) := Lib.hid (by rw [hce.out, if_neg hpq])
            clear hpq hce
            have hcx := Lib.hid (edges_le (g := g) (n := n) (fun i hi => by obtain ⟨_, _, r0, _, _, _, h1, h2, _⟩ := hbh.out.row hi; rw [← h1]; exact h2) hlt m)
            generalize hcee : ceK s.prt (edgesK g k m) = ce at *
            have hcel : ce.length ≤ 1000000000 := by
              rw [← hcee]
              exact Nat.le_trans (Nat.le_trans (ceK_len _ _) hcx.out) (by omega)
            have cl := hCWH2.out.left hpk
            obtain ⟨WA, wc, hv, cw, hov⟩ := hCWH2.out.at_ hpx
            have hcn1 : cntK ce [] (s.prt k) ≤ 1000000000 := Nat.le_trans (cntK_le _ _ _) hcel
            have hwl : (waitK ce (s.prt x)).length ≤ 1000000000 := Nat.le_trans (waitK_len _ _) hcel
            have hpki : ((s.prt k : Nat) : Int) < (ps.length : Int) := by omega
            have hpxi : ((s.prt x : Nat) : Int) < (ps.length : Int) := by omega
            have hfl := blk_frozen hCWH2.out.hl (s.prt k)
            obtain ⟨cn, hcn⟩ : ∃ cn, cntK ce [] (s.prt k) = cn := ⟨_, rfl⟩
            rw [hcn] at cl hcn1
            have hk2 : IntKind.i64.wrap ((cn : Int) + 1) = ((cn + 1 : Nat) : Int) := by rw [IntWalk.i64_in _ (by omega)]; omega
            obtain ⟨wy, hwy⟩ : ∃ wy, (wx.setCell ⟨w2.heap.size + 1, s.prt k, none⟩ (.int .i64 ((cn : Int) + 1))).drew = wy := ⟨_, rfl⟩
            have hwyN : wx.drew.setCell ⟨w2.heap.size + 1, s.prt k, none⟩ (.int .i64 ((cn + 1 : Nat) : Int)) = wy := by rw [← hwy]; rfl
            have hwyH : Hid (wx.drew.setCell ⟨w2.heap.size + 1, s.prt k, none⟩ (.int .i64 ((cntK ce [] (s.prt k) + 1 : Nat) : Int)) = wy) := Lib.hid (by rw [hcn]; exact hwyN)
            have hzy : U.heap.size ≤ wy.heap.size := by rw [← hwy]; simpa using hzx
            have hCy : CW (w2.heap.size + 1) (w2.heap.size + 1 + 1) U.heap.size ps.length (upd (cntK ce []) (s.prt k) (cn + 1)) (waitK ce) vs2 wy := by
              rw [← hwyN]
              exact (hCWH2.out.below (Below.refl _ _).drew).put (by omega) (s.prt k) (cn + 1)
            obtain ⟨WA2, wc2, hvy, cwy, hoy⟩ := hCy.at_ hpx
            have e9 : Value.slice WA2 (waitK ce (s.prt x)).length wc2 = Value.slice WA (waitK ce (s.prt x)).length wc := Option.some.inj (hvy.symm.trans hv)
            rw [e9] at cwy hoy
            clear hvy e9
            obtain ⟨wl, hwle⟩ : ∃ wl, (waitK ce (s.prt x)).length = wl := ⟨_, rfl⟩
            rw [hwle] at cwy hoy cw hwl hv
            have hvH := Lib.hid hv
            have hoyH := Lib.hid hoy
            clear hv hov hoy
            have hlvy := blk_lt hCy.hv
            have hby : Hid (Below (w2.heap.size + 1) U wy) := Lib.hid (by
              rw [← hwyN]
              exact hbx.drew.setCell (by simp) _)
            have hCyH := Lib.hid hCy
            have hwleH := Lib.hid hwle
            clear hCy hwle hcn hcee hcx cw
            go_upto_region 16 with (fail)
            try rw [hwy]
            have hfv := blk_frozen hCyH.out.hv (s.prt x)
            clear hwy hwyN cl hfl
            go_wp2_with (at_builtin; go_loud (refine wpList_append_rd _ rfl _ _ _ rfl eInt (base := U.heap.size) (v := .slice WA wl wc) (xs := (waitK ce (s.prt x)).map eN) rfl (hoyH.out.below ((Below.refl _ wy).alloc (Nat.le_refl _) _)) rfl (Rd.one' (eN (s.prt k)) rfl) (by simp [eN]) (by simp [eN, Value.oneCell']) (by rw [List.length_map, hwleH.out]; simp [maxLen]; omega) (by rw [List.length_map, hwleH.out]; omega) (by simp; omega) ?_; intro A5 n5 c5 w5 hn5 hown5 hg5 hat5; (obtain rfl : n5 = wl + 1 := (by rw [hn5, List.length_map, hwleH.out])); clear hn5; (have hgr : Gk (fun b => (Value.slice WA wl wc).ownBlock = some b) wy w5 := ((Gk.refl _ wy).alloc _).grown hg5 (fun k e => .inl e)); (have hv5 := hgr.blk hCyH.out.hv (fun e => by have := (hoyH.out.block _ e).1; omega)); (have hl5 := blk_lt hv5); (have hf5 := blk_frozen hv5 (s.prt x)); (have q5 := blk_cell hv5 (s.prt x)); rw [List.getElem?_toArray, hvH.out] at q5))
            have hCn := hCWH2.out.count (by omega) (by omega) hwyH.out hvH.out hg5 hown5 hat5
            rw [← e1.out] at hCn
            have hz5 := hgr.size
            have hB5 : Below (w2.heap.size + 1) U (w5.setCell ⟨w2.heap.size + 1 + 1, s.prt x, none⟩ (.slice A5 (wl + 1) c5)) := (hby.out.trans (hgr.below (by omega) (fun q hq => by have := (hoyH.out.block q hq).1; omega))).setCell (by simp) _
            rw [← hA2]
            go_roundg (r.l + 1 - (m + 1))
            case measure => omega
            case rel => exact ⟨m + 1, _, by omega, rfl, by go_num, hCn, by simp; omega, hB5⟩
        · obtain rfl : m = r.l := by omega
          have hnlt2 : ¬ (r.l : Int) < (r.l : Int) := by omega
          have hkn1 : IntKind.i64.wrap ((k : Int) + 1) = ((k + 1 : Nat) : Int) := by rw [IntWalk.i64_in _ (by omega)]; omega
          have hCn : CW (w2.heap.size + 1) (w2.heap.size + 1 + 1) U.heap.size ps.length (cntK (ceK s.prt (edgesK g (k + 1) 0)) []) (waitK (ceK s.prt (edgesK g (k + 1) 0))) vs2 wx := by
            have := hCWH2.out
            rw [hrlH.out, edgesK_row] at this
            exact this
          go_wp2_with fail
          go_roundg (n + 1 - (k + 1))
          case measure => omega
          case rel => exact ⟨k + 1, vs2, by omega, rfl, by go_num, hCn, hzx, hbx⟩
    · obtain rfl : n = k := by omega
      have hnlt : ¬ (n : Int) < (n : Int) := by omega
      have hCW3 : Hid (CW (w2.heap.size + 1) (w2.heap.size + 1 + 1) U.heap.size ps.length (cntK (ceK s.prt (allK g)) []) (waitK (ceK s.prt (allK g))) vs wv) := Lib.hid (by
        have := hCWH.out
        unfold allK
        rw [hgn]
        exact this)
      have hb2v : Below w2.heap.size w2 wv := hbUH.out.trans (hbr.mono (by omega))
      have hqv : wv.heap[w2.heap.size]? = some (.cells #[.pointer (some ⟨p, 0, none⟩)] 38 (0, 0)) := (hbr.block _ (by omega)).trans hqH.out
      have hqvH := Lib.hid hqv
      have hal := Lib.hid (allK_le (g := g) (n := n) hgn (fun i hi => by obtain ⟨_, _, r0, _, _, _, h1, h2, _⟩ := hbh.out.row hi; rw [← h1]; exact h2))
      have hWv := hWH.out.below hb2v
      have bq := blk_cell hqv 0
      have b8 := blk_cell hWv.box 8
      simp at bq b8
      have hlq := blk_lt hqv
      have hlx := blk_lt hWv.box
      have hzwv : U.heap.size ≤ wv.heap.size := hzU
      have hb2vH := Lib.hid hb2v
      clear hCWH hbr hqv hWv hbw hb2v hzU hqH hbUH
      go_wp2_with fail
      go_loopg [14, 93] (ps.length + 1) (fun gg rv iv wr => ∃ (k : Nat) (RA : Option Addr) (rc : Nat) (rd : List Nat), k ≤ ps.length ∧ gg = ps.length + 1 - k ∧ iv = .int .i64 (k : Int) ∧ rv = .slice RA rd.length rc ∧ rd = (List.range k).filter (fun q => cntK (ceK s.prt (allK g)) [] q == 0) ∧ Ow wr wv.heap.size 3 1 (.slice RA rd.length rc) (rd.map eN) ∧ Below wv.heap.size wv wr)
      case atStart => exact ⟨0, none, 0, [], Nat.zero_le _, rfl, rfl, rfl, rfl, Ow.nil_ _ _ _ _, Below.refl _ _⟩
      case round =>
        obtain ⟨k, RA, rc, rd, hk, rfl, rfl, rfl, hrd, hro, hbr⟩ := hrel
        obtain ⟨wx, hwx⟩ : ∃ wx, wx = wr := ⟨_, rfl⟩
        obtain rfl := hwx
        clear bq b8
        have hzx := hbr.size
        have hroH := Lib.hid hro
        have hrdH := Lib.hid hrd
        have hrl : rd.length ≤ k := by
          rw [hrd]
          exact Nat.le_trans (List.length_filter_le _ _) (by simp)
        clear hro hrd
        by_cases hlt3 : k < ps.length
        · have hlt3i : (k : Int) < (ps.length : Int) := by omega
          have ck := (hCW3.out.below hbr).left hlt3
          have hfl := Lib.hid (filter_range (fun q => cntK (ceK s.prt (allK g)) [] q == 0) k)
          have hkn1 : IntKind.i64.wrap ((k : Int) + 1) = ((k + 1 : Nat) : Int) := by rw [IntWalk.i64_in _ (by omega)]; omega
          have hlL := blk_lt (hCW3.out.below hbr).hl
          generalize cntK (ceK s.prt (allK g)) [] k = z at ck hfl
          by_cases hz : z = 0
          · subst hz
            have hrn : Hid (rd ++ [k] = (List.range (k + 1)).filter (fun q => cntK (ceK s.prt (allK g)) [] q == 0)) := Lib.hid (by rw [hfl.out, ← hrdH.out]; simp)
            clear hfl
            go_wp2_with (at_builtin; refine wpList_append_rd _ rfl _ _ _ rfl eInt (base := wv.heap.size) (v := .slice RA rd.length rc) (xs := rd.map eN) rfl (hroH.out.below ((Below.refl _ wx).alloc (Nat.le_refl _) _)) rfl (Rd.one' (eN k) rfl) (by simp [eN]) (by simp [eN, Value.oneCell']) (by rw [List.length_map]; simp [maxLen]; omega) (by rw [List.length_map]; omega) (by simp; omega) ?_; intro A5 n5 c5 w5 hn5 hown5 hg5 hat5; (obtain rfl : n5 = rd.length + 1 := (by rw [hn5, List.length_map])); clear hn5)
            have hB5 : Below wv.heap.size wv w5 := (hbr.alloc (by omega) _).grown hg5 (by simp; omega) (fun q hq => (hroH.out.block q hq).1)
            go_roundg (ps.length + 1 - (k + 1))
            case measure => omega
            case rel => exact ⟨k + 1, A5, c5, rd ++ [k], by omega, rfl, by go_num, by rw [List.length_append]; rfl, hrn.out, by rw [List.map_append, List.length_append]; exact hown5, hB5⟩
          · have hzd : (((z : Nat) : Int) == 0) = false := by rw [beq_eq_false_iff_ne]; omega
            have hrn : Hid (rd = (List.range (k + 1)).filter (fun q => cntK (ceK s.prt (allK g)) [] q == 0)) := Lib.hid (by rw [hfl.out, if_neg (by simpa using hz)]; exact hrdH.out)
            clear hfl
            go_wp2_with fail
            go_roundg (ps.length + 1 - (k + 1))
            case measure => omega
            case rel => exact ⟨k + 1, RA, rc, rd, by omega, rfl, by go_num, rfl, hrn.out, hroH.out, hbr⟩
        · obtain rfl : k = ps.length := by omega
          have hnlt3 : ¬ (ps.length : Int) < (ps.length : Int) := by omega
          have hMK : Hid (MainK wv wx (w2.heap.size + 1) g s ps [] rd (cntK (ceK s.prt (allK g)) []) RA none rc 0) := Lib.hid
            ⟨Go.Proofs.Ytebpghpeeedgcaa.KA.start (by rw [hrdH.out]; exact (filter_asc _ _).imp fun h => Nat.ne_of_lt h) (fun q => by rw [hrdH.out, List.mem_filter, List.mem_range, hplH.out, beq_iff_eq]), pre_nil _, hroH.out, Ow.nil_ _ _ _ _, (hCW3.out.below hbr).hl, Gk.of_below hbr _⟩
          clear hroH hrdH hbr hzx
          go_wp2_with fail
          go_loopg [14, 17] (ps.length + 1) (fun gg rv ov wr => ∃ (os rd : List Nat) (lf : Nat → Nat) (RA OA : Option Addr) (rc oc : Nat), gg = ps.length + 1 - os.length ∧ rv = .slice RA rd.length rc ∧ ov = .slice OA os.length oc ∧ MainK wv wr (w2.heap.size + 1) g s ps os rd lf RA OA rc oc)
          case atStart => exact ⟨[], rd, _, RA, none, rc, 0, rfl, rfl, rfl, hMK.out⟩
          case round =>
            obtain ⟨os, rd2, lf, RA2, OA, rc2, oc, rfl, rfl, rfl, hM⟩ := hrel
            obtain ⟨wy, hwy⟩ : ∃ wy, wy = wr := ⟨_, rfl⟩
            obtain rfl := hwy
            have hMH := Lib.hid hM
            clear hM hMK
            have hgk := hMH.out.gk
            have hzy := hgk.size
            have hb3y : Below w2.heap.size w2 wy := hb2vH.out.trans (hgk.below hb2vH.out.size (fun k e => by omega))
            by_cases h0 : rd2 = []
            · subst h0
              have hdone := Lib.hid (fun e he => hMH.out.done hWH.out hTar.out hgH.out hgn (by omega) hb2vH.out (by omega) hb02 (e := e) he)
              go_wp2_with fail
              go_ret2
              exact hdone.out _ rfl
            · have hpos : 0 < rd2.length := List.length_pos_iff.2 h0
              have hposi : (0 : Int) < (rd2.length : Int) := by omega
              have hrdP : ∀ q ∈ rd2, q < s.pts.length := fun q hq => ((hMH.out.ka.rd q).1 hq).1
              have hrl2 : rd2.length ≤ ps.length := by rw [hplH.out]; exact nodup_le _ hMH.out.ka.rn hrdP
              have hWy := Lib.hid (hWH.out.below hb3y)
              have hqy : wy.heap[w2.heap.size]? = some (.cells #[.pointer (some ⟨p, 0, none⟩)] 38 (0, 0)) := hgk.blk hqvH.out (by omega)
              have hqyH := Lib.hid hqy
              have cM := Lib.hid (minN_any 17 #[.pointer (some ⟨w2.heap.size, 0, none⟩)] (keyP s) (fun _ _ => rfl) wy.heap.size RA2 rd2.length rc2 rd2 wy hMH.out.rdy.rd.1 (by omega) hpos (fun x hx y hy w' hw' => pfst_any w2.heap.size x y w' (hWy.out.below hw') hTar.out (by omega) (by rw [blk_cell (blk_below hqyH.out hw') 0]; rfl) (by have := blk_lt (blk_below hqyH.out hw'); exact this) (hrdP x hx) (hrdP y hy)) (Nat.le_refl _))
              have hrdPH := Lib.hid hrdP
              clear hqy hb3y h0 hrdP
              go_wp2_with fail
              refine cM.out.mono ?_
              rintro e w4 ⟨m, rfl, hm, hmin, hb4⟩
              have hmH := Lib.hid hm
              have hminH := Lib.hid hmin
              have hz4 := hb4.size
              clear hm hmin cM
              obtain ⟨W5, hW5⟩ : ∃ W5, w4.alloc (.cells #[.int .i64 (m : Int)] 3) = W5 := ⟨_, rfl⟩
              have hbW : Below w4.heap.size w4 W5 := by rw [← hW5]; exact (Below.refl _ w4).alloc (Nat.le_refl _) _
              have hmW : W5.heap[w4.heap.size]? = some (.cells #[.int .i64 (m : Int)] 3 (0, 0)) := by rw [← hW5]; exact heap_at _ _ rfl
              have hbyW : Below wy.heap.size wy W5 := hb4.trans (hbW.mono hz4)
              have hltm := blk_lt hmW
              have hmWH := Lib.hid hmW
              have hrow5 : Ow W5 wv.heap.size 3 1 (.slice RA2 rd2.length rc2) ((rd2.map Int.ofNat).map eI) := by rw [← map_eN]; exact hMH.out.rdy.below hbyW
              have hob : ∀ k, (Value.slice RA2 rd2.length rc2).ownBlock = some k → wv.heap.size ≤ k ∧ k < wy.heap.size := hMH.out.rdy.block
              have cD := Lib.hid (delN_gen 20 #[.pointer (some ⟨w4.heap.size, 0, none⟩)] (fun x => x == (m : Int)) (fun _ _ => rfl) wv.heap.size RA2 rd2.length rc2 (rd2.map Int.ofNat) W5 hrow5 (by omega) (fun x hx w' hw' => by
                obtain ⟨x', _, rfl⟩ := List.mem_map.1 hx
                exact pdel_any w4.heap.size x' m w' (by rw [blk_cell ((hw'.block _ hltm (fun e => by have := hob _ e.symm; omega)).trans hmWH.out) 0]; rfl)) (by have := hbyW.size; omega))
              have hbyWH := Lib.hid hbyW
              have hobH := Lib.hid hob
              clear hbW hmW hbyW hrow5 hob
              go_wp2_with fail
              try rw [hW5]
              clear hW5
              refine cD.out.mono ?_
              rintro e w6 ⟨n', rfl, hown6, hg6⟩
              obtain ⟨rd3, hrd3⟩ : ∃ rd3, rd2.filter (fun q => !(q == m)) = rd3 := ⟨_, rfl⟩
              have hfm : (rd2.map Int.ofNat).filter (fun x => !(x == (m : Int))) = rd3.map Int.ofNat := by
                rw [← hrd3, List.filter_map]
                refine congrArg (List.map Int.ofNat) (List.filter_congr fun q _ => ?_)
                show (!((q : Int) == (m : Int))) = !(q == m)
                rw [show ((q : Int) == (m : Int)) = (q == m) from by rw [Bool.eq_iff_iff, beq_iff_eq, beq_iff_eq]; omega]
              rw [hfm, ← map_eN] at hown6
              obtain rfl : rd3.length = n' := by simpa using hown6.rd.2.1
              have hG6 : Gk (fun b => (Value.slice RA2 rd2.length rc2).ownBlock = some b) wy w6 := (Gk.of_below hbyWH.out _).grown hg6 (fun k e => .inl e)
              have hz6 := hG6.size
              have hm6 : w6.heap[w4.heap.size]? = some (.cells #[.int .i64 (m : Int)] 3 (0, 0)) := (hg6.block _ hltm (fun e => by have := hobH.out _ e.symm; omega)).trans hmWH.out
              have hmP := hrdPH.out m hmH.out
              have hgk6 : Gk (fun b => b = w2.heap.size + 1) wv w6 := hgk.trans hG6 (fun k hk e => by have := (hobH.out k e).1; omega)
              have hout6 : Ow w6 wv.heap.size 31 1 (.slice OA os.length oc) ((selK ps os).map Rw.enc) := hG6.ow hMH.out.out (fun q hq e => hMH.out.rdy.ne_own hMH.out.out (by decide) e hq)
              have hrow6 := hG6.blk hMH.out.row (fun e => by have := (hobH.out _ e).1; omega)
              have hb36 : Below w2.heap.size w2 w6 := hb2vH.out.trans (hgk6.below hb2vH.out.size (fun k e => by omega))
              have hW6 := hWH.out.below hb36
              obtain ⟨kb, r, hKA, hkl, hr, hc1, hxs, hrl, hrb⟩ := hW6.part hTar.out hmP
              have hq6 : w6.heap[w2.heap.size]? = some (.cells #[.pointer (some ⟨p, 0, none⟩)] 38 (0, 0)) := hgk6.blk hqvH.out (by omega)
              have hoL : os.length < s.pts.length := hMH.out.ka.room hmH.out
              have hoo : ∀ k, (Value.slice OA os.length oc).ownBlock = some k → wv.heap.size ≤ k ∧ k < wy.heap.size := hMH.out.out.block
              have hbox6 := hW6.box
              have hKBb : ∀ k, (Value.slice KA ps.length kc).ownBlock = some k → k < w2.heap.size := fun k hk => (hWH.out.pts.block k hk).2
              have hlx6 := blk_lt hbox6
              have hlm6 := blk_lt hm6
              have b86 := blk_cell hbox6 8
              have bq6 := blk_cell hq6 0
              have bm6 := blk_cell hm6 0
              simp at b86 bq6 bm6
              have hmPn : m < ps.length := by rw [hplH.out]; exact hmP
              have hoLn : os.length < ps.length := by rw [hplH.out]; exact hoL
              have hmPi : (m : Int) < (ps.length : Int) := by omega
              subst hKA
              have hkb2 : kb < w2.heap.size := hKBb kb rfl
              have hInH : Hid (∀ w7 OA5 oc5, Gk (fun b => (Value.slice OA os.length oc).ownBlock = some b) w6 w7 → Ow w7 wv.heap.size 31 1 (.slice OA5 (os.length + 1) oc5) ((selK ps os).map Rw.enc ++ [[.slice r.A r.l r.c]]) → InK wv w7 (w2.heap.size + 1) g s ps os m ((waitK (ceK s.prt (allK g)) m).drop 0) rd3 lf RA2 OA5 rc2 oc5) := Lib.hid (fun w7 OA5 oc5 hg7 ho7 => by
                refine ⟨?_, hg7.ow hown6 (fun q hq e => hout6.ne_own hown6 (by decide) e hq), ?_, hg7.blk hrow6 (fun e => by have := (hoo _ e).1; omega), hgk6.trans hg7 (fun k hk e => by have := (hoo k e).1; omega)⟩
                · rw [List.drop_zero, ← hrd3]
                  exact hMH.out.ka.take hmH.out
                · rw [selK_snoc ps os hr, List.map_append]
                  exact ho7)
              have hout6H := Lib.hid hout6
              have hgk6H := Lib.hid hgk6
              have hq6H := Lib.hid hq6
              have hm6H := Lib.hid hm6
              have hbox6H := Lib.hid hbox6
              have hooH := Lib.hid hoo
              have hWait := Lib.hid (hMH.out.waits hTar.out hmH.out)
              clear hown6 hg6 hG6 hrow6 hb36 hxs hrb hr hout6 hgk6 hfm hrd3 cD hq6 hm6 hbox6 hoo hKBb hW6
              go_upto_region 31 with (fail)
              refine wp_region_M (fun w' => w'.cell? ⟨w2.heap.size, 0, none⟩ = some (.pointer (some ⟨p, 0, none⟩)) ∧ w'.cell? ⟨p, 8, none⟩ = some (.slice (some ⟨kb, 0, none⟩) ps.length kc) ∧ w'.cell? ⟨w4.heap.size, 0, none⟩ = some (.int .i64 (m : Int)) ∧ w'.cell? ⟨kb, m, none⟩ = some (.slice r.A r.l r.c)) (fun _ => True) 99 (by kernel_rfl) ⟨bq6, b86, bm6, hc1⟩ trivial ?_
              intro hcl
              have hC : w6.drew.cell? ⟨w2.heap.size, 0, none⟩ = some (.pointer (some ⟨p, 0, none⟩)) ∧ w6.drew.cell? ⟨p, 8, none⟩ = some (.slice (some ⟨kb, 0, none⟩) ps.length kc) ∧ w6.drew.cell? ⟨w4.heap.size, 0, none⟩ = some (.int .i64 (m : Int)) ∧ w6.drew.cell? ⟨kb, m, none⟩ = some (.slice r.A r.l r.c) := ⟨bq6, b86, bm6, hc1⟩
              have hE := trivial
              (refine wpM_take (i := 0) (v := ?_) rfl (by kernel_rfl) (by kernel_rfl) (by kernel_rfl) (by decide) (fun _ _ _ h => h) hcl hC (fun _ => hE) (Or.inl ⟨by rfl, ?_⟩) ?_; rotate_left; (· (intro w hSw; (try dsimp only at hSw); go_simp; (try with_reducible rfl))); clear hcl; intro hcl; (try simp only [Act.put, List.getElem_toArray, List.getElem_cons_zero, List.setIfInBounds_toArray, List.set_cons_zero, List.set_cons_succ]))
              (refine wpM_take (i := 1) (v := ?_) rfl (by kernel_rfl) (by kernel_rfl) (by kernel_rfl) (by decide) (fun _ _ _ h => h) hcl hC (fun _ => hE) (Or.inl ⟨by rfl, ?_⟩) ?_; rotate_left; (· (intro w hSw; (try dsimp only at hSw); go_simp; (try with_reducible rfl))); clear hcl; intro hcl; (try simp only [Act.put, List.getElem_toArray, List.getElem_cons_zero, List.getElem_cons_succ, List.setIfInBounds_toArray, List.set_cons_zero, List.set_cons_succ]))
              (refine wpM_take (i := 2) (v := ?_) rfl (by kernel_rfl) (by kernel_rfl) (by kernel_rfl) (by decide) (fun _ _ _ h => h) hcl hC (fun _ => hE) (Or.inl ⟨by rfl, ?_⟩) ?_; rotate_left; (· (intro w hSw; (try dsimp only at hSw); go_simp; (try with_reducible rfl))); clear hcl; intro hcl; (try simp only [Act.put, List.getElem_toArray, List.getElem_cons_zero, List.getElem_cons_succ, List.setIfInBounds_toArray, List.set_cons_zero, List.set_cons_succ]))
              (refine wpM_take (i := 3) (v := ?_) rfl (by kernel_rfl) (by kernel_rfl) (by kernel_rfl) (by decide) (fun _ _ _ h => h) hcl hC (fun _ => hE) (Or.inl ⟨by rfl, ?_⟩) ?_; rotate_left; (· (intro w hSw; (try dsimp only at hSw); go_simp; (try with_reducible rfl))); clear hcl; intro hcl; (try simp only [Act.put, List.getElem_toArray, List.getElem_cons_zero, List.getElem_cons_succ, List.setIfInBounds_toArray, List.set_cons_zero, List.set_cons_succ]))
              (refine wpM_take (i := 4) (v := ?_) rfl (by kernel_rfl) (by kernel_rfl) (by kernel_rfl) (by decide) (fun _ _ _ h => h) hcl hC (fun _ => hE) (Or.inl ⟨by rfl, ?_⟩) ?_; rotate_left; (· (intro w hSw; (try dsimp only at hSw); go_simp; (try with_reducible rfl))); clear hcl; intro hcl; (try simp only [Act.put, List.getElem_toArray, List.getElem_cons_zero, List.getElem_cons_succ, List.setIfInBounds_toArray, List.set_cons_zero, List.set_cons_succ]))
              (refine wpM_take (i := 5) (v := ?_) rfl (by kernel_rfl) (by kernel_rfl) (by kernel_rfl) (by decide) (fun _ _ _ h => h) hcl hC (fun _ => hE) (Or.inl ⟨by rfl, ?_⟩) ?_; rotate_left; (· (intro w hSw; (try dsimp only at hSw); go_simp; (try with_reducible rfl))); clear hcl; intro hcl; (try simp only [Act.put, List.getElem_toArray, List.getElem_cons_zero, List.getElem_cons_succ, List.setIfInBounds_toArray, List.set_cons_zero, List.set_cons_succ]))
              (refine wpM_take (i := 6) (v := ?_) rfl (by kernel_rfl) (by kernel_rfl) (by kernel_rfl) (by decide) (fun _ _ _ h => h) hcl hC (fun _ => hE) (Or.inl ⟨by rfl, ?_⟩) ?_; rotate_left; (· (intro w hSw; (try dsimp only at hSw); go_simp; (try with_reducible rfl))); clear hcl; intro hcl; (try simp only [Act.put, List.getElem_toArray, List.getElem_cons_zero, List.getElem_cons_succ, List.setIfInBounds_toArray, List.set_cons_zero, List.set_cons_succ]))
              (refine wpM_take (i := 7) (v := ?_) rfl (by kernel_rfl) (by kernel_rfl) (by kernel_rfl) (by decide) (fun _ _ _ h => h) hcl hC (fun _ => hE) (Or.inl ⟨by rfl, ?_⟩) ?_; rotate_left; (· (intro w hSw; (try dsimp only at hSw); go_simp; (try with_reducible rfl))); clear hcl; intro hcl; (try simp only [Act.put, List.getElem_toArray, List.getElem_cons_zero, List.getElem_cons_succ, List.setIfInBounds_toArray, List.set_cons_zero, List.set_cons_succ]))
              have hltq := blk_lt hq6H.out
              have hsz6 : w6.heap.size ≤ w6.drew.heap.size := Nat.le_refl _
              refine wpM_only (i := 8) rfl (by kernel_rfl) hcl (fun K hK => ?_)
              go_simp
              have hba : Below w6.heap.size w6 (w6.drew.alloc (.cells #[.slice r.A r.l r.c] 31)) := (Below.refl _ w6).drew.alloc (Nat.le_refl _) _
              have hC8 : (w6.drew.alloc (.cells #[.slice r.A r.l r.c] 31)).cell? ⟨w2.heap.size, 0, none⟩ = some (.pointer (some ⟨p, 0, none⟩)) ∧ (w6.drew.alloc (.cells #[.slice r.A r.l r.c] 31)).cell? ⟨p, 8, none⟩ = some (.slice (some ⟨kb, 0, none⟩) ps.length kc) ∧ (w6.drew.alloc (.cells #[.slice r.A r.l r.c] 31)).cell? ⟨w4.heap.size, 0, none⟩ = some (.int .i64 (m : Int)) ∧ (w6.drew.alloc (.cells #[.slice r.A r.l r.c] 31)).cell? ⟨kb, m, none⟩ = some (.slice r.A r.l r.c) :=
                ⟨(hba.cell (p := ⟨w2.heap.size, 0, none⟩) hltq).trans bq6, (hba.cell (p := ⟨p, 8, none⟩) hlx6).trans b86, (hba.cell (p := ⟨w4.heap.size, 0, none⟩) hlm6).trans bm6, (hba.cell (p := ⟨kb, m, none⟩) hkl).trans hc1⟩
              refine hK.out _ _ hC8 trivial ?_
              clear hK K
              clear hcl
              intro hcl
              (try simp only [Act.put, List.getElem_toArray, List.getElem_cons_zero, List.getElem_cons_succ, List.setIfInBounds_toArray, List.set_cons_zero, List.set_cons_succ])
              clear hC
              have hC := hC8
              have hlo : Hid (((selK ps os).map Rw.enc).length = os.length) := Lib.hid (by rw [List.length_map, selK_len])
              have hzv6 : wv.heap.size ≤ w6.heap.size := by omega
              refine wpM_only (i := 9) rfl (by kernel_rfl) hcl (fun K hK => ?_)
              refine step_append_rd _ rfl _ _ _ rfl eInts (base := wv.heap.size) (v := .slice OA os.length oc) (xs := (selK ps os).map Rw.enc) rfl (hout6H.out.below hba) rfl (Rd.one' [.slice r.A r.l r.c] rfl) (by simp) (by simp [Value.oneCell']) (by rw [hlo.out]; simp [maxLen]; omega) (by rw [hlo.out]; omega) (by simp; omega) ?_
              intro A5 n5 c5 w7 hn5 hown5 hg5 hat5
              obtain rfl : n5 = os.length + 1 := by rw [hn5, hlo.out]
              clear hn5
              have hgr : Gk (fun b => (Value.slice OA os.length oc).ownBlock = some b) w6 w7 := (Gk.of_below hba _).grown hg5 (fun k e => .inl e)
              have hz7 := hgr.size
              have hI7 := Lib.hid (hInH.out w7 A5 c5 hgr hown5)
              have hgk7 : Gk (fun b => b = w2.heap.size + 1) wv w7 := hI7.out.gk
              have hq7 := hgr.blk hq6H.out (fun e => by have := (hooH.out _ e).1; omega)
              have hm7 := hgr.blk hm6H.out (fun e => by have := (hooH.out _ e).2; omega)
              have hx7 := hgr.blk hbox6H.out (fun e => by have := (hooH.out _ e).1; omega)
              have bq7 := blk_cell hq7 0
              have bm7 := blk_cell hm7 0
              have b87 := blk_cell hx7 8
              simp at bq7 bm7 b87
              have bk7 : w7.cell? ⟨kb, m, none⟩ = some (.slice r.A r.l r.c) := (World.cell?_of_block (hgr.block kb (by omega) (fun e => by have := (hooH.out _ e).1; omega))).trans hc1
              have hC9 := (And.intro bq7 (And.intro b87 (And.intro bm7 bk7)))
              refine hK.out _ _ hC9 trivial ?_
              clear hK K
              clear hcl
              intro hcl
              (try simp only [Act.put, List.getElem_toArray, List.getElem_cons_zero, List.getElem_cons_succ, List.setIfInBounds_toArray, List.set_cons_zero, List.set_cons_succ])
              clear hC
              have hC := hC9
              (refine wpM_take (i := 10) (v := ?_) rfl (by kernel_rfl) (by kernel_rfl) (by kernel_rfl) (by decide) (fun _ _ _ h => h) hcl hC (fun _ => hE) (Or.inl ⟨by rfl, ?_⟩) ?_; rotate_left; (· (intro w hSw; (try dsimp only at hSw); go_simp; (try with_reducible rfl))); clear hcl; intro hcl; (try simp only [Act.put, List.getElem_toArray, List.getElem_cons_zero, List.getElem_cons_succ, List.setIfInBounds_toArray, List.set_cons_zero, List.set_cons_succ]))
              refine wpM_done (by kernel_rfl) ?_
              clear hcl
              try simp only [List.getElem_toArray, List.getElem_cons_zero, List.getElem_cons_succ, List.setIfInBounds_toArray, List.set_cons_zero, List.set_cons_succ]
              have hm7H := Lib.hid hm7
              have hlm7 := blk_lt hm7
              have hlv7 := blk_lt (hgk7.blk hCW3.out.hv (by omega))
              obtain ⟨WA, wc, hv7, cv7, hov7⟩ := (hCW3.out.later hgk7 hI7.out.row (by omega)).at_ (q := m) hmPn
              obtain ⟨ws, hws⟩ : ∃ ws, waitK (ceK s.prt (allK g)) m = ws := ⟨_, rfl⟩
              have hwlb : ws.length ≤ 1000000000 := by
                rw [← hws]
                exact Nat.le_trans (waitK_len _ _) (Nat.le_trans (ceK_len _ _) (Nat.le_trans hal.out (by omega)))
              rw [hws] at hv7 cv7 hov7 hI7 hWait
              have hv7H := Lib.hid hv7
              have hwsH := Lib.hid hws
              clear hC hC8 hC9 bq6 b86 bm6 hc1 bq7 b87 bk7 hm7 hq7 hx7 hgr hown5 hg5 hat5 hba hov7 hv7 hws hInH hq6H hm6H hbox6H hgk7 hE
              go_wp2_with fail
              go_loopg [14, 131] (ws.length + 1) (fun gg rv jv wx => ∃ (j : Nat) (rd : List Nat) (lf : Nat → Nat) (RA : Option Addr) (rc : Nat), j ≤ ws.length ∧ gg = ws.length + 1 - j ∧ jv = .int .i64 (j : Int) ∧ rv = .slice RA rd.length rc ∧ InK wv wx (w2.heap.size + 1) g s ps os m (ws.drop j) rd lf RA A5 rc c5)
              case atStart => exact ⟨0, rd3, lf, RA2, rc2, Nat.zero_le _, rfl, rfl, rfl, hI7.out⟩
              case round =>
                obtain ⟨j, rd, lf4, RA, rc4, hj, rfl, rfl, rfl, hI⟩ := hrel
                obtain ⟨wx, hwx⟩ : ∃ wx, wx = wr := ⟨_, rfl⟩
                obtain rfl := hwx
                have hIH := Lib.hid hI
                clear hI hI7 cv7 bm7
                by_cases hlt5 : j < ws.length
                · have hlt5i : (j : Int) < (ws.length : Int) := by omega
                  obtain ⟨q, hq⟩ : ∃ q, ws[j]? = some q := ⟨_, List.getElem?_eq_getElem hlt5⟩
                  obtain ⟨hqP, hqo⟩ := hWait.out.2 q (List.mem_of_getElem? hq)
                  have hdr : ws.drop j = q :: ws.drop (j + 1) := by
                    rw [List.drop_eq_getElem_cons hlt5]
                    rw [List.getElem?_eq_getElem hlt5] at hq
                    injection hq with hq
                    rw [hq]
                  have hI2 := hIH.out
                  rw [hdr] at hI2
                  have hlfq : lf4 q ≤ 1000000000 := by
                    rw [hI2.kb.lf q]
                    have h1 := cntK_le (ceK s.prt (allK g)) (os ++ [m]) q
                    have h2 := ceK_len s.prt (allK g)
                    have h3 := hal.out
                    have h4 : (q :: ws.drop (j + 1)).count q ≤ ws.length := by
                      rw [← hdr]
                      exact Nat.le_trans List.count_le_length (by simp)
                    have h5 : ws.length ≤ (allK g).length := by
                      rw [← hwsH.out]
                      exact Nat.le_trans (waitK_len _ _) h2
                    omega
                  have hqPn : q < ps.length := by rw [hplH.out]; exact hqP
                  obtain ⟨h0q, hrd8, hou8, hrow8, hgk8, hkb8⟩ := hI2.tell hTar.out hqP hqo (by omega)
                  have hgkx := hI2.gk
                  have hCx := hCW3.out.later hgkx hI2.row (by omega)
                  obtain ⟨WA2, wc2, hv2, _, hov2⟩ := hCx.at_ hmPn
                  rw [hwsH.out] at hv2 hov2
                  have e9 : Value.slice WA2 ws.length wc2 = Value.slice WA ws.length wc := Option.some.inj (hv2.symm.trans hv7H.out)
                  rw [e9] at hov2
                  obtain ⟨gq, hWA, _, hlg, _, hcq⟩ := hov2.addr (by simpa using (by omega : 0 < ws.length))
                  have cq := hcq j _ (by rw [List.getElem?_map, hq]; rfl) 0 _ rfl
                  rw [Nat.mul_one, Nat.add_zero] at cq
                  have cl := hCx.left hqPn
                  have hfL := blk_frozen hCx.hl q
                  have hlL := blk_lt hCx.hl
                  rw [hWA]
                  have hqPi : (q : Int) < (ps.length : Int) := by omega
                  have hjn1 : IntKind.i64.wrap ((j : Int) + 1) = ((j + 1 : Nat) : Int) := by rw [IntWalk.i64_in _ (by omega)]; omega
                  obtain ⟨z, hz⟩ : ∃ z, lf4 q - 1 = z := ⟨_, rfl⟩
                  obtain ⟨y, hy⟩ : ∃ y, lf4 q = y := ⟨_, rfl⟩
                  rw [hy] at cl hlfq h0q
                  have hk2 : IntKind.i64.wrap ((y : Int) - 1) = (z : Int) := by rw [IntWalk.i64_in _ (by omega)]; omega
                  rw [hz] at hrd8 hou8 hrow8 hgk8 hkb8
                  obtain ⟨w8, hw8⟩ : ∃ w8, wx.setCell ⟨w2.heap.size + 1, q, none⟩ (.int .i64 (z : Int)) = w8 := ⟨_, rfl⟩
                  rw [hw8] at hrd8 hou8 hrow8 hgk8
                  have c8 := blk_cell hrow8 q
                  rw [rowN_at _ hqPn] at c8
                  rw [show upd lf4 q z q = z from if_pos rfl] at c8
                  have hlL8 := blk_lt hrow8
                  have hrdl : rd.length ≤ ps.length := by rw [hplH.out]; exact nodup_le _ hI2.kb.rn (fun x hx => ((hI2.kb.rd x).1 hx).1)
                  have hz8 := hgk8.size
                  have hrd8H := Lib.hid hrd8
                  have hou8H := Lib.hid hou8
                  have hrow8H := Lib.hid hrow8
                  have hgk8H := Lib.hid hgk8
                  have hkb8H := Lib.hid hkb8
                  have hWAH := Lib.hid hWA
                  clear hI2 hrd8 hou8 hrow8 hgk8 hkb8 hCx hov2 hv2 hcq hgkx hdr hq hy hz e9 hWA
                  go_upto_region 36 with (fail)
                  try rw [hw8]
                  clear hw8 cl hfL cq
                  by_cases hz0 : z = 0
                  · subst hz0
                    rw [if_pos rfl] at hkb8H
                    go_wp2_with (at_builtin; refine wpList_append_rd _ rfl _ _ _ rfl eInt (base := wv.heap.size) (v := .slice RA rd.length rc4) (xs := rd.map eN) rfl (hrd8H.out.below ((Below.refl _ w8).alloc (Nat.le_refl _) _)) rfl (Rd.one' (eN q) rfl) (by simp [eN]) (by simp [eN, Value.oneCell']) (by rw [List.length_map]; simp [maxLen]; omega) (by rw [List.length_map]; omega) (by simp; omega) ?_; intro A9 n9 c9 w9 hn9 hown9 hg9 hat9; (obtain rfl : n9 = rd.length + 1 := (by rw [hn9, List.length_map])); clear hn9)
                    have hgr9 : Gk (fun b => (Value.slice RA rd.length rc4).ownBlock = some b) w8 w9 := ((Gk.refl _ w8).alloc _).grown hg9 (fun k e => .inl e)
                    have hI9 : InK wv w9 (w2.heap.size + 1) g s ps os m (ws.drop (j + 1)) (rd ++ [q]) (upd lf4 q 0) A9 A5 c9 c5 := by
                      refine ⟨hkb8H.out, ?_, hgr9.ow hou8H.out (fun k hk e => hrd8H.out.ne_own hou8H.out (by decide) e hk), hgr9.blk hrow8H.out (fun e => by have := (hrd8H.out.block _ e).1; omega), hgk8H.out.trans hgr9 (fun k hk e => by have := (hrd8H.out.block _ e).1; omega)⟩
                      rw [List.map_append, List.length_append]
                      exact hown9
                    rw [← hWAH.out]
                    go_roundg (ws.length + 1 - (j + 1))
                    case measure => omega
                    case rel => exact ⟨j + 1, rd ++ [q], _, A9, c9, by omega, rfl, by go_num, by rw [List.length_append]; rfl, hI9⟩
                  · have hzd : ((z : Int) == 0) = false := by rw [beq_eq_false_iff_ne]; omega
                    rw [if_neg hz0] at hkb8H
                    have hI9 : InK wv w8 (w2.heap.size + 1) g s ps os m (ws.drop (j + 1)) rd (upd lf4 q z) RA A5 rc4 c5 := ⟨hkb8H.out, hrd8H.out, hou8H.out, hrow8H.out, hgk8H.out⟩
                    go_wp2_with fail
                    rw [← hWAH.out]
                    go_roundg (ws.length + 1 - (j + 1))
                    case measure => omega
                    case rel => exact ⟨j + 1, rd, _, RA, rc4, by omega, rfl, by go_num, rfl, hI9⟩
                · obtain rfl : j = ws.length := by omega
                  have hnlt5 : ¬ (ws.length : Int) < (ws.length : Int) := by omega
                  have hE5 := Lib.hid (by
                    have := hIH.out
                    rw [List.drop_length] at this
                    exact this.end_ hTar.out hMH.out hmH.out hminH.out)
                  go_wp2_with fail
                  go_roundg (ps.length + 1 - (os ++ [m]).length)
                  case measure => rw [List.length_append, List.length_singleton]; omega
                  case rel => exact ⟨os ++ [m], rd, lf4, RA, A5, rc4, c5, rfl, rfl, by rw [List.length_append]; rfl, hE5.out⟩
end Go.Proofs.Ytebpghpeeedgcaa
