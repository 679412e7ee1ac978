/- scc.Whole walked. -/
import Derived.Test.YtebpghpeeedgcaaNh
namespace Go.Proofs.Ytebpghpeeedgcaa
open Go.RowKit

def wholeE (n m : Nat) (rs : List Rw) : Int := if m = n then (if longP n rs = true then 8 else 0) else 2
def WhlP (xs : List (List Int)) (th : List Bool) (E : Int) (w : World) (e : Ending) (w' : World) : Prop :=
  ∃ (OA : Option Addr) (oc : Nat) (o : List Bool), e = .returned (.tuple #[.slice OA o.length oc, .int .i64 E]) ∧ Rd w' w'.heap.size 1 OA o.length (o.map eB) ∧ (E = 0 → Whl xs th o) ∧ (E ≠ 0 → o = []) ∧ Below w.heap.size w w'
set_option maxRecDepth 100000 in
set_option maxHeartbeats 8000000 in
theorem swhole_any (A TA : Option Addr) (n c m tc : Nat) (rs : List Rw) (th : List Bool) (w : World) (hA : RdG w w.heap.size A n rs) (hT : Rd w w.heap.size 1 TA m (th.map eB)) (hn : n ≤ maxLen) (hr : ∀ r ∈ rs, r.l ≤ 1000000) :
    Calls Try.prog 13 #[.slice A n c, .slice TA m tc] w fun e w' => WhlP (rs.map Rw.xs) th (wholeE n m rs) w e w' := by
  have hl := hA.len
  have hxl : (rs.map Rw.xs).length = n := by rw [List.length_map]; exact hl
  have htl : th.length = m := by simpa using hT.1
  unfold wholeE
  by_cases hmn : m = n
  case neg =>
    have hmd : ((m : Int) == (n : Int)) = false := by rw [beq_eq_false_iff_ne]; omega
    rw [if_neg hmn]
    clear hA hT hr hl hxl htl hmn
    go_enter Try.func13, Try.ntmps13
    go_wp2
    go_ret2
    exact ⟨none, 0, [], rfl, Rd.nil_, fun h => absurd h (by decide), fun _ => rfl, Below.refl _ _⟩
  subst hmn
  rw [if_pos rfl]
  have hmd : ((m : Int) == (m : Int)) = true := by simp
  have cL := Lib.hid (long_any A m c rs w hA hn (fun r hr' => Nat.le_trans (hr r hr') (by decide)))
  cases hL : longP m rs with
  | true =>
    rw [hL] at cL
    rw [if_pos rfl]
    clear hA hT hr hl hxl htl hL
    go_enter Try.func13, Try.ntmps13
    go_wp2_with fail
    refine cL.out.mono ?_
    rintro e w1 ⟨rfl, hb1⟩
    go_wp2
    go_ret2
    exact ⟨none, 0, [], rfl, Rd.nil_, fun h => absurd h (by decide), fun _ => rfl, hb1⟩
  | false =>
  rw [hL] at cL
  rw [if_neg (by decide)]
  have hn1 : m ≤ 1024 := by
    unfold longP at hL
    rw [Bool.or_eq_false_iff, decide_eq_false_iff_not] at hL
    omega
  have hAH := Lib.hid hA
  have hTH := Lib.hid hT
  have hrH := Lib.hid hr
  have hxlH := Lib.hid hxl
  have htlH := Lib.hid htl
  clear hA hT hr hl hxl htl hL hn
  go_enter Try.func13, Try.ntmps13
  go_wp2_with fail
  refine cL.out.mono ?_
  rintro e w1 ⟨rfl, hb1⟩
  have hz1 := hb1.size
  have hmk := make_ints m (by omega)
  obtain ⟨U, hU⟩ : ∃ U, w1.alloc (.cells (Array.replicate m (Value.slice none 0 0)) 31) = U := ⟨_, rfl⟩
  have hbU : Below w1.heap.size w1 U := by rw [← hU]; exact (Below.refl _ w1).alloc (Nat.le_refl _) _
  have hvU : U.heap[w1.heap.size]? = some (.cells (List.replicate m (Value.slice none 0 0)).toArray 31 (0, 0)) := by rw [← hU, List.toArray_replicate]; exact heap_at _ _ rfl
  have hltv := blk_lt hvU
  have hzU := hbU.size
  have cC := Lib.hid (cloneB_any TA m tc th U (((hTH.out.below (hb1.trans (hbU.mono hz1)))).more (by omega)) (by omega))
  have hvUH := Lib.hid hvU
  have hbUH := Lib.hid hbU
  have hb1H := Lib.hid hb1
  clear cL hvU hbU hb1
  go_wp2_with fail
  try rw [hU]
  clear hU hmk
  refine cC.out.mono ?_
  rintro e w2 ⟨WA, wc, rfl, hown, hb2⟩
  have hz2 := hb2.size
  have hW0 : Hid (WW w1.heap.size U.heap.size m (waitK []) th [] WA none wc 0 (List.replicate m (Value.slice none 0 0)) w2) :=
    Lib.hid ⟨blk_below hvUH.out hb2, (Fam.zero U U.heap.size 3 m).below hb2, hown, htlH.out, Ow.nil_ _ _ _ _, fun v hv b hb => by
      obtain rfl := (List.mem_replicate.1 hv).2
      cases hb⟩
  have hb12 : Below w1.heap.size w1 w2 := hbUH.out.trans (hb2.mono hzU)
  clear hown cC
  go_wp2_with fail
  go_loopg [9, 32] (m + 1) (fun gg lv iv wr => ∃ (i : Nat) (es : List (Nat × Nat)) (wl : List Bool) (ls : List Nat) (LA : Option Addr) (lc : Nat) (vs : List Value), i ≤ m ∧ gg = m + 1 - i ∧ iv = .int .i64 (i : Int) ∧ lv = .slice LA ls.length lc ∧
    WW w1.heap.size U.heap.size m (waitK es) wl ls WA LA wc lc vs wr ∧ EsP (rs.map Rw.xs) m es i 0 ∧ WhP (rs.map Rw.xs) th wl i 0 ∧ (∀ x, x ∈ ls ↔ x < i ∧ whF wl x = false) ∧ ls.length ≤ i ∧ Below w1.heap.size w1 wr)
  case atStart => exact ⟨0, [], th, [], none, 0, _, Nat.zero_le _, rfl, rfl, rfl, hW0.out, EsP.start, WhP.start (by rw [htlH.out, hxlH.out]), fun x => by simp, Nat.le_refl _, hb12⟩
  case round =>
    obtain ⟨i, es, wl, ls, LA, lc, vs, hi, rfl, rfl, rfl, hWW, hEs, hWh, hls, hll, hbr⟩ := hrel
    obtain ⟨wv, hwv⟩ : ∃ wv, wv = wr := ⟨_, rfl⟩
    obtain rfl := hwv
    have hzr := hbr.size
    have hWWH := Lib.hid hWW
    have hEsH := Lib.hid hEs
    have hWhH := Lib.hid hWh
    have hlsH := Lib.hid hls
    clear hWW hEs hWh hls hW0
    by_cases hlt : i < m
    · have hlti : (i : Int) < (m : Int) := by omega
      obtain ⟨g, hWA, _⟩ := hWWH.out.cell hlt
      subst hWA
      obtain ⟨bA, oA, r, hAe, hbA, hq, hcp, hrk⟩ := (hAH.out.below (hb1H.out.trans (hbr.mono hz1))).at_ hlt
      subst hAe
      have hxs : (rs.map Rw.xs).getD i [] = r.xs := getD_map rs hq
      have hmr := hrH.out r (List.mem_of_getElem? hq)
      have hrl := hrk.len
      have hrkH := Lib.hid hrk
      have hxsH := Lib.hid hxs
      have hrlH := Lib.hid hrl
      have hqH := Lib.hid hq
      clear hrk hxs hrl hq
      go_wp2_with fail
      go_loopg [39] (r.l + 1) (fun gg jv wx => ∃ (k : Nat) (es2 : List (Nat × Nat)) (wl2 : List Bool) (vs2 : List Value), k ≤ r.l ∧ gg = r.l + 1 - k ∧ jv = .int .i64 (k : Int) ∧
        WW w1.heap.size U.heap.size m (waitK es2) wl2 ls (some ⟨g, 0, none⟩) LA wc lc vs2 wx ∧ EsP (rs.map Rw.xs) m es2 i k ∧ WhP (rs.map Rw.xs) th wl2 i k ∧ (∀ x, x ∈ ls ↔ x < i ∧ whF wl2 x = false) ∧ Below w1.heap.size w1 wx)
      case atStart => exact ⟨0, es, wl, vs, Nat.zero_le _, rfl, rfl, hWWH.out, hEsH.out, hWhH.out, hlsH.out, hbr⟩
      case round =>
        obtain ⟨k, es2, wl2, vs2, hk, rfl, rfl, hWW, hEs, hWh, hls, hbx⟩ := hrel
        obtain ⟨wx, hwx⟩ : ∃ wx, wx = wr := ⟨_, rfl⟩
        obtain rfl := hwx
        have hzx := hbx.size
        obtain ⟨g2, hg2, hgb, hgl, hgf, hgc⟩ := hWW.cell hlt
        injection hg2 with hg2
        injection hg2 with hg2
        subst hg2
        have hkn1 : IntKind.i64.wrap ((k : Int) + 1) = ((k + 1 : Nat) : Int) := by rw [IntWalk.i64_in _ (by omega)]; omega
        have hkn2 : IntKind.i64.wrap ((i : Int) + 1) = ((i + 1 : Nat) : Int) := by rw [IntWalk.i64_in _ (by omega)]; omega
        have hwll : wl2.length = m := hWW.len
        have hWWH2 := Lib.hid hWW
        have hlsH2 := Lib.hid hls
        by_cases hlt2 : k < r.l
        · have hlt2i : (k : Int) < (r.l : Int) := by omega
          obtain ⟨b1, o1, r1, he1, hb1', hq1, hcp1, hrk1⟩ := (hAH.out.below (hb1H.out.trans (hbx.mono hz1))).at_ hlt
          injection he1 with he1
          injection he1 with he1 he2
          subst he1
          subst he2
          obtain rfl : r = r1 := Option.some.inj (hqH.out.symm.trans hq1)
          obtain ⟨b2, o2, v, hx2, hb2', hxa, hxc⟩ := hrk1.at_ hlt2
          have hx2H := Lib.hid hx2
          rw [hx2]
          have hxv : ((rs.map Rw.xs).getD i [])[k]? = some v := by rw [hxsH.out]; exact hxa
          have hxl' : (rs.map Rw.xs).length = m := hxlH.out
          by_cases hv0 : v < 0
          · have hvd : decide (v < 0) = true := decide_eq_true hv0
            have hin : inR (rs.map Rw.xs).length v = false := by
              unfold inR
              rw [show decide (0 ≤ v) = false from decide_eq_false (by omega)]; rfl
            replace hxl' := Lib.hid hxl'
            clear hx2 hcp1
            have hEs2 := Lib.hid (hEs.skip hxv (fun b e => by omega))
            have hWh2 := Lib.hid (hWh.bad (by rw [hxlH.out]; exact hlt) hxv hin)
            have hWW2 := Lib.hid (hWWH2.out.set_ hltv hlt)
            have hls2 : Hid (∀ x, x ∈ ls ↔ x < i ∧ whF (wl2.set i false) x = false) := Lib.hid (fun x => by
              rw [hlsH2.out x, whF_set (by omega)]
              by_cases e : x < i
              · simp [show ¬ x = i by omega]
              · simp [e])
            have hbN : Below w1.heap.size w1 (wx.setCell ⟨g, i, none⟩ (.bool false)) := hbx.setCell (show w1.heap.size ≤ g by omega) _
            clear hEs hWh hWW hls hrk1 hq1 hxa hxv hin
            go_wp2_with fail
            rw [← hx2H.out]
            go_roundg (r.l + 1 - (k + 1))
            case measure => omega
            case rel => exact ⟨k + 1, es2, _, vs2, by omega, rfl, by go_num, hWW2.out, hEs2.out, hWh2.out, hls2.out, hbN⟩
          · have hvd : decide (v < 0) = false := decide_eq_false hv0
            by_cases hvn : (m : Int) ≤ v
            · have hvd2 : decide ((m : Int) ≤ v) = true := decide_eq_true hvn
              have hin : inR (rs.map Rw.xs).length v = false := by
                unfold inR
                rw [hxl', show decide (v < (m : Int)) = false from decide_eq_false (by omega), Bool.and_false]
              replace hxl' := Lib.hid hxl'
              clear hx2 hcp1
              have hEs2 := Lib.hid (hEs.skip hxv (fun b e => by omega))
              have hWh2 := Lib.hid (hWh.bad (by rw [hxlH.out]; exact hlt) hxv hin)
              have hWW2 := Lib.hid (hWWH2.out.set_ hltv hlt)
              have hls2 : Hid (∀ x, x ∈ ls ↔ x < i ∧ whF (wl2.set i false) x = false) := Lib.hid (fun x => by
                rw [hlsH2.out x, whF_set (by omega)]
                by_cases e : x < i
                · simp [show ¬ x = i by omega]
                · simp [e])
              have hbN : Below w1.heap.size w1 (wx.setCell ⟨g, i, none⟩ (.bool false)) := hbx.setCell (show w1.heap.size ≤ g by omega) _
              clear hEs hWh hWW hls hrk1 hq1 hxa hxv hin
              go_wp2_with fail
              rw [← hx2H.out]
              go_roundg (r.l + 1 - (k + 1))
              case measure => omega
              case rel => exact ⟨k + 1, es2, _, vs2, by omega, rfl, by go_num, hWW2.out, hEs2.out, hWh2.out, hls2.out, hbN⟩
            · obtain ⟨q, rfl⟩ : ∃ q : Nat, v = (q : Int) := ⟨v.toNat, by omega⟩
              have hqm : q < m := by omega
              have hvd2 : decide ((m : Int) ≤ (q : Int)) = false := decide_eq_false hvn
              have hin : inR (rs.map Rw.xs).length (q : Int) = true := by
                unfold inR
                rw [hxl', show decide ((0 : Int) ≤ (q : Int)) = true from decide_eq_true (by omega), show decide ((q : Int) < (m : Int)) = true from decide_eq_true (by omega)]; rfl
              have hEs2 := Lib.hid (hEs.push hxv hqm)
              have hWh2 := Lib.hid (hWh.good hxv hin)
              have hesl : es2.length ≤ 2000000000 := by have := hEs.1; omega
              obtain ⟨QA, qc, hvq, cvq, hoq⟩ := hWW.at_ hqm
              obtain ⟨wl3, hwl3⟩ : ∃ wl3, (waitK es2 q).length = wl3 := ⟨_, rfl⟩
              have hwlb : wl3 ≤ 2000000000 := by rw [← hwl3]; exact Nat.le_trans (waitK_len _ _) hesl
              rw [hwl3] at hvq cvq hoq
              have hwl3H := Lib.hid hwl3
              have hvqH := Lib.hid hvq
              have hoqH := Lib.hid hoq
              have hlvx := blk_lt hWW.hv
              have hfvx := blk_frozen hWW.hv q
              have hzux : U.heap.size ≤ wx.heap.size := by omega
              replace hxl' := Lib.hid hxl'
              have hqmi : (q : Int) < (m : Int) := by omega
              clear hx2 hcp1 hEs hWh hls hrk1 hq1 hxa hxv hin hgc hwl3 hvq hoq hWW
              go_wp2_with (at_builtin; refine wpList_append_rd _ rfl _ _ _ rfl eInt (base := U.heap.size) (v := .slice QA wl3 qc) (xs := (waitK es2 q).map eN) rfl (hoqH.out.below ((Below.refl _ wx).alloc (Nat.le_refl _) _)) rfl (Rd.one' (eN i) rfl) (by simp [eN]) (by simp [eN, Value.oneCell']) (by rw [List.length_map, hwl3H.out]; simp [maxLen]; omega) (by rw [List.length_map, hwl3H.out]; omega) (by simp; omega) ?_; intro A5 n5 c5 w5 hn5 hown5 hg5 hat5; (obtain rfl : n5 = wl3 + 1 := (by rw [hn5, List.length_map, hwl3H.out])); clear hn5; (have hgr : Gk (fun b => (Value.slice QA wl3 qc).ownBlock = some b) wx w5 := ((Gk.refl _ wx).alloc _).grown hg5 (fun k e => .inl e)); (have hv5 := hgr.blk hWWH2.out.hv (fun e => by have := (hoqH.out.block _ e).1; omega)); (have hl5 := blk_lt hv5); (have hf5 := blk_frozen hv5 q); (have q5 := blk_cell hv5 q); rw [List.getElem?_toArray, hvqH.out] at q5)
              have hWW2 := hWWH2.out.app hltv hvqH.out hg5 hown5 hat5
              rw [← waitK_upd] at hWW2
              have hz5 := hgr.size
              have hbN : Below w1.heap.size w1 (w5.setCell ⟨w1.heap.size, q, none⟩ (.slice A5 (wl3 + 1) c5)) := (hbx.trans (hgr.below (by omega) (fun b hb => by have := (hoqH.out.block b hb).1; omega))).setCell (Nat.le_refl _) _
              rw [← hx2H.out]
              go_roundg (r.l + 1 - (k + 1))
              case measure => omega
              case rel => exact ⟨k + 1, _, wl2, _, by omega, rfl, by go_num, hWW2, hEs2.out, hWh2.out, hlsH2.out, hbN⟩
        · obtain rfl : k = r.l := by omega
          have hnlt2 : ¬ (r.l : Int) < (r.l : Int) := by omega
          have hxl' : (rs.map Rw.xs).length = m := hxlH.out
          have hrow : ((rs.map Rw.xs).getD i []).length = r.l := by rw [hxsH.out]; exact hrlH.out
          have hEs2 := Lib.hid (hEs.row hrow hmr)
          have hWh2 := Lib.hid (hWh.row (by rw [hxl']; exact hlt) hrow)
          replace hxl' := Lib.hid hxl'
          have hlo := Lib.hid hWW.lo
          have hll2 : ls.length ≤ 1024 := by omega
          clear hrow hEs hWh hls hWW
          cases hwi : whF wl2 i with
          | true =>
            rw [hwi] at hgc
            have hls2 : Hid (∀ x, x ∈ ls ↔ x < i + 1 ∧ whF wl2 x = false) := Lib.hid (fun x => by
              rw [hlsH2.out x]
              constructor
              · rintro ⟨h1, h2⟩; exact ⟨by omega, h2⟩
              · rintro ⟨h1, h2⟩
                refine ⟨?_, h2⟩
                have : x ≠ i := fun e => by rw [e, hwi] at h2; cases h2
                omega)
            clear hwi
            go_wp2_with fail
            go_roundg (m + 1 - (i + 1))
            case measure => omega
            case rel => exact ⟨i + 1, es2, wl2, ls, LA, lc, vs2, by omega, rfl, by go_num, rfl, hWWH2.out, hEs2.out, hWh2.out, hls2.out, by omega, hbx⟩
          | false =>
            rw [hwi] at hgc
            have hls2 : Hid (∀ x, x ∈ ls ++ [i] ↔ x < i + 1 ∧ whF wl2 x = false) := Lib.hid (fun x => by
              rw [List.mem_append, hlsH2.out x, List.mem_singleton]
              constructor
              · rintro (⟨h1, h2⟩ | rfl)
                · exact ⟨by omega, h2⟩
                · exact ⟨by omega, hwi⟩
              · rintro ⟨h1, h2⟩
                by_cases e : x = i
                · exact .inr e
                · exact .inl ⟨by omega, h2⟩)
            clear hwi
            go_wp2_with (at_builtin; refine wpList_append_rd _ rfl _ _ _ rfl eInt (base := U.heap.size) (v := .slice LA ls.length lc) (xs := ls.map eN) rfl (hlo.out.below ((Below.refl _ wx).alloc (Nat.le_refl _) _)) rfl (Rd.one' (eN i) rfl) (by simp [eN]) (by simp [eN, Value.oneCell']) (by rw [List.length_map]; simp [maxLen]; omega) (by rw [List.length_map]; omega) (by simp; omega) ?_; intro A5 n5 c5 w5 hn5 hown5 hg5 hat5; (obtain rfl : n5 = ls.length + 1 := (by rw [hn5, List.length_map])); clear hn5)
            have hWW2 := hWWH2.out.push hltv hg5 hown5 hat5
            have hbN : Below w1.heap.size w1 w5 := (hbx.alloc (by omega) _).grown hg5 (by simp; omega) (fun b hb => by have := (hlo.out.block b hb).1; omega)
            go_roundg (m + 1 - (i + 1))
            case measure => omega
            case rel => exact ⟨i + 1, es2, wl2, ls ++ [i], A5, c5, vs2, by omega, rfl, by go_num, by rw [List.length_append]; rfl, hWW2, hEs2.out, hWh2.out, hls2.out, by rw [List.length_append, List.length_singleton]; omega, hbN⟩
    · obtain rfl : i = m := by omega
      have hnlt : ¬ (i : Int) < (i : Int) := by omega
      have hxl' : (rs.map Rw.xs).length = i := hxlH.out
      have hEd : Hid (∀ y k, y ∈ waitK es k ↔ Ed (gOf (rs.map Rw.xs)) y k) := Lib.hid (fun y k => EsP.ed (by rw [hxl']; exact hEsH.out) y k)
      have hL0 : Hid (Ls (rs.map Rw.xs) th (whF wl) ls 0 []) := Lib.hid (Ls.start 0 (by
        intro x hx
        have := hWhH.out
        rw [← hxl'] at this
        exact this.end_ x hx) (fun x => by rw [hlsH.out x, hxl']))
      have hesl : es.length ≤ 2000000000 := by have := hEsH.out.1; omega
      have hun0 := unB_le i (fun x => !whF wl x)
      replace hxl' := Lib.hid hxl'
      clear hEsH hWhH hlsH
      go_wp2_with fail
      go_loopg [9] (unB i (fun x => !whF wl x) + ls.length + 1) (fun gg lv wr => ∃ (wl2 : List Bool) (ls2 : List Nat) (LA2 : Option Addr) (lc2 k : Nat), gg = unB i (fun x => !whF wl2 x) + ls2.length + 1 ∧ lv = .slice LA2 ls2.length lc2 ∧
        WW w1.heap.size U.heap.size i (waitK es) wl2 ls2 WA LA2 wc lc2 vs wr ∧ Ls (rs.map Rw.xs) th (whF wl2) ls2 k [] ∧ unB i (fun x => !whF wl2 x) + ls2.length ≤ i + i ∧ Below w1.heap.size w1 wr)
      case atStart => exact ⟨wl, ls, LA, lc, 0, rfl, rfl, hWWH.out, hL0.out, by omega, hbr⟩
      case round =>
        obtain ⟨wl2, ls2, LA2, lc2, k, rfl, rfl, hWW, hL, hun, hbx⟩ := hrel
        obtain ⟨wx, hwx⟩ : ∃ wx, wx = wr := ⟨_, rfl⟩
        obtain rfl := hwx
        have hzx := hbx.size
        have hWWH2 := Lib.hid hWW
        have hLH := Lib.hid hL
        clear hL0 hWWH hbr
        rcases List.eq_nil_or_concat ls2 with rfl | ⟨ls', q, rfl⟩
        · have hz : ¬ (0 : Int) < ((0 : Nat) : Int) := by omega
          have hT : Hid (Whl (rs.map Rw.xs) th wl2) := Lib.hid (hLH.out.whl (by rw [hWW.len]; exact hxl'.out.symm))
          have hlen := hWW.len
          have hrd := Lib.hid (show Rd wx wx.heap.size 1 WA wl2.length (wl2.map eB) by rw [hlen]; exact hWW.wh.rd.1)
          have hbf := hb1H.out.trans (hbx.mono hz1)
          clear hWW hL
          go_wp2
          go_ret2
          exact ⟨WA, wc, wl2, by rw [hlen]; rfl, hrd.out, fun _ => hT.out, fun h => absurd rfl h, hbf⟩
        · rw [List.concat_eq_append] at *
          have hlen : (ls' ++ [q]).length = ls'.length + 1 := by simp
          obtain ⟨hqx, hq0⟩ := hL.w3 q (by simp)
          have hqm : q < i := by rw [← hxl'.out]; exact hqx
          have hlo := hWW.lo
          rw [hlen] at hlo hun
          obtain ⟨gp, hPA, hgpb, hgpl, hgpf, hgpc⟩ := hlo.addr (by omega)
          subst hPA
          have hpcl := hgpc ls'.length (eN q) (by rw [List.map_append, List.getElem?_append_right (by simp), List.length_map, Nat.sub_self]; rfl) 0 _ rfl
          rw [Nat.mul_one, Nat.add_zero] at hpcl
          have hwl : IntKind.i64.wrap (((ls'.length + 1 : Nat) : Int) - 1) = (ls'.length : Int) := by rw [IntWalk.i64_in _ (by omega)]; omega
          have htc : ls'.length ≤ lc2 := by have := hlo.rd.2.2.1; omega
          have hWP := Lib.hid hWW.pop
          have hLP := Lib.hid (hL.pop (ax := waitK es q) (fun y hy => (hEd.out y q).2 hy))
          obtain ⟨g, hWA, _⟩ := hWW.cell hqm
          subst hWA
          obtain ⟨QA, qc, hvq, cvq, hoq⟩ := hWW.at_ hqm
          obtain ⟨ax, hax⟩ : ∃ ax, waitK es q = ax := ⟨_, rfl⟩
          have haxl : ax.length ≤ 2000000000 := by rw [← hax]; exact Nat.le_trans (waitK_len _ _) hesl
          have hEq : Hid (∀ y, y ∈ ax ↔ Ed (gOf (rs.map Rw.xs)) y q) := Lib.hid (fun y => by rw [← hax]; exact hEd.out y q)
          rw [hax] at hvq cvq hoq hLP
          have haxH := Lib.hid hax
          have hvqH := Lib.hid hvq
          have hlvx := blk_lt hWW.hv
          have hq0H := Lib.hid hq0
          have hqxH := Lib.hid hqx
          have hpos : (0 : Int) < ((ls'.length + 1 : Nat) : Int) := by omega
          have hqmi : (q : Int) < (i : Int) := by omega
          clear hWW hL hlo hgpc hax hvq hoq hWWH2 hLH hq0 hqx
          rw [hlen]
          go_wp2_with fail
          go_loopg [9, 93] (ax.length + 1) (fun gg lv jv wy => ∃ (j : Nat) (wl3 : List Bool) (ls3 : List Nat) (LA3 : Option Addr) (lc3 : Nat), j ≤ ax.length ∧ gg = ax.length + 1 - j ∧ jv = .int .i64 (j : Int) ∧ lv = .slice LA3 ls3.length lc3 ∧
            WW w1.heap.size U.heap.size i (waitK es) wl3 ls3 (some ⟨g, 0, none⟩) LA3 wc lc3 vs wy ∧ Ls (rs.map Rw.xs) th (whF wl3) ls3 q (ax.drop j) ∧ whF wl3 q = false ∧ unB i (fun x => !whF wl3 x) + ls3.length = unB i (fun x => !whF wl2 x) + ls'.length ∧ Below w1.heap.size w1 wy)
          case atStart => exact ⟨0, wl2, ls', _, _, Nat.zero_le _, rfl, rfl, rfl, hWP.out, hLP.out, hq0H.out, rfl, hbx⟩
          case round =>
            obtain ⟨j, wl3, ls3, LA3, lc3, hj, rfl, rfl, rfl, hWW, hL, hq0, hun3, hby⟩ := hrel
            obtain ⟨wy, hwy⟩ : ∃ wy, wy = wr := ⟨_, rfl⟩
            obtain rfl := hwy
            have hzy := hby.size
            have hWWH2 := Lib.hid hWW
            have hLH := Lib.hid hL
            have hq0H2 := Lib.hid hq0
            have hwll : wl3.length = i := hWW.len
            clear hWP hLP hpcl cvq hgpf
            by_cases hlt5 : j < ax.length
            · have hlt5i : (j : Int) < (ax.length : Int) := by omega
              have hjn1 : IntKind.i64.wrap ((j : Int) + 1) = ((j + 1 : Nat) : Int) := by rw [IntWalk.i64_in _ (by omega)]; omega
              obtain ⟨y, hy⟩ : ∃ y, ax[j]? = some y := ⟨_, List.getElem?_eq_getElem hlt5⟩
              have hyE := (hEq.out y).1 (List.mem_of_getElem? hy)
              have hyx : y < (rs.map Rw.xs).length := by have := (gOf_ok _ _ _ hyE).1; rw [gOf_len] at this; exact this
              have hym : y < i := by rw [← hxl'.out]; exact hyx
              have hdr : ax.drop j = y :: ax.drop (j + 1) := by
                rw [List.drop_eq_getElem_cons hlt5]
                rw [List.getElem?_eq_getElem hlt5] at hy
                injection hy with hy
                rw [hy]
              rw [hdr] at hL
              obtain ⟨QA2, qc2, hv2, _, hov2⟩ := hWW.at_ hqm
              rw [haxH.out] at hv2 hov2
              have e9 : Value.slice QA2 ax.length qc2 = Value.slice QA ax.length qc := Option.some.inj (hv2.symm.trans hvqH.out)
              rw [e9] at hov2
              obtain ⟨gq, hQA, _, hlg, _, hcq⟩ := hov2.addr (by simpa using (by omega : 0 < ax.length))
              have cq := hcq j _ (by rw [List.getElem?_map, hy]; rfl) 0 _ rfl
              rw [Nat.mul_one, Nat.add_zero] at cq
              obtain ⟨g2, hg2, hgb, hgl, hgf, hgc⟩ := hWW.cell hym
              injection hg2 with hg2
              injection hg2 with hg2
              subst hg2
              have hymi : (y : Int) < (i : Int) := by omega
              have hQAH := Lib.hid hQA
              rw [hQA]
              have hls3 : ls3.length ≤ 4096 := by have := unB_le i (fun x => !whF wl2 x); omega
              have hlo3 := Lib.hid hWW.lo
              cases hwy2 : whF wl3 y with
              | false =>
                rw [hwy2] at hgc
                have hL2 := Lib.hid (hL.skip hwy2)
                clear hWW hL hq0 hQA hcq hov2 hv2 e9 hdr hy hyE hyx hwy2
                go_wp2_with fail
                rw [← hQAH.out]
                go_roundg (ax.length + 1 - (j + 1))
                case measure => omega
                case rel => exact ⟨j + 1, wl3, ls3, LA3, lc3, by omega, rfl, by go_num, rfl, hWWH2.out, hL2.out, hq0H2.out, hun3, hby⟩
              | true =>
                rw [hwy2] at hgc
                have hL2 : Hid (Ls (rs.map Rw.xs) th (whF (wl3.set y false)) (ls3 ++ [y]) q (ax.drop (j + 1))) := Lib.hid (by
                  rw [whF_set (by omega)]
                  exact hL.push hyx hqxH.out hq0 hyE)
                have hq02 : Hid (whF (wl3.set y false) q = false) := Lib.hid (by
                  rw [whF_set (by omega)]
                  exact if_f hq0)
                have hun4 : Hid (unB i (fun x => !whF (wl3.set y false) x) + 1 = unB i (fun x => !whF wl3 x)) := Lib.hid (by
                  have h1 := unB_upd (f := fun x => !whF wl3 x) hym (by rw [hwy2]; rfl)
                  rw [← h1, whF_set (by omega)]
                  congr 2
                  funext x
                  by_cases e : x = y
                  · simp [e]
                  · simp [e])
                have hWW2 := Lib.hid (hWWH2.out.set_ hltv hym)
                obtain ⟨w3, hw3⟩ : ∃ w3, wy.setCell ⟨g, y, none⟩ (.bool false) = w3 := ⟨_, rfl⟩
                rw [hw3] at hWW2
                have hb3 : Below w1.heap.size w1 w3 := by rw [← hw3]; exact hby.setCell (show w1.heap.size ≤ g by omega) _
                have hz3 : U.heap.size ≤ w3.heap.size := by rw [← hw3]; simp; omega
                have hlo4 := Lib.hid hWW2.out.lo
                clear hWW hL hq0 hQA hcq hov2 hv2 e9 hdr hy hyE hyx hwy2 hWWH2 hlo3
                go_upto_region 30 with (fail)
                try rw [hw3]
                clear hw3 hgc hgf cq
                go_wp2_with (at_builtin; refine wpList_append_rd _ rfl _ _ _ rfl eInt (base := U.heap.size) (v := .slice LA3 ls3.length lc3) (xs := ls3.map eN) rfl (hlo4.out.below ((Below.refl _ w3).alloc (Nat.le_refl _) _)) rfl (Rd.one' (eN y) rfl) (by simp [eN]) (by simp [eN, Value.oneCell']) (by rw [List.length_map]; simp [maxLen]; omega) (by rw [List.length_map]; omega) (by simp; omega) ?_; intro A5 n5 c5 w5 hn5 hown5 hg5 hat5; (obtain rfl : n5 = ls3.length + 1 := (by rw [hn5, List.length_map])); clear hn5)
                have hWW5 := hWW2.out.push hltv hg5 hown5 hat5
                have hbN : Below w1.heap.size w1 w5 := (hb3.alloc (by omega) _).grown hg5 (by simp; omega) (fun b hb => by have := (hlo4.out.block b hb).1; omega)
                rw [← hQAH.out]
                go_roundg (ax.length + 1 - (j + 1))
                case measure => omega
                case rel => exact ⟨j + 1, _, ls3 ++ [y], A5, c5, by omega, rfl, by go_num, by rw [List.length_append]; rfl, hWW5, hL2.out, hq02.out, by rw [List.length_append, List.length_singleton]; have := hun4.out; omega, hbN⟩
            · obtain rfl : j = ax.length := by omega
              have hnlt5 : ¬ (ax.length : Int) < (ax.length : Int) := by omega
              have hL2 : Hid (Ls (rs.map Rw.xs) th (whF wl3) ls3 q []) := Lib.hid (by
                rw [List.drop_length] at hL
                exact hL)
              clear hWW hL hq0
              go_wp2_with fail
              go_roundg (unB i (fun x => !whF wl3 x) + ls3.length + 1)
              case measure => rw [hun3]; simp
              case rel => exact ⟨wl3, ls3, LA3, lc3, q, rfl, rfl, hWWH2.out, hL2.out, by omega, hby⟩
end Go.Proofs.Ytebpghpeeedgcaa
