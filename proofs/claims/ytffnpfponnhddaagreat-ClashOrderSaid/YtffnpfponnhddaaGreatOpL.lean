/- Items of maps (the program's), walked. -/
import Derived.Test.YtffnpfponnhddaaGreatM20
namespace Go.Proofs.YtffnpfponnhddaaGreat
open Go.RowKit Go.Maps

set_option maxRecDepth 100000 in
set_option maxHeartbeats 8000000 in
theorem mitems_any (A : Option Addr) (n c : Nat) (xs : List Pm) (B : Option Addr) (m d : Nat) (gs : List Tm) (w : World) (hA : RdP w w.heap.size A n xs) (hB : RdT w w.heap.size B m gs) (hn : n ≤ 100000) (hm : m ≤ 100000) (hx : ∀ a ∈ xs, a.wf) (hg : ∀ t ∈ gs, t.wf) (hl : ∀ a ∈ xs, a.2.1.length ≤ maxLen) :
    Calls Tryz.prog 25 #[.agg #[.slice A n c, .slice B m d]] w fun r w' => ∃ T t c', r = .returned (.slice T t c') ∧ Ow w' w.heap.size 99 2 (.slice T t c') ((itemsM xs gs).map Itm.enc) ∧ Below w.heap.size w w' := by
  have hb0 : Below w.heap.size w (w.alloc (.cells #[.slice A n c, .slice B m d] 62)) := (Below.refl _ w).alloc (Nat.le_refl _) _
  have hbx : (w.alloc (.cells #[.slice A n c, .slice B m d] 62)).heap[w.heap.size]? = some (.cells #[.slice A n c, .slice B m d] 62 (0, 0)) := heap_at _ _ rfl
  generalize hW : w.alloc (.cells #[.slice A n c, .slice B m d] 62) = W at hb0 hbx
  have hbxH := Lib.hid hbx
  have hltx := blk_lt hbx
  have s0 := blk_cell hbx 0
  have s1 := blk_cell hbx 1
  simp at s0 s1
  have hnl := Lib.hid hA.len
  have hck := Lib.hid (mcheck_any A n c xs B m d gs W ((hA.below hb0).more hb0.size) ((hB.below hb0).more hb0.size) (by simp [maxLen]; omega) (by simp [maxLen]; omega) hx hg hl)
  have hAr := Lib.hid (fun w' (h : Below w.heap.size w w') => hA.below h)
  generalize hr : itemsM xs gs = out
  unfold itemsM at hr
  generalize hpe : mErr xs gs = p at hck hr
  have hzW := hb0.size
  by_cases hp : p = 0
  case neg =>
    rw [if_pos hp] at hr
    subst hr
    have hpn : (p != 0) = true := by simpa using hp
    clear hpe hp hbx hA hB
    go_enter Tryz.func25, Tryz.ntmps25
    go_wp2_with fail
    refine hck.out.mono ?_
    rintro e w1 ⟨rfl, hv1⟩
    have hG := hb0.trans (hv1.mono hb0.size)
    go_wp2
    go_ret
    exact ⟨none, 0, 0, rfl, Ow.nil_ _ _ _ _, hG⟩
  subst hp
  rw [if_neg (by simp)] at hr
  have hrH := Lib.hid hr
  have hget := Lib.hid (fun f => show (getM xs gs f).1 = ((accL xs f n).getD zeroP).2.2.1 from by
    have h1 : ofM xs gs f = (xs.take n).filter fun p => decide (p.2.1 = f) := by
      unfold ofM
      rw [if_neg (by rw [hpe]; simp), List.take_of_length_le (by have := hnl.out; omega)]
    unfold getM accL
    rw [h1]
    cases maxL ((xs.take n).filter fun p => decide (p.2.1 = f)) <;> rfl)
  have hlH := Lib.hid hl
  clear hpe hr hbx hA hB hx hg hl
  have hmm := @run_makeMap Tryz.prog
  go_enter Tryz.func25, Tryz.ntmps25
  go_wp2_with fail
  refine hck.out.mono ?_
  rintro e' w1 ⟨rfl, hv1⟩
  have hG1 := hb0.trans (hv1.mono hzW)
  have hz1 := hG1.size
  have hs1 := blk_below hbxH.out hv1
  clear s0 s1 hltx hck
  have hltx := blk_lt hs1
  have s0 := blk_cell hs1 0
  have s1 := blk_cell hs1 1
  simp at s0 s1
  have hbm : Below w1.heap.size w1 (w1.alloc (.map #[] 0)) := (Below.refl _ w1).alloc (Nat.le_refl _) _
  go_upto_region 5 with (fail)
  clear s0 s1 hltx hs1
  go_loopg [18] (n + 1) (fun g i wr => ∃ (k : Nat) (D : DataW Pm), k ≤ n ∧ g = n + 1 - k ∧ i = .int .i64 (k : Int) ∧ wr.ownsMap Tryz.prog 9 rdPut w1.heap.size k D ∧ MapAt xs k D ∧ Below w1.heap.size w1 wr)
  case atStart => exact ⟨0, .map [], Nat.zero_le _, rfl, rfl, World.ownsMap_made _ _ _ _, mapAt_zero xs, hbm⟩
  case round =>
    obtain ⟨k, D, hk, rfl, rfl, hown, hat, hbr⟩ := hrel
    have hz := hbr.size
    have hGw := hG1.trans (hbr.mono hz1)
    have hlm := hown.lt
    by_cases hlt : k < n
    · obtain ⟨bA, oA, u, rfl, hbA, hqu, hcp⟩ := (hAr.out wr hGw).at_ hlt
      have p0 := hcp 0 _ rfl
      have p1 := hcp 1 _ rfl
      have p2 := hcp 2 _ rfl
      have p3 := hcp 3 _ rfl
      have p4 := hcp 4 _ rfl
      have p5 := hcp 5 _ rfl
      have p6 := hcp 6 _ rfl
      rw [Nat.add_zero] at p0
      have hlti : (k : Int) < (n : Int) := by omega
      have hbA2 : bA < w.heap.size := hbA
      have hbA3 : bA < wr.heap.size := by omega
      have hum : u ∈ xs := List.mem_of_getElem? hqu
      have hul := Lib.hid (hlH.out u hum)
      have hkey := Lib.hid (strKey hul.out)
      have hquH := Lib.hid hqu
      have hatH := Lib.hid hat
      have hin := Lib.hid (accL_in hqu rfl)
      clear hcp hum hqu hat
      go_upto_region 8 with (at_lookup; refine wpList_look_put _ rfl _ _ 135 rfl 9 127 strLaw Tryz.underlying135 (zeroPut _) w1.heap.size k D rfl (hown.alloc _) _ _ rfl hkey.out ?_; intro q hq)
      obtain ⟨v0, hv0⟩ : ∃ v0, ((wr.alloc (.cells #[.int .i64 u.1.1.1, .int .u32 u.1.1.2, .int .i64 u.1.2, .string (bs u.2.1), .int .i64 u.2.2.1, .int .u32 u.2.2.2.1, .int .i64 u.2.2.2.2] 127)).alloc (.cells #[.int .i64 q.1.1.1, .int .u32 q.1.1.2, .int .i64 q.1.2, .string (bs q.2.1), .int .i64 q.2.2.1, .int .u32 q.2.2.2.1, .int .i64 q.2.2.2.2] 127)) = v0 := ⟨_, rfl⟩
      have hbp : v0.heap[wr.heap.size]? = some (.cells #[.int .i64 u.1.1.1, .int .u32 u.1.1.2, .int .i64 u.1.2, .string (bs u.2.1), .int .i64 u.2.2.1, .int .u32 u.2.2.2.1, .int .i64 u.2.2.2.2] 127 (0, 0)) := by rw [← hv0]; exact heap_old _ (by simp) (heap_at _ _ rfl)
      have hbq : v0.heap[wr.heap.size + 1]? = some (.cells #[.int .i64 q.1.1.1, .int .u32 q.1.1.2, .int .i64 q.1.2, .string (bs q.2.1), .int .i64 q.2.2.1, .int .u32 q.2.2.2.1, .int .i64 q.2.2.2.2] 127 (0, 0)) := by rw [← hv0]; exact heap_at _ _ (by simp)
      have hb2 : Below wr.heap.size wr v0 := by rw [← hv0]; exact ((Below.refl _ wr).alloc (Nat.le_refl _) _).alloc (by simp) _
      rw [hv0, (hatH.out u.2.1).1]
      have hq2 : q = (accL xs u.2.1 k).getD zeroP := by
        have := (hatH.out u.2.1).2
        rw [hq] at this
        injection this
      have hz2 := hb2.size
      have hownV0 := hown.kept (gr_below hb2 none) (by simp)
      have hbr2 : Below w1.heap.size w1 v0 := hbr.trans (hb2.mono hz)
      have hltp := blk_lt hbp
      have a0 := blk_cell hbp 0
      have a1 := blk_cell hbp 1
      have a2 := blk_cell hbp 2
      have a3 := blk_cell hbp 3
      have a4 := blk_cell hbp 4
      have a5 := blk_cell hbp 5
      have a6 := blk_cell hbp 6
      simp at a0 a1 a2 a3 a4 a5 a6
      have hltq := blk_lt hbq
      have b0 := blk_cell hbq 0
      have b1 := blk_cell hbq 1
      have b2 := blk_cell hbq 2
      have b3 := blk_cell hbq 3
      have b4 := blk_cell hbq 4
      have b5 := blk_cell hbq 5
      have b6 := blk_cell hbq 6
      simp at b0 b1 b2 b3 b4 b5 b6
      have hbpH := Lib.hid hbp
      clear hv0 hq p0 p1 p2 p3 p4 p5 p6 hbp hbq hbA3
      generalize hacc : accL xs u.2.1 k = o at hq2 hin
      cases o with
      | none =>
        have hput := Lib.hid (fun hD => mapAt_put hatH.out hD hquH.out hin.out)
        have hownV := hownV0
        clear hq2 hacc hin
        go_wp2_with (at_mapUpdate; refine wpList_mapUpdate_own _ rfl _ _ _ 135 rfl 9 127 strLaw Tryz.underlying135 rdPut w1.heap.size k D rfl hownV (by unfold maxLen; omega) _ _ (.string u.2.1) rfl rfl hkey.out (.held u) [] (rdPut_mk u) ?_; intro v2 hown2 hgr2)
        have hmp := hput.out hownV0.isMap
        have hfin : Below w1.heap.size w1 v2 := hbr2.grown hgr2 hbr2.size (fun q e => by injection e with e; omega)
        go_roundg (n + 1 - (k + 1))
        case measure => omega
        case rel => exact ⟨k + 1, _, by omega, rfl, by go_num, hown2, hmp, hfin⟩
      | some m0 =>
        obtain rfl : q = m0 := hq2
        have cl := Lib.hid (later_any q u)
        have hsw := Lib.hid (cmpL_swap u q)
        have hst : Hid (accL xs u.2.1 (k + 1) = some (if 0 < cmpL u q then u else q)) := Lib.hid hin.out
        have haccH := Lib.hid hacc
        clear hin hacc
        generalize cmpL q u = z at cl hsw
        go_wp2_with fail
        refine (cl.out _).mono ?_
        rintro e v1 ⟨rfl, hv1⟩
        have hownV := hownV0.kept (gr_below hv1 none) (by simp)
        have hbr3 : Below w1.heap.size w1 v1 := hbr2.trans (hv1.mono hbr2.size)
        have hbp1 := blk_below hbpH.out hv1
        clear a0 a1 a2 a3 a4 a5 a6 hltp b0 b1 b2 b3 b4 b5 b6 hltq
        have hltp := blk_lt hbp1
        have a0 := blk_cell hbp1 0
        have a1 := blk_cell hbp1 1
        have a2 := blk_cell hbp1 2
        have a3 := blk_cell hbp1 3
        have a4 := blk_cell hbp1 4
        have a5 := blk_cell hbp1 5
        have a6 := blk_cell hbp1 6
        simp at a0 a1 a2 a3 a4 a5 a6
        clear hbp1
        by_cases hz0 : z < 0
        · have hzd : decide (z < 0) = true := decide_eq_true hz0
          have hpos : 0 < cmpL u q := by have := hsw.out; omega
          have hput := Lib.hid (fun hD => mapAt_put hatH.out hD hquH.out (by rw [hst.out, if_pos hpos]))
          clear hpos
          go_wp2_with (at_mapUpdate; refine wpList_mapUpdate_own _ rfl _ _ _ 135 rfl 9 127 strLaw Tryz.underlying135 rdPut w1.heap.size k D rfl hownV (by unfold maxLen; omega) _ _ (.string u.2.1) rfl rfl hkey.out (.held u) [] (rdPut_mk u) ?_; intro v2 hown2 hgr2)
          have hmp := hput.out hownV0.isMap
          have hfin : Below w1.heap.size w1 v2 := hbr3.grown hgr2 hbr3.size (fun q e => by injection e with e; omega)
          go_roundg (n + 1 - (k + 1))
          case measure => omega
          case rel => exact ⟨k + 1, _, by omega, rfl, by go_num, hown2, hmp, hfin⟩
        · have hzd : decide (z < 0) = false := decide_eq_false hz0
          have hnp : ¬ 0 < cmpL u q := by have := hsw.out; omega
          have hmp := Lib.hid (mapAt_stay hatH.out hquH.out (by rw [hst.out, if_neg hnp, haccH.out]))
          clear hnp
          go_wp2
          go_roundg (n + 1 - (k + 1))
          case measure => omega
          case rel => exact ⟨k + 1, D, by omega, rfl, by go_num, hownV.mono (Nat.le_succ _), hmp.out, hbr3⟩
    · obtain rfl : k = n := by omega
      have hnli : ¬ (k : Int) < (k : Int) := by omega
      obtain ⟨wA, hwA⟩ : ∃ wA, wA = wr := ⟨_, rfl⟩
      subst hwA
      have hatH := Lib.hid hat
      clear hat
      have hgetk := hget
      have hzA := hbr.size
      have hszD := hown.size_le
      go_wp2_with (at_range; refine wpList_range_own _ rfl _ 135 rfl 9 127 strLaw Tryz.underlying135 rdPut w1.heap.size k D rfl hown ?_; intro w2 hrg2 hg2 hs2)
      (try go_frame)
      have hb2' : Below w1.heap.size w1 w2 := hbr.grown hg2 hbr.size (fun q e => by cases e)
      go_loopg [8] (Maps.size D + 1) (fun g l wr => ∃ (left : Lit → Bool) (cnt t : Nat) (T : Option Addr) (c' : Nat) (L : List Itm), g = cnt + 1 ∧ l = .slice T t c' ∧ t + cnt ≤ k ∧ wr.ranges Tryz.prog 9 rdPut w1.heap.size wA.heap.size k D left cnt ∧ Ow wr (wA.heap.size + 1) 99 2 (.slice T t c') (L.map Itm.enc) ∧ (L.map Prod.fst).Nodup ∧ (∀ f, f ∈ L.map Prod.fst ↔ Maps.has D (.string f) = true ∧ left (.string f) = false) ∧ (∀ i ∈ L, i.2 = ((accL xs i.1 k).getD zeroP).2.2.1) ∧ (∀ kl, left kl = true → Maps.has D kl = true) ∧ Below w1.heap.size w1 wr ∧ wA.heap.size + 1 ≤ wr.heap.size)
      case atStart => exact ⟨Maps.has D, Maps.size D, 0, none, 0, [], rfl, rfl, by omega, hrg2, Ow.nil_ _ _ _ _, List.nodup_nil, fun f => ⟨by simp, fun h => by rw [h.1] at h; cases h.2⟩, by simp, fun _ h => h, hb2', by omega⟩
      case round =>
        obtain ⟨left, cnt, t, T, c', L, rfl, rfl, htc, hrg, hownL, hnd, hmem, hval, hleft, hbq, hzq⟩ := hrel
        have hz3 := hbq.size
        have hG3 := hG1.trans (hbq.mono hz1)
        have hownLH := Lib.hid hownL
        have hndH := Lib.hid hnd
        have hmemH := Lib.hid hmem
        have hvalH := Lib.hid hval
        have hleftH := Lib.hid hleft
        have hblk := Lib.hid hownL.block
        have hLl : Hid ((L.map Itm.enc).length = t) := Lib.hid hownL.rd.2.1
        clear hownL hnd hmem hval hleft
        go_wp2_with (at_next; refine wpList_next_ranges _ rfl _ rfl 9 strLaw rdPut (fun f : List UInt8 => .string (bs f)) (fun b : PBox => .agg #[.int .i64 b.p.1.1.1, .int .u32 b.p.1.1.2, .int .i64 b.p.1.2, .string (bs b.p.2.1), .int .i64 b.p.2.2.1, .int .u32 b.p.2.2.2.1, .int .i64 b.p.2.2.2.2]) (fun key kl h => by obtain ⟨f, rfl, _⟩ := strKey_inv h; exact ⟨f, rfl⟩) (fun v y h => by obtain ⟨p, rfl, _⟩ := rdPut_inv h; exact ⟨⟨p⟩, rfl⟩) w1.heap.size wA.heap.size k _ _ _ rfl hrg ?_ ?_)
        · intro hc0 hl0
          have hl0H := Lib.hid hl0
          clear hl0
          go_wp2_with fail
          refine (sortIt_any (wA.heap.size + 1) T t c' L wr hownLH.out (by omega)).mono ?_
          rintro r w5 ⟨rfl, ys, hso, hpm, o5, hg5⟩
          have hys : ys = out := by
            rw [← hrH.out]
            refine items_sorted hpm hso hndH.out (fun f => ?_) (fieldsM_asc xs _) (fun i hi => Prod.ext rfl ?_)
            · rw [hmemH.out, fieldsM_mem, (hatH.out f).1, accL_some, hl0H.out]
              simp only [and_true]
              rw [hnl.out]
            · rw [hvalH.out i hi, ← hget.out]; rfl
          rw [hys] at o5
          have hfin := hG3.grown hg5 hG3.size (fun q e => by have := (hblk.out q e).1; omega)
          have o5H := Lib.hid (o5.base (base' := w.heap.size) (by omega))
          clear o5 hso hpm hg5
          go_wp2
          go_ret
          exact ⟨T, t, c', rfl, o5H.out, hfin⟩
        · intro x pb kl y ys0 w3 cnt1 hkx hlx hv hatk hrg1 hlt hg3 hs3 hen
          obtain ⟨p⟩ := pb
          dsimp only at hen hkx hv ⊢
          have hz33 : wA.heap.size + 1 ≤ w3.heap.size := by omega
          clear hs3
          obtain ⟨x', hx', rfl⟩ := strKey_inv hkx
          injection hx' with hx'
          obtain rfl := bs_inj.1 hx'
          have hy : y = .held p := by
            have := (rdPut_mk p).symm.trans hv
            injection this with this
            injection this with this
            exact this.symm
          have hp2 : p = (accL xs x k).getD zeroP := by
            have h1 := hatk (.held zeroP)
            rw [hy, (hatH.out x).2] at h1
            injection h1 with h1
            exact h1.symm
          have hownL3 := hownLH.out.kept_row (r := wA.heap.size) (by omega) hg3
          have hbO : Below w3.heap.size w3 ((w3.alloc (.cells #[.int .i64 p.1.1.1, .int .u32 p.1.1.2, .int .i64 p.1.2, .string (bs p.2.1), .int .i64 p.2.2.1, .int .u32 p.2.2.2.1, .int .i64 p.2.2.2.2] 127)).alloc (.cells #[.string (bs x), .int .i64 p.2.2.1] 99)) := ((Below.refl _ w3).alloc (Nat.le_refl _) _).alloc (by simp) _
          have hrgO := (hrg1.alloc (.cells #[.int .i64 p.1.1.1, .int .u32 p.1.1.2, .int .i64 p.1.2, .string (bs p.2.1), .int .i64 p.2.2.1, .int .u32 p.2.2.2.1, .int .i64 p.2.2.2.2] 127)).alloc (.cells #[.string (bs x), .int .i64 p.2.2.1] 99)
          have hb3 : Below w1.heap.size w1 w3 := hbq.grown hg3 hbq.size (fun q e => by injection e with e; omega)
          have hlen1 : ∀ z ∈ ([[.string (bs x), .int .i64 p.2.2.1]] : List (List Value)), z.length = 2 := by simp
          have hone1 : ∀ z ∈ ([[.string (bs x), .int .i64 p.2.2.1]] : List (List Value)), ∀ v ∈ z, v.oneCell' = true := by simp [Value.oneCell']
          have hxleft := Lib.hid hlx
          have hp2H := Lib.hid hp2
          have hrgOH := Lib.hid hrgO
          have hltH := Lib.hid hlt
          clear hkx hv hatk hy hx' hp2 hlx hrg1 hrgO hlt
          go_wp2_with (at_builtin; refine wpList_append_rd _ rfl _ _ _ rfl eItm (base := wA.heap.size + 1) (v := .slice T t c') (xs := L.map Itm.enc) rfl (hownL3.below hbO) rfl (Rd.one' [.string (bs x), .int .i64 p.2.2.1] (by simp)) hlen1 hone1 (by rw [hLl.out]; unfold maxLen; omega) (by rw [hLl.out]; omega) (by simp; omega) ?_; intro A2 n2 c2 w4 hn2 hown4 hg4 hat4; (obtain rfl : n2 = t + 1 := (by rw [hn2, hLl.out])); clear hn2)
          have hrg4 := hrgOH.out.kept hg4 (fun e => by have := (hblk.out _ e.symm).1; omega) (fun e => by have := (hblk.out _ e.symm).1; omega)
          have hb4 : Below w1.heap.size w1 w4 := (hb3.trans (hbO.mono hb3.size)).grown hg4 (by simp; omega) (fun q e => by have := (hblk.out q e).1; omega)
          have hz4 := hg4.size
          simp at hz4
          have hltt := hltH.out
          go_roundg (cnt1 + 1)
          case measure => omega
          case rel =>
            refine ⟨_, cnt1, t + 1, A2, c2, L ++ [(x, p.2.2.1)], rfl, rfl, by omega, hrg4, ?_, ?_, ?_, ?_, ?_, hb4, by omega⟩
            · rw [List.map_append]; exact hown4
            · rw [List.map_append]
              refine List.nodup_append.2 ⟨hndH.out, List.nodup_cons.2 ⟨by simp, List.nodup_nil⟩, fun a ha b hb2 => ?_⟩
              simp only [List.map_cons, List.map_nil, List.mem_singleton] at hb2
              subst hb2
              rintro rfl
              have := ((hmemH.out a).1 ha).2
              rw [hxleft.out] at this
              cases this
            · intro f
              rw [List.map_append, List.mem_append, hmemH.out f]
              simp only [List.map_cons, List.map_nil, List.mem_singleton]
              by_cases hf : f = x
              · subst hf
                have h1 := hleftH.out _ hxleft.out
                have h2 : (Lit.string f).sameKey (.string f) = true := WideAt.sameKey_self trivial
                simp [h1, h2]
              · have h2 : (Lit.string f).sameKey (.string x) = false := sameKey_ne (fun e => hf (by injection e with e))
                simp [hf, h2]
            · intro i hi
              rcases List.mem_append.1 hi with h | h
              · exact hvalH.out i h
              · rw [List.mem_singleton] at h
                subst h
                show p.2.2.1 = _
                rw [hp2H.out]
            · intro kl h
              exact hleftH.out kl (by simp only [Bool.and_eq_true] at h; exact h.1)
end Go.Proofs.YtffnpfponnhddaaGreat
