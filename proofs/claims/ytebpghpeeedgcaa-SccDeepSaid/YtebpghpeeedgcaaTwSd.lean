/- The statement SccDeep walked. -/
import Derived.Test.YtebpghpeeedgcaaNp
namespace Go.Proofs.Ytebpghpeeedgcaa
open Go.RowKit

theorem row_atD {ps : List Rw} {o : List (List Nat)} (h : ps.map Rw.xs = o.map fun l => l.map Int.ofNat) {i : Nat} {r : Rw} (hr : ps[i]? = some r) : ∃ p, o[i]? = some p ∧ r.xs = p.map Int.ofNat := by
  have h1 : (ps.map Rw.xs)[i]? = some r.xs := by rw [List.getElem?_map, hr]; rfl
  rw [h, List.getElem?_map] at h1
  obtain ⟨p, h2, h3⟩ := Option.map_eq_some_iff.1 h1
  exact ⟨p, h2, h3.symm⟩
theorem Ow.madeI {w : World} {base g : Nat} {x : Int} (h : w.heap[g]? = some (.cells #[.int .i64 x] 3 (0, 0))) (hb : base ≤ g) : Ow w base 3 1 (.slice (some ⟨g, 0, none⟩) 1 1) ([x].map eI) :=
  ⟨by simp [eI], ⟨by simp [eI], .inr ⟨g, 1, _, rfl, hb, h, Nat.le_refl _, by decide, by simp, by simp [eI]⟩⟩⟩
theorem range_snoc (n : Nat) (rd : Bool) (i : Nat) : (List.range (i + 1)).map (rowD n rd) = (List.range i).map (rowD n rd) ++ [rowD n rd i] := by rw [List.range_succ, List.map_append]; rfl
/-- The lists, as far as they are made. -/
structure DpW (w : World) (base n : Nat) (rd : Bool) (i : Nat) (BA : Option Addr) (bc : Nat) (rs : List Rw) : Prop where
  out : Ow w base 31 1 (.slice BA i bc) (rs.map Rw.enc)
  rows : ∀ r ∈ rs, Ow w base 3 1 (.slice r.A r.l r.c) (r.xs.map eI)
  xs : rs.map Rw.xs = (List.range i).map (rowD n rd)
theorem DpW.next {w W w5 : World} {base n i bc c5 : Nat} {rd : Bool} {BA A5 : Option Addr} {rs : List Rw} {r : Rw} {o : Obj} (h : DpW w base n rd i BA bc rs) (hb : Below w.heap.size w W) (hr : Ow W base 3 1 (.slice r.A r.l r.c) (r.xs.map eI)) (hx : r.xs = rowD n rd i)
    (hg : (W.alloc o).grownBy w5 (Value.slice BA i bc).ownBlock) (ho : Ow w5 base 31 1 (.slice A5 (i + 1) c5) (rs.map Rw.enc ++ [r.enc])) : DpW w5 base n rd (i + 1) A5 c5 (rs ++ [r]) := by
  have hgr : Gk (fun b => (Value.slice BA i bc).ownBlock = some b) W w5 := ((Gk.refl _ W).alloc _).grown hg (fun k e => .inl e)
  have h2 := h.out.below hb
  refine ⟨by rw [List.map_append]; exact ho, fun r' hr' => ?_, by rw [List.map_append, h.xs, range_snoc]; simp [hx]⟩
  rcases List.mem_append.1 hr' with h1 | h1
  · have h3 := (h.rows r' h1).below hb
    exact hgr.ow h3 fun b hb1 e => h3.ne_own h2 (by decide) hb1 e
  · obtain rfl := List.mem_singleton.1 h1
    exact hgr.ow hr fun b hb1 e => hr.ne_own h2 (by decide) hb1 e
theorem DpW.grid {w : World} {base n i bc : Nat} {rd : Bool} {BA : Option Addr} {rs : List Rw} (h : DpW w base n rd i BA bc rs) : RdG w w.heap.size BA i rs := ⟨h.out.rd.1, fun r hr => (h.rows r hr).rd.1⟩
set_option maxRecDepth 100000 in
set_option maxHeartbeats 8000000 in
theorem sccdeep_any (n0 : Int) (rd : Bool) (w : World) :
    Calls Try.prog 5 #[.int .i64 n0, .bool rd] w fun e w' => e = .returned (.bool true) ∧ Below w.heap.size w w' := by
  have cV := Lib.hid (worksS_any w)
  obtain ⟨z, hz⟩ : ∃ z, IntKind.u64.wrap n0 = z := ⟨_, rfl⟩
  have hz0 : 0 ≤ z := by
    rw [← hz]
    unfold IntKind.wrap
    exact Int.emod_nonneg _ (by decide)
  obtain ⟨t, ht⟩ : ∃ t : Nat, z.tmod 1024 = (t : Int) := ⟨(z % 1024).toNat, by rw [Int.tmod_eq_emod_of_nonneg hz0]; omega⟩
  have ht1 : t < 1024 := by rw [Int.tmod_eq_emod_of_nonneg hz0] at ht; omega
  obtain ⟨n, hn⟩ : ∃ n, t + 1 = n := ⟨_, rfl⟩
  have hn1 : 0 < n := by omega
  have hn2 : n ≤ 1024 := by omega
  have hw1 : wrap64 (t : Int) = (t : Int) := IntWalk.wrap64_in _ ⟨by omega, by omega⟩
  have hw2 : wrap64 (1 + (t : Int)) = (n : Int) := by rw [IntWalk.wrap64_in _ ⟨by omega, by omega⟩]; omega
  clear hz0 ht1 hn
  go_enter Try.func5, Try.ntmps5
  go_wp2_with fail
  refine cV.out.mono ?_
  rintro e w1 ⟨rfl, hb1⟩
  have hz1 := hb1.size
  clear cV
  go_wp2_with fail
  rw [hw2]
  go_loopg [5, 6] (n + 1) (fun gg bv iv wr => ∃ (i : Nat) (BA : Option Addr) (bc : Nat) (rs : List Rw), i ≤ n ∧ gg = n + 1 - i ∧ iv = .int .i64 (i : Int) ∧ bv = .slice BA i bc ∧ DpW wr w1.heap.size n rd i BA bc rs ∧ Below w1.heap.size w1 wr)
  case atStart => exact ⟨0, none, 0, [], Nat.zero_le _, rfl, rfl, rfl, ⟨Ow.nil_ _ _ _ _, by simp, rfl⟩, Below.refl _ _⟩
  case round =>
    obtain ⟨i, BA, bc, rs, hi, rfl, rfl, rfl, hD, hbr⟩ := hrel
    obtain ⟨wv, hwv⟩ : ∃ wv, wv = wr := ⟨_, rfl⟩
    obtain rfl := hwv
    have hzr := hbr.size
    have hDH := Lib.hid hD
    have hrl : Hid (rs.length = i) := Lib.hid (by have := hD.out.rd.2.1; simpa using this)
    clear hD hw1 hw2 ht hz
    by_cases hlt : i < n
    · have hlti : (i : Int) < (n : Int) := by omega
      have hin1 : IntKind.i64.wrap ((i : Int) + 1) = ((i + 1 : Nat) : Int) := by rw [IntWalk.i64_in _ (by omega)]; omega
      have hin2 : wrap64 ((i : Int) + 1) = ((i + 1 : Nat) : Int) := by rw [IntWalk.wrap64_in _ ⟨by omega, by omega⟩]; omega
      by_cases hlt2 : i + 1 < n
      · have hlt2i : ((i + 1 : Nat) : Int) < (n : Int) := by omega
        have hlt2j : (i : Int) + 1 < (n : Int) := by omega
        have hrow : Hid (rowD n rd i = [((i + 1 : Nat) : Int)]) := Lib.hid (by unfold rowD; rw [if_pos hlt2])
        obtain ⟨Wr, hWr⟩ : ∃ Wr, wv.alloc (.cells #[.int .i64 ((i : Int) + 1)] 3) = Wr := ⟨_, rfl⟩
        have hbW : Below wv.heap.size wv Wr := by rw [← hWr]; exact (Below.refl _ wv).alloc (Nat.le_refl _) _
        have hoW : Wr.heap[wv.heap.size]? = some (.cells #[.int .i64 ((i : Int) + 1)] 3 (0, 0)) := by rw [← hWr]; exact heap_at _ _ rfl
        have hzW := hbW.size
        have hRow := Lib.hid (Ow.madeI hoW hzr)
        have hbWH := Lib.hid hbW
        clear hoW hbW
        go_wp2_with (at_builtin; refine wpList_append_rd _ rfl _ _ _ rfl eInts (base := w1.heap.size) (v := .slice BA i bc) (xs := rs.map Rw.enc) rfl ((hDH.out.out.below hbWH.out).below ((Below.refl _ Wr).alloc (Nat.le_refl _) _)) rfl (Rd.one' [.slice (some ⟨wv.heap.size, 0, none⟩) 1 1] rfl) (by simp) (by simp [Value.oneCell']) (by rw [List.length_map, hrl.out]; simp [maxLen]; omega) (by rw [List.length_map, hrl.out]; omega) (by simp; omega) ?_; intro A5 n5 c5 w5 hn5 hown5 hg5 hat5; (obtain rfl : n5 = i + 1 := (by rw [hn5, List.length_map, hrl.out])); clear hn5)
        have hDN := hDH.out.next (r := ⟨some ⟨wv.heap.size, 0, none⟩, 1, 1, [((i + 1 : Nat) : Int)]⟩) hbWH.out hRow.out (by rw [hrow.out]) hg5 hown5
        have hbN : Below w1.heap.size w1 w5 := ((hbr.trans (hbWH.out.mono hzr)).alloc (by omega) _).grown hg5 (by simp; omega) (fun b hb => (hDH.out.out.block b hb).1)
        go_roundg (n + 1 - (i + 1))
        case measure => omega
        case rel => exact ⟨i + 1, A5, c5, _, by omega, rfl, by go_num, rfl, hDN, hbN⟩
      · have hlt2i : ¬ ((i + 1 : Nat) : Int) < (n : Int) := by omega
        have hlt2j : ¬ (i : Int) + 1 < (n : Int) := by omega
        cases rd with
        | true =>
          have hrow : Hid (rowD n true i = [0]) := Lib.hid (by unfold rowD; rw [if_neg hlt2, if_pos rfl])
          obtain ⟨Wr, hWr⟩ : ∃ Wr, wv.alloc (.cells #[.int .i64 0] 3) = Wr := ⟨_, rfl⟩
          have hbW : Below wv.heap.size wv Wr := by rw [← hWr]; exact (Below.refl _ wv).alloc (Nat.le_refl _) _
          have hoW : Wr.heap[wv.heap.size]? = some (.cells #[.int .i64 0] 3 (0, 0)) := by rw [← hWr]; exact heap_at _ _ rfl
          have hzW := hbW.size
          have hRow := Lib.hid (Ow.madeI hoW hzr)
          have hbWH := Lib.hid hbW
          clear hoW hbW
          go_wp2_with (at_builtin; refine wpList_append_rd _ rfl _ _ _ rfl eInts (base := w1.heap.size) (v := .slice BA i bc) (xs := rs.map Rw.enc) rfl ((hDH.out.out.below hbWH.out).below ((Below.refl _ Wr).alloc (Nat.le_refl _) _)) rfl (Rd.one' [.slice (some ⟨wv.heap.size, 0, none⟩) 1 1] rfl) (by simp) (by simp [Value.oneCell']) (by rw [List.length_map, hrl.out]; simp [maxLen]; omega) (by rw [List.length_map, hrl.out]; omega) (by simp; omega) ?_; intro A5 n5 c5 w5 hn5 hown5 hg5 hat5; (obtain rfl : n5 = i + 1 := (by rw [hn5, List.length_map, hrl.out])); clear hn5)
          have hDN := hDH.out.next (r := ⟨some ⟨wv.heap.size, 0, none⟩, 1, 1, [0]⟩) hbWH.out hRow.out (by rw [hrow.out]) hg5 hown5
          have hbN : Below w1.heap.size w1 w5 := ((hbr.trans (hbWH.out.mono hzr)).alloc (by omega) _).grown hg5 (by simp; omega) (fun b hb => (hDH.out.out.block b hb).1)
          go_roundg (n + 1 - (i + 1))
          case measure => omega
          case rel => exact ⟨i + 1, A5, c5, _, by omega, rfl, by go_num, rfl, hDN, hbN⟩
        | false =>
          have hrow : Hid (rowD n false i = []) := Lib.hid (by unfold rowD; rw [if_neg hlt2, if_neg (by decide)])
          go_wp2_with (at_builtin; refine wpList_append_rd _ rfl _ _ _ rfl eInts (base := w1.heap.size) (v := .slice BA i bc) (xs := rs.map Rw.enc) rfl (hDH.out.out.below ((Below.refl _ wv).alloc (Nat.le_refl _) _)) rfl (Rd.one' [.slice none 0 0] rfl) (by simp) (by simp [Value.oneCell']) (by rw [List.length_map, hrl.out]; simp [maxLen]; omega) (by rw [List.length_map, hrl.out]; omega) (by simp; omega) ?_; intro A5 n5 c5 w5 hn5 hown5 hg5 hat5; (obtain rfl : n5 = i + 1 := (by rw [hn5, List.length_map, hrl.out])); clear hn5)
          have hDN := hDH.out.next (r := ⟨none, 0, 0, []⟩) (Below.refl _ wv) (Ow.nil_ _ _ _ _) (by rw [hrow.out]) hg5 hown5
          have hbN : Below w1.heap.size w1 w5 := (hbr.alloc (by omega) _).grown hg5 (by simp; omega) (fun b hb => (hDH.out.out.block b hb).1)
          go_roundg (n + 1 - (i + 1))
          case measure => omega
          case rel => exact ⟨i + 1, A5, c5, _, by omega, rfl, by go_num, rfl, hDN, hbN⟩
    · obtain rfl : i = n := by omega
      have hnlt : ¬ (i : Int) < (i : Int) := by omega
      have hR := hDH.out.grid
      have hx : Hid (rs.map Rw.xs = xD i rd) := Lib.hid hDH.out.xs
      obtain ⟨hE, hm1⟩ := checkS_D hR hn1 hn2 hx.out
      have cP := Lib.hid (sparts_any BA i bc rs wv hR (by unfold maxLen; omega) (fun r hr => by have := hm1 r hr; omega))
      rw [hE, hx.out] at cP
      clear hR hE hm1
      go_wp2_with fail
      refine cP.out.mono ?_
      rintro e w5 ⟨P1, pc1, ps, o, rfl, hp, hm, ho, hf, _, hb5⟩
      obtain ⟨hFu, hAll⟩ := hf rfl
      have hz5 := hb5.size
      have hb05 := hb1.trans ((hbr.trans (hb5.mono hzr)).mono hz1)
      clear hf cP
      cases rd with
      | true =>
        obtain ⟨p, rfl, hpl⟩ := ring_parts hn1 hFu hAll
        obtain ⟨r0, rfl⟩ : ∃ r0, ps = [r0] := List.length_eq_one_iff.1 (by have := congrArg List.length ho; simpa using this)
        obtain ⟨pb, po, r1, hPA, hpb, hq, hc, hk⟩ := hp.at_ (k := 0) (by simp)
        obtain rfl : r0 = r1 := by simpa using hq
        subst hPA
        rw [Nat.add_zero] at hc
        have hrx : r0.xs = p.map Int.ofNat := by simpa using ho
        have hrl0 : r0.l = i := by rw [← hk.len, hrx, List.length_map, hpl]
        rw [hrl0] at hc
        clear hp hm ho hFu hAll hk hrx hrl0 hpl hq
        go_wp2
        go_ret
        exact ⟨rfl, hb05⟩
      | false =>
        have hop := path_parts hFu
        rw [hop] at ho
        have hpl : ps.length = i := by have := congrArg List.length ho; simpa [pathO] using this
        have hat : ∀ k r, ps[k]? = some r → r.xs = [((i - 1 - k : Nat) : Int)] := by
          intro k r hr
          obtain ⟨q, h1, h2⟩ := row_atD ho hr
          unfold pathO at h1
          rw [List.getElem?_map] at h1
          obtain ⟨k', h3, rfl⟩ := Option.map_eq_some_iff.1 h1
          have h4 := (List.getElem?_eq_some_iff.1 h3)
          obtain ⟨h5, h6⟩ := h4
          rw [List.getElem_range] at h6
          rw [h2, ← h6]; rfl
        rw [hpl] at hp
        obtain ⟨pb, po, r0, hPA, hpb, hq0, hc0, hk0⟩ := hp.at_ (k := 0) hn1
        obtain ⟨pb', po', r1, hPA', _, hq1, hc1, hk1⟩ := hp.at_ (k := i - 1) (by omega)
        subst hPA
        injection hPA' with hPA'
        injection hPA' with hPA1 hPA2
        subst hPA1
        subst hPA2
        rw [Nat.add_zero] at hc0
        have hx0 : r0.xs = [((i - 1 : Nat) : Int)] := by rw [hat 0 r0 hq0]; rfl
        have hx1 : r1.xs = [0] := by rw [hat (i - 1) r1 hq1, Nat.sub_self]; rfl
        have hm0 := hm r0 (List.mem_of_getElem? hq0)
        have hm1 := hm r1 (List.mem_of_getElem? hq1)
        obtain ⟨y, hy⟩ : ∃ y, i - 1 = y := ⟨_, rfl⟩
        rw [hy] at hx0 hc1
        have hyw : IntKind.i64.wrap ((i : Int) - 1) = (y : Int) := by rw [IntWalk.i64_in _ (by omega)]; omega
        have hyw2 : wrap64 ((i : Int) - 1) = (y : Int) := by rw [IntWalk.wrap64_in _ ⟨by omega, by omega⟩]; omega
        have hyi : (y : Int) < (i : Int) := by omega
        have h0i : (0 : Int) < (i : Int) := by omega
        obtain ⟨W7, hW7⟩ : ∃ W7, w5.alloc (.cells #[.int .i64 (y : Int)] 3) = W7 := ⟨_, rfl⟩
        have hb7 : Below w5.heap.size w5 W7 := by rw [← hW7]; exact (Below.refl _ w5).alloc (Nat.le_refl _) _
        have h7a : W7.heap[w5.heap.size]? = some (.cells #[.int .i64 (y : Int)] 3 (0, 0)) := by rw [← hW7]; exact heap_at _ _ rfl
        have hz7 := hb7.size
        have cS1 := Lib.hid (sameI_any r0.A (some ⟨w5.heap.size, 0, none⟩) r0.l 1 r0.c 1 r0.xs [(y : Int)] W7 ((hk0.below hb7).more hz7) (show Rw.Ok W7 W7.heap.size ⟨some ⟨w5.heap.size, 0, none⟩, 1, 1, [(y : Int)]⟩ from ok_made h7a rfl (blk_lt h7a)) (by unfold maxLen; omega) (by decide))
        rw [hx0, decide_eq_true (rfl : [(y : Int)] = [(y : Int)])] at cS1
        have hk1H := Lib.hid hk1
        have hx1H := Lib.hid hx1
        have hc1H := Lib.hid hc1
        rw [hpl]
        clear hp hm ho hFu hAll hk0 hk1 hx0 hx1 hq0 hq1 hat hop hpl hy h7a hc1
        go_wp2_with fail
        try rw [hW7]
        clear hW7
        refine cS1.out.mono ?_
        rintro e w8 ⟨rfl, hb8⟩
        have hz8 := hb8.size
        have hb58 : Below w5.heap.size w5 w8 := hb7.trans (hb8.mono hz7)
        have e1 := (hb58.cell (p := ⟨pb, po + y, none⟩) hpb).trans hc1H.out
        have hpb8 : pb < w8.heap.size := by have := hb58.size; omega
        obtain ⟨W9, hW9⟩ : ∃ W9, w8.alloc (.cells #[.int .i64 0] 3) = W9 := ⟨_, rfl⟩
        have hb9 : Below w8.heap.size w8 W9 := by rw [← hW9]; exact (Below.refl _ w8).alloc (Nat.le_refl _) _
        have h9a : W9.heap[w8.heap.size]? = some (.cells #[.int .i64 0] 3 (0, 0)) := by rw [← hW9]; exact heap_at _ _ rfl
        have hz9 := hb9.size
        have cS2 := Lib.hid (sameI_any r1.A (some ⟨w8.heap.size, 0, none⟩) r1.l 1 r1.c 1 r1.xs [0] W9 ((hk1H.out.below (hb58.trans (hb9.mono hb58.size))).more (by have := hb58.size; omega)) (show Rw.Ok W9 W9.heap.size ⟨some ⟨w8.heap.size, 0, none⟩, 1, 1, [0]⟩ from ok_made h9a rfl (blk_lt h9a)) (by unfold maxLen; omega) (by decide))
        rw [hx1H.out, show decide (([0] : List Int) = [0]) = true from rfl] at cS2
        have hb08 := hb05.trans (hb58.mono hb05.size)
        clear h9a cS1 hb8 hb7 hc0
        go_wp2_with fail
        try rw [hW9]
        clear hW9
        refine cS2.out.mono ?_
        rintro e w10 ⟨rfl, hb10⟩
        have hbF := hb08.trans ((hb9.trans (hb10.mono hz9)).mono hb08.size)
        go_wp2
        go_ret
        exact ⟨rfl, hbF⟩
end Go.Proofs.Ytebpghpeeedgcaa
