/- The search from a thing. -/
import Derived.Test.YtebpghpeeedgcaaKn
namespace Go.Proofs.Ytebpghpeeedgcaa
open Go.RowKit

set_option maxRecDepth 100000 in
set_option maxHeartbeats 8000000 in
theorem from_any (base p bn bl bx bo bp B0 : Nat) (A : Option Addr) (n c : Nat) (g : Gr) (rs : List Rw) (s : TS) (S K : Value) (ps : List Rw) (root : Nat) (w : World)
    (h : WK w base p bn bl bx bo bp A n c s S K [] ps) (hB : Bh w B0 A n rs g) (hlo : B0 ≤ p ∧ B0 ≤ bn ∧ B0 ≤ bl ∧ B0 ≤ bx ∧ B0 ≤ bo ∧ B0 ≤ bp) (hI : Inv g s []) (hC : Cnt n s []) (hn : n ≤ 2000) (hr : root < n) (h0 : s.num root = 0) :
    Calls Try.prog 27 #[.pointer (some ⟨p, 0, none⟩), .int .i64 (root : Int)] w fun e w' => e = .returned (.tuple #[]) ∧ FrP base p bn bl bx bo bp B0 A n c g root s.num w w' := by
  have hBr := Lib.hid (fun w' (h : Below B0 w w') => hB.below h)
  have hgl := hB.len
  have hgok := hB.ok
  have hBb : B0 ≤ base := by have := h.plc.l; omega
  have hcn : s.cnt ≤ n := by have := hC.c1; omega
  have hrg : Inv g { s with num := upd s.num root (s.cnt + 1), low := upd s.low root (s.cnt + 1), opn := upd s.opn root true, cnt := s.cnt + 1 } [(root, [])] := hI.reach h0 (by omega) trivial
  have hrc : Cnt n { s with num := upd s.num root (s.cnt + 1), low := upd s.low root (s.cnt + 1), opn := upd s.opn root true, cnt := s.cnt + 1 } [(root, [])] := hC.reach hr h0
  have cR := Lib.hid (reach_any base p bn bl bx bo bp A n c s S K [] ps root w h hr (by omega) (by omega) (by simp))
  have hpS := h.stk
  have hpK := h.pts
  have hprs := h.prs
  replace hrg := Lib.hid hrg
  replace hrc := Lib.hid hrc
  replace hgok := Lib.hid hgok
  have hbas := h.bas
  clear h hI hC hB
  go_enter Try.func27, Try.ntmps27
  go_step3
  go_wp2_with fail
  refine cR.out.mono ?_
  rintro e w1 ⟨rfl, S1, hW1, hG1, hS1⟩
  have hb1 : Below B0 w w1 := hG1.below (by omega) (fun k hk => by
    rcases hk with e | e | e | e | e
    · omega
    · omega
    · omega
    · omega
    · have := (hpS.block k e).1; omega)
  clear cR hG1 hS1 hpS hpK hprs
  have hW1H := Lib.hid hW1
  clear hW1
  go_wp2_with fail
  go_step3
  have hbas1 := hW1H.out.bas
  have hwp : Below w1.heap.size w1 (w1.alloc (.cells #[.int .i64 (root : Int)] 3)) := (Below.refl _ w1).alloc (Nat.le_refl _) _
  have hPx : Ow (w1.alloc (.cells #[.int .i64 (root : Int)] 3)) base 3 1 (.slice (some ⟨w1.heap.size, 0, none⟩) 1 1) ([root].map eN) := by
    have h1 : Ow (w1.alloc (.cells (eN root).toArray 3)) base 3 1 (.slice (some ⟨w1.heap.size, 0, none⟩) 1 1) [eN root] :=
      ⟨by simp [eN], ⟨by simp [eN], .inr ⟨w1.heap.size, 1, _, rfl, hbas1, heap_at _ _ rfl, Nat.le_refl _, by decide, by simp [eN], by simp [eN]⟩⟩⟩
    exact h1
  obtain ⟨U, hU⟩ : ∃ U, un n (upd s.num root (s.cnt + 1)) = U := ⟨_, rfl⟩
  have hrnH := Lib.hid (show ∀ x, 0 < s.num x → 0 < upd s.num root (s.cnt + 1) x from fun x hx => by
    by_cases e : x = root
    · rw [e, upd_at]; omega
    · rw [upd_ne e]; exact hx)
  go_wp2_with fail
  go_loopg [4] (2 * U + 1 + 1) (fun gg pv wr => ∃ (s2 : TS) (S2 K2 : Value) (ps2 : List Rw) (ss : List (Nat × List Nat)) (PA : Option Addr) (pc : Nat), gg = 2 * un n s2.num + ss.length + 1 ∧ pv = .slice PA ss.length pc ∧
    WK wr base p bn bl bx bo bp A n c s2 S2 K2 (flat ss) ps2 ∧ Inv g s2 ss ∧ Cnt n s2 ss ∧ 0 < s2.num root ∧ (∀ x, 0 < s.num x → 0 < s2.num x) ∧ PathOk wr base pv ss S2 ps2 ∧ Below B0 w wr)
  case atStart =>
    refine ⟨_, S1, K, ps, [(root, [])], some ⟨w1.heap.size, 0, none⟩, 1, ?_, rfl, hW1H.out.below hwp, hrg.out, hrc.out, ?_, hrnH.out, ⟨hPx, ?_, ?_⟩, hb1.trans (hwp.mono (by omega))⟩
    · show 2 * U + 1 + 1 = 2 * un n (upd s.num root (s.cnt + 1)) + 1 + 1
      omega
    · show 0 < upd s.num root (s.cnt + 1) root
      rw [upd_at]; omega
    · intro k hk hk2
      obtain rfl : w1.heap.size = k := Option.some.inj hk
      have := (hW1H.out.stk.block _ hk2).2
      omega
    · intro r hr k hk hk2
      obtain rfl : w1.heap.size = k := Option.some.inj hk
      have := ((hW1H.out.prs r hr).1.block _ hk2).2
      omega
  case round =>
    obtain ⟨s2, S2, K2, ps2, ss, PA, pc, rfl, rfl, hW, hI, hC, hr2, hrs2, hP, hbr⟩ := hrel
    cases ss with
    | nil =>
      have hz : ¬ (0 : Int) < ((0 : Nat) : Int) := by omega
      go_wp2
      go_end0
      exact ⟨rfl, s2, S2, K2, ps2, hW, hI, hC, hr2, hrs2, hbr⟩
    | cons it r =>
      obtain ⟨i, t⟩ := it
      have hil : i < n := by rw [← hgl]; exact hI.mem_lt (by simp [flat])
      obtain ⟨gp, hPA, hgpb, hgpl, hgpf, hgpc⟩ := hP.own.addr (by simp)
      subst hPA
      have hpcl := hgpc r.length (eN i) (by rw [List.getElem?_map, List.map_cons, List.reverse_cons, List.getElem?_append_right (by simp), List.length_reverse, List.length_map, Nat.sub_self]; rfl) 0 _ rfl
      rw [Nat.mul_one, Nat.add_zero] at hpcl
      have hrl : r.length < 3000 := by
        have h1 := flat_ge ((i, t) :: r)
        have h2 := hC.c1
        have h3 := hC.c2
        rw [List.length_cons] at h1
        omega
      have hwl : IntKind.i64.wrap (((r.length + 1 : Nat) : Int) - 1) = (r.length : Int) := by rw [IntWalk.i64_in _ (by omega)]; omega
      have hWH := Lib.hid hW
      have hIH := Lib.hid hI
      have hCH := Lib.hid hC
      have hPH := Lib.hid hP
      have hrs2H := Lib.hid hrs2
      clear hW hI hC hP hgpc hrs2
      have hsl : ((i, t) :: r).length = r.length + 1 := rfl
      rw [hsl]
      go_wp2_with fail
      go_loopg [4, 6] ((sucs g i).length - s2.nxt i + 1) (fun gg pv kv wv => ∃ (s3 : TS), gg = (sucs g i).length - s3.nxt i + 1 ∧ pv = .slice (some ⟨gp, 0, none⟩) (r.length + 1) pc ∧ WK wv base p bn bl bx bo bp A n c s3 S2 K2 (flat ((i, t) :: r)) ps2 ∧ Inv g s3 ((i, t) :: r) ∧ Cnt n s3 ((i, t) :: r) ∧ s3.num = s2.num ∧
        PathOk wv base (.slice (some ⟨gp, 0, none⟩) (r.length + 1) pc) ((i, t) :: r) S2 ps2 ∧ Below B0 w wv)
      case atStart => exact ⟨s2, rfl, rfl, hWH.out, hIH.out, hCH.out, rfl, hPH.out, hbr⟩
      case round =>
        clear hWH hIH hCH hPH hpcl
        obtain ⟨s3, rfl, rfl, hW, hI, hC, hnum, hP, hbv⟩ := hrel
        replace hnum := Lib.hid hnum
        obtain ⟨wv, hwv⟩ : ∃ wv, wv = wr := ⟨_, rfl⟩
        obtain rfl := hwv
        obtain ⟨bA, oA, rw_, hA, hbA, hcA, hlA, hmA, hrow⟩ := (hBr.out wv hbv).row hil
        subst hA
        have b0 := blk_cell hW.box 0
        have b1 := blk_cell hW.box 1
        have b2 := blk_cell hW.box 2
        have b3 := blk_cell hW.box 3
        have b4 := blk_cell hW.box 4
        simp at b0 b1 b2 b3 b4
        have cx := blk_cell hW.nxt i
        rw [rowN_at _ hil] at cx
        have hlp := blk_lt hW.box
        have hlx := blk_lt hW.nxt
        have hfx := blk_frozen hW.nxt i
        have hne := hI.nle i
        by_cases hlt : s3.nxt i < (sucs g i).length
        · obtain ⟨k, hk⟩ : ∃ k, (sucs g i)[s3.nxt i]? = some k := ⟨_, List.getElem?_eq_getElem hlt⟩
          obtain ⟨b2', o2', hA2, hb2', hck⟩ := hrow _ _ hk
          have hkn : k < n := by rw [← hgl]; exact (sucs_ok hgok.out hk).2.2
          have hlti : (s3.nxt i : Int) < (rw_.l : Int) := by omega
          have hwn : IntKind.i64.wrap ((s3.nxt i : Int) + 1) = ((s3.nxt i + 1 : Nat) : Int) := by rw [IntWalk.i64_in _ (by omega)]; omega
          rw [hA2] at hcA
          have hiln : (i : Int) < (n : Int) := by omega
          have hkln : (k : Int) < (n : Int) := by omega
          have cn := blk_cell hW.num k
          rw [rowN_at _ hkn] at cn
          have hln := blk_lt hW.num
          have hltn : s3.nxt i < rw_.l := by omega
          obtain ⟨u, hu⟩ : ∃ u, ((wv.setCell ⟨bx, i, none⟩ (.int .i64 ((s3.nxt i : Int) + 1))).drew.drew) = u := ⟨_, rfl⟩
          have hWu : WK u base p bn bl bx bo bp (some ⟨bA, oA, none⟩) n c { s3 with nxt := upd s3.nxt i (s3.nxt i + 1) } S2 K2 (flat ((i, t) :: r)) ps2 := by
            rw [← hu]
            exact (hW.setNxt i (s3.nxt i + 1)).below (Below.refl _ _).drew.drew
          have hgu : Gk (fun b => b = bx) wv u := by rw [← hu]; exact ((Gk.refl (fun b => b = bx) wv).set (.inl rfl) _).drew.drew
          obtain ⟨l1, l2, l3, l4, l5, l6⟩ := hW.plc.l
          have hPu : PathOk u base (.slice (some ⟨gp, 0, none⟩) (r.length + 1) pc) ((i, t) :: r) S2 ps2 := hP.kept hgu fun k hk => .inl (by omega)
          have hbu : Below B0 w u := hbv.trans (hgu.below (by have := hW.bas; omega) (fun k hk => by omega))
          have v1 := blk_cell hWu.box 1
          have v2 := blk_cell hWu.box 2
          have v4 := blk_cell hWu.box 4
          simp at v1 v2 v4
          have hlu := blk_lt hWu.box
          have cnu := blk_cell hWu.num k
          rw [rowN_at _ hkn] at cnu
          dsimp only at cnu
          by_cases h0 : s3.num k = 0
          · as_aux_lemma =>
            rw [h0] at cnu
            have cn0 : u.cell? ⟨bn, k, none⟩ = some (.int .i64 0) := cnu
            clear cnu
            have hcn3 : s3.cnt ≤ n := by have := hC.c1; omega
            have cR := Lib.hid (reach_any base p bn bl bx bo bp (some ⟨bA, oA, none⟩) n c { s3 with nxt := upd s3.nxt i (s3.nxt i + 1) } S2 K2 (flat ((i, t) :: r)) ps2 k u hWu hkn (by omega) (by show s3.cnt ≤ _; omega) (by have := hC.c2; omega))
            have hIn := Lib.hid (hI.stepReach hgok.out hk h0)
            have hCn := Lib.hid ((hC.reach (l := upd s3.low k (s3.cnt + 1)) (x := upd s3.nxt i (s3.nxt i + 1)) (o := upd s3.opn k true) hkn h0))
            have hun := un_upd (n := n) (v := s3.cnt + 1) hkn h0 (by omega)
            rw [hnum.out] at hun
            have hunH := Lib.hid hun
            have hWuH := Lib.hid hWu
            have hPuH := Lib.hid hPu
            clear hWu hPu cn hun hP hI hC
            go_wp2
            go_region
            go_wp2
            go_region
            go_wp2_with fail
            refine cR.out.mono ?_
            rintro e w4 ⟨rfl, S4, hW4, hG4, hS4⟩
            have hz4 := hG4.size
            have hb4 : Below B0 w w4 := hbu.trans (hG4.below (by have := hWuH.out.bas; omega) (fun k hk => by
              rcases hk with e | e | e | e | e
              · omega
              · omega
              · omega
              · omega
              · have := (hWuH.out.stk.block k e).1; omega))
            have hP4 := hPuH.out.kept hG4 (fun k hk => by
              rcases hk with e | e | e | e | e
              · exact .inl (by omega)
              · exact .inl (by omega)
              · exact .inl (by omega)
              · exact .inl (by omega)
              · exact .inr (.inl e))
            have hpn : ∀ k, (Value.slice (some ⟨gp, 0, none⟩) (r.length + 1) pc).ownBlock = some k → S4.ownBlock ≠ some k := by
              intro k hk hk2
              rcases hS4 with h1 | ⟨b, h1, h2⟩
              · exact hPuH.out.nes k hk (h1.symm.trans hk2)
              · rw [h1] at hk2
                injection hk2 with hk2
                have := (hPuH.out.own.block k hk).2
                omega
            have hbas4 := hW4.bas
            have hpl4 : ((((i, t) :: r).map Prod.fst).reverse.map eN).length = r.length + 1 := by simp
            have ho4 := Lib.hid hP4.own
            have hW4H := Lib.hid hW4
            have hpl4H := Lib.hid hpl4
            have hnepH := Lib.hid hP4.nep
            clear hW4 hP4 hpl4 cR hG4 hS4 b0 b1 b2 b3 b4 v1 v2 v4 cn0 cx hcA hck hrow hfx hu
            go_wp2_with (at_builtin; refine wpList_append_rd _ rfl _ _ _ rfl eInt (base := base) (v := .slice (some ⟨gp, 0, none⟩) (r.length + 1) pc) (xs := (((i, t) :: r).map Prod.fst).reverse.map eN) rfl (ho4.out.below ((Below.refl _ w4).alloc (Nat.le_refl _) _)) rfl (Rd.one' (eN k) rfl) (by simp [eN]) (by simp [eN, Value.oneCell']) (by rw [hpl4H.out]; simp [maxLen]; omega) (by rw [hpl4H.out]; omega) (by simp; omega) ?_; intro A5 n5 c5 w5 hn5 hown5 hg5 hat5; (obtain rfl : n5 = r.length + 1 + 1 := (by rw [hn5, hpl4H.out])); clear hn5)
            have hgr : Gk (fun b => (Value.slice (some ⟨gp, 0, none⟩) (r.length + 1) pc).ownBlock = some b) w4 w5 := ((Gk.refl _ w4).alloc _).grown hg5 (fun k e => .inl e)
            have hpb := fun k (hk : (Value.slice (some ⟨gp, 0, none⟩) (r.length + 1) pc).ownBlock = some k) => ho4.out.block k hk
            have hW5 : WK w5 base p bn bl bx bo bp (some ⟨bA, oA, none⟩) n c { s3 with num := upd s3.num k (s3.cnt + 1), low := upd s3.low k (s3.cnt + 1), nxt := upd s3.nxt i (s3.nxt i + 1), opn := upd s3.opn k true, cnt := s3.cnt + 1 } S4 K2 (flat ((k, []) :: (i, t) :: r)) ps2 :=
              hW4H.out.kept hgr fun q hq => ⟨(hpb q hq).1, hpn q hq, fun h1 => ho4.out.ne_own hW4H.out.pts (by decide) hq h1, fun r' hr' h1 => hnepH.out r' hr' q hq h1⟩
            have hnew : ∀ q, (Value.slice A5 (r.length + 1 + 1) c5).ownBlock = some q → (Value.slice (some ⟨gp, 0, none⟩) (r.length + 1) pc).ownBlock = some q ∨ w4.heap.size ≤ q := by
              intro q hq
              rcases hat5 with h1 | h1
              · exact .inl (h1.symm.trans hq)
              · rw [h1] at hq
                injection hq with hq
                right; simp at hq; omega
            have hP5 : PathOk w5 base (.slice A5 (r.length + 1 + 1) c5) ((k, []) :: (i, t) :: r) S4 ps2 := by
              refine ⟨?_, fun q hq h1 => ?_, fun r' hr' q hq h1 => ?_⟩
              · rw [List.map_cons, List.reverse_cons, List.map_append]
                exact hown5
              · rcases hnew q hq with h2 | h2
                · exact hpn q h2 h1
                · have := (hW4H.out.stk.block q h1).2; omega
              · rcases hnew q hq with h2 | h2
                · exact hnepH.out r' hr' q h2 h1
                · have := ((hW4H.out.prs r' hr').1.block q h1).2; omega
            have hb5 : Below B0 w w5 := hb4.trans (hgr.below (by omega) (fun q hq => by have := (hpb q hq).1; omega))
            go_roundg (2 * un n (upd s2.num k (s3.cnt + 1)) + (r.length + 1 + 1) + 1)
            case measure => have := hunH.out; omega
            case rel =>
              refine ⟨_, S4, K2, ps2, (k, []) :: (i, t) :: r, A5, c5, ?_, rfl, hW5, hIn.out, hCn.out, ?_, fun x hx => ?_, hP5, hb5⟩
              · show 2 * un n (upd s2.num k (s3.cnt + 1)) + (r.length + 1 + 1) + 1 = 2 * un n (upd s3.num k (s3.cnt + 1)) + (r.length + 1 + 1) + 1
                rw [hnum.out]
              · show 0 < upd s3.num k (s3.cnt + 1) root
                by_cases e : root = k
                · rw [e, upd_at]; omega
                · rw [upd_ne e, hnum.out]; exact hr2
              · show 0 < upd s3.num k (s3.cnt + 1) x
                by_cases e : x = k
                · rw [e, upd_at]; omega
                · rw [upd_ne e, hnum.out]; exact hrs2H.out x hx
          · have hpos : 0 < s3.num k := by omega
            have hn0 : ((s3.num k : Int) == 0) = false := by rw [beq_eq_false_iff_ne]; omega
            have cou := blk_cell hWu.opn k
            rw [rowB_at _ hkn] at cou
            dsimp only at cou
            have clu := blk_cell hWu.low i
            rw [rowN_at _ hil] at clu
            dsimp only at clu
            have hfl := blk_frozen hWu.low i
            have hll := blk_lt hWu.low
            have hWuH := Lib.hid hWu
            have hPuH := Lib.hid hPu
            have hCH := Lib.hid hC
            have hkH := Lib.hid hk
            have hltH := Lib.hid hlt
            clear hWu hPu cn hP hC
            cases ho : s3.opn k with
            | true =>
              have hIn := Lib.hid (hI.stepLow hk hpos ho)
              rw [ho] at cou
              clear hI hk ho
              go_wp2
              go_region
              go_wp2
              go_region
              go_wp2
              go_region
              have hmin : min (s3.low i : Int) (s3.num k : Int) = ((min (s3.low i) (s3.num k) : Nat) : Int) := by omega
              rw [hmin]
              obtain ⟨u2, hu2⟩ : ∃ u2, (u.setCell ⟨bl, i, none⟩ (.int .i64 ((min (s3.low i) (s3.num k) : Nat) : Int))).drew = u2 := ⟨_, rfl⟩
              rw [hu2]
              have hWu2 := (hWuH.out.setLow i (min (s3.low i) (s3.num k))).below (Below.refl _ _).drew
              rw [hu2] at hWu2
              have hgu2 : Gk (fun b => b = bl) u u2 := by rw [← hu2]; exact ((Gk.refl (fun b => b = bl) u).set (.inl rfl) _).drew
              have hPu2 := hPuH.out.kept hgu2 (fun q hq => .inl (by omega))
              have hbu2 : Below B0 w u2 := hbu.trans (hgu2.below (by have := hWuH.out.bas; omega) (fun q hq => by omega))
              clear hu2 hmin v1 v2 v4 cou clu cnu hu
              go_wp2
              go_roundg ((sucs g i).length - (s3.nxt i + 1) + 1)
              case measure => have := hltH.out; omega
              case rel =>
                refine ⟨_, ?_, rfl, hWu2, hIn.out, hCH.out.other, hnum.out, hPu2, hbu2⟩
                show _ = (sucs g i).length - upd s3.nxt i (s3.nxt i + 1) i + 1
                rw [upd_at]
            | false =>
              have hIn := Lib.hid (hI.stepSkip hk hpos ho)
              rw [ho] at cou
              clear hI hk ho
              go_wp2
              go_region
              go_wp2
              go_region
              go_wp2
              go_roundg ((sucs g i).length - (s3.nxt i + 1) + 1)
              case measure => have := hltH.out; omega
              case rel =>
                refine ⟨_, ?_, rfl, hWuH.out, hIn.out, hCH.out.other, hnum.out, hPuH.out, hbu⟩
                show _ = (sucs g i).length - upd s3.nxt i (s3.nxt i + 1) i + 1
                rw [upd_at]
        · have hxe : s3.nxt i = (sucs g i).length := by omega
          have hnlt : ¬ (s3.nxt i : Int) < (rw_.l : Int) := by omega
          have clo := blk_cell hW.low i
          have cno := blk_cell hW.num i
          rw [rowN_at _ hil] at clo cno
          have hiln : (i : Int) < (n : Int) := by omega
          have hnd : (i :: t).Nodup := by
            have h1 := hI.nodup
            rw [flat] at h1
            exact (List.nodup_append.1 h1).2.1
          have hmlt : ∀ x ∈ i :: t, x < n := fun x hx => by rw [← hgl]; exact hI.mem_lt (by rw [flat]; exact List.mem_append_right _ hx)
          have hfl3 : (flat r ++ i :: t).length ≤ n := by
            have h1 := hC.c1
            have h2 := hC.c2
            rw [flat] at h2
            dsimp only at h2
            omega
          have hps3 : ps2.length ≤ n := by
            have h1 := congrArg List.length hW.psx
            rw [List.length_map, List.length_map] at h1
            have h2 := hC.c1
            have h3 := hC.c2
            omega
          have hpc : r.length ≤ pc := by have := hP.own.rd.2.2.1; omega
          have hWH := Lib.hid hW
          have hPH := Lib.hid hP
          have hCH := Lib.hid hC
          by_cases hl : s3.low i = s3.num i
          · have cCH := Lib.hid (fun wd hWd => close_any base p bn bl bx bo bp (some ⟨bA, oA, none⟩) n c s3 S2 K2 (flat r) t ps2 i wd hWd hnd hmlt (by omega) (by omega) (by omega))
            have hIc := Lib.hid (hI.close hxe hl)
            have hIH := Lib.hid hI
            rw [hl] at clo
            have hlH := Lib.hid hl
            clear hP hI hC hnd hmlt hW hl hxe hrow
            go_wp2
            go_region
            go_wp2
            go_quiet (fail)
            generalize hwd : World.drewN _ _ = wd
            have hbd : Below wv.heap.size wv wd := by rw [← hwd]; exact below_drK (Below.refl _ _).drew _
            replace hwd := Lib.hid hwd
            have hWd : WK wd base p bn bl bx bo bp (some ⟨bA, oA, none⟩) n c s3 S2 K2 (flat r ++ i :: t) ps2 := hWH.out.below hbd
            have hPd : PathOk wd base (.slice (some ⟨gp, 0, none⟩) r.length pc) r S2 ps2 := by
              have h1 := (hPH.out.own.below hbd).front (k := r.length) (by omega)
              have h2 : ((((i, t) :: r).map Prod.fst).reverse.map eN).take r.length = (r.map Prod.fst).reverse.map eN := by
                rw [List.map_cons, List.reverse_cons, List.map_append, List.take_left' (by simp)]
              rw [h2] at h1
              exact ⟨h1, hPH.out.nes, hPH.out.nep⟩
            have hbd0 : Below B0 w wd := hbv.trans (hbd.mono (by have := hWH.out.bas; omega))
            have cC := Lib.hid (cCH.out wd hWd)
            have hWdH := Lib.hid hWd
            have hPdH := Lib.hid hPd
            clear hWd hPd cCH
            go_wp2_with fail
            refine cC.out.mono ?_
            rintro e w6 ⟨rfl, S6, K6, ps6, hW6, hG6, hS6, hpn6⟩
            have hb6 : Below B0 w w6 := hbd0.trans (hG6.below (by have := hWdH.out.bas; omega) (fun k hk => by
              rcases hk with e | e | e | e
              · omega
              · omega
              · omega
              · have := (hWdH.out.pts.block k e).1; omega))
            have hP6 : PathOk w6 base (.slice (some ⟨gp, 0, none⟩) r.length pc) r S6 ps6 := by
              have h1 := hPdH.out.own
              refine ⟨hG6.ow h1 fun k hk hS => ?_, fun k hk h2 => hPdH.out.nes k hk (hS6.symm.trans h2), fun r' hr' k hk h2 => ?_⟩
              · have h3 := (h1.block k hk).1
                rcases hS with e | e | e | e
                · have := hWdH.out.plc.l; omega
                · have := hWdH.out.plc.l; omega
                · have := hWdH.out.plc.l; omega
                · exact h1.ne_own hWdH.out.pts (by decide) hk e
              · rcases hpn6 r' hr' with h3 | h3
                · exact hPdH.out.nep r' h3 k hk h2
                · have := h3 k h2
                  have := (h1.block k hk).2
                  omega
            clear cC hG6 hS6 hpn6 b0 b1 b2 b3 b4 clo cno cx hcA hfx
            have hC6 := Lib.hid (hCH.out.close (o := fun x => if x ∈ i :: t then false else s3.opn x) (l := s3.low) (p := fun x => if x ∈ i :: t then s3.pts.length else s3.prt x) (q := sortN (i :: t)))
            have hW6H := Lib.hid hW6
            have hP6H := Lib.hid hP6
            have hr3 : 0 < s3.num root := by rw [hnum.out]; exact hr2
            have hrs3 : Hid (∀ x, 0 < s.num x → 0 < s3.num x) := Lib.hid (by rw [hnum.out]; exact hrs2H.out)
            have hu3 : un n s3.num = un n s2.num := by rw [hnum.out]
            cases r with
            | nil =>
              go_wp2
              go_roundg (2 * un n s2.num + 0 + 1)
              case measure => simp
              case rel => exact ⟨_, S6, K6, ps6, [], some ⟨gp, 0, none⟩, pc, by rw [← hu3]; rfl, rfl, hW6H.out, hIc.out, hC6.out, hr3, hrs3.out, hP6H.out, hb6⟩
            | cons uv r' =>
             as_aux_lemma =>
              obtain ⟨up, v⟩ := uv
              have hup : up < n := by rw [← hgl]; exact hIc.out.mem_lt (by simp [flat])
              have hund := hIH.out.under hlH.out
              have hpcl := hP6.own.addr (by simp)
              obtain ⟨gq, hPA2, hgqb, hgql, hgqf, hgqc⟩ := hpcl
              obtain rfl : gp = gq := by injection hPA2 with h1; injection h1
              have hpcl := hgqc r'.length (eN up) (by rw [List.getElem?_map, List.map_cons, List.reverse_cons, List.getElem?_append_right (by simp), List.length_reverse, List.length_map, Nat.sub_self]; rfl) 0 _ rfl
              rw [Nat.mul_one, Nat.add_zero] at hpcl
              have hsl2 : ((up, v) :: r').length = r'.length + 1 := rfl
              rw [hsl2] at hrl
              have hwl2 : IntKind.i64.wrap (((r'.length + 1 : Nat) : Int) - 1) = (r'.length : Int) := by rw [IntWalk.i64_in _ (by omega)]; omega
              have c2 := blk_cell hW6.box 2
              simp at c2
              have cup := blk_cell hW6.low up
              have cli := blk_cell hW6.low i
              rw [rowN_at _ hup] at cup
              rw [rowN_at _ hil] at cli
              dsimp only at cup cli
              have hfu := blk_frozen hW6.low up
              have hlu2 := blk_lt hW6.low
              have hlp6 := blk_lt hW6.box
              have hupn : (up : Int) < (n : Int) := by omega
              have hmin : min (s3.low up : Int) (s3.low i : Int) = ((s3.low up : Nat) : Int) := by omega
              have hgl1 : r'.length < r'.length + 1 := Nat.lt_succ_self _
              clear hgqc hP6 hW6 hwl hsl
              rw [hsl2]
              go_wp2
              go_region
              try rw [hmin]
              have hW7 := ((hW6H.out.setLow up (s3.low up)).below (Below.refl _ _).drew)
              have hblb := hW6H.out.plc.l.2.2.1
              have hP7 := hP6H.out.kept (((Gk.refl (fun b => b = bl) w6).set (p := ⟨bl, up, none⟩) (.inl rfl) (.int .i64 ((s3.low up : Nat) : Int))).drew) (fun q hq => .inl (by rw [hq]; exact hblb))
              have hb7 : Below B0 w _ := hb6.trans ((((Gk.refl (fun b => b = bl) w6).set (p := ⟨bl, up, none⟩) (.inl rfl) (.int .i64 ((s3.low up : Nat) : Int))).drew).below (by have := hW6H.out.bas; omega) (fun q hq => by rw [hq]; exact hlo.2.2.1))
              dsimp only at hW7
              rw [upd_self] at hW7
              replace hW7 := Lib.hid hW7
              replace hP7 := Lib.hid hP7
              replace hb7 := Lib.hid hb7
              clear c2 cup cli hfu hmin hpcl hgqf hgql hgqb hPA2 hwl2 hlu2 hlp6
              go_wp2
              go_roundg (2 * un n s2.num + (r'.length + 1) + 1)
              case measure => simp
              case rel => exact ⟨_, S6, K6, ps6, (up, v) :: r', some ⟨gp, 0, none⟩, pc, by rw [← hu3]; rfl, rfl, hW7.out, hIc.out, hC6.out, hr3, hrs3.out, hP7.out, hb7.out⟩
          · cases r with
            | nil => exact absurd hI.alone hl
            | cons uv r' =>
             as_aux_lemma =>
              obtain ⟨up, v⟩ := uv
              have hIm := Lib.hid (hI.merge hxe hl)
              have hCm := Lib.hid (hCH.out.merge (l := upd s3.low up (min (s3.low up) (s3.low i))))
              have hld : ((s3.low i : Int) == (s3.num i : Int)) = false := by rw [beq_eq_false_iff_ne]; omega
              have hup : up < n := by rw [← hgl]; exact hI.mem_lt (by simp [flat])
              have hsl2 : ((up, v) :: r').length = r'.length + 1 := rfl
              have hr3 : 0 < s3.num root := by rw [hnum.out]; exact hr2
              have hrs3 : Hid (∀ x, 0 < s.num x → 0 < s3.num x) := Lib.hid (by rw [hnum.out]; exact hrs2H.out)
              have hu3 : un n s3.num = un n s2.num := by rw [hnum.out]
              have hl1 : ¬ s3.low i = s3.num i := hl
              clear hP hI hC hnd hmlt hW hxe hrow hl
              go_wp2
              go_region
              go_wp2
              go_quiet (fail)
              generalize hwd : World.drewN _ _ = wd
              have hbd : Below wv.heap.size wv wd := by rw [← hwd]; exact below_drK (Below.refl _ _).drew _
              replace hwd := Lib.hid hwd
              have hWd : WK wd base p bn bl bx bo bp (some ⟨bA, oA, none⟩) n c s3 S2 K2 (flat ((i, t) :: (up, v) :: r')) ps2 := hWH.out.below hbd
              have hPd : PathOk wd base (.slice (some ⟨gp, 0, none⟩) (r'.length + 1) pc) ((up, v ++ i :: t) :: r') S2 ps2 := by
                have h1 := (hPH.out.own.below hbd).front (k := r'.length + 1) (by rw [hsl2]; omega)
                have h2 : ((((i, t) :: (up, v) :: r').map Prod.fst).reverse.map eN).take (r'.length + 1) = (((up, v ++ i :: t) :: r').map Prod.fst).reverse.map eN := by
                  rw [List.map_cons, List.reverse_cons, List.map_append, List.take_left' (by simp)]; rfl
                rw [h2] at h1
                exact ⟨h1, hPH.out.nes, hPH.out.nep⟩
              have hbd0 : Below B0 w wd := hbv.trans (hbd.mono (by have := hWH.out.bas; omega))
              obtain ⟨gq, hPA2, hgqb, hgql, hgqf, hgqc⟩ := hPd.own.addr (by simp)
              obtain rfl : gp = gq := by injection hPA2 with h1; injection h1
              have hpcl := hgqc r'.length (eN up) (by rw [List.getElem?_map, List.map_cons, List.reverse_cons, List.getElem?_append_right (by simp), List.length_reverse, List.length_map, Nat.sub_self]; rfl) 0 _ rfl
              rw [Nat.mul_one, Nat.add_zero] at hpcl
              rw [hsl2] at hrl
              have hwl2 : IntKind.i64.wrap (((r'.length + 1 : Nat) : Int) - 1) = (r'.length : Int) := by rw [IntWalk.i64_in _ (by omega)]; omega
              have c2 := blk_cell hWd.box 2
              simp at c2
              have cup := blk_cell hWd.low up
              have cli := blk_cell hWd.low i
              rw [rowN_at _ hup] at cup
              rw [rowN_at _ hil] at cli
              have hfu := blk_frozen hWd.low up
              have hlu2 := blk_lt hWd.low
              have hlp6 := blk_lt hWd.box
              have hupn : (up : Int) < (n : Int) := by omega
              have hmin : min (s3.low up : Int) (s3.low i : Int) = ((min (s3.low up) (s3.low i) : Nat) : Int) := by omega
              have hgl1 : r'.length < r'.length + 1 := Nat.lt_succ_self _
              have hWdH := Lib.hid hWd
              have hPdH := Lib.hid hPd
              clear hgqc hPd hWd hwl hsl b0 b1 b2 b3 b4 clo cno cx hcA hfx
              try rw [hsl2]
              go_wp2
              go_region
              try rw [hmin]
              have hW7 := ((hWdH.out.setLow up (min (s3.low up) (s3.low i))).below (Below.refl _ _).drew)
              have hblb := hWdH.out.plc.l.2.2.1
              have hP7 := hPdH.out.kept (((Gk.refl (fun b => b = bl) wd).set (p := ⟨bl, up, none⟩) (.inl rfl) (.int .i64 ((min (s3.low up) (s3.low i) : Nat) : Int))).drew) (fun q hq => .inl (by rw [hq]; exact hblb))
              have hb7 : Below B0 w _ := hbd0.trans ((((Gk.refl (fun b => b = bl) wd).set (p := ⟨bl, up, none⟩) (.inl rfl) (.int .i64 ((min (s3.low up) (s3.low i) : Nat) : Int))).drew).below (by have := hWdH.out.bas; omega) (fun q hq => by rw [hq]; exact hlo.2.2.1))
              have hfl : flat ((i, t) :: (up, v) :: r') = flat ((up, v ++ i :: t) :: r') := by simp [flat]
              rw [hfl] at hW7
              replace hW7 := Lib.hid hW7
              replace hP7 := Lib.hid hP7
              replace hb7 := Lib.hid hb7
              clear c2 cup cli hfu hmin hpcl hgqf hgql hgqb hPA2 hwl2 hlu2 hlp6
              go_wp2
              go_roundg (2 * un n s2.num + (r'.length + 1) + 1)
              case measure => simp
              case rel => exact ⟨_, S2, K2, ps2, (up, v ++ i :: t) :: r', some ⟨gp, 0, none⟩, pc, by rw [← hu3]; rfl, rfl, hW7.out, hIm.out, hCm.out, hr3, hrs3.out, hP7.out, hb7.out⟩
end Go.Proofs.Ytebpghpeeedgcaa
