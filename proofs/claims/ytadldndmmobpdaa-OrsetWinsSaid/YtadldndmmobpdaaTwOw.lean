/- The statement OrsetWins, walked. -/
import Derived.Test.YtadldndmmobpdaaOuS
namespace Go.Proofs.Ytadldndmmobpdaa
open Go.RowKit

set_option maxRecDepth 100000 in
set_option maxHeartbeats 16000000 in
theorem orsetwins_any (A : Option Addr) (n c : Nat) (xs : List Am) (B : Option Addr) (m d : Nat) (gs : List Tm) (e : List UInt8) (t : Tm) (o : List UInt8) (w : World) (hA : RdA w w.heap.size A n xs) (hB : RdT w w.heap.size B m gs) (hx : ∀ a ∈ xs, a.wf) (hg : ∀ t ∈ gs, t.wf) (hl : ∀ a ∈ xs, a.2.length ≤ maxLen) (ht : t.wf) (hel : e.length ≤ maxLen) :
    Calls Try.prog 10 #[.agg #[.slice A n c, .slice B m d], .string (bs e), .agg #[.int .i64 t.1.1, .int .u32 t.1.2, .int .i64 t.2], .string (bs o)] w fun r w' => r = .returned (.bool true) ∧ Below w.heap.size w w' := by
  have hW : Below w.heap.size w ((w.alloc (.cells #[.slice A n c, .slice B m d] 25)).alloc (.cells #[.int .i64 t.1.1, .int .u32 t.1.2, .int .i64 t.2] 79)) := ((Below.refl _ w).alloc (Nat.le_refl _) _).alloc (by simp) _
  have hbA : ((w.alloc (.cells #[.slice A n c, .slice B m d] 25)).alloc (.cells #[.int .i64 t.1.1, .int .u32 t.1.2, .int .i64 t.2] 79)).heap[w.heap.size]? = some (.cells #[.slice A n c, .slice B m d] 25 (0, 0)) := heap_old _ (by simp) (heap_at _ _ rfl)
  have hbV : ((w.alloc (.cells #[.slice A n c, .slice B m d] 25)).alloc (.cells #[.int .i64 t.1.1, .int .u32 t.1.2, .int .i64 t.2] 79)).heap[w.heap.size + 1]? = some (.cells #[.int .i64 t.1.1, .int .u32 t.1.2, .int .i64 t.2] 79 (0, 0)) := heap_at _ _ (by simp)
  generalize hWe : ((w.alloc (.cells #[.slice A n c, .slice B m d] 25)).alloc (.cells #[.int .i64 t.1.1, .int .u32 t.1.2, .int .i64 t.2] 79)) = W at hW hbA hbV
  have hAk := Lib.hid hbA
  have hVk := Lib.hid hbV
  have hzW := hW.size
  have cW := Lib.hid works_any
  have cGr := Lib.hid (ogreat_any A n c B m d)
  clear hbA hbV
  cases hga : grO n m with
  | true =>
    rw [hga] at cGr
    clear hA hB
    go_enter Try.func10, Try.ntmps10
    go_wp2_with fail
    refine (cW.out _).mono ?_
    rintro r w0 ⟨rfl, hv0⟩
    have hs0 := blk_below hAk.out hv0
    have hltx := blk_lt hs0
    have s0 := blk_cell hs0 0
    have s1 := blk_cell hs0 1
    simp at s0 s1
    go_wp2_with fail
    refine (cGr.out _).mono ?_
    rintro r w1 ⟨rfl, hv1⟩
    have hG := hW.trans ((hv0.trans (hv1.mono hv0.size)).mono hzW)
    go_wp2
    go_ret
    exact ⟨rfl, hG⟩
  | false =>
    rw [hga] at cGr
    have hnm : n ≤ 200 ∧ m ≤ 200 := by unfold grO at hga; rw [decide_eq_false_iff_not] at hga; omega
    obtain ⟨hn, hm⟩ := hnm
    clear hga
    have hxl := hA.len
    have hgl := hB.len
    have hkS : OkS (xs, gs) 200 200 := ⟨hx, hg, hl, by dsimp only; omega, by dsimp only; omega⟩
    have cT := Lib.hid (fun w' (h : Below W.heap.size W w') => oto_any A n c xs B m d gs w' ((hA.below (hW.trans (h.mono hzW))).more (hW.trans (h.mono hzW)).size) ((hB.below (hW.trans (h.mono hzW))).more (hW.trans (h.mono hzW)).size) (by omega) (by omega))
    have cK := Lib.hid (fun A' c' B' d' w' (h1 : RdA w' w'.heap.size A' n xs) (h2 : RdT w' w'.heap.size B' m gs) => ocheck_any A' n c' xs B' m d' gs w' h1 h2 (by simp [maxLen]; omega) (by simp [maxLen]; omega) hx hg hl)
    have cM := Lib.hid (oelem_any e hel)
    by_cases her : oErr xs gs = 0
    case neg =>
      have hnb : (oErr xs gs != 0) = true := by simpa using her
      generalize oErr xs gs = er at cK hnb her
      clear hA hB cM hkS her
      go_enter Try.func10, Try.ntmps10
      go_wp2_with fail
      refine (cW.out _).mono ?_
      rintro r w0 ⟨rfl, hv0⟩
      have hs0 := blk_below hAk.out hv0
      have hltx := blk_lt hs0
      have s0 := blk_cell hs0 0
      have s1 := blk_cell hs0 1
      simp at s0 s1
      go_wp2_with fail
      refine (cGr.out _).mono ?_
      rintro r w1 ⟨rfl, hv1⟩
      have hv01 := hv0.trans (hv1.mono hv0.size)
      have hs1 := blk_below hAk.out hv01
      clear s0 s1 hltx hs0
      have hltx := blk_lt hs1
      have s0 := blk_cell hs1 0
      have s1 := blk_cell hs1 1
      simp at s0 s1
      go_wp2_with fail
      refine (cT.out _ hv01).mono ?_
      rintro r w2 ⟨A0, c0, B0, d0, rfl, o0, p0, hv2⟩
      have hv02 := hv01.trans (hv2.mono hv01.size)
      go_wp2_with fail
      refine (cK.out A0 c0 B0 d0 w2 o0.rdA p0.rdT).mono ?_
      rintro r w3 ⟨rfl, hv3⟩
      have hG3w : Below W.heap.size W w3 := hv02.trans (hv3.mono hv02.size)
      have hG3 := hW.trans (hG3w.mono hzW)
      clear s0 s1 hltx hs1 o0 p0 hv0 hv1 hv2 hv3 hv01 hv02
      have hlW := trivial
      go_wp2
      go_ret
      exact ⟨rfl, hG3⟩
    rw [her] at cK
    cases hle : elemB e with
    | false =>
      rw [hle] at cM
      clear hA hB hkS
      go_enter Try.func10, Try.ntmps10
      go_wp2_with fail
      refine (cW.out _).mono ?_
      rintro r w0 ⟨rfl, hv0⟩
      have hs0 := blk_below hAk.out hv0
      have hltx := blk_lt hs0
      have s0 := blk_cell hs0 0
      have s1 := blk_cell hs0 1
      simp at s0 s1
      go_wp2_with fail
      refine (cGr.out _).mono ?_
      rintro r w1 ⟨rfl, hv1⟩
      have hv01 := hv0.trans (hv1.mono hv0.size)
      have hs1 := blk_below hAk.out hv01
      clear s0 s1 hltx hs0
      have hltx := blk_lt hs1
      have s0 := blk_cell hs1 0
      have s1 := blk_cell hs1 1
      simp at s0 s1
      go_wp2_with fail
      refine (cT.out _ hv01).mono ?_
      rintro r w2 ⟨A0, c0, B0, d0, rfl, o0, p0, hv2⟩
      have hv02 := hv01.trans (hv2.mono hv01.size)
      go_wp2_with fail
      refine (cK.out A0 c0 B0 d0 w2 o0.rdA p0.rdT).mono ?_
      rintro r w3 ⟨rfl, hv3⟩
      have hG3w : Below W.heap.size W w3 := hv02.trans (hv3.mono hv02.size)
      have hG3 := hW.trans (hG3w.mono hzW)
      clear s0 s1 hltx hs1 o0 p0 hv0 hv1 hv2 hv3 hv01 hv02
      have hlW := trivial
      go_wp2_with fail
      refine (cM.out _).mono ?_
      rintro r w4 ⟨rfl, rfl⟩
      go_wp2
      go_ret
      exact ⟨rfl, hG3⟩
    | true =>
    rw [hle] at cM
    by_cases hol : 100 < o.length
    · have hd2 : decide ((100 : Int) < (((bs o).size : Nat) : Int)) = true := decide_eq_true (by rw [bs_size]; omega)
      clear hA hB hkS
      go_enter Try.func10, Try.ntmps10
      go_wp2_with fail
      refine (cW.out _).mono ?_
      rintro r w0 ⟨rfl, hv0⟩
      have hs0 := blk_below hAk.out hv0
      have hltx := blk_lt hs0
      have s0 := blk_cell hs0 0
      have s1 := blk_cell hs0 1
      simp at s0 s1
      go_wp2_with fail
      refine (cGr.out _).mono ?_
      rintro r w1 ⟨rfl, hv1⟩
      have hv01 := hv0.trans (hv1.mono hv0.size)
      have hs1 := blk_below hAk.out hv01
      clear s0 s1 hltx hs0
      have hltx := blk_lt hs1
      have s0 := blk_cell hs1 0
      have s1 := blk_cell hs1 1
      simp at s0 s1
      go_wp2_with fail
      refine (cT.out _ hv01).mono ?_
      rintro r w2 ⟨A0, c0, B0, d0, rfl, o0, p0, hv2⟩
      have hv02 := hv01.trans (hv2.mono hv01.size)
      go_wp2_with fail
      refine (cK.out A0 c0 B0 d0 w2 o0.rdA p0.rdT).mono ?_
      rintro r w3 ⟨rfl, hv3⟩
      have hG3w : Below W.heap.size W w3 := hv02.trans (hv3.mono hv02.size)
      have hG3 := hW.trans (hG3w.mono hzW)
      clear s0 s1 hltx hs1 o0 p0 hv0 hv1 hv2 hv3 hv01 hv02
      have hlW := trivial
      go_wp2_with fail
      refine (cM.out _).mono ?_
      rintro r w4 ⟨rfl, rfl⟩
      go_wp2
      go_ret
      exact ⟨rfl, hG3⟩
    have hd2 : decide ((100 : Int) < (((bs o).size : Nat) : Int)) = false := decide_eq_false (by rw [bs_size]; omega)
    clear hol
    -- the law on plain sets
    obtain ⟨S, hS⟩ : ∃ S, S = tagsO xs gs e := ⟨_, rfl⟩
    obtain ⟨G, hG⟩ : ∃ G, G = dropO xs gs S := ⟨_, rfl⟩
    obtain ⟨P, hP⟩ : ∃ P, P = putO xs gs (t, e) := ⟨_, rfl⟩
    obtain ⟨Q, hQ⟩ : ∃ Q, Q = dropO P.1.1 P.1.2 S := ⟨_, rfl⟩
    obtain ⟨U, hU⟩ : ∃ U, U = putO G.1.1 G.1.2 (t, e) := ⟨_, rfl⟩
    have hlaw := wins_law (o := o) her hle (by rw [hxl]; exact hn) (by rw [hgl]; exact hm) hS hG hP hQ hU
    obtain ⟨hG0, hGe, hGo, hlaw2⟩ := hlaw
    have hlawH := Lib.hid hlaw2
    have hSw : ∀ u ∈ S, u.wf := fun u hu => by
      rw [hS] at hu
      obtain ⟨a, ha, rfl, _⟩ := (tagsO_mem her u).1 hu
      exact hx a ha
    have hSl : S.length ≤ 200 := by
      rw [hS]
      exact Nat.le_trans tagsO_len (by rw [hxl]; exact hn)
    have hkG : OkS G.1 200 400 := hG ▸ hkS.drop hSw hSl
    have hkP : OkS P.1 201 200 := hP ▸ hkS.put ht hel
    have hkQ : OkS Q.1 201 400 := hQ ▸ OkS.drop (xs := P.1.1) (gs := P.1.2) hkP hSw hSl
    have hkU : OkS U.1 201 400 := hU ▸ OkS.put (xs := G.1.1) (gs := G.1.2) hkG ht hel
    have cTg := Lib.hid (fun A' c' B' d' w' (h1 : RdA w' w'.heap.size A' n xs) (h2 : RdT w' w'.heap.size B' m gs) => hS ▸ otags_any A' n c' xs B' m d' gs e w' h1 h2 (by omega) (by omega) hx hg hl)
    have cD := Lib.hid (fun A' c' B' d' C' k f' w' (h1 : RdA w' w'.heap.size A' n xs) (h2 : RdT w' w'.heap.size B' m gs) (h3 : RdT w' w'.heap.size C' k S) => hG ▸ hkS.dropC (by omega) (by omega) S hSw (by omega) A' n c' B' m d' C' k f' w' h1 h2 h3)
    have cP := Lib.hid (fun A' c' B' d' w' (h1 : RdA w' w'.heap.size A' n xs) (h2 : RdT w' w'.heap.size B' m gs) => hP ▸ hkS.putC (by omega) (by omega) (t, e) ht hel A' n c' B' m d' w' h1 h2)
    have cHx := Lib.hid (fun A' c' B' d' w' (h1 : RdA w' w'.heap.size A' n xs) (h2 : RdT w' w'.heap.size B' m gs) => hkS.has (by omega) (by omega) o A' n c' B' m d' w' h1 h2)
    have cHge := Lib.hid (fun A' n' c' B' m' d' w' h1 h2 => hGe ▸ hkG.has (by omega) (by omega) e A' n' c' B' m' d' w' h1 h2)
    have cHgo := Lib.hid (fun A' n' c' B' m' d' w' h1 h2 => hkG.has (by omega) (by omega) o A' n' c' B' m' d' w' h1 h2)
    have cDP := Lib.hid (fun A' n' c' B' m' d' C' k f' w' h1 h2 h3 => hQ ▸ hkP.dropC (by omega) (by omega) S hSw (by omega) A' n' c' B' m' d' C' k f' w' h1 h2 h3)
    have cU := Lib.hid (fun A' n' c' B' m' d' w' h1 h2 => hU ▸ hkG.putC (by omega) (by omega) (t, e) ht hel A' n' c' B' m' d' w' h1 h2)
    have cHq := Lib.hid (fun A' n' c' B' m' d' w' h1 h2 => hkQ.has (by omega) (by omega) e A' n' c' B' m' d' w' h1 h2)
    have cHu := Lib.hid (fun A' n' c' B' m' d' w' h1 h2 => hkU.has (by omega) (by omega) e A' n' c' B' m' d' w' h1 h2)
    have cFq := Lib.hid (fun A' n' c' B' m' d' w' h1 h2 => hkQ.fromC (by omega) (by omega) A' n' c' B' m' d' w' h1 h2)
    have cFu := Lib.hid (fun A' n' c' B' m' d' w' h1 h2 => hkU.fromC (by omega) (by omega) A' n' c' B' m' d' w' h1 h2)
    have hlQ := Lib.hid (And.intro hkQ.lx hkQ.lg)
    have hlU := Lib.hid (And.intro hkU.lx hkU.lg)
    have hGoH := Lib.hid hGo
    have hAr := Lib.hid (fun w' (h : Below w.heap.size w w') => hA.below h)
    have hBr := Lib.hid (fun w' (h : Below w.heap.size w w') => hB.below h)
    have hxlH := Lib.hid hxl
    have hglH := Lib.hid hgl
    generalize hbo : hasO xs gs o = ho at cHx hGoH
    clear hA hB hkS hkG hkP hkQ hkU hGe hGo hlaw2 hS hG hP hQ hU hSw hx hg hl hxl hgl her hle hbo ht
    have hG0H := Lib.hid hG0
    clear hG0
    go_enter Try.func10, Try.ntmps10
    go_wp2_with fail
    refine (cW.out _).mono ?_
    rintro r w0 ⟨rfl, hv0⟩
    have hs0 := blk_below hAk.out hv0
    have hltx := blk_lt hs0
    have s0 := blk_cell hs0 0
    have s1 := blk_cell hs0 1
    simp at s0 s1
    go_wp2_with fail
    refine (cGr.out _).mono ?_
    rintro r w1 ⟨rfl, hv1⟩
    have hv01 := hv0.trans (hv1.mono hv0.size)
    have hs1 := blk_below hAk.out hv01
    clear s0 s1 hltx hs0
    have hltx := blk_lt hs1
    have s0 := blk_cell hs1 0
    have s1 := blk_cell hs1 1
    simp at s0 s1
    go_wp2_with fail
    refine (cT.out _ hv01).mono ?_
    rintro r w2 ⟨A0, c0, B0, d0, rfl, o0, p0, hv2⟩
    have hv02 := hv01.trans (hv2.mono hv01.size)
    go_wp2_with fail
    refine (cK.out A0 c0 B0 d0 w2 o0.rdA p0.rdT).mono ?_
    rintro r w3 ⟨rfl, hv3⟩
    have hG3w : Below W.heap.size W w3 := hv02.trans (hv3.mono hv02.size)
    have hG3 := hW.trans (hG3w.mono hzW)
    clear s0 s1 hltx hs1 o0 p0 hv0 hv1 hv2 hv3 hv01 hv02
    have hlW := trivial
    go_wp2_with fail
    refine (cM.out _).mono ?_
    rintro r w4' ⟨rfl, rfl⟩
    have hs3 := blk_below hAk.out hG3w
    clear cW cGr cM cK hlW
    have hltx := blk_lt hs3
    have s0 := blk_cell hs3 0
    have s1 := blk_cell hs3 1
    simp at s0 s1
    go_wp2_with fail
    refine (cT.out _ hG3w).mono ?_
    rintro r w4 ⟨A1, c1, B1, d1, rfl, o1, p1, hb1⟩
    go_upto_region 6 with (fail)
    obtain ⟨w5, hwn⟩ : ∃ w9, w4.alloc (.cells #[.slice A1 n c1, .slice B1 m d1] 32) = w9 := ⟨_, rfl⟩
    have hbX : w5.heap[w4.heap.size]? = some (.cells #[.slice A1 n c1, .slice B1 m d1] 32 (0, 0)) := by rw [← hwn]; exact heap_at _ _ rfl
    have hb45 : Below w4.heap.size w4 w5 := by rw [← hwn]; exact (Below.refl _ w4).alloc (Nat.le_refl _) _
    rw [hwn]
    clear hwn
    have hG5 : Below W.heap.size W w5 := hG3w.trans ((hb1.trans (hb45.mono hb1.size)).mono hG3w.size)
    have hX := Lib.hid (And.intro (o1.below hb45).rdA (p1.below hb45).rdT)
    have hbXH := Lib.hid hbX
    clear s0 s1 hltx o1 p1 hb1 hb45 cT hs3
    have hltx := blk_lt hbX
    have s0 := blk_cell hbX 0
    have s1 := blk_cell hbX 1
    simp at s0 s1
    clear hbX
    go_wp2_with fail
    refine (cTg.out A1 c1 B1 d1 w5 hX.out.1 hX.out.2).mono ?_
    rintro r w6 ⟨T, k, f, rfl, oS, hv6⟩
    have hkl : S.length = k := by simpa using oS.rd.2.1
    have hk : k ≤ 200 := by omega
    have hz6 := hv6.size
    have hG6 : Below W.heap.size W w6 := hG5.trans (hv6.mono hG5.size)
    have hC6 : RdT w6 w6.heap.size T k S := oS.rdT
    have hX6 := Lib.hid (And.intro ((hX.out.1.below hv6).more hz6) ((hX.out.2.below hv6).more hz6))
    have hbX6 := blk_below hbXH.out hv6
    have hbX6H := Lib.hid hbX6
    have hklH := Lib.hid hkl
    clear s0 s1 hltx hX hbXH oS hv6 hkl cTg
    have hltx := blk_lt hbX6
    have s0 := blk_cell hbX6 0
    have s1 := blk_cell hbX6 1
    simp at s0 s1
    clear hbX6
    have cD2 := Lib.hid (fun C' f' w' (hh : KQ w6.heap.size w6 w') (h3 : RdT w' w'.heap.size C' k S) => cD.out A1 c1 B1 d1 C' k f' w' ((hX6.out.1.below hh.1).more hh.1.size) ((hX6.out.2.below hh.1).more hh.1.size) h3)
    clear cD
    go_upto_region 7 with (fail)
    go_cut [11, 12] (fun sa sb wx => ∃ g A' n' c' B' m' d', sa = .pointer (some ⟨g, 0, none⟩) ∧ w6.heap.size ≤ g ∧ sb = .int .i64 G.2 ∧ wx.heap[g]? = some (.cells #[.slice A' n' c', .slice B' m' d'] 32 (0, 0)) ∧ RdA wx wx.heap.size A' n' G.1.1 ∧ RdT wx wx.heap.size B' m' G.1.2 ∧ n' ≤ 5000 ∧ m' ≤ 9000 ∧ Below w6.heap.size w6 wx)
    case first =>
      as_aux_lemma =>
      have hq0 : KQ w6.heap.size w6 w6 := kq (Below.refl _ _)
      go_region_held3 (fun w' => KQ w6.heap.size w6 w') (first
      | with_reducible exact kq_call (by assumption) (by simp) (by assumption)
      | with_reducible exact kq_grown (by assumption) (by simp) (by assumption) (by simp [Value.ownBlock])
      | ((repeat (first | (with_reducible refine kq_set ?_ (by first | (simp; done) | (simp; omega) | omega) _) | (with_reducible refine kq_alloc ?_ (by first | exact Nat.le_refl _ | (simp; done) | (simp; omega)) _))); (with_reducible assumption))
      | ((with_reducible refine kq ?_); (repeat (first | (with_reducible exact Below.refl _ _) | (with_reducible refine Below.drew ?_) | (with_reducible refine Below.alloc ?_ (by simp) _) | (with_reducible refine Below.setCell ?_ (by simp) _) | (with_reducible exact (by assumption : KQ _ _ _).1))); done))
        (first
          | (go_at_call 40
             (with_reducible refine (cD2.out A4 c4' _ (by first | exact hq4 | exact kq_alloc hq4 (Nat.le_refl _) _ | fail : KQ w6.heap.size w6 _) (by first | exact hown4'.rdT | exact (hown4'.below ((Below.refl _ _).alloc (Nat.le_refl _) _)).rdT | fail)).mono ?_)
             rintro e v5 ⟨A5, n5, c5, B5, m5, d5, rfl, hY1, hY2, hn5, hm5, _, _, _, _, hb5⟩
             have hz5 := hb5.size
             (try simp at hz5)
             have hq5 : KQ w6.heap.size w6 v5 := kq_call (by assumption) (Nat.le_refl _) hb5
             (first
               | (have hx5 := (hb5.block _ (blk_lt hx4)).trans hx4
                  have hfx := blk_frozen hx5
                  have x0 := blk_cell hx5 0
                  have x1 := blk_cell hx5 1
                  simp at x0 x1)
               | (have hx5 : v5.heap[v4.heap.size]? = some (.cells #[.slice none 0 0, .slice none 0 0] 32 (0, 0)) := (hb5.block _ (by simp; done)).trans (heap_at _ _ rfl)
                  have hfx := blk_frozen hx5
                  have x0 := blk_cell hx5 0
                  have x1 := blk_cell hx5 1
                  simp at x0 x1)
               | skip)
            )
          | (skip
             refine step_append_rd _ rfl _ _ _ rfl eTag (base := w6.heap.size) (v := .slice (some ⟨w6.heap.size, 0, none⟩) 0 0) (xs := []) rfl (Ow.made_at (by first | exact heap_drew (heap_at _ _ (by first | rfl | (simp; done))) | exact heap_drew (heap_old _ (by simp) (heap_drew (heap_at _ _ rfl)))) (by omega)) rfl (kq_rd (n := w6.heap.size) hC6 (Nat.le_refl _) (by assumption)) Tm.len Tm.one (by simp [maxLen]; omega) (by simp; omega) (by first | (simp; done) | (simp; omega)) ?_
             intro A4 n4 c4' v4 hn4 hown4 hg4 hat4
             obtain rfl : k = n4 := by simpa using hn4.symm
             clear hn4 hat4
             have hz4 := hg4.size
             simp at hz4
             have hown4' : Ow v4 w6.heap.size 79 3 (.slice A4 k c4') ((S).map Tm.enc) := by simpa using hown4
             clear hown4
             (try (have hx4 : v4.heap[w6.heap.size + 1]? = some (.cells #[.slice none 0 0, .slice none 0 0] 32 (0, 0)) := (hg4.block _ (by simp; done) (by simp [Value.ownBlock]; done)).trans (heap_drew (heap_at _ _ (by simp; done)))))
             (try (have hx4 : v4.heap[w6.heap.size]? = some (.cells #[.slice none 0 0, .slice none 0 0] 32 (0, 0)) := (hg4.block _ (by simp; omega) (by simp [Value.ownBlock]; done)).trans (heap_drew (heap_old _ (by simp; done) (heap_drew (heap_at _ _ rfl))))))
             have hq4 : KQ w6.heap.size w6 v4 := by
               refine kq_grown ?_ (Nat.le_refl _) hg4 ?_
               · assumption
               · intro k hk; simp [Value.ownBlock] at hk; omega
             clear hg4
            )
          | (skip
             refine step_append_rd _ rfl _ _ _ rfl eTag (base := w6.heap.size) (v := .slice (some ⟨w6.heap.size + 1, 0, none⟩) 0 0) (xs := []) rfl (Ow.made_at (by first | exact heap_drew (heap_at _ _ (by first | rfl | (simp; done))) | exact heap_drew (heap_old _ (by simp) (heap_drew (heap_at _ _ rfl)))) (by omega)) rfl (kq_rd (n := w6.heap.size) hC6 (Nat.le_refl _) (by assumption)) Tm.len Tm.one (by simp [maxLen]; omega) (by simp; omega) (by first | (simp; done) | (simp; omega)) ?_
             intro A4 n4 c4' v4 hn4 hown4 hg4 hat4
             obtain rfl : k = n4 := by simpa using hn4.symm
             clear hn4 hat4
             have hz4 := hg4.size
             simp at hz4
             have hown4' : Ow v4 w6.heap.size 79 3 (.slice A4 k c4') ((S).map Tm.enc) := by simpa using hown4
             clear hown4
             (try (have hx4 : v4.heap[w6.heap.size + 1]? = some (.cells #[.slice none 0 0, .slice none 0 0] 32 (0, 0)) := (hg4.block _ (by simp; done) (by simp [Value.ownBlock]; done)).trans (heap_drew (heap_at _ _ (by simp; done)))))
             (try (have hx4 : v4.heap[w6.heap.size]? = some (.cells #[.slice none 0 0, .slice none 0 0] 32 (0, 0)) := (hg4.block _ (by simp; omega) (by simp [Value.ownBlock]; done)).trans (heap_drew (heap_old _ (by simp; done) (heap_drew (heap_at _ _ rfl))))))
             have hq4 : KQ w6.heap.size w6 v4 := by
               refine kq_grown ?_ (Nat.le_refl _) hg4 ?_
               · assumption
               · intro k hk; simp [Value.ownBlock] at hk; omega
             clear hg4
            )
          | fail "no arm")
      all_goals
      (have hYH := Lib.hid (And.intro hY1 hY2)
       have hk5 : Below w6.heap.size w6 v5 := hq5.1
       have hk5H := Lib.hid hk5
       have hzk := hk5.size
       go_wp2_with fail
       go_meet
       first
         | (have hb3 : Below v5.heap.size v5 (v5.alloc (.cells #[.slice A5 n5 c5, .slice B5 m5 d5] 32)) := (Below.refl _ v5).alloc (Nat.le_refl _) _
            exact ⟨v5.heap.size, A5, n5, c5, B5, m5, d5, rfl, hzk, rfl, heap_at _ _ rfl, (hYH.out.1.below hb3).more hb3.size, (hYH.out.2.below hb3).more hb3.size, hn5, hm5, hk5H.out.trans (hb3.mono hzk)⟩)
         | (have ha3 := (hYH.out.1.set_other hx5 0 (.slice A5 n5 c5)).set_other (blk_set hx5 0 (.slice A5 n5 c5)) 1 (.slice B5 m5 d5)
            have hb3 := (hYH.out.2.set_other hx5 0 (.slice A5 n5 c5)).set_other (blk_set hx5 0 (.slice A5 n5 c5)) 1 (.slice B5 m5 d5)
            have hx3 := blk_set (blk_set hx5 0 (.slice A5 n5 c5)) 1 (.slice B5 m5 d5)
            exact ⟨_, A5, n5, c5, B5, m5, d5, rfl, by omega, rfl, hx3, by rw [World.size_setCell, World.size_setCell]; exact ha3, by rw [World.size_setCell, World.size_setCell]; exact hb3, hn5, hm5, (hk5H.out.setCell (by dsimp only; omega) _).setCell (by dsimp only; omega) _⟩))
    obtain ⟨g7, A2, n2, c2, B2, m2, d2, rfl, hg7, rfl, hbG, hY1, hY2, hn2, hm2, hB7⟩ := hcut
    obtain ⟨w7, hw7⟩ : ∃ w7, w7 = wc := ⟨_, rfl⟩
    obtain rfl := hw7
    have hG7 : Below W.heap.size W w7 := hG6.trans (hB7.mono hG6.size)
    have hz7 := hB7.size
    have hbX7 := blk_below hbX6H.out hB7
    have hX7 := Lib.hid (And.intro ((hX6.out.1.below hB7).more hz7) ((hX6.out.2.below hB7).more hz7))
    have hY7 := Lib.hid (And.intro hY1 hY2)
    have hS7 := Lib.hid ((RdT.below hC6 hB7).more hz7)
    have hbG7 := Lib.hid hbG
    have hbX7H := Lib.hid hbX7
    clear s0 s1 hltx cD2 hX6 hbX6H hC6 hY1 hY2 hB7
    have hltx := blk_lt hbX7
    have s0 := blk_cell hbX7 0
    have s1 := blk_cell hbX7 1
    simp at s0 s1
    have hltg := blk_lt hbG
    have b0 := blk_cell hbG 0
    have b1 := blk_cell hbG 1
    simp at b0 b1
    clear hbX7 hbG
    rw [hG0H.out]
    go_upto_region 8 with (fail)
    go_cut [76] (fun sa wx => sa = .bool false ∧ Below w7.heap.size w7 wx)
    case first =>
      as_aux_lemma =>
      by_cases hoe : o = e
      · have hqb : ((bs o).toList == (bs e).toList) = true := by rw [bs_empty, bs_empty, hoe]; simp
        clear hoe
        refine wp_region_M (fun w' => KQ w7.heap.size w7 w') (fun _ => True) 99 (by kernel_rfl) (kq (Below.refl _ _).drew) trivial ?_
        intro hcl
        have hC : KQ w7.heap.size w7 w7.drew := kq (Below.refl _ _).drew
        have hE := trivial
        have hK0 : Below w7.heap.size w7 w7.drew := (Below.refl _ _).drew
        (refine wpM_take (i := 0) (v := ?_) rfl (by kernel_rfl) (by kernel_rfl) (by kernel_rfl) (by decide) (fun _ _ _ h => h) hcl hC (fun _ => hE) (Or.inl ⟨by rfl, ?_⟩) ?_; rotate_left; (· (intro w hSw; (try dsimp only at hSw); go_simp; (try with_reducible rfl))); clear hcl; intro hcl; (try simp only [Act.put, List.getElem_toArray, List.getElem_cons_zero, List.getElem_cons_succ, List.setIfInBounds_toArray, List.set_cons_zero, List.set_cons_succ]))
        (refine wpM_take (i := 1) (v := ?_) rfl (by kernel_rfl) (by kernel_rfl) (by kernel_rfl) (by decide) (fun _ _ _ h => h) hcl hC (fun _ => hE) (Or.inl ⟨by rfl, ?_⟩) ?_; rotate_left; (· (intro w hSw; (try dsimp only at hSw); go_simp; (try with_reducible rfl))); clear hcl; intro hcl; (try simp only [Act.put, List.getElem_toArray, List.getElem_cons_zero, List.getElem_cons_succ, List.setIfInBounds_toArray, List.set_cons_zero, List.set_cons_succ]))
        (refine wpM_take (i := 2) (v := ?_) rfl (by kernel_rfl) (by kernel_rfl) (by kernel_rfl) (by decide) (fun _ _ _ h => h) hcl hC (fun _ => hE) (Or.inl ⟨by rfl, ?_⟩) ?_; rotate_left; (· (intro w hSw; (try dsimp only at hSw); go_simp; (try with_reducible rfl))); clear hcl; intro hcl; (try simp only [Act.put, List.getElem_toArray, List.getElem_cons_zero, List.getElem_cons_succ, List.setIfInBounds_toArray, List.set_cons_zero, List.set_cons_succ]))
        (refine wpM_take (i := 3) (v := ?_) rfl (by kernel_rfl) (by kernel_rfl) (by kernel_rfl) (by decide) (fun _ _ _ h => h) hcl hC (fun _ => hE) (Or.inl ⟨by rfl, ?_⟩) ?_; rotate_left; (· (intro w hSw; (try dsimp only at hSw); go_simp; (try with_reducible rfl))); clear hcl; intro hcl; (try simp only [Act.put, List.getElem_toArray, List.getElem_cons_zero, List.getElem_cons_succ, List.setIfInBounds_toArray, List.set_cons_zero, List.set_cons_succ]))
        (refine wpM_take (i := 4) (v := ?_) rfl (by kernel_rfl) (by kernel_rfl) (by kernel_rfl) (by decide) (fun _ _ _ h => h) hcl hC (fun _ => hE) (Or.inl ⟨by rfl, ?_⟩) ?_; rotate_left; (· (intro w hSw; (try dsimp only at hSw); go_simp; (try with_reducible rfl))); clear hcl; intro hcl; (try simp only [Act.put, List.getElem_toArray, List.getElem_cons_zero, List.getElem_cons_succ, List.setIfInBounds_toArray, List.set_cons_zero, List.set_cons_succ]))
        refine wpM_only (i := 5) rfl (by kernel_rfl) hcl (fun K hK => ?_)
        go_simp
        refine (cHge.out A2 n2 c2 B2 m2 d2 w7.drew ((hY7.out.1.below hK0).more hK0.size) ((hY7.out.2.below hK0).more hK0.size)).mono ?_
        rintro r v1 ⟨rfl, hv1⟩
        have hK1 : Below w7.heap.size w7 v1 := hK0.trans (hv1.mono hK0.size)
        have hC1 : KQ w7.heap.size w7 v1 := kq hK1
        refine hK.out _ _ hC1 trivial ?_
        clear hK K
        clear hcl
        intro hcl
        (try simp only [Act.put, List.getElem_toArray, List.getElem_cons_zero, List.getElem_cons_succ, List.setIfInBounds_toArray, List.set_cons_zero, List.set_cons_succ])
        clear hC
        have hC := hC1
        (refine wpM_take (i := 6) (v := ?_) rfl (by kernel_rfl) (by kernel_rfl) (by kernel_rfl) (by decide) (fun _ _ _ h => h) hcl hC (fun _ => hE) (Or.inl ⟨by rfl, ?_⟩) ?_; rotate_left; (· (intro w hSw; (try dsimp only at hSw); go_simp; (try with_reducible rfl))); clear hcl; intro hcl; (try simp only [Act.put, List.getElem_toArray, List.getElem_cons_zero, List.getElem_cons_succ, List.setIfInBounds_toArray, List.set_cons_zero, List.set_cons_succ]))
        (refine wpM_take (i := 7) (v := ?_) rfl (by kernel_rfl) (by kernel_rfl) (by kernel_rfl) (by decide) (fun _ _ _ h => h) hcl hC (fun _ => hE) (Or.inl ⟨by rfl, ?_⟩) ?_; rotate_left; (· (intro w hSw; (try dsimp only at hSw); go_simp; (try with_reducible rfl))); clear hcl; intro hcl; (try simp only [Act.put, List.getElem_toArray, List.getElem_cons_zero, List.getElem_cons_succ, List.setIfInBounds_toArray, List.set_cons_zero, List.set_cons_succ]))
        (refine wpM_take (i := 8) (v := ?_) rfl (by kernel_rfl) (by kernel_rfl) (by kernel_rfl) (by decide) (fun _ _ _ h => h) hcl hC (fun _ => hE) (Or.inl ⟨by rfl, ?_⟩) ?_; rotate_left; (· (intro w hSw; (try dsimp only at hSw); go_simp; (try with_reducible rfl))); clear hcl; intro hcl; (try simp only [Act.put, List.getElem_toArray, List.getElem_cons_zero, List.getElem_cons_succ, List.setIfInBounds_toArray, List.set_cons_zero, List.set_cons_succ]))
        (refine wpM_take (i := 9) (v := ?_) rfl (by kernel_rfl) (by kernel_rfl) (by kernel_rfl) (by decide) (fun _ _ _ h => h) hcl hC (fun _ => hE) (Or.inl ⟨by rfl, ?_⟩) ?_; rotate_left; (· (intro w hSw; (try dsimp only at hSw); go_simp; (try with_reducible rfl))); clear hcl; intro hcl; (try simp only [Act.put, List.getElem_toArray, List.getElem_cons_zero, List.getElem_cons_succ, List.setIfInBounds_toArray, List.set_cons_zero, List.set_cons_succ]))
        (refine wpM_take (i := 10) (v := ?_) rfl (by kernel_rfl) (by kernel_rfl) (by kernel_rfl) (by decide) (fun _ _ _ h => h) hcl hC (fun _ => hE) (Or.inl ⟨by rfl, ?_⟩) ?_; rotate_left; (· (intro w hSw; (try dsimp only at hSw); go_simp; (try with_reducible rfl))); clear hcl; intro hcl; (try simp only [Act.put, List.getElem_toArray, List.getElem_cons_zero, List.getElem_cons_succ, List.setIfInBounds_toArray, List.set_cons_zero, List.set_cons_succ]))
        (refine wpM_take (i := 11) (v := ?_) rfl (by kernel_rfl) (by kernel_rfl) (by kernel_rfl) (by decide) (fun _ _ _ h => h) hcl hC (fun _ => hE) (Or.inl ⟨by rfl, ?_⟩) ?_; rotate_left; (· (intro w hSw; (try dsimp only at hSw); go_simp; (try with_reducible rfl))); clear hcl; intro hcl; (try simp only [Act.put, List.getElem_toArray, List.getElem_cons_zero, List.getElem_cons_succ, List.setIfInBounds_toArray, List.set_cons_zero, List.set_cons_succ]))
        (refine wpM_take (i := 12) (v := undef) rfl (by kernel_rfl) (by kernel_rfl) (by kernel_rfl) (by decide) (fun _ _ _ h => h) hcl hC (fun _ => hE) (Or.inr ⟨by rfl, rfl⟩) ?_; clear hcl; intro hcl; (try simp only [Act.put, List.getElem_toArray, List.getElem_cons_zero, List.getElem_cons_succ, List.setIfInBounds_toArray, List.set_cons_zero, List.set_cons_succ]))
        (refine wpM_take (i := 13) (v := undef) rfl (by kernel_rfl) (by kernel_rfl) (by kernel_rfl) (by decide) (fun _ _ _ h => h) hcl hC (fun _ => hE) (Or.inr ⟨by rfl, rfl⟩) ?_; clear hcl; intro hcl; (try simp only [Act.put, List.getElem_toArray, List.getElem_cons_zero, List.getElem_cons_succ, List.setIfInBounds_toArray, List.set_cons_zero, List.set_cons_succ]))
        (refine wpM_take (i := 14) (v := undef) rfl (by kernel_rfl) (by kernel_rfl) (by kernel_rfl) (by decide) (fun _ _ _ h => h) hcl hC (fun _ => hE) (Or.inr ⟨by rfl, rfl⟩) ?_; clear hcl; intro hcl; (try simp only [Act.put, List.getElem_toArray, List.getElem_cons_zero, List.getElem_cons_succ, List.setIfInBounds_toArray, List.set_cons_zero, List.set_cons_succ]))
        (refine wpM_take (i := 15) (v := undef) rfl (by kernel_rfl) (by kernel_rfl) (by kernel_rfl) (by decide) (fun _ _ _ h => h) hcl hC (fun _ => hE) (Or.inr ⟨by rfl, rfl⟩) ?_; clear hcl; intro hcl; (try simp only [Act.put, List.getElem_toArray, List.getElem_cons_zero, List.getElem_cons_succ, List.setIfInBounds_toArray, List.set_cons_zero, List.set_cons_succ]))
        (refine wpM_take (i := 16) (v := undef) rfl (by kernel_rfl) (by kernel_rfl) (by kernel_rfl) (by decide) (fun _ _ _ h => h) hcl hC (fun _ => hE) (Or.inr ⟨by rfl, rfl⟩) ?_; clear hcl; intro hcl; (try simp only [Act.put, List.getElem_toArray, List.getElem_cons_zero, List.getElem_cons_succ, List.setIfInBounds_toArray, List.set_cons_zero, List.set_cons_succ]))
        (refine wpM_take (i := 17) (v := undef) rfl (by kernel_rfl) (by kernel_rfl) (by kernel_rfl) (by decide) (fun _ _ _ h => h) hcl hC (fun _ => hE) (Or.inr ⟨by rfl, rfl⟩) ?_; clear hcl; intro hcl; (try simp only [Act.put, List.getElem_toArray, List.getElem_cons_zero, List.getElem_cons_succ, List.setIfInBounds_toArray, List.set_cons_zero, List.set_cons_succ]))
        (refine wpM_take (i := 18) (v := undef) rfl (by kernel_rfl) (by kernel_rfl) (by kernel_rfl) (by decide) (fun _ _ _ h => h) hcl hC (fun _ => hE) (Or.inr ⟨by rfl, rfl⟩) ?_; clear hcl; intro hcl; (try simp only [Act.put, List.getElem_toArray, List.getElem_cons_zero, List.getElem_cons_succ, List.setIfInBounds_toArray, List.set_cons_zero, List.set_cons_succ]))
        (refine wpM_take (i := 19) (v := ?_) rfl (by kernel_rfl) (by kernel_rfl) (by kernel_rfl) (by decide) (fun _ _ _ h => h) hcl hC (fun _ => hE) (Or.inl ⟨by rfl, ?_⟩) ?_; rotate_left; (· (intro w hSw; (try dsimp only at hSw); go_simp; (try with_reducible rfl))); clear hcl; intro hcl; (try simp only [Act.put, List.getElem_toArray, List.getElem_cons_zero, List.getElem_cons_succ, List.setIfInBounds_toArray, List.set_cons_zero, List.set_cons_succ]))
        (refine wpM_take (i := 20) (v := ?_) rfl (by kernel_rfl) (by kernel_rfl) (by kernel_rfl) (by decide) (fun _ _ _ h => h) hcl hC (fun _ => hE) (Or.inl ⟨by rfl, ?_⟩) ?_; rotate_left; (· (intro w hSw; (try dsimp only at hSw); go_simp; (try with_reducible rfl))); clear hcl; intro hcl; (try simp only [Act.put, List.getElem_toArray, List.getElem_cons_zero, List.getElem_cons_succ, List.setIfInBounds_toArray, List.set_cons_zero, List.set_cons_succ]))
        refine wpM_done (by kernel_rfl) ?_
        clear hcl hE
        try simp only [Act.put, List.getElem_toArray, List.getElem_cons_zero, List.getElem_cons_succ, List.setIfInBounds_toArray, List.set_cons_zero, List.set_cons_succ]
        have hfin := hC.1
        go_wp2_with fail
        go_meet
        exact ⟨rfl, hfin⟩
      · have hqb : ((bs o).toList == (bs e).toList) = false := by rw [bs_empty, bs_empty, beq_eq_false_iff_ne]; exact hoe
        have hgo2 := hGoH.out hoe
        have hnn : (ho != ho) = false := by cases ho <;> rfl
        have cHgo2 := Lib.hid (fun A' n' c' B' m' d' w' h1 h2 => hgo2 ▸ cHgo.out A' n' c' B' m' d' w' h1 h2)
        clear hoe hgo2
        refine wp_region_M (fun w' => KQ w7.heap.size w7 w') (fun _ => True) 99 (by kernel_rfl) (kq (Below.refl _ _).drew) trivial ?_
        intro hcl
        have hC : KQ w7.heap.size w7 w7.drew := kq (Below.refl _ _).drew
        have hE := trivial
        have hK0 : Below w7.heap.size w7 w7.drew := (Below.refl _ _).drew
        (refine wpM_take (i := 0) (v := ?_) rfl (by kernel_rfl) (by kernel_rfl) (by kernel_rfl) (by decide) (fun _ _ _ h => h) hcl hC (fun _ => hE) (Or.inl ⟨by rfl, ?_⟩) ?_; rotate_left; (· (intro w hSw; (try dsimp only at hSw); go_simp; (try with_reducible rfl))); clear hcl; intro hcl; (try simp only [Act.put, List.getElem_toArray, List.getElem_cons_zero, List.getElem_cons_succ, List.setIfInBounds_toArray, List.set_cons_zero, List.set_cons_succ]))
        (refine wpM_take (i := 1) (v := ?_) rfl (by kernel_rfl) (by kernel_rfl) (by kernel_rfl) (by decide) (fun _ _ _ h => h) hcl hC (fun _ => hE) (Or.inl ⟨by rfl, ?_⟩) ?_; rotate_left; (· (intro w hSw; (try dsimp only at hSw); go_simp; (try with_reducible rfl))); clear hcl; intro hcl; (try simp only [Act.put, List.getElem_toArray, List.getElem_cons_zero, List.getElem_cons_succ, List.setIfInBounds_toArray, List.set_cons_zero, List.set_cons_succ]))
        (refine wpM_take (i := 2) (v := ?_) rfl (by kernel_rfl) (by kernel_rfl) (by kernel_rfl) (by decide) (fun _ _ _ h => h) hcl hC (fun _ => hE) (Or.inl ⟨by rfl, ?_⟩) ?_; rotate_left; (· (intro w hSw; (try dsimp only at hSw); go_simp; (try with_reducible rfl))); clear hcl; intro hcl; (try simp only [Act.put, List.getElem_toArray, List.getElem_cons_zero, List.getElem_cons_succ, List.setIfInBounds_toArray, List.set_cons_zero, List.set_cons_succ]))
        (refine wpM_take (i := 3) (v := ?_) rfl (by kernel_rfl) (by kernel_rfl) (by kernel_rfl) (by decide) (fun _ _ _ h => h) hcl hC (fun _ => hE) (Or.inl ⟨by rfl, ?_⟩) ?_; rotate_left; (· (intro w hSw; (try dsimp only at hSw); go_simp; (try with_reducible rfl))); clear hcl; intro hcl; (try simp only [Act.put, List.getElem_toArray, List.getElem_cons_zero, List.getElem_cons_succ, List.setIfInBounds_toArray, List.set_cons_zero, List.set_cons_succ]))
        (refine wpM_take (i := 4) (v := ?_) rfl (by kernel_rfl) (by kernel_rfl) (by kernel_rfl) (by decide) (fun _ _ _ h => h) hcl hC (fun _ => hE) (Or.inl ⟨by rfl, ?_⟩) ?_; rotate_left; (· (intro w hSw; (try dsimp only at hSw); go_simp; (try with_reducible rfl))); clear hcl; intro hcl; (try simp only [Act.put, List.getElem_toArray, List.getElem_cons_zero, List.getElem_cons_succ, List.setIfInBounds_toArray, List.set_cons_zero, List.set_cons_succ]))
        refine wpM_only (i := 5) rfl (by kernel_rfl) hcl (fun K hK => ?_)
        go_simp
        refine (cHge.out A2 n2 c2 B2 m2 d2 w7.drew ((hY7.out.1.below hK0).more hK0.size) ((hY7.out.2.below hK0).more hK0.size)).mono ?_
        rintro r v1 ⟨rfl, hv1⟩
        have hK1 : Below w7.heap.size w7 v1 := hK0.trans (hv1.mono hK0.size)
        have hC1 : KQ w7.heap.size w7 v1 := kq hK1
        refine hK.out _ _ hC1 trivial ?_
        clear hK K
        clear hcl
        intro hcl
        (try simp only [Act.put, List.getElem_toArray, List.getElem_cons_zero, List.getElem_cons_succ, List.setIfInBounds_toArray, List.set_cons_zero, List.set_cons_succ])
        clear hC
        have hC := hC1
        (refine wpM_take (i := 6) (v := ?_) rfl (by kernel_rfl) (by kernel_rfl) (by kernel_rfl) (by decide) (fun _ _ _ h => h) hcl hC (fun _ => hE) (Or.inl ⟨by rfl, ?_⟩) ?_; rotate_left; (· (intro w hSw; (try dsimp only at hSw); go_simp; (try with_reducible rfl))); clear hcl; intro hcl; (try simp only [Act.put, List.getElem_toArray, List.getElem_cons_zero, List.getElem_cons_succ, List.setIfInBounds_toArray, List.set_cons_zero, List.set_cons_succ]))
        (refine wpM_take (i := 7) (v := ?_) rfl (by kernel_rfl) (by kernel_rfl) (by kernel_rfl) (by decide) (fun _ _ _ h => h) hcl hC (fun _ => hE) (Or.inl ⟨by rfl, ?_⟩) ?_; rotate_left; (· (intro w hSw; (try dsimp only at hSw); go_simp; (try with_reducible rfl))); clear hcl; intro hcl; (try simp only [Act.put, List.getElem_toArray, List.getElem_cons_zero, List.getElem_cons_succ, List.setIfInBounds_toArray, List.set_cons_zero, List.set_cons_succ]))
        (refine wpM_take (i := 8) (v := ?_) rfl (by kernel_rfl) (by kernel_rfl) (by kernel_rfl) (by decide) (fun _ _ _ h => h) hcl hC (fun _ => hE) (Or.inl ⟨by rfl, ?_⟩) ?_; rotate_left; (· (intro w hSw; (try dsimp only at hSw); go_simp; (try with_reducible rfl))); clear hcl; intro hcl; (try simp only [Act.put, List.getElem_toArray, List.getElem_cons_zero, List.getElem_cons_succ, List.setIfInBounds_toArray, List.set_cons_zero, List.set_cons_succ]))
        (refine wpM_take (i := 9) (v := ?_) rfl (by kernel_rfl) (by kernel_rfl) (by kernel_rfl) (by decide) (fun _ _ _ h => h) hcl hC (fun _ => hE) (Or.inl ⟨by rfl, ?_⟩) ?_; rotate_left; (· (intro w hSw; (try dsimp only at hSw); go_simp; (try with_reducible rfl))); clear hcl; intro hcl; (try simp only [Act.put, List.getElem_toArray, List.getElem_cons_zero, List.getElem_cons_succ, List.setIfInBounds_toArray, List.set_cons_zero, List.set_cons_succ]))
        (refine wpM_take (i := 10) (v := ?_) rfl (by kernel_rfl) (by kernel_rfl) (by kernel_rfl) (by decide) (fun _ _ _ h => h) hcl hC (fun _ => hE) (Or.inl ⟨by rfl, ?_⟩) ?_; rotate_left; (· (intro w hSw; (try dsimp only at hSw); go_simp; (try with_reducible rfl))); clear hcl; intro hcl; (try simp only [Act.put, List.getElem_toArray, List.getElem_cons_zero, List.getElem_cons_succ, List.setIfInBounds_toArray, List.set_cons_zero, List.set_cons_succ]))
        (refine wpM_take (i := 11) (v := ?_) rfl (by kernel_rfl) (by kernel_rfl) (by kernel_rfl) (by decide) (fun _ _ _ h => h) hcl hC (fun _ => hE) (Or.inl ⟨by rfl, ?_⟩) ?_; rotate_left; (· (intro w hSw; (try dsimp only at hSw); go_simp; (try with_reducible rfl))); clear hcl; intro hcl; (try simp only [Act.put, List.getElem_toArray, List.getElem_cons_zero, List.getElem_cons_succ, List.setIfInBounds_toArray, List.set_cons_zero, List.set_cons_succ]))
        (refine wpM_take (i := 12) (v := ?_) rfl (by kernel_rfl) (by kernel_rfl) (by kernel_rfl) (by decide) (fun _ _ _ h => h) hcl hC (fun _ => hE) (Or.inl ⟨by rfl, ?_⟩) ?_; rotate_left; (· (intro w hSw; (try dsimp only at hSw); go_simp; (try with_reducible rfl))); clear hcl; intro hcl; (try simp only [Act.put, List.getElem_toArray, List.getElem_cons_zero, List.getElem_cons_succ, List.setIfInBounds_toArray, List.set_cons_zero, List.set_cons_succ]))
        (refine wpM_take (i := 13) (v := ?_) rfl (by kernel_rfl) (by kernel_rfl) (by kernel_rfl) (by decide) (fun _ _ _ h => h) hcl hC (fun _ => hE) (Or.inl ⟨by rfl, ?_⟩) ?_; rotate_left; (· (intro w hSw; (try dsimp only at hSw); go_simp; (try with_reducible rfl))); clear hcl; intro hcl; (try simp only [Act.put, List.getElem_toArray, List.getElem_cons_zero, List.getElem_cons_succ, List.setIfInBounds_toArray, List.set_cons_zero, List.set_cons_succ]))
        (refine wpM_take (i := 15) (v := ?_) rfl (by kernel_rfl) (by kernel_rfl) (by kernel_rfl) (by decide) (fun _ _ _ h => h) hcl hC (fun _ => hE) (Or.inl ⟨by rfl, ?_⟩) ?_; rotate_left; (· (intro w hSw; (try dsimp only at hSw); go_simp; (try with_reducible rfl))); clear hcl; intro hcl; (try simp only [Act.put, List.getElem_toArray, List.getElem_cons_zero, List.getElem_cons_succ, List.setIfInBounds_toArray, List.set_cons_zero, List.set_cons_succ]))
        (refine wpM_take (i := 16) (v := ?_) rfl (by kernel_rfl) (by kernel_rfl) (by kernel_rfl) (by decide) (fun _ _ _ h => h) hcl hC (fun _ => hE) (Or.inl ⟨by rfl, ?_⟩) ?_; rotate_left; (· (intro w hSw; (try dsimp only at hSw); go_simp; (try with_reducible rfl))); clear hcl; intro hcl; (try simp only [Act.put, List.getElem_toArray, List.getElem_cons_zero, List.getElem_cons_succ, List.setIfInBounds_toArray, List.set_cons_zero, List.set_cons_succ]))
        refine wpM_only (i := 14) rfl (by kernel_rfl) hcl (fun K hK => ?_)
        go_simp
        refine (cHgo2.out A2 n2 c2 B2 m2 d2 v1 ((hY7.out.1.below hK1).more hK1.size) ((hY7.out.2.below hK1).more hK1.size)).mono ?_
        rintro r v2 ⟨rfl, hv2⟩
        have hK2 : Below w7.heap.size w7 v2 := hK1.trans (hv2.mono hK1.size)
        have hC2 : KQ w7.heap.size w7 v2 := kq hK2
        refine hK.out _ _ hC2 trivial ?_
        clear hK K
        clear hcl
        intro hcl
        (try simp only [Act.put, List.getElem_toArray, List.getElem_cons_zero, List.getElem_cons_succ, List.setIfInBounds_toArray, List.set_cons_zero, List.set_cons_succ])
        clear hC
        have hC := hC2
        refine wpM_only (i := 17) rfl (by kernel_rfl) hcl (fun K hK => ?_)
        go_simp
        refine (cHx.out A1 c1 B1 d1 v2 ((hX7.out.1.below hK2).more hK2.size) ((hX7.out.2.below hK2).more hK2.size)).mono ?_
        rintro r v3 ⟨rfl, hv3⟩
        have hK3 : Below w7.heap.size w7 v3 := hK2.trans (hv3.mono hK2.size)
        have hC3 : KQ w7.heap.size w7 v3 := kq hK3
        refine hK.out _ _ hC3 trivial ?_
        clear hK K
        clear hcl
        intro hcl
        (try simp only [Act.put, List.getElem_toArray, List.getElem_cons_zero, List.getElem_cons_succ, List.setIfInBounds_toArray, List.set_cons_zero, List.set_cons_succ])
        clear hC
        have hC := hC3
        (refine wpM_take (i := 18) (v := ?_) rfl (by kernel_rfl) (by kernel_rfl) (by kernel_rfl) (by decide) (fun _ _ _ h => h) hcl hC (fun _ => hE) (Or.inl ⟨by rfl, ?_⟩) ?_; rotate_left; (· (intro w hSw; (try dsimp only at hSw); go_simp; (try with_reducible rfl))); clear hcl; intro hcl; (try simp only [Act.put, List.getElem_toArray, List.getElem_cons_zero, List.getElem_cons_succ, List.setIfInBounds_toArray, List.set_cons_zero, List.set_cons_succ]))
        (refine wpM_take (i := 19) (v := ?_) rfl (by kernel_rfl) (by kernel_rfl) (by kernel_rfl) (by decide) (fun _ _ _ h => h) hcl hC (fun _ => hE) (Or.inl ⟨by rfl, ?_⟩) ?_; rotate_left; (· (intro w hSw; (try dsimp only at hSw); go_simp; (try with_reducible rfl))); clear hcl; intro hcl; (try simp only [Act.put, List.getElem_toArray, List.getElem_cons_zero, List.getElem_cons_succ, List.setIfInBounds_toArray, List.set_cons_zero, List.set_cons_succ]))
        (refine wpM_take (i := 20) (v := ?_) rfl (by kernel_rfl) (by kernel_rfl) (by kernel_rfl) (by decide) (fun _ _ _ h => h) hcl hC (fun _ => hE) (Or.inl ⟨by rfl, ?_⟩) ?_; rotate_left; (· (intro w hSw; (try dsimp only at hSw); go_simp; (try with_reducible rfl))); clear hcl; intro hcl; (try simp only [Act.put, List.getElem_toArray, List.getElem_cons_zero, List.getElem_cons_succ, List.setIfInBounds_toArray, List.set_cons_zero, List.set_cons_succ]))
        refine wpM_done (by kernel_rfl) ?_
        clear hcl hE
        try simp only [Act.put, List.getElem_toArray, List.getElem_cons_zero, List.getElem_cons_succ, List.setIfInBounds_toArray, List.set_cons_zero, List.set_cons_succ]
        have hfin := hC.1
        go_wp2_with fail
        go_meet
        exact ⟨rfl, hfin⟩
    obtain ⟨rfl, hB8⟩ := hcut
    obtain ⟨w8, hw8⟩ : ∃ w8, w8 = wc := ⟨_, rfl⟩
    obtain rfl := hw8
    have hG8 : Below W.heap.size W w8 := hG7.trans (hB8.mono hG7.size)
    have hz8 := hB8.size
    have hX8 := Lib.hid (And.intro ((hX7.out.1.below hB8).more hz8) ((hX7.out.2.below hB8).more hz8))
    have hY8 := Lib.hid (And.intro ((hY7.out.1.below hB8).more hz8) ((hY7.out.2.below hB8).more hz8))
    have hS8 := Lib.hid ((RdT.below hS7.out hB8).more hz8)
    have hbG8 := Lib.hid (blk_below hbG7.out hB8)
    have hbX8 := Lib.hid (blk_below hbX7H.out hB8)
    clear s0 s1 hltx hltg b0 b1 hX7 hY7 hS7 hbG7 hbX7H cHge cHgo cHx hGoH hB8
    go_wp2_with fail
    go_loopg [13] (k + 1) (fun g i wr => ∃ j : Nat, j ≤ k ∧ g = k + 1 - j ∧ i = .int .i64 (j : Int) ∧ (∀ u ∈ S.take j, (u == t) = false) ∧ Below w8.heap.size w8 wr)
    case atStart => exact ⟨0, Nat.zero_le _, rfl, rfl, by simp, Below.refl _ _⟩
    case round =>
      obtain ⟨j, hj, rfl, rfl, hno, hbr⟩ := hrel
      have hz := hbr.size
      by_cases hlt : j < k
      · obtain ⟨bA, oA, u, rfl, hbA, hp, hcp⟩ := (RdT.below hS8.out hbr).at_ hlt
        as_aux_lemma =>
        have p0 := hcp 0 _ rfl
        have p1 := hcp 1 _ rfl
        have p2 := hcp 2 _ rfl
        rw [Nat.add_zero] at p0
        have hGr := hG8.trans (hbr.mono hG8.size)
        have hav := blk_below hVk.out hGr
        have a0 := blk_cell hav 0
        have a1 := blk_cell hav 1
        have a2 := blk_cell hav 2
        simp at a0 a1 a2
        have hlta := blk_lt hav
        have hlti : (j : Int) < (k : Int) := by omega
        have hbA2 : bA < wr.heap.size := by omega
        have hnoH := Lib.hid hno
        have hpH := Lib.hid hp
        clear hcp hav hno hp
        have hq0 : KQ wr.heap.size wr wr := kq (Below.refl _ _)
        have hG := hW.trans (hGr.drew.mono hzW)
        by_cases he : u = t
        · subst he
          go_wp2
          go_region_held3 (fun w' => KQ wr.heap.size wr w') (first
      | with_reducible exact kq_call (by assumption) (by simp) (by assumption)
      | with_reducible exact kq_grown (by assumption) (by simp) (by assumption) (by simp [Value.ownBlock])
      | ((with_reducible refine kq ?_); (repeat (first | (with_reducible exact Below.refl _ _) | (with_reducible refine Below.drew ?_) | (with_reducible refine Below.alloc ?_ (by simp) _) | (with_reducible refine Below.setCell ?_ (by simp) _) | (with_reducible exact (by assumption : KQ _ _ _).1))); done)) (first | (go_at_call 0; skip))
          go_wp2
          go_ret
          exact ⟨rfl, hG⟩
        · have hT : Hid (∀ y ∈ S.take (j + 1), (y == t) = false) := Lib.hid (all_take_succ hnoH.out hpH.out (by rw [beq_eq_false_iff_ne]; exact he))
          have hGd := hbr.drew
          have hne : ¬ (u.1.1 = t.1.1 ∧ u.1.2 = t.1.2 ∧ u.2 = t.2) := fun h => he (Prod.ext (Prod.ext h.1 h.2.1) h.2.2)
          clear he hG
          by_cases h1 : u.1.1 = t.1.1
          · by_cases h2 : u.1.2 = t.1.2
            · have h3 : ¬ u.2 = t.2 := fun e => hne ⟨h1, h2, e⟩
              clear hne
              go_wp2
              go_region_held3 (fun w' => KQ wr.heap.size wr w') (first
      | with_reducible exact kq_call (by assumption) (by simp) (by assumption)
      | with_reducible exact kq_grown (by assumption) (by simp) (by assumption) (by simp [Value.ownBlock])
      | ((with_reducible refine kq ?_); (repeat (first | (with_reducible exact Below.refl _ _) | (with_reducible refine Below.drew ?_) | (with_reducible refine Below.alloc ?_ (by simp) _) | (with_reducible refine Below.setCell ?_ (by simp) _) | (with_reducible exact (by assumption : KQ _ _ _).1))); done)) (first | (go_at_call 0; skip))
              go_wp2
              go_roundg (k + 1 - (j + 1))
              case measure => omega
              case rel => (exact ⟨j + 1, by omega, by omega, by go_num, hT.out, hGd⟩)
            · clear hne
              go_wp2
              go_region_held3 (fun w' => KQ wr.heap.size wr w') (first
      | with_reducible exact kq_call (by assumption) (by simp) (by assumption)
      | with_reducible exact kq_grown (by assumption) (by simp) (by assumption) (by simp [Value.ownBlock])
      | ((with_reducible refine kq ?_); (repeat (first | (with_reducible exact Below.refl _ _) | (with_reducible refine Below.drew ?_) | (with_reducible refine Below.alloc ?_ (by simp) _) | (with_reducible refine Below.setCell ?_ (by simp) _) | (with_reducible exact (by assumption : KQ _ _ _).1))); done)) (first | (go_at_call 0; skip))
              go_wp2
              go_roundg (k + 1 - (j + 1))
              case measure => omega
              case rel => (exact ⟨j + 1, by omega, by omega, by go_num, hT.out, hGd⟩)
          · clear hne
            go_wp2
            go_region_held3 (fun w' => KQ wr.heap.size wr w') (first
      | with_reducible exact kq_call (by assumption) (by simp) (by assumption)
      | with_reducible exact kq_grown (by assumption) (by simp) (by assumption) (by simp [Value.ownBlock])
      | ((with_reducible refine kq ?_); (repeat (first | (with_reducible exact Below.refl _ _) | (with_reducible refine Below.drew ?_) | (with_reducible refine Below.alloc ?_ (by simp) _) | (with_reducible refine Below.setCell ?_ (by simp) _) | (with_reducible exact (by assumption : KQ _ _ _).1))); done)) (first | (go_at_call 0; skip))
            go_wp2
            go_roundg (k + 1 - (j + 1))
            case measure => omega
            case rel => (exact ⟨j + 1, by omega, by omega, by go_num, hT.out, hGd⟩)
      · obtain rfl : j = k := by omega
        as_aux_lemma =>
        have hnli : ¬ (j : Int) < (j : Int) := by omega
        have htS : Hid (t ∉ S) := Lib.hid (fun hm => by
          have h0 := all_take_all hno hklH.out
          have := h0 _ hm
          simp at this)
        clear hno
        obtain ⟨wA, hwA⟩ : ∃ wA, wA = wr := ⟨_, rfl⟩
        subst hwA
        have hG9 : Below W.heap.size W wA := hG8.trans (hbr.mono hG8.size)
        have hz9 := hbr.size
        have hX9 := Lib.hid (And.intro ((hX8.out.1.below hbr).more hz9) ((hX8.out.2.below hbr).more hz9))
        have hY9 := Lib.hid (And.intro ((hY8.out.1.below hbr).more hz9) ((hY8.out.2.below hbr).more hz9))
        have hS9 := Lib.hid ((RdT.below hS8.out hbr).more hz9)
        have hbG9 := Lib.hid (blk_below hbG8.out hbr)
        have hbX9 := blk_below hbX8.out hbr
        have hav := blk_below hVk.out hG9
        clear hX8 hY8 hS8 hbG8 hbX8 hbr
        have hltx := blk_lt hbX9
        have s0 := blk_cell hbX9 0
        have s1 := blk_cell hbX9 1
        simp at s0 s1
        have a0 := blk_cell hav 0
        have a1 := blk_cell hav 1
        have a2 := blk_cell hav 2
        simp at a0 a1 a2
        have hlta := blk_lt hav
        clear hbX9 hav
        go_wp2_with fail
        refine (cP.out A1 c1 B1 d1 wA hX9.out.1 hX9.out.2).mono ?_
        rintro r wP ⟨A3, n3, c3, B3, m3, d3, rfl, hP1, hP2, _, _, _, _, _, _, hv9⟩
        go_upto_region 16 with (fail)
        obtain ⟨w10, hwn⟩ : ∃ w9, wP.alloc (.cells #[.slice A3 n3 c3, .slice B3 m3 d3] 32) = w9 := ⟨_, rfl⟩
        have hbP : w10.heap[wP.heap.size]? = some (.cells #[.slice A3 n3 c3, .slice B3 m3 d3] 32 (0, 0)) := by rw [← hwn]; exact heap_at _ _ rfl
        have hb910 : Below wP.heap.size wP w10 := by rw [← hwn]; exact (Below.refl _ wP).alloc (Nat.le_refl _) _
        rw [hwn]
        clear hwn
        have hB10 : Below wA.heap.size wA w10 := hv9.trans (hb910.mono hv9.size)
        have hz10 := hB10.size
        have hG10 : Below W.heap.size W w10 := hG9.trans (hB10.mono hG9.size)
        have hP10 := Lib.hid (And.intro ((hP1.below hb910).more hb910.size) ((hP2.below hb910).more hb910.size))
        have hY10 := Lib.hid (And.intro ((hY9.out.1.below hB10).more hz10) ((hY9.out.2.below hB10).more hz10))
        have hS10 : RdT w10 w10.heap.size T j S := (RdT.below hS9.out hB10).more hz10
        have hbG10 := Lib.hid (blk_below hbG9.out hB10)
        clear s0 s1 hltx a0 a1 a2 hlta cP hX9 hY9 hS9 hbG9 hP1 hP2 hv9 hb910
        have hltx := blk_lt hbP
        have s0 := blk_cell hbP 0
        have s1 := blk_cell hbP 1
        simp at s0 s1
        clear hbP
        have cD2 := Lib.hid (fun C' f' w' (hh : KQ w10.heap.size w10 w') (h3 : RdT w' w'.heap.size C' j S) => cDP.out A3 n3 c3 B3 m3 d3 C' j f' w' ((hP10.out.1.below hh.1).more hh.1.size) ((hP10.out.2.below hh.1).more hh.1.size) h3)
        clear cDP
        go_cut [16, 17] (fun sa sb wx => ∃ g A' n' c' B' m' d', sa = .pointer (some ⟨g, 0, none⟩) ∧ w10.heap.size ≤ g ∧ sb = .int .i64 Q.2 ∧ wx.heap[g]? = some (.cells #[.slice A' n' c', .slice B' m' d'] 32 (0, 0)) ∧ RdA wx wx.heap.size A' n' Q.1.1 ∧ RdT wx wx.heap.size B' m' Q.1.2 ∧ n' ≤ 5000 ∧ m' ≤ 9000 ∧ Below w10.heap.size w10 wx)
        case first =>
          as_aux_lemma =>
          have hq0 : KQ w10.heap.size w10 w10 := kq (Below.refl _ _)
          go_region_held3 (fun w' => KQ w10.heap.size w10 w') (first
      | with_reducible exact kq_call (by assumption) (by simp) (by assumption)
      | with_reducible exact kq_grown (by assumption) (by simp) (by assumption) (by simp [Value.ownBlock])
      | ((repeat (first | (with_reducible refine kq_set ?_ (by first | (simp; done) | (simp; omega) | omega) _) | (with_reducible refine kq_alloc ?_ (by first | exact Nat.le_refl _ | (simp; done) | (simp; omega)) _))); (with_reducible assumption))
      | ((with_reducible refine kq ?_); (repeat (first | (with_reducible exact Below.refl _ _) | (with_reducible refine Below.drew ?_) | (with_reducible refine Below.alloc ?_ (by simp) _) | (with_reducible refine Below.setCell ?_ (by simp) _) | (with_reducible exact (by assumption : KQ _ _ _).1))); done))
            (first
              | (go_at_call 40
                 (with_reducible refine (cD2.out A4 c4' _ (by first | exact hq4 | exact kq_alloc hq4 (Nat.le_refl _) _ | fail : KQ w10.heap.size w10 _) (by first | exact hown4'.rdT | exact (hown4'.below ((Below.refl _ _).alloc (Nat.le_refl _) _)).rdT | fail)).mono ?_)
                 rintro e v5 ⟨A5, n5, c5, B5, m5, d5, rfl, hY1, hY2, hn5, hm5, _, _, _, _, hb5⟩
                 have hz5 := hb5.size
                 (try simp at hz5)
                 have hq5 : KQ w10.heap.size w10 v5 := kq_call (by assumption) (Nat.le_refl _) hb5
                 (first
                   | (have hx5 := (hb5.block _ (blk_lt hx4)).trans hx4
                      have hfx := blk_frozen hx5
                      have x0 := blk_cell hx5 0
                      have x1 := blk_cell hx5 1
                      simp at x0 x1)
                   | (have hx5 : v5.heap[v4.heap.size]? = some (.cells #[.slice none 0 0, .slice none 0 0] 32 (0, 0)) := (hb5.block _ (by simp; done)).trans (heap_at _ _ rfl)
                      have hfx := blk_frozen hx5
                      have x0 := blk_cell hx5 0
                      have x1 := blk_cell hx5 1
                      simp at x0 x1)
                   | skip)
                )
              | (skip
                 refine step_append_rd _ rfl _ _ _ rfl eTag (base := w10.heap.size) (v := .slice (some ⟨w10.heap.size, 0, none⟩) 0 0) (xs := []) rfl (Ow.made_at (by first | exact heap_drew (heap_at _ _ (by first | rfl | (simp; done))) | exact heap_drew (heap_old _ (by simp) (heap_drew (heap_at _ _ rfl)))) (by omega)) rfl (kq_rd (n := w10.heap.size) hS10 (Nat.le_refl _) (by assumption)) Tm.len Tm.one (by simp [maxLen]; omega) (by simp; omega) (by first | (simp; done) | (simp; omega)) ?_
                 intro A4 n4 c4' v4 hn4 hown4 hg4 hat4
                 obtain rfl : j = n4 := by simpa using hn4.symm
                 clear hn4 hat4
                 have hz4 := hg4.size
                 simp at hz4
                 have hown4' : Ow v4 w10.heap.size 79 3 (.slice A4 j c4') ((S).map Tm.enc) := by simpa using hown4
                 clear hown4
                 (try (have hx4 : v4.heap[w10.heap.size + 1]? = some (.cells #[.slice none 0 0, .slice none 0 0] 32 (0, 0)) := (hg4.block _ (by simp; done) (by simp [Value.ownBlock]; done)).trans (heap_drew (heap_at _ _ (by simp; done)))))
                 (try (have hx4 : v4.heap[w10.heap.size]? = some (.cells #[.slice none 0 0, .slice none 0 0] 32 (0, 0)) := (hg4.block _ (by simp; omega) (by simp [Value.ownBlock]; done)).trans (heap_drew (heap_old _ (by simp; done) (heap_drew (heap_at _ _ rfl))))))
                 have hq4 : KQ w10.heap.size w10 v4 := by
                   refine kq_grown ?_ (Nat.le_refl _) hg4 ?_
                   · assumption
                   · intro k hk; simp [Value.ownBlock] at hk; omega
                 clear hg4
                )
              | (skip
                 refine step_append_rd _ rfl _ _ _ rfl eTag (base := w10.heap.size) (v := .slice (some ⟨w10.heap.size + 1, 0, none⟩) 0 0) (xs := []) rfl (Ow.made_at (by first | exact heap_drew (heap_at _ _ (by first | rfl | (simp; done))) | exact heap_drew (heap_old _ (by simp) (heap_drew (heap_at _ _ rfl)))) (by omega)) rfl (kq_rd (n := w10.heap.size) hS10 (Nat.le_refl _) (by assumption)) Tm.len Tm.one (by simp [maxLen]; omega) (by simp; omega) (by first | (simp; done) | (simp; omega)) ?_
                 intro A4 n4 c4' v4 hn4 hown4 hg4 hat4
                 obtain rfl : j = n4 := by simpa using hn4.symm
                 clear hn4 hat4
                 have hz4 := hg4.size
                 simp at hz4
                 have hown4' : Ow v4 w10.heap.size 79 3 (.slice A4 j c4') ((S).map Tm.enc) := by simpa using hown4
                 clear hown4
                 (try (have hx4 : v4.heap[w10.heap.size + 1]? = some (.cells #[.slice none 0 0, .slice none 0 0] 32 (0, 0)) := (hg4.block _ (by simp; done) (by simp [Value.ownBlock]; done)).trans (heap_drew (heap_at _ _ (by simp; done)))))
                 (try (have hx4 : v4.heap[w10.heap.size]? = some (.cells #[.slice none 0 0, .slice none 0 0] 32 (0, 0)) := (hg4.block _ (by simp; omega) (by simp [Value.ownBlock]; done)).trans (heap_drew (heap_old _ (by simp; done) (heap_drew (heap_at _ _ rfl))))))
                 have hq4 : KQ w10.heap.size w10 v4 := by
                   refine kq_grown ?_ (Nat.le_refl _) hg4 ?_
                   · assumption
                   · intro k hk; simp [Value.ownBlock] at hk; omega
                 clear hg4
                )
              | fail "no arm")
          all_goals
          (have hYH := Lib.hid (And.intro hY1 hY2)
           have hk5 : Below w10.heap.size w10 v5 := hq5.1
           have hk5H := Lib.hid hk5
           have hzk := hk5.size
           go_wp2_with fail
           go_meet
           first
             | (have hb3 : Below v5.heap.size v5 (v5.alloc (.cells #[.slice A5 n5 c5, .slice B5 m5 d5] 32)) := (Below.refl _ v5).alloc (Nat.le_refl _) _
                exact ⟨v5.heap.size, A5, n5, c5, B5, m5, d5, rfl, hzk, rfl, heap_at _ _ rfl, (hYH.out.1.below hb3).more hb3.size, (hYH.out.2.below hb3).more hb3.size, hn5, hm5, hk5H.out.trans (hb3.mono hzk)⟩)
             | (have ha3 := (hYH.out.1.set_other hx5 0 (.slice A5 n5 c5)).set_other (blk_set hx5 0 (.slice A5 n5 c5)) 1 (.slice B5 m5 d5)
                have hb3 := (hYH.out.2.set_other hx5 0 (.slice A5 n5 c5)).set_other (blk_set hx5 0 (.slice A5 n5 c5)) 1 (.slice B5 m5 d5)
                have hx3 := blk_set (blk_set hx5 0 (.slice A5 n5 c5)) 1 (.slice B5 m5 d5)
                exact ⟨_, A5, n5, c5, B5, m5, d5, rfl, by omega, rfl, hx3, by rw [World.size_setCell, World.size_setCell]; exact ha3, by rw [World.size_setCell, World.size_setCell]; exact hb3, hn5, hm5, (hk5H.out.setCell (by dsimp only; omega) _).setCell (by dsimp only; omega) _⟩))
        obtain ⟨gq, A5, n5, c5, B5, m5, d5, rfl, hgq, rfl, hbQ, hQ1, hQ2, hn5, hm5, hB11⟩ := hcut
        obtain ⟨w11, hw11⟩ : ∃ w11, w11 = wc := ⟨_, rfl⟩
        obtain rfl := hw11
        have hG11 : Below W.heap.size W w11 := hG10.trans (hB11.mono hG10.size)
        have hY11 := Lib.hid (And.intro ((hY10.out.1.below hB11).more hB11.size) ((hY10.out.2.below hB11).more hB11.size))
        have hQ11 := Lib.hid (And.intro hQ1 hQ2)
        have hbQH := Lib.hid hbQ
        have hbG11 := blk_below hbG10.out hB11
        have hav := blk_below hVk.out hG11
        clear s0 s1 hltx cD2 hP10 hY10 hS10 hbG10 hQ1 hQ2 hbQ hB11
        have hltx := blk_lt hbG11
        have s0 := blk_cell hbG11 0
        have s1 := blk_cell hbG11 1
        simp at s0 s1
        have a0 := blk_cell hav 0
        have a1 := blk_cell hav 1
        have a2 := blk_cell hav 2
        simp at a0 a1 a2
        have hlta := blk_lt hav
        clear hbG11 hav
        go_wp2_with fail
        refine (cU.out A2 n2 c2 B2 m2 d2 w11 hY11.out.1 hY11.out.2).mono ?_
        rintro r w12 ⟨A6, n6, c6, B6, m6, d6, rfl, hU1, hU2, _, _, _, _, _, _, hv12⟩
        go_upto_region 18 with (fail)
        obtain ⟨w13, hwn⟩ : ∃ w9, w12.alloc (.cells #[.slice A6 n6 c6, .slice B6 m6 d6] 32) = w9 := ⟨_, rfl⟩
        have hbU : w13.heap[w12.heap.size]? = some (.cells #[.slice A6 n6 c6, .slice B6 m6 d6] 32 (0, 0)) := by rw [← hwn]; exact heap_at _ _ rfl
        have hb1213 : Below w12.heap.size w12 w13 := by rw [← hwn]; exact (Below.refl _ w12).alloc (Nat.le_refl _) _
        rw [hwn]
        clear hwn
        have hB13 : Below w11.heap.size w11 w13 := hv12.trans (hb1213.mono hv12.size)
        have hG13 : Below W.heap.size W w13 := hG11.trans (hB13.mono hG11.size)
        have hU13 := Lib.hid (And.intro ((hU1.below hb1213).more hb1213.size) ((hU2.below hb1213).more hb1213.size))
        have hQ13 := Lib.hid (And.intro ((hQ11.out.1.below hB13).more hB13.size) ((hQ11.out.2.below hB13).more hB13.size))
        have hbQ13 := Lib.hid (blk_below hbQH.out hB13)
        have hbU13 := Lib.hid hbU
        clear s0 s1 hltx a0 a1 a2 hlta cU hY11 hU1 hU2 hbU hQ11 hbQH hB13 hv12 hb1213
        have hGw := hW.trans (hG13.mono hzW)
        by_cases hp0 : P.2 = 0
        case neg =>
          have hpn : (P.2 != 0) = true := by simpa using hp0
          clear hp0
          go_wp2
          go_ret
          exact ⟨rfl, hGw⟩
        obtain ⟨hq0, hu0, hin, hfi⟩ := hlawH.out hp0
        have hinH := Lib.hid hin
        have hfiH := Lib.hid (hfi htS.out)
        rw [hp0, hq0, hu0]
        clear hp0 hq0 hu0 hin hfi hlawH htS hGw
        go_wp2_with fail
        go_loopg [20] (m + 1) (fun g i wr => ∃ q : Nat, q ≤ m ∧ g = m + 1 - q ∧ i = .int .i64 (q : Int) ∧ (∀ u ∈ gs.take q, (u == t) = false) ∧ Below w13.heap.size w13 wr)
        case atStart => exact ⟨0, Nat.zero_le _, rfl, rfl, by simp, Below.refl _ _⟩
        case round =>
          obtain ⟨q, hq, rfl, rfl, hno, hbr⟩ := hrel
          have hz := hbr.size
          have hGr : Below W.heap.size W wr := hG13.trans (hbr.mono hG13.size)
          have hGw := hW.trans (hGr.mono hzW)
          have hsr := blk_below hAk.out hGr
          have hltx := blk_lt hsr
          have s0 := blk_cell hsr 0
          have s1 := blk_cell hsr 1
          simp at s0 s1
          clear hsr
          by_cases hlt : q < m
          · obtain ⟨bA, oA, u, rfl, hbA, hp, hcp⟩ := (hBr.out wr hGw).at_ hlt
            as_aux_lemma =>
            have p0 := hcp 0 _ rfl
            have p1 := hcp 1 _ rfl
            have p2 := hcp 2 _ rfl
            rw [Nat.add_zero] at p0
            have hav := blk_below hVk.out hGr
            have a0 := blk_cell hav 0
            have a1 := blk_cell hav 1
            have a2 := blk_cell hav 2
            simp at a0 a1 a2
            have hlta := blk_lt hav
            have hlti : (q : Int) < (m : Int) := by omega
            have hbA1 : bA < w.heap.size := hbA
            have hbA2 : bA < wr.heap.size := by have := hGw.size; omega
            have hnoH := Lib.hid hno
            have hpH := Lib.hid hp
            clear hcp hav hno hp
            have hq0 : KQ wr.heap.size wr wr := kq (Below.refl _ _)
            by_cases he : u = t
            · have hin2 := hinH.out (he ▸ List.mem_of_getElem? hpH.out)
              have hin2H := Lib.hid hin2
              have hdq : Below w13.heap.size w13 wr.drew := hbr.drew
              have hGd : Below W.heap.size W wr.drew := hGr.drew
              have hbQr := blk_below hbQ13.out hdq
              have hbUr := Lib.hid (blk_below hbU13.out hdq)
              clear hin2
              subst he
              go_wp2
              go_region_held3 (fun w' => KQ wr.heap.size wr w') (first
      | with_reducible exact kq_call (by assumption) (by simp) (by assumption)
      | with_reducible exact kq_grown (by assumption) (by simp) (by assumption) (by simp [Value.ownBlock])
      | ((with_reducible refine kq ?_); (repeat (first | (with_reducible exact Below.refl _ _) | (with_reducible refine Below.drew ?_) | (with_reducible refine Below.alloc ?_ (by simp) _) | (with_reducible refine Below.setCell ?_ (by simp) _) | (with_reducible exact (by assumption : KQ _ _ _).1))); done)) (first | (go_at_call 0; skip))
              clear s0 s1 hltx
              have hltx := blk_lt hbQr
              have s0 := blk_cell hbQr 0
              have s1 := blk_cell hbQr 1
              simp at s0 s1
              go_wp2_with fail
              refine (cHq.out A5 n5 c5 B5 m5 d5 wr.drew ((hQ13.out.1.below hdq).more hdq.size) ((hQ13.out.2.below hdq).more hdq.size)).mono ?_
              rintro r w14 ⟨rfl, hv14⟩
              have hd2' := hdq.trans (hv14.mono hdq.size)
              have hbUr2 := blk_below hbUr.out hv14
              rw [hin2H.out.1]
              clear s0 s1 hltx hbQr
              have hltx := blk_lt hbUr2
              have s0 := blk_cell hbUr2 0
              have s1 := blk_cell hbUr2 1
              simp at s0 s1
              go_wp2_with fail
              refine (cHu.out A6 n6 c6 B6 m6 d6 w14 ((hU13.out.1.below hd2').more hd2'.size) ((hU13.out.2.below hd2').more hd2'.size)).mono ?_
              rintro r w15 ⟨rfl, hv15⟩
              have hfin := hW.trans ((hGd.trans ((hv14.trans (hv15.mono hv14.size)).mono hGd.size)).mono hzW)
              rw [hin2H.out.2]
              go_wp2
              go_ret
              exact ⟨rfl, hfin⟩
            · have hT : Hid (∀ y ∈ gs.take (q + 1), (y == t) = false) := Lib.hid (all_take_succ hnoH.out hpH.out (by rw [beq_eq_false_iff_ne]; exact he))
              have hGd := hbr.drew
              have hne : ¬ (u.1.1 = t.1.1 ∧ u.1.2 = t.1.2 ∧ u.2 = t.2) := fun h => he (Prod.ext (Prod.ext h.1 h.2.1) h.2.2)
              clear he
              by_cases h1 : u.1.1 = t.1.1
              · by_cases h2 : u.1.2 = t.1.2
                · have h3 : ¬ u.2 = t.2 := fun e => hne ⟨h1, h2, e⟩
                  clear hne
                  go_wp2
                  go_region_held3 (fun w' => KQ wr.heap.size wr w') (first
      | with_reducible exact kq_call (by assumption) (by simp) (by assumption)
      | with_reducible exact kq_grown (by assumption) (by simp) (by assumption) (by simp [Value.ownBlock])
      | ((with_reducible refine kq ?_); (repeat (first | (with_reducible exact Below.refl _ _) | (with_reducible refine Below.drew ?_) | (with_reducible refine Below.alloc ?_ (by simp) _) | (with_reducible refine Below.setCell ?_ (by simp) _) | (with_reducible exact (by assumption : KQ _ _ _).1))); done)) (first | (go_at_call 0; skip))
                  go_wp2
                  go_roundg (m + 1 - (q + 1))
                  case measure => omega
                  case rel => (exact ⟨q + 1, by omega, by omega, by go_num, hT.out, hGd⟩)
                · clear hne
                  go_wp2
                  go_region_held3 (fun w' => KQ wr.heap.size wr w') (first
      | with_reducible exact kq_call (by assumption) (by simp) (by assumption)
      | with_reducible exact kq_grown (by assumption) (by simp) (by assumption) (by simp [Value.ownBlock])
      | ((with_reducible refine kq ?_); (repeat (first | (with_reducible exact Below.refl _ _) | (with_reducible refine Below.drew ?_) | (with_reducible refine Below.alloc ?_ (by simp) _) | (with_reducible refine Below.setCell ?_ (by simp) _) | (with_reducible exact (by assumption : KQ _ _ _).1))); done)) (first | (go_at_call 0; skip))
                  go_wp2
                  go_roundg (m + 1 - (q + 1))
                  case measure => omega
                  case rel => (exact ⟨q + 1, by omega, by omega, by go_num, hT.out, hGd⟩)
              · clear hne
                go_wp2
                go_region_held3 (fun w' => KQ wr.heap.size wr w') (first
      | with_reducible exact kq_call (by assumption) (by simp) (by assumption)
      | with_reducible exact kq_grown (by assumption) (by simp) (by assumption) (by simp [Value.ownBlock])
      | ((with_reducible refine kq ?_); (repeat (first | (with_reducible exact Below.refl _ _) | (with_reducible refine Below.drew ?_) | (with_reducible refine Below.alloc ?_ (by simp) _) | (with_reducible refine Below.setCell ?_ (by simp) _) | (with_reducible exact (by assumption : KQ _ _ _).1))); done)) (first | (go_at_call 0; skip))
                go_wp2
                go_roundg (m + 1 - (q + 1))
                case measure => omega
                case rel => (exact ⟨q + 1, by omega, by omega, by go_num, hT.out, hGd⟩)
          · obtain rfl : q = m := by omega
            as_aux_lemma =>
            have hnli : ¬ (q : Int) < (q : Int) := by omega
            have htG : t ∉ gs := fun hm2 => by
              have h0 := all_take_all hno hglH.out
              have := h0 _ hm2
              simp at this
            have hfin := Lib.hid (hfiH.out htG)
            obtain ⟨wB, hwB⟩ : ∃ wB, wB = wr := ⟨_, rfl⟩
            subst hwB
            have hz14 := hbr.size
            have hU14 := Lib.hid (And.intro ((hU13.out.1.below hbr).more hz14) ((hU13.out.2.below hbr).more hz14))
            have hQ14 := Lib.hid (And.intro ((hQ13.out.1.below hbr).more hz14) ((hQ13.out.2.below hbr).more hz14))
            have hbQ14 := Lib.hid (blk_below hbQ13.out hbr)
            have hbU14 := Lib.hid (blk_below hbU13.out hbr)
            have hGB : Below W.heap.size W wB := hGr
            clear hno htG hfiH hinH hU13 hQ13 hbQ13 hbU13 hbr hGr hGw hz
            have hxn := hxlH.out
            go_wp2_with fail
            go_loopg [21, 22] (n + 1) (fun g th i wr => ∃ (q2 : Nat) (bt : Bool), q2 ≤ n ∧ g = n + 1 - q2 ∧ th = .bool bt ∧ i = .int .i64 (q2 : Int) ∧ ((xs.take q2).any fun a => decide (a.1 = t)) = bt ∧ Below wB.heap.size wB wr)
            case atStart => exact ⟨0, false, Nat.zero_le _, rfl, rfl, rfl, rfl, Below.refl _ _⟩
            case round =>
              obtain ⟨q2, bt, hq2, rfl, rfl, rfl, hbt, hbr⟩ := hrel
              have hz := hbr.size
              have hGr : Below W.heap.size W wr := hGB.trans (hbr.mono hGB.size)
              have hGw := hW.trans (hGr.mono hzW)
              have hsr := blk_below hAk.out hGr
              have hltx := blk_lt hsr
              have s0 := blk_cell hsr 0
              have s1 := blk_cell hsr 1
              simp at s0 s1
              clear hsr
              by_cases hlt : q2 < n
              · obtain ⟨bA, oA, u, rfl, hbA, hp, hcp⟩ := (hAr.out wr hGw).at_ hlt
                as_aux_lemma =>
                have p0 := hcp 0 _ rfl
                have p1 := hcp 1 _ rfl
                have p2 := hcp 2 _ rfl
                have p3 := hcp 3 _ rfl
                rw [Nat.add_zero] at p0
                have hav := blk_below hVk.out hGr
                have a0 := blk_cell hav 0
                have a1 := blk_cell hav 1
                have a2 := blk_cell hav 2
                simp at a0 a1 a2
                have hlta := blk_lt hav
                have hlti : (q2 : Int) < (n : Int) := by omega
                have hbA1 : bA < w.heap.size := hbA
                have hbA2 : bA < wr.heap.size := by have := hGw.size; omega
                have hst : ((xs.take (q2 + 1)).any fun a => decide (a.1 = t)) = (bt || decide (u.1 = t)) := by
                  rw [← hbt, List.take_add_one, hp]; simp
                have hstH := Lib.hid hst
                clear hcp hav hp hst hbt
                have hGd := hbr.drew
                cases bt with
                | true =>
                  have hT : Hid (((xs.take (q2 + 1)).any fun a => decide (a.1 = t)) = true) := Lib.hid (by rw [hstH.out]; rfl)
                  go_upto_region 29 with (fail)
                  refine wp_region_M (fun w' => KQ wr.heap.size wr w') (fun _ => True) 99 (by kernel_rfl) (kq (Below.refl _ _).drew) trivial ?_
                  intro hcl
                  have hC : KQ wr.heap.size wr wr.drew := kq (Below.refl _ _).drew
                  have hE := trivial
                  (refine wpM_take (i := 0) (v := ?_) rfl (by kernel_rfl) (by kernel_rfl) (by kernel_rfl) (by decide) (fun _ _ _ h => h) hcl hC (fun _ => hE) (Or.inl ⟨by rfl, ?_⟩) ?_; rotate_left; (· (intro w hSw; (try dsimp only at hSw); go_simp; (try with_reducible rfl))); clear hcl; intro hcl; (try simp only [Act.put, List.getElem_toArray, List.getElem_cons_zero, List.getElem_cons_succ, List.setIfInBounds_toArray, List.set_cons_zero, List.set_cons_succ]))
                  (refine wpM_take (i := 1) (v := ?_) rfl (by kernel_rfl) (by kernel_rfl) (by kernel_rfl) (by decide) (fun _ _ _ h => h) hcl hC (fun _ => hE) (Or.inl ⟨by rfl, ?_⟩) ?_; rotate_left; (· (intro w hSw; (try dsimp only at hSw); go_simp; (try with_reducible rfl))); clear hcl; intro hcl; (try simp only [Act.put, List.getElem_toArray, List.getElem_cons_zero, List.getElem_cons_succ, List.setIfInBounds_toArray, List.set_cons_zero, List.set_cons_succ]))
                  (refine wpM_take (i := 2) (v := undef) rfl (by kernel_rfl) (by kernel_rfl) (by kernel_rfl) (by decide) (fun _ _ _ h => h) hcl hC (fun _ => hE) (Or.inr ⟨by rfl, rfl⟩) ?_; clear hcl; intro hcl; (try simp only [Act.put, List.getElem_toArray, List.getElem_cons_zero, List.getElem_cons_succ, List.setIfInBounds_toArray, List.set_cons_zero, List.set_cons_succ]))
                  (refine wpM_take (i := 3) (v := undef) rfl (by kernel_rfl) (by kernel_rfl) (by kernel_rfl) (by decide) (fun _ _ _ h => h) hcl hC (fun _ => hE) (Or.inr ⟨by rfl, rfl⟩) ?_; clear hcl; intro hcl; (try simp only [Act.put, List.getElem_toArray, List.getElem_cons_zero, List.getElem_cons_succ, List.setIfInBounds_toArray, List.set_cons_zero, List.set_cons_succ]))
                  (refine wpM_take (i := 4) (v := undef) rfl (by kernel_rfl) (by kernel_rfl) (by kernel_rfl) (by decide) (fun _ _ _ h => h) hcl hC (fun _ => hE) (Or.inr ⟨by rfl, rfl⟩) ?_; clear hcl; intro hcl; (try simp only [Act.put, List.getElem_toArray, List.getElem_cons_zero, List.getElem_cons_succ, List.setIfInBounds_toArray, List.set_cons_zero, List.set_cons_succ]))
                  (refine wpM_take (i := 5) (v := undef) rfl (by kernel_rfl) (by kernel_rfl) (by kernel_rfl) (by decide) (fun _ _ _ h => h) hcl hC (fun _ => hE) (Or.inr ⟨by rfl, rfl⟩) ?_; clear hcl; intro hcl; (try simp only [Act.put, List.getElem_toArray, List.getElem_cons_zero, List.getElem_cons_succ, List.setIfInBounds_toArray, List.set_cons_zero, List.set_cons_succ]))
                  (refine wpM_take (i := 6) (v := undef) rfl (by kernel_rfl) (by kernel_rfl) (by kernel_rfl) (by decide) (fun _ _ _ h => h) hcl hC (fun _ => hE) (Or.inr ⟨by rfl, rfl⟩) ?_; clear hcl; intro hcl; (try simp only [Act.put, List.getElem_toArray, List.getElem_cons_zero, List.getElem_cons_succ, List.setIfInBounds_toArray, List.set_cons_zero, List.set_cons_succ]))
                  (refine wpM_take (i := 7) (v := undef) rfl (by kernel_rfl) (by kernel_rfl) (by kernel_rfl) (by decide) (fun _ _ _ h => h) hcl hC (fun _ => hE) (Or.inr ⟨by rfl, rfl⟩) ?_; clear hcl; intro hcl; (try simp only [Act.put, List.getElem_toArray, List.getElem_cons_zero, List.getElem_cons_succ, List.setIfInBounds_toArray, List.set_cons_zero, List.set_cons_succ]))
                  (refine wpM_take (i := 8) (v := undef) rfl (by kernel_rfl) (by kernel_rfl) (by kernel_rfl) (by decide) (fun _ _ _ h => h) hcl hC (fun _ => hE) (Or.inr ⟨by rfl, rfl⟩) ?_; clear hcl; intro hcl; (try simp only [Act.put, List.getElem_toArray, List.getElem_cons_zero, List.getElem_cons_succ, List.setIfInBounds_toArray, List.set_cons_zero, List.set_cons_succ]))
                  (refine wpM_take (i := 9) (v := undef) rfl (by kernel_rfl) (by kernel_rfl) (by kernel_rfl) (by decide) (fun _ _ _ h => h) hcl hC (fun _ => hE) (Or.inr ⟨by rfl, rfl⟩) ?_; clear hcl; intro hcl; (try simp only [Act.put, List.getElem_toArray, List.getElem_cons_zero, List.getElem_cons_succ, List.setIfInBounds_toArray, List.set_cons_zero, List.set_cons_succ]))
                  (refine wpM_take (i := 10) (v := ?_) rfl (by kernel_rfl) (by kernel_rfl) (by kernel_rfl) (by decide) (fun _ _ _ h => h) hcl hC (fun _ => hE) (Or.inl ⟨by rfl, ?_⟩) ?_; rotate_left; (· (intro w hSw; (try dsimp only at hSw); go_simp; (try with_reducible rfl))); clear hcl; intro hcl; (try simp only [Act.put, List.getElem_toArray, List.getElem_cons_zero, List.getElem_cons_succ, List.setIfInBounds_toArray, List.set_cons_zero, List.set_cons_succ]))
                  (refine wpM_take (i := 11) (v := ?_) rfl (by kernel_rfl) (by kernel_rfl) (by kernel_rfl) (by decide) (fun _ _ _ h => h) hcl hC (fun _ => hE) (Or.inl ⟨by rfl, ?_⟩) ?_; rotate_left; (· (intro w hSw; (try dsimp only at hSw); go_simp; (try with_reducible rfl))); clear hcl; intro hcl; (try simp only [Act.put, List.getElem_toArray, List.getElem_cons_zero, List.getElem_cons_succ, List.setIfInBounds_toArray, List.set_cons_zero, List.set_cons_succ]))
                  refine wpM_done (by kernel_rfl) ?_
                  clear hcl hE hC
                  try simp only [Act.put, List.getElem_toArray, List.getElem_cons_zero, List.getElem_cons_succ, List.setIfInBounds_toArray, List.set_cons_zero, List.set_cons_succ]
                  go_wp2
                  go_roundg (n + 1 - (q2 + 1))
                  case measure => omega
                  case rel => exact ⟨q2 + 1, true, by omega, by omega, rfl, by go_num, hT.out, hGd⟩
                | false =>
                  have hq0 : KQ wr.heap.size wr wr := kq (Below.refl _ _)
                  by_cases he : u.1 = t
                  · have hT : Hid (((xs.take (q2 + 1)).any fun a => decide (a.1 = t)) = true) := Lib.hid (by rw [hstH.out, decide_eq_true he]; rfl)
                    have h1 : u.1.1.1 = t.1.1 := by rw [he]
                    have h2 : u.1.1.2 = t.1.2 := by rw [he]
                    have h3 : u.1.2 = t.2 := by rw [he]
                    rw [h1] at p0
                    rw [h2] at p1
                    rw [h3] at p2
                    clear he h1 h2 h3
                    go_wp2
                    go_quiet (fail)
                    go_wp2
                    go_roundg (n + 1 - (q2 + 1))
                    case measure => omega
                    case rel => exact ⟨q2 + 1, true, by omega, by omega, rfl, by go_num, hT.out, hbr.trans ⟨rfl, rfl, rfl, Nat.le_refl _, fun _ _ => rfl⟩⟩
                  · have hT : Hid (((xs.take (q2 + 1)).any fun a => decide (a.1 = t)) = false) := Lib.hid (by rw [hstH.out, decide_eq_false he]; rfl)
                    have hne : ¬ (u.1.1.1 = t.1.1 ∧ u.1.1.2 = t.1.2 ∧ u.1.2 = t.2) := fun h => he (Prod.ext (Prod.ext h.1 h.2.1) h.2.2)
                    clear he
                    by_cases h1 : u.1.1.1 = t.1.1
                    · by_cases h2 : u.1.1.2 = t.1.2
                      · have h3 : ¬ u.1.2 = t.2 := fun e => hne ⟨h1, h2, e⟩
                        clear hne
                        go_wp2
                        go_quiet (fail)
                        go_wp2
                        go_roundg (n + 1 - (q2 + 1))
                        case measure => omega
                        case rel => exact ⟨q2 + 1, false, by omega, by omega, rfl, by go_num, hT.out, hbr.trans ⟨rfl, rfl, rfl, Nat.le_refl _, fun _ _ => rfl⟩⟩
                      · clear hne
                        go_wp2
                        go_quiet (fail)
                        go_wp2
                        go_roundg (n + 1 - (q2 + 1))
                        case measure => omega
                        case rel => exact ⟨q2 + 1, false, by omega, by omega, rfl, by go_num, hT.out, hbr.trans ⟨rfl, rfl, rfl, Nat.le_refl _, fun _ _ => rfl⟩⟩
                    · clear hne
                      go_wp2
                      go_quiet (fail)
                      go_wp2
                      go_roundg (n + 1 - (q2 + 1))
                      case measure => omega
                      case rel => exact ⟨q2 + 1, false, by omega, by omega, rfl, by go_num, hT.out, hbr.trans ⟨rfl, rfl, rfl, Nat.le_refl _, fun _ _ => rfl⟩⟩
              · obtain rfl : q2 = n := by omega
                as_aux_lemma =>
                have hnli : ¬ (q2 : Int) < (q2 : Int) := by omega
                rw [List.take_of_length_le (by rw [hxn]; exact Nat.le_refl _)] at hbt
                have hth : bt = false → hasO Q.1.1 Q.1.2 e = true := fun h => by
                  rw [← hbt] at h
                  rcases hfin.out.2 with h2 | h2
                  · obtain ⟨a, ha, hat⟩ := List.mem_map.1 h2
                    exact absurd (decide_eq_true hat) (List.any_eq_false.1 h a ha)
                  · exact h2
                have hthH := Lib.hid hth
                have hQU := Lib.hid hfin.out.1
                clear hth hfin hbt
                have hbQr := blk_below hbQ14.out hbr
                have hbUr := blk_below hbU14.out hbr
                have hQr := Lib.hid (And.intro ((hQ14.out.1.below hbr).more hbr.size) ((hQ14.out.2.below hbr).more hbr.size))
                have hUr := Lib.hid (And.intro ((hU14.out.1.below hbr).more hbr.size) ((hU14.out.2.below hbr).more hbr.size))
                have hltq := blk_lt hbQr
                have q0 := blk_cell hbQr 0
                have q1 := blk_cell hbQr 1
                simp at q0 q1
                have hltu := blk_lt hbUr
                have y0 := blk_cell hbUr 0
                have y1 := blk_cell hbUr 1
                simp at y0 y1
                clear hbQr hbUr hbQ14 hbU14 hQ14 hU14
                go_upto_region 30 with (fail)
                refine wp_region_M (fun w' => KQ wr.heap.size wr w') (fun _ => True) 99 (by kernel_rfl) (kq (Below.refl _ _).drew) trivial ?_
                intro hcl
                have hC : KQ wr.heap.size wr wr.drew := kq (Below.refl _ _).drew
                have hE := trivial
                have hK0 : Below wr.heap.size wr wr.drew := (Below.refl _ _).drew
                (refine wpM_take (i := 0) (v := ?_) rfl (by kernel_rfl) (by kernel_rfl) (by kernel_rfl) (by decide) (fun _ _ _ h => h) hcl hC (fun _ => hE) (Or.inl ⟨by rfl, ?_⟩) ?_; rotate_left; (· (intro w hSw; (try dsimp only at hSw); go_simp; (try with_reducible rfl))); clear hcl; intro hcl; (try simp only [Act.put, List.getElem_toArray, List.getElem_cons_zero, List.getElem_cons_succ, List.setIfInBounds_toArray, List.set_cons_zero, List.set_cons_succ]))
                (refine wpM_take (i := 2) (v := ?_) rfl (by kernel_rfl) (by kernel_rfl) (by kernel_rfl) (by decide) (fun _ _ _ h => h) hcl hC (fun _ => hE) (Or.inl ⟨by rfl, ?_⟩) ?_; rotate_left; (· (intro w hSw; (try dsimp only at hSw); go_simp; (try with_reducible rfl))); clear hcl; intro hcl; (try simp only [Act.put, List.getElem_toArray, List.getElem_cons_zero, List.getElem_cons_succ, List.setIfInBounds_toArray, List.set_cons_zero, List.set_cons_succ]))
                refine wpM_only (i := 1) rfl (by kernel_rfl) hcl (fun K hK => ?_)
                go_simp
                refine (cFq.out A5 n5 c5 B5 m5 d5 wr.drew ((hQr.out.1.below hK0).more hK0.size) ((hQr.out.2.below hK0).more hK0.size)).mono ?_
                rintro r v1 ⟨A7, c7, B7, d7, rfl, hF1, hF2, hv1⟩
                have hK1 : Below wr.heap.size wr v1 := hK0.trans (hv1.mono hK0.size)
                have hC1 : KQ wr.heap.size wr v1 := kq hK1
                refine hK.out _ _ hC1 trivial ?_
                clear hK K
                clear hcl
                intro hcl
                (try simp only [Act.put, List.getElem_toArray, List.getElem_cons_zero, List.getElem_cons_succ, List.setIfInBounds_toArray, List.set_cons_zero, List.set_cons_succ])
                clear hC
                have hC := hC1
                refine wpM_only (i := 3) rfl (by kernel_rfl) hcl (fun K hK => ?_)
                go_simp
                refine (cFu.out A6 n6 c6 B6 m6 d6 v1 ((hUr.out.1.below hK1).more hK1.size) ((hUr.out.2.below hK1).more hK1.size)).mono ?_
                rintro r v2 ⟨A8, c8, B8, d8, rfl, hF3, hF4, hv2⟩
                have hK2 : Below wr.heap.size wr v2 := hK1.trans (hv2.mono hK1.size)
                have hC2 : KQ wr.heap.size wr v2 := kq hK2
                refine hK.out _ _ hC2 trivial ?_
                clear hK K
                clear hcl
                intro hcl
                (try simp only [Act.put, List.getElem_toArray, List.getElem_cons_zero, List.getElem_cons_succ, List.setIfInBounds_toArray, List.set_cons_zero, List.set_cons_succ])
                clear hC
                have hC := hC2
                refine wpM_only (i := 4) rfl (by kernel_rfl) hcl (fun K hK => ?_)
                go_simp
                refine (osame_any A7 n5 c7 Q.1.1 B7 m5 d7 Q.1.2 A8 n6 c8 U.1.1 B8 m6 d8 U.1.2 v2 ((hF1.below hv2).more hv2.size) ((hF2.below hv2).more hv2.size) hF3 hF4 (by have := hF1.len; have := hlQ.out.1; simp [maxLen]; omega) (by have := hF2.len; have := hlQ.out.2; simp [maxLen]; omega) (by have := hF3.len; have := hlU.out.1; simp [maxLen]; omega) (by have := hF4.len; have := hlU.out.2; simp [maxLen]; omega)).mono ?_
                rintro r v3 ⟨rfl, hv3⟩
                rw [show (decide (Q.1.1 = U.1.1) && decide (Q.1.2 = U.1.2)) = true from by rw [hQU.out]; simp]
                have hK3 : Below wr.heap.size wr v3 := hK2.trans (hv3.mono hK2.size)
                have hC3 : KQ wr.heap.size wr v3 := kq hK3
                refine hK.out _ _ hC3 trivial ?_
                clear hK K
                clear hcl
                intro hcl
                (try simp only [Act.put, List.getElem_toArray, List.getElem_cons_zero, List.getElem_cons_succ, List.setIfInBounds_toArray, List.set_cons_zero, List.set_cons_succ])
                clear hC
                have hC := hC3
                clear hF1 hF2 hF3 hF4
                cases bt with
                | true =>
                  (refine wpM_take (i := 5) (v := ?_) rfl (by kernel_rfl) (by kernel_rfl) (by kernel_rfl) (by decide) (fun _ _ _ h => h) hcl hC (fun _ => hE) (Or.inl ⟨by rfl, ?_⟩) ?_; rotate_left; (· (intro w hSw; (try dsimp only at hSw); go_simp; (try with_reducible rfl))); clear hcl; intro hcl; (try simp only [Act.put, List.getElem_toArray, List.getElem_cons_zero, List.getElem_cons_succ, List.setIfInBounds_toArray, List.set_cons_zero, List.set_cons_succ]))
                  (refine wpM_take (i := 6) (v := ?_) rfl (by kernel_rfl) (by kernel_rfl) (by kernel_rfl) (by decide) (fun _ _ _ h => h) hcl hC (fun _ => hE) (Or.inl ⟨by rfl, ?_⟩) ?_; rotate_left; (· (intro w hSw; (try dsimp only at hSw); go_simp; (try with_reducible rfl))); clear hcl; intro hcl; (try simp only [Act.put, List.getElem_toArray, List.getElem_cons_zero, List.getElem_cons_succ, List.setIfInBounds_toArray, List.set_cons_zero, List.set_cons_succ]))
                  (refine wpM_take (i := 7) (v := ?_) rfl (by kernel_rfl) (by kernel_rfl) (by kernel_rfl) (by decide) (fun _ _ _ h => h) hcl hC (fun _ => hE) (Or.inl ⟨by rfl, ?_⟩) ?_; rotate_left; (· (intro w hSw; (try dsimp only at hSw); go_simp; (try with_reducible rfl))); clear hcl; intro hcl; (try simp only [Act.put, List.getElem_toArray, List.getElem_cons_zero, List.getElem_cons_succ, List.setIfInBounds_toArray, List.set_cons_zero, List.set_cons_succ]))
                  (refine wpM_take (i := 8) (v := undef) rfl (by kernel_rfl) (by kernel_rfl) (by kernel_rfl) (by decide) (fun _ _ _ h => h) hcl hC (fun _ => hE) (Or.inr ⟨by rfl, rfl⟩) ?_; clear hcl; intro hcl; (try simp only [Act.put, List.getElem_toArray, List.getElem_cons_zero, List.getElem_cons_succ, List.setIfInBounds_toArray, List.set_cons_zero, List.set_cons_succ]))
                  (refine wpM_take (i := 9) (v := undef) rfl (by kernel_rfl) (by kernel_rfl) (by kernel_rfl) (by decide) (fun _ _ _ h => h) hcl hC (fun _ => hE) (Or.inr ⟨by rfl, rfl⟩) ?_; clear hcl; intro hcl; (try simp only [Act.put, List.getElem_toArray, List.getElem_cons_zero, List.getElem_cons_succ, List.setIfInBounds_toArray, List.set_cons_zero, List.set_cons_succ]))
                  (refine wpM_take (i := 10) (v := undef) rfl (by kernel_rfl) (by kernel_rfl) (by kernel_rfl) (by decide) (fun _ _ _ h => h) hcl hC (fun _ => hE) (Or.inr ⟨by rfl, rfl⟩) ?_; clear hcl; intro hcl; (try simp only [Act.put, List.getElem_toArray, List.getElem_cons_zero, List.getElem_cons_succ, List.setIfInBounds_toArray, List.set_cons_zero, List.set_cons_succ]))
                  (refine wpM_take (i := 11) (v := ?_) rfl (by kernel_rfl) (by kernel_rfl) (by kernel_rfl) (by decide) (fun _ _ _ h => h) hcl hC (fun _ => hE) (Or.inl ⟨by rfl, ?_⟩) ?_; rotate_left; (· (intro w hSw; (try dsimp only at hSw); go_simp; (try with_reducible rfl))); clear hcl; intro hcl; (try simp only [Act.put, List.getElem_toArray, List.getElem_cons_zero, List.getElem_cons_succ, List.setIfInBounds_toArray, List.set_cons_zero, List.set_cons_succ]))
                  (refine wpM_take (i := 12) (v := ?_) rfl (by kernel_rfl) (by kernel_rfl) (by kernel_rfl) (by decide) (fun _ _ _ h => h) hcl hC (fun _ => hE) (Or.inl ⟨by rfl, ?_⟩) ?_; rotate_left; (· (intro w hSw; (try dsimp only at hSw); go_simp; (try with_reducible rfl))); clear hcl; intro hcl; (try simp only [Act.put, List.getElem_toArray, List.getElem_cons_zero, List.getElem_cons_succ, List.setIfInBounds_toArray, List.set_cons_zero, List.set_cons_succ]))
                  (refine wpM_take (i := 13) (v := ?_) rfl (by kernel_rfl) (by kernel_rfl) (by kernel_rfl) (by decide) (fun _ _ _ h => h) hcl hC (fun _ => hE) (Or.inl ⟨by rfl, ?_⟩) ?_; rotate_left; (· (intro w hSw; (try dsimp only at hSw); go_simp; (try with_reducible rfl))); clear hcl; intro hcl; (try simp only [Act.put, List.getElem_toArray, List.getElem_cons_zero, List.getElem_cons_succ, List.setIfInBounds_toArray, List.set_cons_zero, List.set_cons_succ]))
                  refine wpM_done (by kernel_rfl) ?_
                  clear hcl hE hC
                  try simp only [Act.put, List.getElem_toArray, List.getElem_cons_zero, List.getElem_cons_succ, List.setIfInBounds_toArray, List.set_cons_zero, List.set_cons_succ]
                  have hfinal := hW.trans ((hGr.trans ((hK3).mono hGr.size)).mono hzW)
                  go_wp2
                  go_ret
                  exact ⟨rfl, hfinal⟩
                | false =>
                  (refine wpM_take (i := 5) (v := ?_) rfl (by kernel_rfl) (by kernel_rfl) (by kernel_rfl) (by decide) (fun _ _ _ h => h) hcl hC (fun _ => hE) (Or.inl ⟨by rfl, ?_⟩) ?_; rotate_left; (· (intro w hSw; (try dsimp only at hSw); go_simp; (try with_reducible rfl))); clear hcl; intro hcl; (try simp only [Act.put, List.getElem_toArray, List.getElem_cons_zero, List.getElem_cons_succ, List.setIfInBounds_toArray, List.set_cons_zero, List.set_cons_succ]))
                  (refine wpM_take (i := 6) (v := ?_) rfl (by kernel_rfl) (by kernel_rfl) (by kernel_rfl) (by decide) (fun _ _ _ h => h) hcl hC (fun _ => hE) (Or.inl ⟨by rfl, ?_⟩) ?_; rotate_left; (· (intro w hSw; (try dsimp only at hSw); go_simp; (try with_reducible rfl))); clear hcl; intro hcl; (try simp only [Act.put, List.getElem_toArray, List.getElem_cons_zero, List.getElem_cons_succ, List.setIfInBounds_toArray, List.set_cons_zero, List.set_cons_succ]))
                  (refine wpM_take (i := 7) (v := ?_) rfl (by kernel_rfl) (by kernel_rfl) (by kernel_rfl) (by decide) (fun _ _ _ h => h) hcl hC (fun _ => hE) (Or.inl ⟨by rfl, ?_⟩) ?_; rotate_left; (· (intro w hSw; (try dsimp only at hSw); go_simp; (try with_reducible rfl))); clear hcl; intro hcl; (try simp only [Act.put, List.getElem_toArray, List.getElem_cons_zero, List.getElem_cons_succ, List.setIfInBounds_toArray, List.set_cons_zero, List.set_cons_succ]))
                  (refine wpM_take (i := 8) (v := ?_) rfl (by kernel_rfl) (by kernel_rfl) (by kernel_rfl) (by decide) (fun _ _ _ h => h) hcl hC (fun _ => hE) (Or.inl ⟨by rfl, ?_⟩) ?_; rotate_left; (· (intro w hSw; (try dsimp only at hSw); go_simp; (try with_reducible rfl))); clear hcl; intro hcl; (try simp only [Act.put, List.getElem_toArray, List.getElem_cons_zero, List.getElem_cons_succ, List.setIfInBounds_toArray, List.set_cons_zero, List.set_cons_succ]))
                  (refine wpM_take (i := 9) (v := ?_) rfl (by kernel_rfl) (by kernel_rfl) (by kernel_rfl) (by decide) (fun _ _ _ h => h) hcl hC (fun _ => hE) (Or.inl ⟨by rfl, ?_⟩) ?_; rotate_left; (· (intro w hSw; (try dsimp only at hSw); go_simp; (try with_reducible rfl))); clear hcl; intro hcl; (try simp only [Act.put, List.getElem_toArray, List.getElem_cons_zero, List.getElem_cons_succ, List.setIfInBounds_toArray, List.set_cons_zero, List.set_cons_succ]))
                  refine wpM_only (i := 10) rfl (by kernel_rfl) hcl (fun K hK => ?_)
                  go_simp
                  refine (cHq.out A5 n5 c5 B5 m5 d5 v3 ((hQr.out.1.below hK3).more hK3.size) ((hQr.out.2.below hK3).more hK3.size)).mono ?_
                  rintro r v4 ⟨rfl, hv4⟩
                  rw [hthH.out rfl]
                  have hK4 : Below wr.heap.size wr v4 := hK3.trans (hv4.mono hK3.size)
                  have hC4 : KQ wr.heap.size wr v4 := kq hK4
                  refine hK.out _ _ hC4 trivial ?_
                  clear hK K
                  clear hcl
                  intro hcl
                  (try simp only [Act.put, List.getElem_toArray, List.getElem_cons_zero, List.getElem_cons_succ, List.setIfInBounds_toArray, List.set_cons_zero, List.set_cons_succ])
                  clear hC
                  have hC := hC4
                  (refine wpM_take (i := 11) (v := ?_) rfl (by kernel_rfl) (by kernel_rfl) (by kernel_rfl) (by decide) (fun _ _ _ h => h) hcl hC (fun _ => hE) (Or.inl ⟨by rfl, ?_⟩) ?_; rotate_left; (· (intro w hSw; (try dsimp only at hSw); go_simp; (try with_reducible rfl))); clear hcl; intro hcl; (try simp only [Act.put, List.getElem_toArray, List.getElem_cons_zero, List.getElem_cons_succ, List.setIfInBounds_toArray, List.set_cons_zero, List.set_cons_succ]))
                  (refine wpM_take (i := 12) (v := ?_) rfl (by kernel_rfl) (by kernel_rfl) (by kernel_rfl) (by decide) (fun _ _ _ h => h) hcl hC (fun _ => hE) (Or.inl ⟨by rfl, ?_⟩) ?_; rotate_left; (· (intro w hSw; (try dsimp only at hSw); go_simp; (try with_reducible rfl))); clear hcl; intro hcl; (try simp only [Act.put, List.getElem_toArray, List.getElem_cons_zero, List.getElem_cons_succ, List.setIfInBounds_toArray, List.set_cons_zero, List.set_cons_succ]))
                  (refine wpM_take (i := 13) (v := ?_) rfl (by kernel_rfl) (by kernel_rfl) (by kernel_rfl) (by decide) (fun _ _ _ h => h) hcl hC (fun _ => hE) (Or.inl ⟨by rfl, ?_⟩) ?_; rotate_left; (· (intro w hSw; (try dsimp only at hSw); go_simp; (try with_reducible rfl))); clear hcl; intro hcl; (try simp only [Act.put, List.getElem_toArray, List.getElem_cons_zero, List.getElem_cons_succ, List.setIfInBounds_toArray, List.set_cons_zero, List.set_cons_succ]))
                  refine wpM_done (by kernel_rfl) ?_
                  clear hcl hE hC
                  try simp only [Act.put, List.getElem_toArray, List.getElem_cons_zero, List.getElem_cons_succ, List.setIfInBounds_toArray, List.set_cons_zero, List.set_cons_succ]
                  have hfinal := hW.trans ((hGr.trans ((hK4).mono hGr.size)).mono hzW)
                  go_wp2
                  go_ret
                  exact ⟨rfl, hfinal⟩
end Go.Proofs.Ytadldndmmobpdaa
