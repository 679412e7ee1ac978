/- The statement SccBehind walked. -/
import Derived.Test.YtebpghpeeedgcaaNm
namespace Go.Proofs.Ytebpghpeeedgcaa
open Go.RowKit

theorem unB_zero {n : Nat} {f : Nat → Bool} (h : ∀ x, x < n → f x = true) : unB n f = 0 := by
  induction n with
  | zero => rfl
  | succ n ih => rw [unB, if_pos (h n (by omega)), ih fun x hx => h x (by omega)]
/-- Each thing's part, as far as it was told. -/
structure AtB (o : List (List Nat)) (n i k : Nat) (f : Nat → Nat) (z : Nat) : Prop where
  pos : ∀ x, x < n → (0 < f x ↔ Tof (o.take i) x ∨ x ∈ (o.getD i []).take k)
  val : ∀ x (m : Nat) p, o[m]? = some p → x ∈ p → (m < i ∨ (m = i ∧ x ∈ p.take k)) → f x = m + 1
  cnt : z + unB n (fun x => decide (0 < f x)) = n
section
variable {g : Gr} {o : List (List Nat)} {n i k z : Nat} {f : Nat → Nat} {p : List Nat} {x : Nat}
theorem AtB.start (o : List (List Nat)) (n : Nat) : AtB o n 0 0 (fun _ => 0) 0 where
  pos := fun x _ => by simp [Tof]
  val := fun x m p _ _ h => by rcases h with h | ⟨_, h⟩ <;> simp at h
  cnt := by simpa using unB_false n
theorem asc_at (ha : p.Pairwise (· < ·)) {j k x y : Nat} (hj : p[j]? = some y) (hk : p[k]? = some x) (h : j < k) : y < x := by
  obtain ⟨h1, h2⟩ := List.getElem?_eq_some_iff.1 hj
  obtain ⟨h3, h4⟩ := List.getElem?_eq_some_iff.1 hk
  rw [← h2, ← h4]
  exact List.pairwise_iff_getElem.1 ha j k h1 h3 h
theorem AtB.fresh (hg : Gok g) (hP : Pre g o) (hn : g.length = n) (h : AtB o n i k f z) (hp : o[i]? = some p) (hx : p[k]? = some x) : x < n ∧ f x = 0 := by
  have hxp := List.mem_of_getElem? hx
  have hxn : x < n := by rw [← hn]; exact hP.lt hp hxp
  refine ⟨hxn, ?_⟩
  rcases Nat.eq_zero_or_pos (f x) with h0 | h0
  · exact h0
  · rcases (h.pos x hxn).1 h0 with h1 | h1
    · exact absurd h1 (hP.once hg hp hxp)
    · rw [List.getD_eq_getElem?_getD, hp] at h1
      obtain ⟨j, hj⟩ := List.mem_iff_getElem?.1 h1
      have hjk : j < k := by
        have := (List.getElem?_eq_some_iff.1 hj).1
        rw [List.length_take] at this
        omega
      rw [List.getElem?_take_of_lt hjk] at hj
      have := asc_at (hP.asc hp) hj hx hjk
      omega
theorem AtB.step (hg : Gok g) (hP : Pre g o) (hn : g.length = n) (h : AtB o n i k f z) (hp : o[i]? = some p) (hx : p[k]? = some x) : AtB o n i (k + 1) (upd f x (i + 1)) (z + 1) := by
  obtain ⟨hxn, hf0⟩ := h.fresh hg hP hn hp hx
  have hxp := List.mem_of_getElem? hx
  have hgd : o.getD i [] = p := by rw [List.getD_eq_getElem?_getD, hp]; rfl
  refine ⟨fun y hy => ?_, fun y m q hq hyq hm => ?_, ?_⟩
  · rw [hgd, List.take_add_one, hx, List.mem_append]
    by_cases e : y = x
    · subst e
      rw [show upd f y (i + 1) y = i + 1 from if_pos rfl]
      exact ⟨fun _ => .inr (.inr (by simp)), fun _ => by omega⟩
    · rw [show upd f x (i + 1) y = f y from if_neg e, h.pos y hy, hgd]
      constructor
      · rintro (h1 | h1)
        · exact .inl h1
        · exact .inr (.inl h1)
      · rintro (h1 | h1 | h1)
        · exact .inl h1
        · exact .inr h1
        · exact absurd (by simpa using h1) e
  · by_cases e : y = x
    · subst e
      rw [show upd f y (i + 1) y = i + 1 from if_pos rfl]
      rcases hm with h1 | ⟨rfl, _⟩
      · exact absurd ⟨q, List.mem_of_getElem? (i := m) (by rw [List.getElem?_take_of_lt h1]; exact hq), hyq⟩ (hP.once hg hp hxp)
      · rfl
    · rw [show upd f x (i + 1) y = f y from if_neg e]
      refine h.val y m q hq hyq ?_
      rcases hm with h1 | ⟨rfl, h1⟩
      · exact .inl h1
      · right
        obtain rfl : p = q := Option.some.inj (hp.symm.trans hq)
        rw [List.take_add_one, hx, List.mem_append] at h1
        rcases h1 with h1 | h1
        · exact ⟨rfl, h1⟩
        · exact absurd (by simpa using h1) e
  · have h1 := unB_upd (f := fun y => decide (0 < f y)) hxn (by rw [hf0]; rfl)
    have h2 : (fun y => decide (0 < upd f x (i + 1) y)) = fun y => if y = x then true else decide (0 < f y) := by
      funext y
      unfold upd
      by_cases e : y = x
      · simp [e]
      · simp [e]
    rw [h2]
    have := h.cnt
    omega
theorem AtB.next (h : AtB o n i k f z) (hp : o[i]? = some p) (hk : p.length ≤ k) : AtB o n (i + 1) 0 f z := by
  have hgd : o.getD i [] = p := by rw [List.getD_eq_getElem?_getD, hp]; rfl
  refine ⟨fun x hx => ?_, fun x m q hq hxq hm => h.val x m q hq hxq ?_, h.cnt⟩
  · rw [h.pos x hx, hgd, List.take_of_length_le hk, List.take_add_one, hp]
    show _ ↔ Tof (o.take i ++ [p]) x ∨ _
    rw [tof_snoc]
    simp
  · rcases hm with h1 | ⟨_, h1⟩
    · by_cases e : m = i
      · right
        refine ⟨e, ?_⟩
        obtain rfl : p = q := by rw [e, hp] at hq; exact Option.some.inj hq
        rw [List.take_of_length_le hk]; exact hxq
      · exact .inl (by omega)
    · simp at h1
theorem AtB.end_ (h : AtB o n o.length 0 f z) (ha : ∀ x, x < n → Tof o x) : z = n := by
  have h1 : unB n (fun x => decide (0 < f x)) = 0 := unB_zero fun x hx => decide_eq_true ((h.pos x hx).2 (.inl (by rw [List.take_length]; exact ha x hx)))
  have := h.cnt
  omega
theorem AtB.le (hg : Gok g) (hP : Pre g o) (h : AtB o n o.length 0 f z) {x y : Nat} (hx : Tof o x) (he : Ed g x y) : f y ≤ f x := by
  obtain ⟨p, hp, hxp⟩ := hx
  obtain ⟨m, hm⟩ := List.mem_iff_getElem?.1 hp
  have hml := (List.getElem?_eq_some_iff.1 hm).1
  have hfx := h.val x m p hm hxp (.inl hml)
  rcases hP.behind hg hm hxp (.step he (.refl _)) with ⟨q, hq, hyq⟩ | hy
  · obtain ⟨j, hj⟩ := List.mem_iff_getElem?.1 hq
    have hjm : j < m := by
      have := (List.getElem?_eq_some_iff.1 hj).1
      rw [List.length_take] at this
      omega
    rw [List.getElem?_take_of_lt hjm] at hj
    have := h.val y j q hj hyq (.inl (by omega))
    omega
  · have := h.val y m p hm hy (.inl hml)
    omega
end
theorem row_at {ps : List Rw} {o : List (List Nat)} (h : ps.map Rw.xs = o.map fun l => l.map Int.ofNat) {i : Nat} {r : Rw} (hr : ps[i]? = some r) : ∃ p, o[i]? = some p ∧ r.xs = p.map Int.ofNat := by
  have h1 : (ps.map Rw.xs)[i]? = some r.xs := by rw [List.getElem?_map, hr]; rfl
  rw [h, List.getElem?_map] at h1
  obtain ⟨p, h2, h3⟩ := Option.map_eq_some_iff.1 h1
  exact ⟨p, h2, h3.symm⟩
set_option maxRecDepth 100000 in
set_option maxHeartbeats 8000000 in
theorem sccbehind_any (A : Option Addr) (n c : Nat) (rs : List Rw) (w : World) (hA : RdG w w.heap.size A n rs) (hn : n ≤ maxLen) (hr : ∀ r ∈ rs, r.l ≤ 1000000000000000) :
    Calls Try.prog 4 #[.slice A n c] w fun e w' => e = .returned (.bool true) ∧ Below w.heap.size w w' := by
  have cV := Lib.hid (worksS_any w)
  have cG := Lib.hid (fun w' (hb' : Below w.heap.size w w') => great_any A n c rs w' ((hA.below hb').more hb'.size) hn hr)
  cases hG : greatP n rs with
  | true =>
    rw [hG] at cG
    clear hA hr hG hn
    go_enter Try.func4, Try.ntmps4
    go_wp2_with fail
    refine cV.out.mono ?_
    rintro e w1 ⟨rfl, hb1⟩
    go_wp2_with fail
    refine (cG.out w1 hb1).mono ?_
    rintro e w2 ⟨rfl, hb2⟩
    have hbF := hb1.trans (hb2.mono hb1.size)
    go_wp2
    go_ret
    exact ⟨rfl, hbF⟩
  | false =>
  rw [hG] at cG
  obtain ⟨hn40, hr300⟩ := great_small hG
  have cK := Lib.hid (fun w' (hb' : Below w.heap.size w w') => rscheck_any A n c rs w' ((hA.below hb').more hb'.size) (by unfold maxLen; omega) (fun r hr => Nat.le_trans (hr300 r hr) (by decide)))
  obtain ⟨E, hE⟩ : ∃ E, checkS n rs = E := ⟨_, rfl⟩
  rw [hE] at cK
  by_cases hE0 : E = 0
  case neg =>
    have hEd : (E == 0) = false := by rw [beq_eq_false_iff_ne]; exact hE0
    have hEd2 : (E != 0) = true := by rw [bne, hEd]; rfl
    clear hA hr hG hn hE hr300
    go_enter Try.func4, Try.ntmps4
    go_wp2_with fail
    refine cV.out.mono ?_
    rintro e w1 ⟨rfl, hb1⟩
    go_wp2_with fail
    refine (cG.out w1 hb1).mono ?_
    rintro e w2 ⟨rfl, hb2⟩
    have hb02 := hb1.trans (hb2.mono hb1.size)
    go_wp2_with fail
    refine (cK.out w2 hb02).mono ?_
    rintro e w3 ⟨rfl, hb3⟩
    have hbF := hb02.trans (hb3.mono hb02.size)
    go_wp2
    go_ret
    exact ⟨rfl, hbF⟩
  subst hE0
  have hAH := Lib.hid hA
  have hrH : Hid (∀ r ∈ rs, r.l ≤ 300) := Lib.hid hr300
  have hlH := Lib.hid hA.len
  have hEH := Lib.hid hE
  have cO := Lib.hid (fun w' (hb' : Below w.heap.size w w') => ownG_any A n c rs w' ((hAH.out.below hb').more hb'.size) (by omega) (fun r hr => Nat.le_trans (hrH.out r hr) (by decide)))
  clear hA hr hG hr300 hE hn
  go_enter Try.func4, Try.ntmps4
  go_wp2_with fail
  refine cV.out.mono ?_
  rintro e w1 ⟨rfl, hb1⟩
  go_wp2_with fail
  refine (cG.out w1 hb1).mono ?_
  rintro e w2 ⟨rfl, hb2⟩
  have hb02 := hb1.trans (hb2.mono hb1.size)
  go_wp2_with fail
  refine (cK.out w2 hb02).mono ?_
  rintro e w3 ⟨rfl, hb3⟩
  have hb03 := hb02.trans (hb3.mono hb02.size)
  clear cV cG cK hb1 hb2 hb3 hb02
  go_wp2_with fail
  refine (cO.out w3 hb03).mono ?_
  rintro e w4 ⟨O1, oc1, rs1, rfl, hR1, hx1, hb4⟩
  have hb04 := hb03.trans (hb4.mono hb03.size)
  rw [hlH.out] at hR1
  have cP := Lib.hid (sparts_any O1 n oc1 rs1 w4 hR1 (by unfold maxLen; omega) (own_max hAH.out hR1 hx1 (fun r hr => Nat.le_trans (hrH.out r hr) (by decide))))
  rw [checkS_congr n hAH.out hR1 hx1, hx1, hEH.out] at cP
  clear hR1 hx1 cO hb4 hb03
  rw [hlH.out]
  go_wp2_with fail
  refine cP.out.mono ?_
  rintro e w5 ⟨P1, pc1, ps, o, rfl, hp, hm, ho, hf, _, hb5⟩
  have hb05 := hb04.trans (hb5.mono hb04.size)
  have hz05 := hb05.size
  obtain ⟨hFu, hAll⟩ := hf rfl
  obtain ⟨g, hg⟩ : ∃ g, gOf (rs.map Rw.xs) = g := ⟨_, rfl⟩
  rw [hg] at hFu
  have hgn : Hid (g.length = n) := Lib.hid (by rw [← hg, gOf_len, List.length_map]; exact hlH.out)
  have hgk : Hid (Gok g) := Lib.hid (by rw [← hg]; exact gOf_ok _)
  have hPre := Lib.hid hFu.1
  have hAllH := Lib.hid hAll
  have hoH := Lib.hid ho
  have hpH := Lib.hid hp
  have hmH := Lib.hid hm
  have hgH := Lib.hid hg
  have hpl : Hid (o.length = ps.length) := Lib.hid (by have := congrArg List.length ho; simpa using this.symm)
  have hpl40 : ps.length ≤ 40 := by
    have := hPre.out.len_le hgk.out
    rw [hgn.out, hpl.out] at this
    omega
  have hmk := make_int n (by omega)
  obtain ⟨U, hU⟩ : ∃ U, w5.alloc (.cells (rowN n fun _ => 0) 3) = U := ⟨_, rfl⟩
  have hbU : Below w5.heap.size w5 U := by rw [← hU]; exact (Below.refl _ w5).alloc (Nat.le_refl _) _
  have haU : U.heap[w5.heap.size]? = some (.cells (rowN n fun _ => 0) 3 (0, 0)) := by rw [← hU]; exact heap_at _ _ rfl
  have haUH := Lib.hid haU
  clear hp hm ho hf hFu hAll hg haU cP hb04 hb5
  go_wp2_with fail
  try rw [hU]
  clear hU hmk
  go_loopg [6, 7] (ps.length + 1) (fun gg zv iv wr => ∃ (i z : Nat) (f : Nat → Nat), i ≤ ps.length ∧ gg = ps.length + 1 - i ∧ iv = .int .i64 (i : Int) ∧ zv = .int .i64 (z : Int) ∧ AtB o n i 0 f z ∧ wr.heap[w5.heap.size]? = some (.cells (rowN n f) 3 (0, 0)) ∧ Below w5.heap.size w5 wr)
  case atStart => exact ⟨0, 0, fun _ => 0, Nat.zero_le _, rfl, rfl, rfl, AtB.start _ _, haUH.out, hbU⟩
  case round =>
    obtain ⟨i, z, f, hi, rfl, rfl, rfl, hat, hrow, hbr⟩ := hrel
    obtain ⟨wv, hwv⟩ : ∃ wv, wv = wr := ⟨_, rfl⟩
    obtain rfl := hwv
    have hzr := hbr.size
    have hatH := Lib.hid hat
    have hrowH := Lib.hid hrow
    clear hat hrow
    by_cases hlt : i < ps.length
    · have hlti : (i : Int) < (ps.length : Int) := by omega
      obtain ⟨pb, po, r, hPA, hpb, hq, hc, hk⟩ := (hpH.out.below hbr).at_ hlt
      subst hPA
      obtain ⟨p, hop, hrx⟩ := row_at hoH.out hq
      have hrl : r.l = p.length := by rw [← hk.len, hrx, List.length_map]
      have hmr := hmH.out r (List.mem_of_getElem? hq)
      have hin1 : IntKind.i64.wrap ((i : Int) + 1) = ((i + 1 : Nat) : Int) := by rw [IntWalk.i64_in _ (by omega)]; omega
      have hopH := Lib.hid hop
      have hrxH := Lib.hid hrx
      have hqH := Lib.hid hq
      have hrlH := Lib.hid hrl
      clear hop hrx hq hk hc hrl
      go_wp2_with fail
      go_loopg [6, 8] (r.l + 1) (fun gg zv kv wx => ∃ (k z : Nat) (f : Nat → Nat), k ≤ r.l ∧ gg = r.l + 1 - k ∧ kv = .int .i64 (k : Int) ∧ zv = .int .i64 (z : Int) ∧ AtB o n i k f z ∧ wx.heap[w5.heap.size]? = some (.cells (rowN n f) 3 (0, 0)) ∧ Below w5.heap.size w5 wx)
      case atStart => exact ⟨0, z, f, Nat.zero_le _, rfl, rfl, rfl, hatH.out, hrowH.out, hbr⟩
      case round =>
        obtain ⟨k, z2, f2, hk, rfl, rfl, rfl, hat, hrow, hbx⟩ := hrel
        obtain ⟨wx, hwx⟩ : ∃ wx, wx = wr := ⟨_, rfl⟩
        obtain rfl := hwx
        have hzx := hbx.size
        obtain ⟨pb2, po2, r2, hPA2, hpb2, hq2, hc, hk2⟩ := (hpH.out.below hbx).at_ hlt
        injection hPA2 with hPA2
        injection hPA2 with hPA2 hPA3
        subst hPA2
        subst hPA3
        obtain rfl : r = r2 := Option.some.inj (hqH.out.symm.trans hq2)
        have hkn1 : IntKind.i64.wrap ((k : Int) + 1) = ((k + 1 : Nat) : Int) := by rw [IntWalk.i64_in _ (by omega)]; omega
        have hzle : z2 ≤ 40 := by have := hat.cnt; omega
        have hzn1 : IntKind.i64.wrap ((z2 : Int) + 1) = ((z2 + 1 : Nat) : Int) := by rw [IntWalk.i64_in _ (by omega)]; omega
        have hpbl : pb < wx.heap.size := by omega
        by_cases hlt2 : k < r.l
        · have hlt2i : (k : Int) < (r.l : Int) := by omega
          obtain ⟨b2, o2, v, hA2, hb2, hv, hcv⟩ := hk2.at_ hlt2
          rw [hrxH.out, List.getElem?_map] at hv
          obtain ⟨x, hx, hxv⟩ := Option.map_eq_some_iff.1 hv
          obtain rfl : v = (x : Int) := hxv.symm
          obtain ⟨hxn, hf0⟩ := hat.fresh hgk.out hPre.out hgn.out hopH.out hx
          have hat2 := Lib.hid (hat.step hgk.out hPre.out hgn.out hopH.out hx)
          have hxd : decide ((x : Int) < 0) = false := decide_eq_false (by omega)
          have hxd2 : decide ((n : Int) ≤ (x : Int)) = false := decide_eq_false (by omega)
          have hx0 : ¬ (x : Int) < 0 := by omega
          have hx1 : ¬ (n : Int) ≤ (x : Int) := by omega
          have hxni : (x : Int) < (n : Int) := by omega
          have cx := blk_cell hrow x
          rw [rowN_at _ hxn, hf0] at cx
          have hfx := blk_frozen hrow x
          have hlx := blk_lt hrow
          have hrow2 := Lib.hid (rowN_store hrow (i := x) (i + 1))
          rw [hA2] at hc
          have hb2l : b2 < wx.heap.size := by omega
          have hbN : Below w5.heap.size w5 (wx.setCell ⟨w5.heap.size, x, none⟩ (.int .i64 ((i + 1 : Nat) : Int))) := hbx.setCell (Nat.le_refl _) _
          have hasc := hPre.out.asc hopH.out
          have hk2H := Lib.hid hk2
          rcases Nat.eq_zero_or_pos k with hk0 | hk0
          · subst hk0
            rw [Nat.add_zero] at hcv
            have hkd : decide ((0 : Int) < ((0 : Nat) : Int)) = false := by decide
            clear hat hrow hv hx hq2 hxv hf0 hasc hk2
            go_wp2_with fail
            go_roundg (r.l + 1 - (0 + 1))
            case measure => omega
            case rel => exact ⟨0 + 1, z2 + 1, _, by omega, rfl, by go_num, by go_num, hat2.out, hrow2.out, hbN⟩
          · have hkd : decide ((0 : Int) < (k : Int)) = true := decide_eq_true (by omega)
            have hk0i : (0 : Int) < (k : Int) := by omega
            obtain ⟨b3, o3, v3, hA3, hb3, hv3, hcv3⟩ := hk2.at_ (k := k - 1) (by omega)
            rw [hA2] at hA3
            injection hA3 with hA3
            injection hA3 with hA3 hA4
            subst hA3
            subst hA4
            rw [hrxH.out, List.getElem?_map] at hv3
            obtain ⟨x3, hx3, hxv3⟩ := Option.map_eq_some_iff.1 hv3
            obtain rfl : v3 = (x3 : Int) := hxv3.symm
            have hlt3 := asc_at hasc hx3 hx (by omega)
            have hx3d : decide ((x : Int) ≤ (x3 : Int)) = false := decide_eq_false (by omega)
            have hx3i : ¬ (x : Int) ≤ (x3 : Int) := by omega
            obtain ⟨k', hk'⟩ : ∃ k', k - 1 = k' := ⟨_, rfl⟩
            rw [hk'] at hcv3
            have hkw : IntKind.i64.wrap ((k : Int) - 1) = (k' : Int) := by rw [IntWalk.i64_in _ (by omega)]; omega
            have hk'i : (k' : Int) < (r.l : Int) := by omega
            clear hat hrow hv hx hq2 hxv hf0 hasc hk2 hv3 hx3 hxv3 hk' hlt3
            go_wp2_with fail
            go_roundg (r.l + 1 - (k + 1))
            case measure => omega
            case rel => exact ⟨k + 1, z2 + 1, _, by omega, rfl, by go_num, by go_num, hat2.out, hrow2.out, hbN⟩
        · obtain rfl : k = r.l := by omega
          have hnlt2 : ¬ (r.l : Int) < (r.l : Int) := by omega
          have hat2 := Lib.hid (hat.next hopH.out (by rw [hrlH.out]; exact Nat.le_refl _))
          have hrow2 := Lib.hid hrow
          clear hat hrow hq2 hk2
          go_wp2_with fail
          go_roundg (ps.length + 1 - (i + 1))
          case measure => omega
          case rel => exact ⟨i + 1, z2, f2, by omega, rfl, by go_num, rfl, hat2.out, hrow2.out, hbx⟩
    · obtain rfl : i = ps.length := by omega
      have hnlt : ¬ (ps.length : Int) < (ps.length : Int) := by omega
      have hatE : Hid (AtB o n o.length 0 f z) := Lib.hid (by rw [hpl.out]; exact hatH.out)
      have hzn : Hid (z = n) := Lib.hid (hatE.out.end_ hAllH.out)
      have hbnd : Hid (∀ x, x < n → f x ≤ 100000) := Lib.hid (fun x hx => by
        obtain ⟨q, hq, hxq⟩ := hAllH.out x hx
        obtain ⟨m, hm⟩ := List.mem_iff_getElem?.1 hq
        have hml := (List.getElem?_eq_some_iff.1 hm).1
        rw [hatE.out.val x m q hm hxq (.inl hml)]
        rw [hpl.out] at hml
        omega)
      clear hatH
      go_wp2_with fail
      go_loopg [10] (n + 1) (fun gg iv wx => ∃ i : Nat, i ≤ n ∧ gg = n + 1 - i ∧ iv = .int .i64 (i : Int) ∧ wx.heap[w5.heap.size]? = some (.cells (rowN n f) 3 (0, 0)) ∧ Below w5.heap.size w5 wx)
      case atStart => exact ⟨0, Nat.zero_le _, rfl, rfl, hrowH.out, hbr⟩
      case round =>
        obtain ⟨i, hi2, rfl, rfl, hrow, hbx⟩ := hrel
        obtain ⟨wx, hwx⟩ : ∃ wx, wx = wr := ⟨_, rfl⟩
        obtain rfl := hwx
        have hzx := hbx.size
        have hrowX := Lib.hid hrow
        clear hrow
        by_cases hlt2 : i < n
        · have hlt2i : (i : Int) < (n : Int) := by omega
          obtain ⟨bA, oA, r, hAe, hbA, hq, hcp, hrk⟩ := (hAH.out.below (hb05.trans (hbx.mono hz05))).at_ hlt2
          subst hAe
          have hmr := hrH.out r (List.mem_of_getElem? hq)
          have hin1 : IntKind.i64.wrap ((i : Int) + 1) = ((i + 1 : Nat) : Int) := by rw [IntWalk.i64_in _ (by omega)]; omega
          have hqH := Lib.hid hq
          clear hq hrk hcp
          go_wp2_with fail
          go_loopg [11] (r.l + 1) (fun gg kv wy => ∃ k : Nat, k ≤ r.l ∧ gg = r.l + 1 - k ∧ kv = .int .i64 (k : Int) ∧ wy.heap[w5.heap.size]? = some (.cells (rowN n f) 3 (0, 0)) ∧ Below w5.heap.size w5 wy)
          case atStart => exact ⟨0, Nat.zero_le _, rfl, rfl, hrowX.out, hbx⟩
          case round =>
            obtain ⟨k, hk, rfl, rfl, hrow, hby⟩ := hrel
            obtain ⟨wy, hwy⟩ : ∃ wy, wy = wr := ⟨_, rfl⟩
            obtain rfl := hwy
            have hzy := hby.size
            obtain ⟨bA2, oA2, r2, hA2, hbA2, hq2, hcp, hrk⟩ := (hAH.out.below (hb05.trans (hby.mono hz05))).at_ hlt2
            injection hA2 with hA2
            injection hA2 with hA2 hA3
            subst hA2
            subst hA3
            obtain rfl : r = r2 := Option.some.inj (hqH.out.symm.trans hq2)
            have hkn1 : IntKind.i64.wrap ((k : Int) + 1) = ((k + 1 : Nat) : Int) := by rw [IntWalk.i64_in _ (by omega)]; omega
            have hbAl : bA < wy.heap.size := by omega
            by_cases hlt3 : k < r.l
            · have hlt3i : (k : Int) < (r.l : Int) := by omega
              obtain ⟨b2, o2, v, hB2, hb2, hv, hcv⟩ := hrk.at_ hlt3
              have hin : inR n v = true := by
                have h1 := hEH.out
                unfold checkS at h1
                split at h1
                · omega
                · split at h1
                  · rename_i h2
                    unfold okX at h2
                    exact List.all_eq_true.1 (List.all_eq_true.1 h2 r (List.mem_of_getElem? hq2)) v (List.mem_of_getElem? hv)
                  · omega
              obtain ⟨y, rfl⟩ : ∃ y : Nat, v = (y : Int) := ⟨v.toNat, by
                unfold inR at hin
                rw [Bool.and_eq_true, decide_eq_true_iff, decide_eq_true_iff] at hin
                omega⟩
              have hyn : y < n := by
                unfold inR at hin
                rw [Bool.and_eq_true, decide_eq_true_iff, decide_eq_true_iff] at hin
                omega
              have hed : Ed g i y := by
                rw [← hgH.out, ed_gOf, List.length_map, hlH.out, getD_map rs hq2]
                exact ⟨hyn, List.mem_of_getElem? hv⟩
              have hle := hatE.out.le hgk.out hPre.out (hAllH.out i hlt2) hed
              have hyd : decide ((f i : Int) < (f y : Int)) = false := decide_eq_false (by omega)
              have hyi : ¬ (f i : Int) < (f y : Int) := by omega
              have hyni : (y : Int) < (n : Int) := by omega
              have ci := blk_cell hrow i
              have cy := blk_cell hrow y
              rw [rowN_at _ hlt2] at ci
              rw [rowN_at _ hyn] at cy
              have hlx := blk_lt hrow
              rw [hB2] at hcp
              have hb2l : b2 < wy.heap.size := by omega
              have hrow2 := Lib.hid (heap_drew hrow)
              have hbN := hby.drew
              clear hrow hv hq2 hrk hin hed hle
              go_wp2_with fail
              go_region
              go_wp2_with fail
              go_roundg (r.l + 1 - (k + 1))
              case measure => omega
              case rel => exact ⟨k + 1, by omega, rfl, by go_num, hrow2.out, hbN⟩
            · obtain rfl : k = r.l := by omega
              have hnlt3 : ¬ (r.l : Int) < (r.l : Int) := by omega
              have hrow2 := Lib.hid hrow
              clear hrow hq2 hrk
              go_wp2_with fail
              go_roundg (n + 1 - (i + 1))
              case measure => omega
              case rel => exact ⟨i + 1, by omega, rfl, by go_num, hrow2.out, hby⟩
        · obtain rfl : i = n := by omega
          have hnlt2 : ¬ (i : Int) < (i : Int) := by omega
          have hze : ((z : Int) == (i : Int)) = true := by rw [hzn.out]; simp
          have hbF := hb05.trans (hbx.mono hz05)
          go_wp2
          go_ret
          exact ⟨rfl, hbF⟩
end Go.Proofs.Ytebpghpeeedgcaa
