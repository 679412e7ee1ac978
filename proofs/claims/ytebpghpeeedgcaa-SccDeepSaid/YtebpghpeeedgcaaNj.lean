/- The document's Whole walked. -/
import Derived.Test.YtebpghpeeedgcaaNi
namespace Go.Proofs.Ytebpghpeeedgcaa
open Go.RowKit

theorem notBad {xs : List (List Int)} {th : List Bool} {j : Nat} : ¬ badW xs th j ↔ th.getD j false = true ∧ ∀ k ∈ xs.getD j [], inR xs.length k = true := by
  unfold badW
  constructor
  · intro h
    refine ⟨?_, fun k hk => ?_⟩
    · cases h1 : th.getD j false with
      | true => rfl
      | false => exact absurd (.inl h1) h
    · cases h1 : inR xs.length k with
      | true => rfl
      | false => exact absurd (.inr ⟨k, hk, h1⟩) h
  · rintro ⟨h1, h2⟩ (h3 | ⟨k, h3, h4⟩)
    · rw [h1] at h3; cases h3
    · rw [h2 k h3] at h4; cases h4
theorem rc_rp {g : Gr} {i j : Nat} : Rc g i j ↔ j = i ∨ Rp g i j := by
  constructor
  · intro h
    rcases h.cases_ with h | h
    · exact .inl h.symm
    · exact .inr h
  · rintro (h | h)
    · rw [h]; exact .refl _
    · exact h.rc
/-- All right as far as j. -/
def OkP (xs : List (List Int)) (th : List Bool) (i j : Nat) (ok : Bool) : Prop := ok = true ↔ th.getD i false = true ∧ ∀ j', j' < j → Rc (gOf xs) i j' → ¬ badW xs th j'
def OkQ (xs : List (List Int)) (th : List Bool) (j k : Nat) (ok0 ok : Bool) : Prop := ok = true ↔ ok0 = true ∧ th.getD j false = true ∧ ∀ v ∈ (xs.getD j []).take k, inR xs.length v = true
section
variable {xs : List (List Int)} {th : List Bool} {i j k : Nat} {ok ok0 : Bool}
theorem OkP.skip (h : OkP xs th i j ok) (hr : ¬ Rc (gOf xs) i j) : OkP xs th i (j + 1) ok := by
  unfold OkP at *
  rw [h]
  refine and_congr_right fun _ => ⟨fun h1 j' hj hr' => ?_, fun h1 j' hj => h1 j' (by omega)⟩
  by_cases e : j' = j
  · rw [e] at hr'; exact absurd hr' hr
  · exact h1 j' (by omega) hr'
theorem OkP.next (h : OkP xs th i j ok0) (h2 : OkQ xs th j k ok0 ok) (hk : (xs.getD j []).length ≤ k) (hr : Rc (gOf xs) i j) : OkP xs th i (j + 1) ok := by
  unfold OkP OkQ at *
  rw [h2, h, List.take_of_length_le hk]
  constructor
  · rintro ⟨⟨h1, h3⟩, h4⟩
    refine ⟨h1, fun j' hj hr' => ?_⟩
    by_cases e : j' = j
    · rw [e]; exact notBad.2 h4
    · exact h3 j' (by omega) hr'
  · rintro ⟨h1, h3⟩
    exact ⟨⟨h1, fun j' hj => h3 j' (by omega)⟩, notBad.1 (h3 j (by omega) hr)⟩
theorem OkP.end_ (h : OkP xs th i xs.length ok) (hi : i < xs.length) : ok = true ↔ ∀ j, j < xs.length → Rc (gOf xs) i j → ¬ badW xs th j := by
  unfold OkP at h
  rw [h]
  exact ⟨fun h1 => h1.2, fun h1 => ⟨(notBad.1 (h1 i hi (.refl _))).1, h1⟩⟩
theorem OkQ.step {v : Int} (h : OkQ xs th j k ok0 ok) (hv : (xs.getD j [])[k]? = some v) : OkQ xs th j (k + 1) ok0 (ok && inR xs.length v) := by
  unfold OkQ at *
  rw [Bool.and_eq_true, h, List.take_add_one, hv]
  constructor
  · rintro ⟨⟨h1, h2, h3⟩, h4⟩
    refine ⟨h1, h2, fun x hx => ?_⟩
    rcases List.mem_append.1 hx with hx | hx
    · exact h3 x hx
    · have : x = v := by simpa using hx
      rw [this]; exact h4
  · rintro ⟨h1, h2, h3⟩
    exact ⟨⟨h1, h2, fun x hx => h3 x (List.mem_append_left _ hx)⟩, h3 v (by simp)⟩
end
set_option maxRecDepth 100000 in
set_option maxHeartbeats 8000000 in
theorem rwhole_any (A TA : Option Addr) (n c m tc : Nat) (rs : List Rw) (th : List Bool) (w : World) (hA : RdG w w.heap.size A n rs) (hT : Rd w w.heap.size 1 TA m (th.map eB)) (hn : n ≤ maxLen) (hr : ∀ r ∈ rs, r.l ≤ 1000000) :
    Calls Try.prog 14 #[.slice A n c, .slice TA m tc] w fun e w' => WhlP (rs.map Rw.xs) th (wholeE n m rs) w e w' := by
  have hl := hA.len
  have hxl : (rs.map Rw.xs).length = n := by rw [List.length_map]; exact hl
  have htl : th.length = m := by simpa using hT.1
  unfold wholeE
  by_cases hmn : m = n
  case neg =>
    have hmd : ((m : Int) == (n : Int)) = false := by rw [beq_eq_false_iff_ne]; omega
    rw [if_neg hmn]
    clear hA hT hr hl hxl htl hmn
    go_enter Try.func14, Try.ntmps14
    go_wp2
    go_ret2
    exact ⟨none, 0, [], rfl, Rd.nil_, fun h => absurd h (by decide), fun _ => rfl, Below.refl _ _⟩
  subst hmn
  rw [if_pos rfl]
  have hmd : ((m : Int) == (m : Int)) = true := by simp
  have cL := Lib.hid (rlong_any A m c rs w hA hn (fun r hr' => Nat.le_trans (hr r hr') (by decide)))
  cases hL : longP m rs with
  | true =>
    rw [hL] at cL
    rw [if_pos rfl]
    clear hA hT hr hl hxl htl hL
    go_enter Try.func14, Try.ntmps14
    go_wp2_with fail
    refine cL.out.mono ?_
    rintro e w1 ⟨rfl, hb1⟩
    go_wp2
    go_ret2
    exact ⟨none, 0, [], rfl, Rd.nil_, fun h => absurd h (by decide), fun _ => rfl, hb1⟩
  | false =>
  rw [hL] at cL
  rw [if_neg (by decide)]
  have hn1 : m ≤ 1024 := by
    unfold longP at hL
    rw [Bool.or_eq_false_iff, decide_eq_false_iff_not] at hL
    omega
  have hAH := Lib.hid hA
  have hTH := Lib.hid hT
  have hrH := Lib.hid hr
  have hxlH := Lib.hid hxl
  have htlH := Lib.hid htl
  clear hA hT hr hl hxl htl hL hn
  go_enter Try.func14, Try.ntmps14
  go_wp2_with fail
  refine cL.out.mono ?_
  rintro e w1 ⟨rfl, hb1⟩
  have hz1 := hb1.size
  clear cL
  go_wp2_with fail
  go_loopg [6, 7] (m + 1) (fun gg ov iv wr => ∃ (i : Nat) (out : List Bool) (OA : Option Addr) (oc : Nat), i ≤ m ∧ gg = m + 1 - i ∧ iv = .int .i64 (i : Int) ∧ ov = .slice OA out.length oc ∧ out.length = i ∧
    (∀ x, x < i → (whF out x = true ↔ ∀ j, j < (rs.map Rw.xs).length → Rc (gOf (rs.map Rw.xs)) x j → ¬ badW (rs.map Rw.xs) th j)) ∧ Ow wr w.heap.size 4 1 (.slice OA out.length oc) (out.map eB) ∧ Below w.heap.size w wr)
  case atStart => exact ⟨0, [], none, 0, Nat.zero_le _, rfl, rfl, rfl, rfl, fun x hx => absurd hx (Nat.not_lt_zero x), Ow.nil_ _ _ _ _, hb1⟩
  case round =>
    obtain ⟨i, out, OA, oc, hi, rfl, rfl, rfl, hol, hw, ho, hbr⟩ := hrel
    obtain ⟨wv, hwv⟩ : ∃ wv, wv = wr := ⟨_, rfl⟩
    obtain rfl := hwv
    have hzr := hbr.size
    have hwH := Lib.hid hw
    have hoH := Lib.hid ho
    have holH := Lib.hid hol
    clear hw ho hol
    have hin1 : IntKind.i64.wrap ((i : Int) + 1) = ((i + 1 : Nat) : Int) := by rw [IntWalk.i64_in _ (by omega)]; omega
    by_cases hlt : i < m
    · have hlti : (i : Int) < (m : Int) := by omega
      obtain ⟨bT, oT, t, hTA, hbT, hqt, hct⟩ := Rd.at_ (enc := eB) (hTH.out.below hbr) hlt
      subst hTA
      have ct := hct 0 _ rfl
      rw [Nat.mul_one, Nat.add_zero] at ct
      have ht0 : Hid (th.getD i false = t) := Lib.hid (by rw [List.getD_eq_getElem?_getD, hqt]; rfl)
      have cF := Lib.hid (rfrom_any A m c rs i wv ((hAH.out.below hbr).more hzr) (by omega) hrH.out hlt)
      clear hct hqt
      go_wp2_with fail
      refine cF.out.mono ?_
      rintro e w2 ⟨b, rfl, ⟨hbb, sn, hsn, hsr⟩, hb2⟩
      have hz2 := hb2.size
      have hbr2 := hbr.trans (hb2.mono hzr)
      have hsnH := Lib.hid hsn
      have hsrH := Lib.hid hsr
      have ho2 := Lib.hid (hoH.out.below hb2)
      have hP0 : Hid (OkP (rs.map Rw.xs) th i 0 t) := Lib.hid (by unfold OkP; rw [ht0.out]; simp)
      clear cF hsn hsr ct ht0
      go_wp2_with fail
      go_loopg [8, 10] (m + 1) (fun gg kv jv wx => ∃ (j : Nat) (ok : Bool), j ≤ m ∧ gg = m + 1 - j ∧ jv = .int .i64 (j : Int) ∧ kv = .bool ok ∧ OkP (rs.map Rw.xs) th i j ok ∧ w2 = wx)
      case atStart => exact ⟨0, t, Nat.zero_le _, rfl, rfl, rfl, hP0.out, rfl⟩
      case round =>
        obtain ⟨j, ok, hj, rfl, rfl, rfl, hP, rfl⟩ := hrel
        have hPH := Lib.hid hP
        clear hP hP0
        have hjn1 : IntKind.i64.wrap ((j : Int) + 1) = ((j + 1 : Nat) : Int) := by rw [IntWalk.i64_in _ (by omega)]; omega
        by_cases hlt2 : j < m
        · have hlt2i : (j : Int) < (m : Int) := by omega
          have cs := blk_cell hsnH.out j
          rw [rowB_at _ hlt2] at cs
          have hlb := blk_lt hsnH.out
          by_cases hsk : j ≠ i ∧ sn j = false
          · obtain ⟨hji, hsj⟩ := hsk
            have hjd : ((j : Int) == (i : Int)) = false := by rw [beq_eq_false_iff_ne]; omega
            have hPn := Lib.hid (hPH.out.skip (fun hr => by
              rcases rc_rp.1 hr with h | h
              · exact hji h
              · rw [← hsrH.out j hlt2, hsj] at h; cases h))
            rw [hsj] at cs
            have hjd2 : ((j : Int) != (i : Int)) = true := by rw [bne, hjd]; rfl
            have hji3 : ¬ (j : Int) = (i : Int) := by omega
            clear hsj
            go_wp2_with fail
            go_roundg (m + 1 - (j + 1))
            case measure => omega
            case rel => exact ⟨j + 1, ok, by omega, rfl, by go_num, rfl, hPn.out, rfl⟩
          · have hRc : Hid (Rc (gOf (rs.map Rw.xs)) i j) := Lib.hid (rc_rp.2 (by
              by_cases e : j = i
              · exact .inl e
              · right
                refine (hsrH.out j hlt2).1 ?_
                cases h : sn j with
                | true => rfl
                | false => exact absurd ⟨e, h⟩ hsk))
            obtain ⟨bA, oA, r, hAe, hbA, hq, hcp, hrk⟩ := (hAH.out.below hbr2).at_ hlt2
            subst hAe
            have hxs : (rs.map Rw.xs).getD j [] = r.xs := getD_map rs hq
            have hmr := hrH.out r (List.mem_of_getElem? hq)
            have hrl := hrk.len
            obtain ⟨bT2, oT2, tj, hTA2, hbT2, hqt2, hct2⟩ := Rd.at_ (enc := eB) (hTH.out.below hbr2) hlt2
            injection hTA2 with hTA2
            injection hTA2 with hTA2 hTA3
            subst hTA2
            subst hTA3
            have ct2 := hct2 0 _ rfl
            rw [Nat.mul_one, Nat.add_zero] at ct2
            have htj : th.getD j false = tj := by rw [List.getD_eq_getElem?_getD, hqt2]; rfl
            have hQ0 : Hid (OkQ (rs.map Rw.xs) th j 0 ok (ok && tj)) := Lib.hid (by unfold OkQ; rw [htj]; simp)
            have hrkH := Lib.hid hrk
            have hxsH := Lib.hid hxs
            have hrlH := Lib.hid hrl
            clear hct2 hqt2 htj hrk hxs hrl hq
            by_cases hji : j = i
            · have hjd : ((j : Int) == (i : Int)) = true := by rw [hji]; simp
              have hjd2 : ((j : Int) != (i : Int)) = false := by rw [bne, hjd]; rfl
              replace hji := Lib.hid hji
              clear hsk
              go_upto_region 15 with (fail)
              go_cut [8] (fun s8 wx => s8 = .bool (ok && tj) ∧ w2 = wx)
              case first =>
                cases ok with
                | false =>
                  go_wp2_with fail
                  go_meet
                  exact ⟨rfl, rfl⟩
                | true =>
                  go_wp2_with fail
                  go_meet
                  exact ⟨by rw [Bool.true_and], rfl⟩
              case rest =>
              obtain ⟨rfl, rfl⟩ := hcut
              generalize (ok && tj) = ok1 at *
              go_wp2_with fail
              go_loopg [8, 11] (r.l + 1) (fun gg kv lv wx => ∃ (k : Nat) (ok2 : Bool), k ≤ r.l ∧ gg = r.l + 1 - k ∧ lv = .int .i64 (k : Int) ∧ kv = .bool ok2 ∧ OkQ (rs.map Rw.xs) th j k ok ok2 ∧ w2 = wx)
              case atStart => exact ⟨0, ok1, Nat.zero_le _, rfl, rfl, rfl, hQ0.out, rfl⟩
              case round =>
                obtain ⟨k, ok2, hk, rfl, rfl, rfl, hQ, rfl⟩ := hrel
                have hQH := Lib.hid hQ
                clear hQ hQ0
                have hkn1 : IntKind.i64.wrap ((k : Int) + 1) = ((k + 1 : Nat) : Int) := by rw [IntWalk.i64_in _ (by omega)]; omega
                by_cases hlt3 : k < r.l
                · have hlt3i : (k : Int) < (r.l : Int) := by omega
                  obtain ⟨b2, o2, v, hx2, hb2', hxa, hxc⟩ := hrkH.out.at_ hlt3
                  have hxv : ((rs.map Rw.xs).getD j [])[k]? = some v := by rw [hxsH.out]; exact hxa
                  have hQn := Lib.hid (hQH.out.step hxv)
                  rw [hxlH.out] at hQn
                  rw [hx2] at hcp
                  have hx2H := Lib.hid hx2
                  clear hx2 hxa hxv
                  cases ok2 with
                  | false =>
                    rw [Bool.false_and] at hQn
                    go_wp2_with fail
                    go_roundg (r.l + 1 - (k + 1))
                    case measure => omega
                    case rel => exact ⟨k + 1, false, by omega, rfl, by go_num, rfl, hQn.out, rfl⟩
                  | true =>
                    rw [Bool.true_and] at hQn
                    by_cases hv0 : 0 ≤ v
                    · have hvd : decide (0 ≤ v) = true := decide_eq_true hv0
                      by_cases hvm : v < (m : Int)
                      · have hvd2 : decide (v < (m : Int)) = true := decide_eq_true hvm
                        rw [show inR m v = true by unfold inR; rw [hvd, hvd2]; rfl] at hQn
                        go_wp2_with fail
                        go_roundg (r.l + 1 - (k + 1))
                        case measure => omega
                        case rel => exact ⟨k + 1, true, by omega, rfl, by go_num, rfl, hQn.out, rfl⟩
                      · have hvd2 : decide (v < (m : Int)) = false := decide_eq_false hvm
                        rw [show inR m v = false by unfold inR; rw [hvd2, Bool.and_false]] at hQn
                        go_wp2_with fail
                        go_roundg (r.l + 1 - (k + 1))
                        case measure => omega
                        case rel => exact ⟨k + 1, false, by omega, rfl, by go_num, rfl, hQn.out, rfl⟩
                    · have hvd : decide (0 ≤ v) = false := decide_eq_false hv0
                      rw [show inR m v = false by unfold inR; rw [hvd, Bool.false_and]] at hQn
                      go_wp2_with fail
                      go_roundg (r.l + 1 - (k + 1))
                      case measure => omega
                      case rel => exact ⟨k + 1, false, by omega, rfl, by go_num, rfl, hQn.out, rfl⟩
                · obtain rfl : k = r.l := by omega
                  have hnlt3 : ¬ (r.l : Int) < (r.l : Int) := by omega
                  have hPn := Lib.hid (hPH.out.next hQH.out (by rw [hxsH.out, hrlH.out]; exact Nat.le_refl _) hRc.out)
                  go_wp2_with fail
                  go_roundg (m + 1 - (j + 1))
                  case measure => omega
                  case rel => exact ⟨j + 1, ok2, by omega, rfl, by go_num, rfl, hPn.out, rfl⟩
            · have hjd : ((j : Int) == (i : Int)) = false := by rw [beq_eq_false_iff_ne]; omega
              have hjd2 : ((j : Int) != (i : Int)) = true := by rw [bne, hjd]; rfl
              have hji3 : ¬ (j : Int) = (i : Int) := by omega
              have hsj : sn j = true := by
                cases h : sn j with
                | true => rfl
                | false => exact absurd ⟨hji, h⟩ hsk
              rw [hsj] at cs
              clear hsk hsj
              go_upto_region 15 with (fail)
              go_cut [8] (fun s8 wx => s8 = .bool (ok && tj) ∧ w2 = wx)
              case first =>
                cases ok with
                | false =>
                  go_wp2_with fail
                  go_meet
                  exact ⟨rfl, rfl⟩
                | true =>
                  go_wp2_with fail
                  go_meet
                  exact ⟨by rw [Bool.true_and], rfl⟩
              case rest =>
              obtain ⟨rfl, rfl⟩ := hcut
              generalize (ok && tj) = ok1 at *
              go_wp2_with fail
              go_loopg [8, 11] (r.l + 1) (fun gg kv lv wx => ∃ (k : Nat) (ok2 : Bool), k ≤ r.l ∧ gg = r.l + 1 - k ∧ lv = .int .i64 (k : Int) ∧ kv = .bool ok2 ∧ OkQ (rs.map Rw.xs) th j k ok ok2 ∧ w2 = wx)
              case atStart => exact ⟨0, ok1, Nat.zero_le _, rfl, rfl, rfl, hQ0.out, rfl⟩
              case round =>
                obtain ⟨k, ok2, hk, rfl, rfl, rfl, hQ, rfl⟩ := hrel
                have hQH := Lib.hid hQ
                clear hQ hQ0
                have hkn1 : IntKind.i64.wrap ((k : Int) + 1) = ((k + 1 : Nat) : Int) := by rw [IntWalk.i64_in _ (by omega)]; omega
                by_cases hlt3 : k < r.l
                · have hlt3i : (k : Int) < (r.l : Int) := by omega
                  obtain ⟨b2, o2, v, hx2, hb2', hxa, hxc⟩ := hrkH.out.at_ hlt3
                  have hxv : ((rs.map Rw.xs).getD j [])[k]? = some v := by rw [hxsH.out]; exact hxa
                  have hQn := Lib.hid (hQH.out.step hxv)
                  rw [hxlH.out] at hQn
                  rw [hx2] at hcp
                  have hx2H := Lib.hid hx2
                  clear hx2 hxa hxv
                  cases ok2 with
                  | false =>
                    rw [Bool.false_and] at hQn
                    go_wp2_with fail
                    go_roundg (r.l + 1 - (k + 1))
                    case measure => omega
                    case rel => exact ⟨k + 1, false, by omega, rfl, by go_num, rfl, hQn.out, rfl⟩
                  | true =>
                    rw [Bool.true_and] at hQn
                    by_cases hv0 : 0 ≤ v
                    · have hvd : decide (0 ≤ v) = true := decide_eq_true hv0
                      by_cases hvm : v < (m : Int)
                      · have hvd2 : decide (v < (m : Int)) = true := decide_eq_true hvm
                        rw [show inR m v = true by unfold inR; rw [hvd, hvd2]; rfl] at hQn
                        go_wp2_with fail
                        go_roundg (r.l + 1 - (k + 1))
                        case measure => omega
                        case rel => exact ⟨k + 1, true, by omega, rfl, by go_num, rfl, hQn.out, rfl⟩
                      · have hvd2 : decide (v < (m : Int)) = false := decide_eq_false hvm
                        rw [show inR m v = false by unfold inR; rw [hvd2, Bool.and_false]] at hQn
                        go_wp2_with fail
                        go_roundg (r.l + 1 - (k + 1))
                        case measure => omega
                        case rel => exact ⟨k + 1, false, by omega, rfl, by go_num, rfl, hQn.out, rfl⟩
                    · have hvd : decide (0 ≤ v) = false := decide_eq_false hv0
                      rw [show inR m v = false by unfold inR; rw [hvd, Bool.false_and]] at hQn
                      go_wp2_with fail
                      go_roundg (r.l + 1 - (k + 1))
                      case measure => omega
                      case rel => exact ⟨k + 1, false, by omega, rfl, by go_num, rfl, hQn.out, rfl⟩
                · obtain rfl : k = r.l := by omega
                  have hnlt3 : ¬ (r.l : Int) < (r.l : Int) := by omega
                  have hPn := Lib.hid (hPH.out.next hQH.out (by rw [hxsH.out, hrlH.out]; exact Nat.le_refl _) hRc.out)
                  go_wp2_with fail
                  go_roundg (m + 1 - (j + 1))
                  case measure => omega
                  case rel => exact ⟨j + 1, ok2, by omega, rfl, by go_num, rfl, hPn.out, rfl⟩
        · obtain rfl : j = m := by omega
          have hnlt2 : ¬ (j : Int) < (j : Int) := by omega
          have hE := Lib.hid (OkP.end_ (by rw [hxlH.out]; exact hPH.out) (by rw [hxlH.out]; exact hlt))
          have hwn : Hid (∀ x, x < i + 1 → (whF (out ++ [ok]) x = true ↔ ∀ j, j < (rs.map Rw.xs).length → Rc (gOf (rs.map Rw.xs)) x j → ¬ badW (rs.map Rw.xs) th j)) := Lib.hid (fun x hx => by
            by_cases e : x = i
            · subst e
              rw [show whF (out ++ [ok]) x = ok by unfold whF; rw [List.getD_eq_getElem?_getD, List.getElem?_append_right (by rw [holH.out]; exact Nat.le_refl _), holH.out, Nat.sub_self]; rfl]
              exact hE.out
            · rw [show whF (out ++ [ok]) x = whF out x by unfold whF; rw [List.getD_eq_getElem?_getD, List.getElem?_append_left (by rw [holH.out]; omega), List.getD_eq_getElem?_getD]]
              exact hwH.out x (by omega))
          have hol2 : Hid (out.length ≤ 1024) := Lib.hid (by rw [holH.out]; omega)
          go_wp2_with (at_builtin; refine wpList_append_rd _ rfl _ _ _ rfl eBool (base := w.heap.size) (v := .slice OA out.length oc) (xs := out.map eB) rfl (ho2.out.below ((Below.refl _ w2).alloc (Nat.le_refl _) _)) rfl (Rd.one' (eB ok) rfl) (by simp [eB]) (by simp [eB, Value.oneCell']) (by rw [List.length_map]; have := hol2.out; simp [maxLen]; omega) (by rw [List.length_map]; have := hol2.out; omega) (by have := hbr2.size; simp; omega) ?_; intro A5 n5 c5 w5 hn5 hown5 hg5 hat5; (obtain rfl : n5 = out.length + 1 := (by rw [hn5, List.length_map])); clear hn5)
          have hbN : Below w.heap.size w w5 := (hbr2.alloc hbr2.size _).grown hg5 (by have := hbr2.size; simp; omega) (fun b hb => (ho2.out.block b hb).1)
          go_roundg (j + 1 - (i + 1))
          case measure => omega
          case rel => exact ⟨i + 1, out ++ [ok], A5, c5, by omega, rfl, by go_num, by rw [List.length_append]; rfl, by rw [List.length_append, holH.out]; rfl, hwn.out, by rw [List.map_append, List.length_append]; exact hown5, hbN⟩
    · obtain rfl : i = m := by omega
      have hnlt : ¬ (i : Int) < (i : Int) := by omega
      have hT2 : Hid (Whl (rs.map Rw.xs) th out) := Lib.hid ⟨by rw [holH.out, hxlH.out], fun x hx => hwH.out x (by rw [← hxlH.out]; exact hx)⟩
      have hrd := Lib.hid hoH.out.rd.1
      go_wp2
      go_ret2
      exact ⟨OA, oc, out, rfl, hrd.out, fun _ => hT2.out, fun h => absurd rfl h, hbr⟩
end Go.Proofs.Ytebpghpeeedgcaa
