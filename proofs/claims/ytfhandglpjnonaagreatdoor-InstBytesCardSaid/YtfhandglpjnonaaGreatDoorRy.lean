/- The document's reader: Fail, Num, Int. The document's reader: Int. -/
import Derived.Test.YtfhandglpjnonaaGreatDoorM16
import Derived.BigRegion
set_option maxRecDepth 100000
set_option maxHeartbeats 16000000
namespace Go.Proofs.YtfhandglpjnonaaGreatDoor
open Go.RowKit
theorem dfail_any (B : Nat) (S : Rs) (e : Int) (w : World) (h : RdrD w B S) :
 Calls Tryz.prog 74 #[.pointer (some ⟨B, 0, none⟩), .int .i64 e] w fun r w' => r = .returned (.tuple #[]) ∧ RdrD w' B (failS S e) ∧ w.grownBy w' (some B) := by
 have hb := h
 unfold RdrD at hb
 have hlt := jB hb
 have q0 := jA hb 0
 have q1 := jA hb 1
 have q2 := jA hb 2
 have q3 := jA hb 3
 have hfr := jE hb
 simp at q0 q1 q2 q3
 generalize hS' : failS S e = S'
 unfold failS at hS'
 by_cases h0 : S.fe = 0
 ·
  by_cases hez : e = 0
  ·
   subst hez
   rw [if_neg (by simp)] at hS'
   subst hS'
   have hfin := jH h
   rw [h0] at q3
   clear hb h h0
   go_enter Tryz.func74, Tryz.ntmps74
   go_wp2
   exact bodyPost_end (v := .tuple #[]) (by simp [results, Tryz.results74, go_sem]) rfl ⟨rfl, hfin.out, World.grownBy.refl _ _⟩
  ·
   rw [if_pos ⟨h0, hez⟩] at hS'
   subst hS'
   have hen : (e == 0) = false := by simpa using hez
   have hen2 : (e != 0) = true := by simpa using hez
   have hbH := jH hb
   rw [h0] at q3
   clear hb h h0 hez
   go_enter Tryz.func74, Tryz.ntmps74
   go_wp2
   refine bodyPost_end (v := .tuple #[]) (by simp [results, Tryz.results74, go_sem]) rfl ⟨rfl, ?_, ?_⟩
   ·
    unfold RdrD
    rw [jO (cs := #[.string (bs S.l), .int .i64 (S.a : Int), .int .i64 (S.a : Int), .int .i64 S.fe]) (t := 115) (by rw [jO hbH.out]; rfl)]
    rfl
   ·
    exact gr_set (gr_set (World.grownBy.refl w _) 2 _) 3 _
 ·
  rw [if_neg (fun hh => h0 hh.1)] at hS'
  subst hS'
  have hfin := jH h
  have hen : (S.fe == 0) = false := by simpa using h0
  clear hb h h0
  go_enter Tryz.func74, Tryz.ntmps74
  go_wp2
  exact bodyPost_end (v := .tuple #[]) (by simp [results, Tryz.results74, go_sem]) rfl ⟨rfl, hfin.out, World.grownBy.refl _ _⟩
theorem numS_eq {S : Rs} {v n : Nat} {e : Int} (h0 : S.fe = 0) (hr : numR (S.l.drop S.a) = (v, n, e)) :
 numS S = if e ≠ 0 then (0, failS S e) else (v, { S with a := S.a + n }) := by
 unfold numS
 rw [nextS_eq h0 hr]
 by_cases he : e = 0
 ·
  simp [he]
 ·
  simp [he]
theorem dnum_any (B : Nat) (S : Rs) (w : World) (h : RdrD w B S) (hS : S.wf) :
 Calls Tryz.prog 105 #[.pointer (some ⟨B, 0, none⟩)] w
  fun r w' => r = .returned (.int .u64 ((numS S).1 : Int)) ∧ RdrD w' B (numS S).2 ∧ w.grownBy w' (some B) := by
 obtain ⟨v', S', hv⟩ : ∃ v' S', numS S = (v', S') := ⟨_, _, rfl⟩
 rw [hv]
 have hb := h
 unfold RdrD at hb
 have hlt := jB hb
 have q0 := jA hb 0
 have q1 := jA hb 1
 have q2 := jA hb 2
 have q3 := jA hb 3
 have hfr := jE hb
 simp at q0 q1 q2 q3
 have hbH := jH hb
 clear hb
 by_cases h0 : S.fe = 0
 ·
  rw [h0] at q3
  have hsz : (bs S.l).size = S.l.length := jG _
  have ha0 : (0 : Int) ≤ (S.a : Int) := by omega
  have hsl := hS.2.1
  have ha1 := hS.1
  have hs40 : (((bs S.l).size : Nat) : Int) ≤ 1099511627776 := by omega
  have hq0 : KQ w.heap.size w w := kq (Below.refl _ _)
  have hH := jH h
  by_cases hend : S.a = S.l.length
  ·
   have hr : numR (S.l.drop S.a) = (0, 0, 1) := by rw [List.drop_of_length_le (by omega)]; rfl
   rw [numS_eq h0 hr, if_pos (by decide)] at hv
   obtain ⟨rfl, rfl⟩ := Prod.mk.inj hv
   have hd : ((S.a : Int) == (((bs S.l).size : Nat) : Int)) = true := by rw [beq_iff_eq]; omega
   clear hr hv h h0 hS hsz hsl hend
   go_enter Tryz.func105, Tryz.ntmps105
   go_wp2_with fail
   go_region_held3 (fun w' => KQ w.heap.size w w') (first
    | with_reducible exact jP (by assumption) (by simp) (by assumption)
    | with_reducible exact yB (by assumption) (by simp) (by assumption) (by simp [Value.ownBlock])
    | ((with_reducible refine kq ?_); (repeat (first | (with_reducible exact Below.refl _ _) | (with_reducible refine Below.drew ?_) | (with_reducible refine Below.alloc ?_ (by simp) _) | (with_reducible refine Below.setCell ?_ (by simp) _) | (with_reducible exact (by assumption : KQ _ _ _).1))); done)) (first | (go_at_call 0; skip))
   go_wp2_with fail
   refine (dfail_any B S 1 _ (hH.out.below (Below.refl _ _).drew)).mono ?_
   rintro e w1 ⟨rfl, hR1, hg1⟩
   go_wp2
   go_ret
   exact ⟨rfl, hR1, (yD (Below.refl _ _).drew _).trans hg1⟩
  ·
   have hal : S.a < S.l.length := by omega
   have hai : S.a < (bs S.l).size := by omega
   have hgetA : ∀ i, i < (bs S.l).size → S.l[i]? = (bs S.l)[i]? := by
    intro i hi
    have h2 := ba_get (bs S.l) hi
    rw [bs_list] at h2
    rw [h2, getElem?_pos (bs S.l) i hi]
   have hcons : S.l.drop S.a = (bs S.l)[S.a] :: S.l.drop (S.a + 1) := by
    rw [List.drop_eq_getElem_cons hal]
    congr 1
   obtain ⟨v, m, er, hr⟩ : ∃ v m er, numR (S.l.drop S.a) = (v, m, er) := ⟨_, _, _, rfl⟩
   rw [numS_eq h0 hr] at hv
   rw [hcons] at hr
   simp only [numR, List.length_drop] at hr
   have hd : ((S.a : Int) == (((bs S.l).size : Nat) : Int)) = false := by rw [beq_eq_false_iff_ne]; omega
   have hc256 := (bs S.l)[S.a].toNat_lt
   have hai2 : (S.a : Int) < (((bs S.l).size : Nat) : Int) := by omega
   have h0H := jH h0
   have hgetH := jH hgetA
   have hwA : IntKind.i64.wrap ((((bs S.l).size : Nat) : Int) - (S.a : Int)) = (((bs S.l).size : Nat) : Int) - (S.a : Int) := IntWalk.i64_in _ (by omega)
   have hwB : IntKind.i64.wrap ((((bs S.l).size : Nat) : Int) - (S.a : Int) - 1) = (((bs S.l).size : Nat) : Int) - (S.a : Int) - 1 := IntWalk.i64_in _ (by omega)
   have hwC : IntKind.i64.wrap (((bs S.l)[S.a].toNat : Nat) : Int) = (((bs S.l)[S.a].toNat : Nat) : Int) := IntWalk.i64_in _ (by omega)
   clear hgetA h0 hend hcons
   by_cases h8 : 8 < (bs S.l)[S.a].toNat
   ·
    rw [if_pos h8] at hr
    injection hr with hv1 hr
    injection hr with hm he
    subst hv1 hm he
    rw [if_pos (by decide)] at hv
    obtain ⟨rfl, rfl⟩ := Prod.mk.inj hv
    have h8i : decide ((8 : Int) < (((bs S.l)[S.a].toNat : Nat) : Int)) = true := decide_eq_true (by omega)
    clear hv h hS hsz hsl hal
    go_enter Tryz.func105, Tryz.ntmps105
    go_wp2_with fail
    go_region
    go_wp2_with fail
    go_region
    go_wp2_with fail
    refine (dfail_any B S 3 _ (hH.out.below (by repeat (first | exact Below.refl _ _ | refine Below.drew ?_)))).mono ?_
    rintro e w1 ⟨rfl, hR1, hg1⟩
    have hb1 := hR1
    rw [show failS S 3 = ⟨S.l, S.a, S.a, 3⟩ from by unfold failS; rw [if_pos ⟨h0H.out, by decide⟩]] at hb1
    unfold RdrD at hb1
    have hlt1 := jB hb1
    have z0 := jA hb1 0
    have z1 := jA hb1 1
    have z2 := jA hb1 2
    have z3 := jA hb1 3
    simp at z0 z1 z2 z3
    clear hb1
    go_wp2
    go_ret
    exact ⟨rfl, hR1, (yD (by repeat (first | exact Below.refl _ _ | refine Below.drew ?_)) _).trans hg1⟩
   ·
    rw [if_neg h8] at hr
    have h8i : decide ((8 : Int) < (((bs S.l)[S.a].toNat : Nat) : Int)) = false := decide_eq_false (by omega)
    by_cases h9 : S.l.length - (S.a + 1) < (bs S.l)[S.a].toNat
    ·
     rw [if_pos h9] at hr
     injection hr with hv1 hr
     injection hr with hm he
     subst hv1 hm he
     rw [if_pos (by decide)] at hv
     obtain ⟨rfl, rfl⟩ := Prod.mk.inj hv
     have h9i : decide ((((bs S.l).size : Nat) : Int) - (S.a : Int) - 1 < (((bs S.l)[S.a].toNat : Nat) : Int)) = true := decide_eq_true (by omega)
     clear hv h hS hsl hal h9 hsz
     go_enter Tryz.func105, Tryz.ntmps105
     go_wp2_with fail
     go_region
     go_wp2_with fail
     go_region
     go_wp2_with fail
     go_region
     go_wp2_with fail
     refine (dfail_any B S 1 _ (hH.out.below (by repeat (first | exact Below.refl _ _ | refine Below.drew ?_)))).mono ?_
     rintro e w1 ⟨rfl, hR1, hg1⟩
     have hb1 := hR1
     rw [show failS S 1 = ⟨S.l, S.a, S.a, 1⟩ from by unfold failS; rw [if_pos ⟨h0H.out, by decide⟩]] at hb1
     unfold RdrD at hb1
     have hlt1 := jB hb1
     have z0 := jA hb1 0
     have z1 := jA hb1 1
     have z2 := jA hb1 2
     have z3 := jA hb1 3
     simp at z0 z1 z2 z3
     clear hb1
     go_wp2
     go_ret
     exact ⟨rfl, hR1, (yD (by repeat (first | exact Below.refl _ _ | refine Below.drew ?_)) _).trans hg1⟩
    ·
     rw [if_neg h9] at hr
     have h9i : decide ((((bs S.l).size : Nat) : Int) - (S.a : Int) - 1 < (((bs S.l)[S.a].toNat : Nat) : Int)) = false := decide_eq_false (by omega)
     by_cases hz : 0 < (bs S.l)[S.a].toNat
     ·
      have h1 : S.a + 1 < (bs S.l).size := by omega
      have h1i : (S.a : Int) + 1 < (((bs S.l).size : Nat) : Int) := by omega
      have hw1 : IntKind.i64.wrap ((S.a : Int) + 1) = (S.a : Int) + 1 := IntWalk.i64_in _ (by omega)
      have hn1 : ((S.a : Int) + 1).toNat = S.a + 1 := by omega
      have h0a : (0 : Int) ≤ (S.a : Int) + 1 := by omega
      have hhead : (S.l.drop (S.a + 1)).head? = some (bs S.l)[S.a + 1] := by
       rw [List.head?_drop, hgetH.out _ h1, getElem?_pos (bs S.l) _ h1]
      have hzi : decide ((0 : Int) < (((bs S.l)[S.a].toNat : Nat) : Int)) = true := decide_eq_true (by omega)
      by_cases hb0 : (bs S.l)[S.a + 1] = 0
      ·
       rw [if_pos ⟨hz, by rw [hhead, hb0]⟩] at hr
       injection hr with hv1 hr
       injection hr with hm he
       subst hv1 hm he
       rw [if_pos (by decide)] at hv
       obtain ⟨rfl, rfl⟩ := Prod.mk.inj hv
       have hb1 : (((bs S.l)[S.a + 1].toNat : Nat) : Int) = 0 := by rw [hb0]; rfl
       clear hv h hS hsl hal h9 hsz hhead hb0
       go_enter Tryz.func105, Tryz.ntmps105
       go_wp2_with fail
       go_region
       go_wp2_with fail
       go_region
       go_wp2_with fail
       go_region
       go_wp2_with fail
       go_region
       go_wp2_with fail
       refine (dfail_any B S 3 _ (hH.out.below (by repeat (first | exact Below.refl _ _ | refine Below.drew ?_)))).mono ?_
       rintro e w1 ⟨rfl, hR1, hg1⟩
       have hb1 := hR1
       rw [show failS S 3 = ⟨S.l, S.a, S.a, 3⟩ from by unfold failS; rw [if_pos ⟨h0H.out, by decide⟩]] at hb1
       unfold RdrD at hb1
       have hlt1 := jB hb1
       have z0 := jA hb1 0
       have z1 := jA hb1 1
       have z2 := jA hb1 2
       have z3 := jA hb1 3
       simp at z0 z1 z2 z3
       clear hb1
       go_wp2
       go_ret
       exact ⟨rfl, hR1, (yD (by repeat (first | exact Below.refl _ _ | refine Below.drew ?_)) _).trans hg1⟩
      ·
       rw [if_neg (by rw [hhead]; rintro ⟨_, h⟩; injection h with h; exact hb0 h)] at hr
       have hb1 : ((((bs S.l)[S.a + 1].toNat : Nat) : Int) == 0) = false := by
        rw [beq_eq_false_iff_ne]; intro h
        exact hb0 (UInt8.toNat_inj.1 (by rw [show (0 : UInt8).toNat = 0 from rfl]; omega))
       clear hhead hb0
       injection hr with hv1 hr
       injection hr with hm he
       subst hm he
       rw [if_neg (by simp)] at hv
       obtain ⟨rfl, rfl⟩ := Prod.mk.inj hv
       have hvH := jH hv1
       have hc8 : (bs S.l)[S.a].toNat ≤ 8 := by omega
       have hcs : S.a + 1 + (bs S.l)[S.a].toNat ≤ (bs S.l).size := by omega
       have h40 : S.a ≤ 1099511627776 := by omega
       clear hv hv1 h hS hsl hal h9 h8 hsz
       go_enter Tryz.func105, Tryz.ntmps105
       go_wp2_with fail
       go_region
       go_wp2_with fail
       go_region
       go_wp2_with fail
       go_region
       go_wp2_with fail
       go_region
       go_wp2_with fail
       clear q0 q1 q2 q3 hfr hq0
       go_loopg [4, 5] 10 (fun g x i wr => ∃ (k : Nat), g = 10 - k ∧ k ≤ (bs S.l)[S.a].toNat ∧ x = .int .u64 (beV ((S.l.drop (S.a + 1)).take k) : Int) ∧ i = .int .i64 (k + 1 : Int) ∧ RdrD wr B S ∧ Below w.heap.size w wr)
       case atStart => exact ⟨0, rfl, Nat.zero_le _, rfl, rfl, hH.out.below (by repeat (first | exact Below.refl _ _ | refine Below.drew ?_)), by repeat (first | exact Below.refl _ _ | refine Below.drew ?_)⟩
       case round =>
        obtain ⟨k, rfl, hk, rfl, rfl, hRw, hBw⟩ := hrel
        have hb := hRw
        unfold RdrD at hb
        have hlt := jB hb
        have q0 := jA hb 0
        have q1 := jA hb 1
        have q2 := jA hb 2
        have q3 := jA hb 3
        have hfr := jE hb
        simp at q0 q1 q2 q3
        rw [h0H.out] at q3
        have hbwH := jH hb
        have hRwH := jH hRw
        clear hb hRw
        by_cases hlk : k < (bs S.l)[S.a].toNat
        ·
         have hk1 : S.a + (k + 1) < (bs S.l).size := by omega
         have hst : beV ((S.l.drop (S.a + 1)).take (k + 1)) = beV ((S.l.drop (S.a + 1)).take k) * 256 + (bs S.l)[S.a + (k + 1)].toNat := by
          rw [List.take_add_one, List.getElem?_drop, show S.a + 1 + k = S.a + (k + 1) from by omega, hgetH.out _ hk1, getElem?_pos (bs S.l) _ hk1]
          exact beV_snoc _ _
         have hbd : beV ((S.l.drop (S.a + 1)).take k) < 72057594037927936 := by
          have h1 := beV_lt ((S.l.drop (S.a + 1)).take k)
          have h2 : 256 ^ ((S.l.drop (S.a + 1)).take k).length ≤ 256 ^ 7 := Nat.pow_le_pow_right (by decide) (by rw [List.length_take]; omega)
          omega
         have hstH := jH hst
         clear hst
         generalize beV ((S.l.drop (S.a + 1)).take k) = x at hbd hstH
         have hb8 := (bs S.l)[S.a + (k + 1)].toNat_lt
         have hw1 : IntKind.u64.wrap ((x : Int) * 256) = (x : Int) * 256 := IntWalk.u64_in _ (by omega)
         have hw2 : IntKind.u64.wrap (((bs S.l)[S.a + (k + 1)].toNat : Nat) : Int) = (((bs S.l)[S.a + (k + 1)].toNat : Nat) : Int) := IntWalk.u64_in _ (by omega)
         have hw3 : IntKind.u64.wrap ((x : Int) * 256 + (((bs S.l)[S.a + (k + 1)].toNat : Nat) : Int)) = (x : Int) * 256 + (((bs S.l)[S.a + (k + 1)].toNat : Nat) : Int) := IntWalk.u64_in _ (by omega)
         have hw4 : IntKind.i64.wrap ((S.a : Int) + ((k : Int) + 1)) = (S.a : Int) + ((k : Int) + 1) := IntWalk.i64_in _ (by omega)
         have hn4 : ((S.a : Int) + ((k : Int) + 1)).toNat = S.a + (k + 1) := by omega
         have h04 : (0 : Int) ≤ (S.a : Int) + ((k : Int) + 1) := by omega
         have h14 : (S.a : Int) + ((k : Int) + 1) < (((bs S.l).size : Nat) : Int) := by omega
         have hlki : (k : Int) + 1 ≤ (((bs S.l)[S.a].toNat : Nat) : Int) := by omega
         have hq0 : KQ wr.heap.size wr wr := kq (Below.refl _ _)
         first
          | (exfalso; omega)
          | (
           go_wp2_with fail
           go_region
           go_wp2
           go_roundg (10 - (k + 1))
           case measure => omega
           case rel => exact ⟨k + 1, rfl, by omega, by rw [hstH.out]; rfl, by go_num, hRwH.out.below (Below.refl _ _).drew, hBw.drew⟩)
        ·
         obtain rfl : k = (bs S.l)[S.a].toNat := by omega
         rw [hvH.out]
         go_wp2
         go_ret
         refine ⟨rfl, ?_, gr_set (yD hBw _) 1 _⟩
         unfold RdrD
         rw [jO hbwH.out]
         simp
         omega
     ·
      rw [if_neg (fun h => hz h.1)] at hr
      have hc0 : (((bs S.l)[S.a].toNat : Nat) : Int) = 0 := by omega
      clear hwC h8i h9i
      have h9i : decide ((((bs S.l).size : Nat) : Int) - (S.a : Int) - 1 < 0) = false := decide_eq_false (by omega)
      have hw00 : IntKind.i64.wrap 0 = 0 := IntWalk.i64_in 0 (by omega)
      injection hr with hv1 hr
      injection hr with hm he
      subst hm he
      rw [if_neg (by simp)] at hv
      obtain ⟨rfl, rfl⟩ := Prod.mk.inj hv
      have hvH := jH hv1
      have hc8 : (bs S.l)[S.a].toNat ≤ 8 := by omega
      have hcs : S.a + 1 + (bs S.l)[S.a].toNat ≤ (bs S.l).size := by omega
      have h40 : S.a ≤ 1099511627776 := by omega
      clear hv hv1 h hS hsl hal h9 h8 hsz
      go_enter Tryz.func105, Tryz.ntmps105
      go_wp2_with fail
      go_region
      go_wp2_with fail
      go_region
      go_wp2_with fail
      go_region
      go_wp2_with fail
      go_region
      go_wp2_with fail
      clear q0 q1 q2 q3 hfr hq0
      go_loopg [4, 5] 10 (fun g x i wr => ∃ (k : Nat), g = 10 - k ∧ k ≤ (bs S.l)[S.a].toNat ∧ x = .int .u64 (beV ((S.l.drop (S.a + 1)).take k) : Int) ∧ i = .int .i64 (k + 1 : Int) ∧ RdrD wr B S ∧ Below w.heap.size w wr)
      case atStart => exact ⟨0, rfl, Nat.zero_le _, rfl, rfl, hH.out.below (by repeat (first | exact Below.refl _ _ | refine Below.drew ?_)), by repeat (first | exact Below.refl _ _ | refine Below.drew ?_)⟩
      case round =>
       obtain ⟨k, rfl, hk, rfl, rfl, hRw, hBw⟩ := hrel
       have hb := hRw
       unfold RdrD at hb
       have hlt := jB hb
       have q0 := jA hb 0
       have q1 := jA hb 1
       have q2 := jA hb 2
       have q3 := jA hb 3
       have hfr := jE hb
       simp at q0 q1 q2 q3
       rw [h0H.out] at q3
       have hbwH := jH hb
       have hRwH := jH hRw
       clear hb hRw
       by_cases hlk : k < (bs S.l)[S.a].toNat
       ·
        have hk1 : S.a + (k + 1) < (bs S.l).size := by omega
        have hst : beV ((S.l.drop (S.a + 1)).take (k + 1)) = beV ((S.l.drop (S.a + 1)).take k) * 256 + (bs S.l)[S.a + (k + 1)].toNat := by
         rw [List.take_add_one, List.getElem?_drop, show S.a + 1 + k = S.a + (k + 1) from by omega, hgetH.out _ hk1, getElem?_pos (bs S.l) _ hk1]
         exact beV_snoc _ _
        have hbd : beV ((S.l.drop (S.a + 1)).take k) < 72057594037927936 := by
         have h1 := beV_lt ((S.l.drop (S.a + 1)).take k)
         have h2 : 256 ^ ((S.l.drop (S.a + 1)).take k).length ≤ 256 ^ 7 := Nat.pow_le_pow_right (by decide) (by rw [List.length_take]; omega)
         omega
        have hstH := jH hst
        clear hst
        generalize beV ((S.l.drop (S.a + 1)).take k) = x at hbd hstH
        have hb8 := (bs S.l)[S.a + (k + 1)].toNat_lt
        have hw1 : IntKind.u64.wrap ((x : Int) * 256) = (x : Int) * 256 := IntWalk.u64_in _ (by omega)
        have hw2 : IntKind.u64.wrap (((bs S.l)[S.a + (k + 1)].toNat : Nat) : Int) = (((bs S.l)[S.a + (k + 1)].toNat : Nat) : Int) := IntWalk.u64_in _ (by omega)
        have hw3 : IntKind.u64.wrap ((x : Int) * 256 + (((bs S.l)[S.a + (k + 1)].toNat : Nat) : Int)) = (x : Int) * 256 + (((bs S.l)[S.a + (k + 1)].toNat : Nat) : Int) := IntWalk.u64_in _ (by omega)
        have hw4 : IntKind.i64.wrap ((S.a : Int) + ((k : Int) + 1)) = (S.a : Int) + ((k : Int) + 1) := IntWalk.i64_in _ (by omega)
        have hn4 : ((S.a : Int) + ((k : Int) + 1)).toNat = S.a + (k + 1) := by omega
        have h04 : (0 : Int) ≤ (S.a : Int) + ((k : Int) + 1) := by omega
        have h14 : (S.a : Int) + ((k : Int) + 1) < (((bs S.l).size : Nat) : Int) := by omega
        have hlki : (k : Int) + 1 ≤ (((bs S.l)[S.a].toNat : Nat) : Int) := by omega
        have hq0 : KQ wr.heap.size wr wr := kq (Below.refl _ _)
        first
         | (exfalso; omega)
         | (
          go_wp2_with fail
          go_region
          go_wp2
          go_roundg (10 - (k + 1))
          case measure => omega
          case rel => exact ⟨k + 1, rfl, by omega, by rw [hstH.out]; rfl, by go_num, hRwH.out.below (Below.refl _ _).drew, hBw.drew⟩)
       ·
        obtain rfl : k = (bs S.l)[S.a].toNat := by omega
        rw [hvH.out]
        go_wp2
        go_ret
        refine ⟨rfl, ?_, gr_set (yD hBw _) 1 _⟩
        unfold RdrD
        rw [jO hbwH.out]
        simp
        omega
 ·
  have hR := h
  unfold numS at hv
  rw [nextS_bad h0] at hv
  obtain ⟨rfl, rfl⟩ := Prod.mk.inj hv
  have hfin := jH h
  have hen : (S.fe != 0) = true := by simpa using h0
  clear h0 hv h hR hS
  go_enter Tryz.func105, Tryz.ntmps105
  go_wp2
  go_ret
  exact ⟨rfl, hfin.out, World.grownBy.refl _ _⟩
theorem intS_num {S : Rs} (m : Nat) : intS m S = if (numS S).2.fe ≠ 0 then (0, (numS S).2) else if m < (numS S).1 then (0, failS S 2) else numS S := by
 unfold intS
 by_cases h0 : S.fe = 0
 ·
  obtain ⟨v, n, e, hr⟩ : ∃ v n e, numR (S.l.drop S.a) = (v, n, e) := ⟨_, _, _, rfl⟩
  rw [nextS_eq h0 hr, numS_eq h0 hr]
  by_cases he : e = 0
  ·
   subst he
   by_cases hz : m < v
   ·
    simp [hz, h0]
   ·
    simp [hz, h0]
  ·
   simp [he, failS, h0]
 ·
  unfold numS
  rw [nextS_bad h0, nextS_bad h0]
  simp [h0]
theorem numS_fe {S : Rs} (h : (numS S).2.fe = 0) : S.fe = 0 ∧ (numS S).2 = { S with a := (numS S).2.a } := by
 by_cases h0 : S.fe = 0
 ·
  obtain ⟨v, n, e, hr⟩ : ∃ v n e, numR (S.l.drop S.a) = (v, n, e) := ⟨_, _, _, rfl⟩
  rw [numS_eq h0 hr] at h ⊢
  by_cases he : e = 0
  ·
   subst he; exact ⟨h0, by simp⟩
  ·
   simp [he, failS, h0] at h
 ·
  unfold numS at h
  rw [nextS_bad h0] at h
  exact absurd h h0
theorem numS_lt (S : Rs) : (numS S).1 < 18446744073709551616 := by
 by_cases h0 : S.fe = 0
 ·
  obtain ⟨v, n, e, hr⟩ : ∃ v n e, numR (S.l.drop S.a) = (v, n, e) := ⟨_, _, _, rfl⟩
  have := numR_some hr
  rw [numS_eq h0 hr]
  by_cases he : e = 0
  ·
   subst he; simpa using (this.2 rfl).2.2.2
  ·
   simp [he]
 ·
  unfold numS
  rw [nextS_bad h0]; show 0 < 18446744073709551616; decide
theorem dint_any (m B : Nat) (hm : m ≤ 1099511627776) (S : Rs) (w : World) (h : RdrD w B S) (hS : S.wf) :
 Calls Tryz.prog 68 #[.pointer (some ⟨B, 0, none⟩), .int .i64 (m : Int)] w
  fun r w' => r = .returned (.int .i64 ((intS m S).1 : Int)) ∧ RdrD w' B (intS m S).2 ∧ w.grownBy w' (some B) := by
 have hn := dnum_any B S w h hS
 have hlt := numS_lt S
 have hfe := @numS_fe S
 obtain ⟨v', S', hv⟩ : ∃ v' S', intS m S = (v', S') := ⟨_, _, rfl⟩
 rw [hv]
 rw [intS_num] at hv
 obtain ⟨v, T, hT⟩ : ∃ v T, numS S = (v, T) := ⟨_, _, rfl⟩
 rw [hT] at hv hn hlt hfe
 dsimp only at hv hn hlt hfe
 have hm0 : (0 : Int) ≤ (m : Int) := by omega
 have hm1 : (m : Int) ≤ 1099511627776 := by omega
 have hb := h
 unfold RdrD at hb
 have hlt0 := jB hb
 have q0 := jA hb 0
 have q1 := jA hb 1
 have q2 := jA hb 2
 have q3 := jA hb 3
 simp at q0 q1 q2 q3
 have hn := jH hn
 clear hb
 by_cases hf : T.fe = 0
 ·
  rw [if_neg (by simp [hf])] at hv
  obtain ⟨hS0, hTa⟩ := hfe hf
  by_cases hmv : m < v
  ·
   rw [if_pos hmv] at hv
   obtain ⟨rfl, rfl⟩ := Prod.mk.inj hv
   have hd : decide (m < v) = true := decide_eq_true hmv
   have hd0 : decide ((m : Int) < 0) = false := decide_eq_false (by omega)
   have hTH := jH hTa
   have hS0H := jH hS0
   clear hv hmv hfe hlt hTa hT h hS
   go_enter Tryz.func68, Tryz.ntmps68
   go_wp2_with fail
   refine hn.out.mono ?_
   rintro e w1 ⟨rfl, hR1, hg1⟩
   have hb1 := hR1
   unfold RdrD at hb1
   rw [hf] at hb1
   have hlt1 := jB hb1
   have z0 := jA hb1 0
   have z1 := jA hb1 1
   have z2 := jA hb1 2
   have z3 := jA hb1 3
   have hfr1 := jE hb1
   simp at z0 z1 z2 z3
   have hb1H := jH hb1
   have hfH := jH hf
   clear hb1 q0 q1 q2 q3 hf
   have hR2 : RdrD (w1.setCell ⟨B, 1, none⟩ (.int .i64 (S.a : Int))) B S := by
    unfold RdrD
    rw [jO hb1H.out, hTH.out, hS0H.out]
    rfl
   go_wp2_with fail
   refine (dfail_any B S 2 _ hR2).mono ?_
   rintro e w2 ⟨rfl, hR3, hg3⟩
   have hb3 := hR3
   rw [show failS S 2 = ⟨S.l, S.a, S.a, 2⟩ from by unfold failS; rw [if_pos ⟨hS0H.out, by decide⟩]] at hb3
   unfold RdrD at hb3
   have hlt3 := jB hb3
   clear z0 z1 z2 z3
   have z0 := jA hb3 0
   have z1 := jA hb3 1
   have z2 := jA hb3 2
   have z3 := jA hb3 3
   simp at z0 z1 z2 z3
   clear hb3
   go_wp2
   go_ret
   exact ⟨rfl, hR3, (gr_set hg1 1 _).trans hg3⟩
  ·
   rw [if_neg hmv] at hv
   obtain ⟨rfl, rfl⟩ := Prod.mk.inj hv
   have hd : decide (m < v) = false := decide_eq_false hmv
   have hd0 : decide ((m : Int) < 0) = false := decide_eq_false (by omega)
   have hvm : (v : Int) ≤ 1099511627776 := by omega
   clear hv hmv hfe hlt hTa hT h hS
   go_enter Tryz.func68, Tryz.ntmps68
   go_wp2_with fail
   refine hn.out.mono ?_
   rintro e w1 ⟨rfl, hR1, hg1⟩
   have hb1 := hR1
   unfold RdrD at hb1
   rw [hf] at hb1
   have hlt1 := jB hb1
   have z0 := jA hb1 0
   have z1 := jA hb1 1
   have z2 := jA hb1 2
   have z3 := jA hb1 3
   simp at z0 z1 z2 z3
   clear hb1 q0 q1 q2 q3 hf
   go_wp2
   go_ret
   exact ⟨rfl, hR1, hg1⟩
 ·
  rw [if_pos hf] at hv
  obtain ⟨rfl, rfl⟩ := Prod.mk.inj hv
  have hen : (T.fe == 0) = false := by simpa using hf
  have hen2 : (T.fe != 0) = true := by simpa using hf
  clear hv hfe hlt hT h hS hf
  go_enter Tryz.func68, Tryz.ntmps68
  go_wp2_with fail
  refine hn.out.mono ?_
  rintro e w1 ⟨rfl, hR1, hg1⟩
  have hb1 := hR1
  unfold RdrD at hb1
  have hlt1 := jB hb1
  have z0 := jA hb1 0
  have z1 := jA hb1 1
  have z2 := jA hb1 2
  have z3 := jA hb1 3
  simp at z0 z1 z2 z3
  clear hb1 q0 q1 q2 q3
  go_wp2
  go_ret
  exact ⟨rfl, hR1, hg1⟩
end Go.Proofs.YtfhandglpjnonaaGreatDoor
