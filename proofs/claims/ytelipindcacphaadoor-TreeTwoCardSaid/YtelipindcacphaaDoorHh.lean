/- Interests of the program: Minus. -/
import Derived.Test.YtelipindcacphaaDoorHg
namespace Go.Proofs.YtelipindcacphaaDoor
open Go.RowKit

theorem tmin1_any (b : Nat) (p x : List UInt8) (hp : p.length ≤ 1099511627776) (hx : x.length ≤ maxLen) (w : World) (hb : w.heap[b]? = some (.cells #[.string (bs p)] 9 (0, 0))) :
    Calls Tryd.prog 27 #[.string (bs x), .pointer (some ⟨b, 0, none⟩)] w fun e w' => e = .returned (.bool (withinB x p)) ∧ Below w.heap.size w w' := by
  have c0 := blk_cell hb 0
  simp at c0
  have h := twithin_any x p hx hp w
  generalize withinB x p = r at h
  clear hb
  go_enter Tryd.func27, Tryd.ntmps27
  go_wp2_with fail
  refine h.mono ?_
  rintro e w' ⟨rfl, rfl⟩
  go_wp2
  go_ret
  exact ⟨rfl, Below.refl _ _⟩
theorem rdS_new (w : World) (p : List UInt8) : RdS (w.alloc (.cells #[.string (bs p)] 9)) (w.alloc (.cells #[.string (bs p)] 9)).heap.size (some ⟨w.heap.size, 0, none⟩) 1 [p] :=
  Rd.built (xs := [p].map encS) encS_len rfl rfl
set_option maxRecDepth 100000 in
set_option maxHeartbeats 2000000 in
theorem tminus_any (A : Option Addr) (n c : Nat) (xs : List (List UInt8)) (p : List UInt8) (w : World) (hA : RdS w w.heap.size A n xs) (hn : n ≤ 10000) (hx : shortS xs) (hp : p.length ≤ 1000) (hv : VarM w) :
    Calls Tryd.prog 9 #[.slice A n c, .string (bs p)] w fun e w' => ∃ A' n' c', e = .returned (.tuple #[.slice A' n' c', .int .i64 (minusWE xs p)]) ∧ GotS w' A' n' (minusW xs p) ∧ Below w.heap.size w w' := by
  have hb0 : Below w.heap.size w (w.alloc (.cells #[.string (bs p)] 9)) := (Below.refl _ w).alloc (Nat.le_refl _) _
  have hbx : (w.alloc (.cells #[.string (bs p)] 9)).heap[w.heap.size]? = some (.cells #[.string (bs p)] 9 (0, 0)) := heap_at _ _ rfl
  generalize hW : w.alloc (.cells #[.string (bs p)] 9) = W at hb0 hbx
  have hz0 := hb0.size
  have hlt := blk_lt hbx
  have s0 := blk_cell hbx 0
  simp at s0
  have hbxH := Lib.hid hbx
  have c1 := Lib.hid (fun w' (h : Below W.heap.size W w') => tCheck_any A n c xs w' ((hA.below (hb0.trans (h.mono hz0))).more (hb0.trans (h.mono hz0)).size) (by omega) hx (hv.below (hb0.trans (h.mono hz0)) hv.lt))
  have hsh : shortS [p] := fun x h => by obtain rfl := List.mem_singleton.1 h; exact hp
  have c2 := Lib.hid (fun T c' w' (h : Below W.heap.size W w') (h1 : RdS w' w'.heap.size T 1 [p]) => show Calls Tryd.prog 24 #[.slice T 1 c', .int .i64 1] w' (fun e w'' => e = .returned (.int .i64 (chkN 1 [p])) ∧ Below w'.heap.size w' w'') from tcheck_any 1 (by decide) T 1 c' [p] w' h1 (by decide) hsh.max (hv.below (hb0.trans (h.mono hz0)) hv.lt))
  have cK := Lib.hid (fun w' (h : Below w.heap.size w w') => cloneS_any A n c xs w' ((hA.below h).more h.size) (by omega))
  have cD := Lib.hid (fun base T c' w' (ho : Ow w' base 9 1 (.slice T n c') (xs.map encS)) (hl : w.heap.size < base) (hb : w'.heap[w.heap.size]? = some (.cells #[.string (bs p)] 9 (0, 0))) (hB : base ≤ w'.heap.size) =>
    delfS_gen 27 #[.pointer (some ⟨w.heap.size, 0, none⟩)] (fun x => withinB x p) (enters_of Tryd.func27 (by kernel_rfl) rfl) base T n c' xs w' ho (by omega) (fun x hxm w'' h => tmin1_any w.heap.size p x (by omega) (hx.max x hxm) w'' ((h.block _ hl).trans hb)) hB)
  have hnil : ∀ w, GotS w none 0 [] := fun w => ⟨Rd.nil_, by omega⟩
  have hor := Lib.hid (fun g w hg h0 h1 => orE_any g (chkW xs) (chkN 1 [p]) w hg h0 h1)
  have hnl := hA.len
  generalize hr : minusWE xs p = r
  generalize hq : minusW xs p = out
  unfold minusW at hq
  rw [hr] at hq
  unfold minusWE at hr
  generalize hE0 : (if chkW xs ≠ 0 then chkW xs else chkN 1 [p]) = e0 at hor hr
  generalize chkW xs = ex at c1 hor hE0
  generalize chkN 1 [p] = ey at c2 hor hE0
  subst hr
  have hqH := Lib.hid hq
  have hnlH := Lib.hid hnl
  clear hE0 hq hA hv hbx hsh hnl
  go_enter Tryd.func9, Tryd.ntmps9
  go_wp2
  go_cut [6] (fun s wx => s = .int .i64 e0 ∧ Below W.heap.size W wx)
  case first =>
    have hq0 : KQ W.heap.size W W := kq (Below.refl _ _)
    go_region_held3 (fun w' => KQ W.heap.size W w') (first | with_reducible exact kq_alloc (by with_reducible assumption) (Nat.le_refl _) _ | (first
      | with_reducible exact kq_call (by assumption) (by simp) (by assumption)
      | with_reducible exact kq_grown (by assumption) (by simp) (by assumption) (by simp [Value.ownBlock])
      | ((with_reducible refine kq ?_); (repeat (first | (with_reducible exact Below.refl _ _) | (with_reducible refine Below.drew ?_) | (with_reducible refine Below.alloc ?_ (by simp) _) | (with_reducible refine Below.setCell ?_ (by simp) _) | (with_reducible exact (by assumption : KQ _ _ _).1))); done)))
      (first
        | (go_at_call 19
           (with_reducible refine (c1.out _ ((by first | with_reducible assumption | exact kq_drew (Below.refl _ _) | exact kq_drew ((Below.refl _ _).alloc (Nat.le_refl _) _) : KQ W.heap.size W _).1)).mono ?_)
           rintro e v1 ⟨rfl, hv1⟩
           (first
             | (have hx1 : RdS v1 v1.heap.size (some ⟨W.heap.size, 0, none⟩) 1 [p] := (((rdS_new W p).below (Below.refl _ _).drew).below hv1).more hv1.size)
             | (have hx1 : RdS v1 v1.heap.size (some ⟨W.heap.size, 0, none⟩) 1 [p] := ((rdS_new W p).below hv1).more hv1.size)
             | skip))
        | (go_at_call 24
           (with_reducible refine (c2.out _ _ _ ((by with_reducible assumption : KQ W.heap.size W _).1) (by first | exact rdS_new _ _ | exact hx1)).mono ?_)
           rintro e v2 ⟨rfl, hv2⟩)
        | (go_at_call 18
           (with_reducible refine (hor.out _ _ (by simp) (blk_cell (heap_at _ _ (by simp)) 0) (blk_cell (heap_at _ _ (by simp)) 1)).mono ?_)
           rintro e v3 ⟨rfl, rfl⟩)
        | fail)
    all_goals
      (go_wp2_with fail
       go_meet
       exact ⟨rfl, ((by with_reducible assumption : KQ W.heap.size W _).1)⟩)
  obtain ⟨rfl, hb3⟩ := hcut
  obtain ⟨w3, hw3⟩ : ∃ w3, w3 = wc := ⟨_, rfl⟩
  obtain rfl := hw3
  have hG3 : Below w.heap.size w w3 := hb0.trans (hb3.mono hz0)
  have hz3 := hG3.size
  have hbx3 := blk_below hbxH.out hb3
  have hbx3H := Lib.hid hbx3
  have hlt3 := blk_lt hbx3
  have s1 := blk_cell hbx3 0
  simp at s1
  clear hbx3 c1 c2 hor s0 hlt
  by_cases h0 : e0 = 0
  case neg =>
    have hne : (e0 == 0) = false := by simpa using h0
    have hq3 : Hid (out = []) := Lib.hid (by rw [← hqH.out, if_pos h0])
    clear h0
    go_wp2
    refine bodyPost_ret (v := .tuple #[.slice none 0 0, .int .i64 e0]) (by simp [results, Tryd.results9, go_sem]) rfl ⟨none, 0, 0, rfl, by rw [hq3.out]; exact hnil _, hG3⟩
  subst h0
  have hq3 : Hid (xs.filter (fun x => !withinB x p) = out) := Lib.hid (by rw [← hqH.out, if_neg (by decide)])
  have cK3 := Lib.hid (cK.out w3 hG3)
  clear cK
  go_wp2_with fail
  refine cK3.out.mono ?_
  rintro e w4 ⟨T, t, rfl, oT, hv4⟩
  have hb4 := hG3.trans (hv4.mono hz3)
  have hz4 := hv4.size
  have cD4 := Lib.hid (cD.out w3.heap.size T t w4 oT hlt3 ((hv4.block _ hlt3).trans hbx3H.out) hz4)
  have hob := oT.block
  clear cD cK3
  go_wp2_with fail
  refine cD4.out.mono ?_
  rintro e w5 ⟨q, rfl, o5, hg5⟩
  have hG : Below w.heap.size w w5 := hb4.grown hg5 hb4.size (fun g e => by have := (hob g e).1; omega)
  have hql : (xs.filter fun x => !withinB x p).length = q := by simpa using o5.rd.2.1
  have hfl := List.length_filter_le (fun x => !withinB x p) xs
  have hqn : q ≤ 100000 := by have := hnlH.out; omega
  have hS : GotS w5 T q out := by rw [← hq3.out]; exact ⟨o5.rd.1, hqn⟩
  clear hql hfl o5
  go_wp2
  refine bodyPost_ret (v := .tuple #[.slice T q t, .int .i64 0]) (by simp [results, Tryd.results9, go_sem]) rfl ⟨T, q, t, rfl, hS, hG⟩
end Go.Proofs.YtelipindcacphaaDoor
