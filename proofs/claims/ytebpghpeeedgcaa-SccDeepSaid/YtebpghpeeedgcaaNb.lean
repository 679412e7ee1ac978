/- The document's from: what a thing comes to be behind. -/
import Derived.Test.YtebpghpeeedgcaaKk
import Derived.Test.YtebpghpeeedgcaaNa
namespace Go.Proofs.Ytebpghpeeedgcaa
open Go.RowKit

theorem Fr.start_ (xs : List (List Int)) (i k : Nat) : Fr xs i (fun _ => false) [i] i k where
  s1 := fun m h => by cases h
  s2 := fun x hx => .inl (List.mem_singleton.1 hx)
  s3 := fun x hx => .inl (by rcases hx with rfl | h; · simp
                             · cases h)
  sj := .inl rfl
theorem Ow.ne_blkK {w : World} {base g sz : Nat} {e t : TypeId} {v : Value} {xs : List (List Value)} {cs : Array Value} (h : Ow w base e sz v xs) (hg : w.heap[g]? = some (.cells cs t (0, 0))) (hne : e ≠ t) : v.ownBlock ≠ some g := by
  rcases h.2.2 with ⟨rfl, _⟩ | ⟨g', cap, cur, rfl, _, hh, _⟩
  · simp [Value.ownBlock]
  · intro e1
    injection e1 with e1
    dsimp only at e1
    subst e1
    rw [hh] at hg
    injection hg with hg
    injection hg with _ h2
    exact hne h2
def unB : Nat → (Nat → Bool) → Nat
  | 0, _ => 0
  | n + 1, f => unB n f + if f n = true then 0 else 1
theorem unB_out {n k : Nat} {v : Bool} {f : Nat → Bool} (h : n ≤ k) : unB n (fun x => if x = k then v else f x) = unB n f := by
  induction n with
  | zero => rfl
  | succ n ih =>
    show unB n (fun x => if x = k then v else f x) + (if (if n = k then v else f n) = true then 0 else 1) = unB n f + _
    rw [if_neg (show ¬ n = k by omega), ih (by omega)]
theorem unB_upd {n k : Nat} {f : Nat → Bool} (hk : k < n) (h0 : f k = false) : unB n (fun x => if x = k then true else f x) + 1 = unB n f := by
  induction n with
  | zero => omega
  | succ n ih =>
    show unB n (fun x => if x = k then true else f x) + (if (if n = k then true else f n) = true then 0 else 1) + 1 = unB n f + (if f n = true then 0 else 1)
    by_cases e : k = n
    · subst e
      rw [unB_out (Nat.le_refl _), if_pos rfl, if_pos rfl, h0]
      simp
    · have := ih (by omega)
      rw [if_neg (Ne.symm e)]
      omega
theorem unB_false (n : Nat) : unB n (fun _ => false) = n := by
  induction n with
  | zero => rfl
  | succ n ih => rw [unB, ih, if_neg (by decide)]
theorem unB_le (n : Nat) (f : Nat → Bool) : unB n f ≤ n := by
  induction n with
  | zero => exact Nat.le_refl _
  | succ n ih =>
    rw [unB]
    split <;> omega
theorem upd_ite {α : Type} (f : Nat → α) (k : Nat) (v : α) : upd f k v = fun x => if x = k then v else f x := rfl
/-- A row of the matrix. -/
def SeenR (w0 w : World) (b n : Nat) (xs : List (List Int)) (i : Nat) : Prop := w0.heap.size ≤ b ∧ ∃ sn : Nat → Bool, w.heap[b]? = some (.cells (rowB n sn) 4 (0, 0)) ∧ ∀ m, m < n → (sn m = true ↔ Rp (gOf xs) i m)
def FrmP (n i : Nat) (xs : List (List Int)) (w : World) (e : Ending) (w' : World) : Prop := ∃ b, e = .returned (.slice (some ⟨b, 0, none⟩) n n) ∧ SeenR w w' b n xs i ∧ Below w.heap.size w w'
theorem getD_map (rs : List Rw) {j : Nat} {r : Rw} (h : rs[j]? = some r) : (rs.map Rw.xs).getD j [] = r.xs := by
  rw [List.getD_eq_getElem?_getD, List.getElem?_map, h]; rfl
set_option maxRecDepth 100000 in
set_option maxHeartbeats 4000000 in
theorem rfrom_any (A : Option Addr) (n c : Nat) (rs : List Rw) (i : Nat) (w : World) (hA : RdG w w.heap.size A n rs) (hn : n ≤ 2000) (hm : ∀ r ∈ rs, r.l ≤ 1000000) (hi : i < n) :
    Calls Try.prog 21 #[.slice A n c, .int .i64 (i : Int)] w fun e w' => FrmP n i (rs.map Rw.xs) w e w' := by
  have hl := hA.len
  have hxl : (rs.map Rw.xs).length = n := by rw [List.length_map]; exact hl
  have hmk := make_bool n (by omega)
  have hAH := Lib.hid hA
  have hmH := Lib.hid hm
  have hxlH := Lib.hid hxl
  obtain ⟨u0, hu0⟩ : ∃ u0, (w.alloc (.cells (rowB n fun _ => false) 4)).alloc (.cells #[.int .i64 (i : Int)] 3) = u0 := ⟨_, rfl⟩
  have hb0 : Below w.heap.size w u0 := by rw [← hu0]; exact ((Below.refl _ w).alloc (Nat.le_refl _) _).alloc (by simp) _
  have hs0 : u0.heap[w.heap.size]? = some (.cells (rowB n fun _ => false) 4 (0, 0)) := by rw [← hu0]; exact heap_old _ (by simp) (heap_at _ _ rfl)
  have ht0 : Ow u0 w.heap.size 3 1 (.slice (some ⟨w.heap.size + 1, 0, none⟩) 1 1) ([i].map eN) :=
    ⟨by simp [eN], ⟨by simp [eN], .inr ⟨w.heap.size + 1, 1, _, rfl, by omega, by rw [← hu0]; exact heap_at _ _ (by simp), Nat.le_refl _, by decide, by simp, by simp [eN]⟩⟩⟩
  have hu0H := Lib.hid hu0
  have hb0H := Lib.hid hb0
  have hs0H := Lib.hid hs0
  have ht0H := Lib.hid ht0
  clear hA hm hxl hb0 hs0 ht0 hu0
  go_enter Try.func21, Try.ntmps21
  go_wp2_with fail
  try rw [hu0H.out]
  go_loopg [6] (n + 1 + 1) (fun gg tv wr => ∃ (sn : Nat → Bool) (td : List Nat) (TA : Option Addr) (tc j k : Nat), gg = unB n sn + td.length + 1 ∧ tv = .slice TA td.length tc ∧ Ow wr w.heap.size 3 1 (.slice TA td.length tc) (td.map eN) ∧
    wr.heap[w.heap.size]? = some (.cells (rowB n sn) 4 (0, 0)) ∧ Fr (rs.map Rw.xs) i sn td j k ∧ ((rs.map Rw.xs).getD j []).length ≤ k ∧ (∀ x ∈ td, x < n) ∧ unB n sn + td.length ≤ n + 1 ∧ Below w.heap.size w wr)
  case atStart => exact ⟨fun _ => false, [i], some ⟨w.heap.size + 1, 0, none⟩, 1, i, _, by rw [unB_false]; rfl, rfl, ht0H.out, hs0H.out, Fr.start_ _ _ _, Nat.le_refl _, (fun x hx => by rw [List.mem_singleton.1 hx]; exact hi), by rw [unB_false]; exact Nat.le_refl _, hb0H.out⟩
  case round =>
    obtain ⟨sn, td, TA, tc, j0, k0, rfl, rfl, ho, hs, hF, hk0, htn, hun, hbr⟩ := hrel
    rcases List.eq_nil_or_concat td with rfl | ⟨td', j, rfl⟩
    · have hz : ¬ (0 : Int) < ((0 : Nat) : Int) := by omega
      have hT : Hid (SeenR w wr w.heap.size n (rs.map Rw.xs) i) := Lib.hid ⟨Nat.le_refl _, sn, hs, fun m _ => hF.end_ hk0 m⟩
      clear hs hF hk0 ho
      go_wp2
      go_ret
      exact ⟨_, rfl, hT.out, hbr⟩
    · rw [List.concat_eq_append] at *
      have hjn : j < n := htn j (by simp)
      have hlen : (td' ++ [j]).length = td'.length + 1 := by simp
      rw [hlen] at ho hun
      obtain ⟨gp, hPA, hgpb, hgpl, hgpf, hgpc⟩ := ho.addr (by omega)
      subst hPA
      have hpcl := hgpc td'.length (eN j) (by rw [List.map_append, List.getElem?_append_right (by simp), List.length_map, Nat.sub_self]; rfl) 0 _ rfl
      rw [Nat.mul_one, Nat.add_zero] at hpcl
      have hun2 := unB_le n sn
      have hwl : IntKind.i64.wrap (((td'.length + 1 : Nat) : Int) - 1) = (td'.length : Int) := by rw [IntWalk.i64_in _ (by omega)]; omega
      have htc : td'.length ≤ tc := by have := ho.rd.2.2.1; omega
      have ho2 : Ow wr w.heap.size 3 1 (.slice (some ⟨gp, 0, none⟩) td'.length tc) (td'.map eN) := by
        have h1 := ho.front (k := td'.length) (by omega)
        rw [List.map_append, List.take_left' (by simp)] at h1
        exact h1
      have hF2 := hF.pop hk0
      obtain ⟨bA, oA, r, hAe, hbA, hq, hcp, hrk⟩ := (hAH.out.below hbr).at_ hjn
      subst hAe
      have hxs : (rs.map Rw.xs).getD j [] = r.xs := getD_map rs hq
      have hmr := hmH.out r (List.mem_of_getElem? hq)
      have hrl := hrk.len
      have ho2H := Lib.hid ho2
      have hsH := Lib.hid hs
      have hF2H := Lib.hid hF2
      have hrkH := Lib.hid hrk
      have hqH := Lib.hid hq
      have hrlH := Lib.hid hrl
      have hxsH := Lib.hid hxs
      have htnH : Hid (∀ x ∈ td', x < n) := Lib.hid (fun x hx => htn x (List.mem_append_left _ hx))
      have hbrH := Lib.hid hbr
      clear ho ho2 hs hF hF2 hk0 htn hgpc hq hrk hxs hrl
      have hpos : (0 : Int) < ((td'.length + 1 : Nat) : Int) := by omega
      rw [hlen]
      go_wp2_with fail
      go_loopg [6, 8] (r.l + 1) (fun gg tv kv wv => ∃ (m : Nat) (sn2 : Nat → Bool) (td2 : List Nat) (TA2 : Option Addr) (tc2 : Nat), m ≤ r.l ∧ gg = r.l + 1 - m ∧ kv = .int .i64 (m : Int) ∧ tv = .slice TA2 td2.length tc2 ∧ Ow wv w.heap.size 3 1 (.slice TA2 td2.length tc2) (td2.map eN) ∧
        wv.heap[w.heap.size]? = some (.cells (rowB n sn2) 4 (0, 0)) ∧ Fr (rs.map Rw.xs) i sn2 td2 j m ∧ (∀ x ∈ td2, x < n) ∧ unB n sn2 + td2.length = unB n sn + td'.length ∧ Below w.heap.size w wv)
      case atStart => exact ⟨0, sn, td', _, _, Nat.zero_le _, rfl, rfl, rfl, ho2H.out, hsH.out, hF2H.out, htnH.out, rfl, hbrH.out⟩
      case round =>
        obtain ⟨m, sn2, td2, TA2, tc2, hmr2, rfl, rfl, rfl, ho, hs, hF, htn, hun3, hbv⟩ := hrel
        obtain ⟨wv, hwv⟩ : ∃ wv, wv = wr := ⟨_, rfl⟩
        obtain rfl := hwv
        obtain ⟨b1, o1, r1, he1, hb1, hq1, hcp1, hrk1⟩ := (hAH.out.below hbv).at_ hjn
        injection he1 with he1
        injection he1 with he1 he2
        subst he1
        subst he2
        obtain rfl : r = r1 := Option.some.inj (hqH.out.symm.trans hq1)
        have hul := unB_le n sn2
        by_cases hlt : m < r.l
        · have hlti : (m : Int) < (r.l : Int) := by omega
          obtain ⟨b2, o2, x, hx2, hb2, hxa, hxc⟩ := hrk1.at_ hlt
          rw [hx2] at hcp1
          have hxv : ((rs.map Rw.xs).getD j [])[m]? = some x := by rw [hxsH.out]; exact hxa
          have hjn2 : (j : Int) < (n : Int) := by omega
          have hoH := Lib.hid ho
          have hsH2 := Lib.hid hs
          have htnH2 := Lib.hid htn
          by_cases hx0 : x < 0
          · have hFn := Lib.hid (hF.skip hxv (fun q _ hq => by omega))
            have hxd : decide (0 ≤ x) = false := decide_eq_false (by omega)
            have hx0' : ¬ (0 : Int) ≤ x := by omega
            clear hF hs ho htn hrk1 hq1 hxa hxv
            go_wp2
            go_roundg (r.l + 1 - (m + 1))
            case measure => omega
            case rel => exact ⟨m + 1, sn2, td2, TA2, tc2, by omega, rfl, by go_num, rfl, hoH.out, hsH2.out, hFn.out, htnH2.out, hun3, hbv⟩
          · have hx0' : (0 : Int) ≤ x := by omega
            by_cases hxn : x < (n : Int)
            · obtain ⟨q, rfl⟩ : ∃ q : Nat, x = (q : Int) := ⟨x.toNat, by omega⟩
              have hqn : q < n := by omega
              have cs := blk_cell hs q
              rw [rowB_at _ hqn] at cs
              have hfs := blk_frozen hs q
              have hls := blk_lt hs
              cases hsq : sn2 q with
              | true =>
                rw [hsq] at cs
                have hFn := Lib.hid (hF.skip hxv (fun q' _ hq' => by obtain rfl : q = q' := by omega
                                                                     exact hsq))
                clear hF hs ho htn hrk1 hq1 hxa hxv hsq
                go_wp2
                go_roundg (r.l + 1 - (m + 1))
                case measure => omega
                case rel => exact ⟨m + 1, sn2, td2, TA2, tc2, by omega, rfl, by go_num, rfl, hoH.out, hsH2.out, hFn.out, htnH2.out, hun3, hbv⟩
              | false =>
                rw [hsq] at cs
                have hlq : (rs.map Rw.xs).length = n := hxlH.out
                have hFn := Lib.hid (hF.push hxv (by omega))
                have hun4 := unB_upd hqn hsq
                obtain ⟨u, hu⟩ : ∃ u, wv.setCell ⟨w.heap.size, q, none⟩ (.bool true) = u := ⟨_, rfl⟩
                have hus : u.heap[w.heap.size]? = some (.cells (rowB n (upd sn2 q true)) 4 (0, 0)) := by rw [← hu]; exact rowB_store hs true
                have hgu : Gk (fun b => b = w.heap.size) wv u := by rw [← hu]; exact (Gk.refl (fun b => b = w.heap.size) wv).set (.inl rfl) _
                have huo : Ow u w.heap.size 3 1 (.slice TA2 td2.length tc2) (td2.map eN) := hgu.ow ho fun k hk e => by
                  have h1 := Ow.ne_blkK ho hs (by decide)
                  exact h1 (by rw [hk, e])
                have hbu : Below w.heap.size w u := hbv.trans (hgu.below hbv.size (fun k hk => by omega))
                have hlu := blk_lt hus
                have hzu := hbu.size
                have hnb : (Value.slice TA2 td2.length tc2).ownBlock ≠ some w.heap.size := Ow.ne_blkK ho hs (by decide)
                have huoH := Lib.hid huo
                have husH := Lib.hid hus
                have hun4H := Lib.hid hun4
                have hl2 : td2.length ≤ 100000 := by omega
                clear hF hs ho htn hrk1 hq1 hxa hxv hsq huo hus
                go_upto_region 12 with (fail)
                try rw [hu]
                clear hu cs hfs hcp1 hxc hcp hpcl
                go_wp2_with (at_builtin; refine wpList_append_rd _ rfl _ _ _ rfl eInt (base := w.heap.size) (v := .slice TA2 td2.length tc2) (xs := td2.map eN) rfl (huoH.out.below ((Below.refl _ u).alloc (Nat.le_refl _) _)) rfl (Rd.one' (eN q) rfl) (by simp [eN]) (by simp [eN, Value.oneCell']) (by rw [List.length_map]; simp [maxLen]; omega) (by rw [List.length_map]; omega) (by simp; omega) ?_; intro A5 n5 c5 w5 hn5 hown5 hg5 hat5; (obtain rfl : n5 = td2.length + 1 := (by rw [hn5, List.length_map])); clear hn5)
                have hgr : Gk (fun b => (Value.slice TA2 td2.length tc2).ownBlock = some b) u w5 := ((Gk.refl _ u).alloc _).grown hg5 (fun k e => .inl e)
                have hb5 : Below w.heap.size w w5 := hbu.trans (hgr.below hzu (fun k hk => (huoH.out.block k hk).1))
                have hs5 : w5.heap[w.heap.size]? = some (.cells (rowB n fun x => if x = q then true else sn2 x) 4 (0, 0)) := hgr.blk husH.out (fun e => hnb e)
                have ho5 : Ow w5 w.heap.size 3 1 (.slice A5 (td2 ++ [q]).length c5) ((td2 ++ [q]).map eN) := by rw [List.map_append, List.length_append]; exact hown5
                go_roundg (r.l + 1 - (m + 1))
                case measure => omega
                case rel =>
                  refine ⟨m + 1, _, td2 ++ [q], A5, c5, by omega, rfl, by go_num, by rw [List.length_append]; rfl, ho5, hs5, hFn.out, fun x hx => ?_, ?_, hb5⟩
                  · rcases List.mem_append.1 hx with h1 | h1
                    · exact htnH2.out x h1
                    · rw [List.mem_singleton.1 h1]; exact hqn
                  · have := hun4H.out
                    rw [List.length_append, List.length_singleton]
                    omega
            · have hFn := Lib.hid (hF.skip hxv (fun q hq1 hq2 => by have h3 : (rs.map Rw.xs).length = n := hxlH.out; omega))
              clear hF hs ho htn hrk1 hq1 hxa hxv
              go_wp2
              go_roundg (r.l + 1 - (m + 1))
              case measure => omega
              case rel => exact ⟨m + 1, sn2, td2, TA2, tc2, by omega, rfl, by go_num, rfl, hoH.out, hsH2.out, hFn.out, htnH2.out, hun3, hbv⟩
        · have hnlt : ¬ (m : Int) < (r.l : Int) := by omega
          have hoH := Lib.hid ho
          have hsH2 := Lib.hid hs
          have hFH := Lib.hid hF
          have htnH2 := Lib.hid htn
          have hjn2 : (j : Int) < (n : Int) := by omega
          have hmk2 : Hid (((rs.map Rw.xs).getD j []).length ≤ m) := Lib.hid (by rw [hxsH.out, hrlH.out]; omega)
          clear hF hs ho htn hrk1 hq1 hcp hpcl
          go_wp2
          go_roundg (unB n sn2 + td2.length + 1)
          case measure => simp; omega
          case rel => exact ⟨sn2, td2, TA2, tc2, j, m, rfl, rfl, hoH.out, hsH2.out, hFH.out, hmk2.out, htnH2.out, by omega, hbv⟩
end Go.Proofs.Ytebpghpeeedgcaa
