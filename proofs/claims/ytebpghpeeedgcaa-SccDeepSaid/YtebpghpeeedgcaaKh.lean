/- The search closes a part. -/
import Derived.Test.YtebpghpeeedgcaaKg
namespace Go.Proofs.Ytebpghpeeedgcaa
open Go.RowKit

theorem mem_drop_step {l : List Nat} {d x : Nat} (h : l[d]? = some x) (y : Nat) : y ∈ l.drop d ↔ y = x ∨ y ∈ l.drop (d + 1) := by
  obtain ⟨h1, h2⟩ := List.getElem?_eq_some_iff.1 h
  rw [List.drop_eq_getElem_cons h1, List.mem_cons, h2]
theorem upd_drop {α : Type} {l : List Nat} {d x : Nat} (h : l[d]? = some x) (v : α) (f : Nat → α) : upd (fun y => if y ∈ l.drop (d + 1) then v else f y) x v = fun y => if y ∈ l.drop d then v else f y := by
  funext y
  unfold upd
  have := mem_drop_step h y
  by_cases h1 : y = x
  · rw [if_pos h1, if_pos (this.2 (.inl h1))]
  · rw [if_neg h1]
    show (if y ∈ l.drop (d + 1) then v else f y) = _
    by_cases h2 : y ∈ l.drop (d + 1)
    · rw [if_pos h2, if_pos (this.2 (.inr h2))]
    · rw [if_neg h2, if_neg (fun h3 => (this.1 h3).elim h1 h2)]
set_option maxRecDepth 100000 in
set_option maxHeartbeats 4000000 in
theorem close_any (base p bn bl bx bo bp : Nat) (A : Option Addr) (n c : Nat) (s : TS) (S K : Value) (fl t : List Nat) (ps : List Rw) (i : Nat) (w : World)
    (h : WK w base p bn bl bx bo bp A n c s S K (fl ++ i :: t) ps) (hnd : (i :: t).Nodup) (hlt : ∀ x ∈ i :: t, x < n) (_hn : n ≤ 100000) (hl : (fl ++ i :: t).length ≤ 100000) (hp : ps.length ≤ 100000) :
    Calls Try.prog 31 #[.pointer (some ⟨p, 0, none⟩), .int .i64 (i : Int)] w fun e w' => e = .returned (.tuple #[]) ∧
      ∃ S' K' ps', WK w' base p bn bl bx bo bp A n c { s with opn := fun x => if x ∈ i :: t then false else s.opn x, prt := fun x => if x ∈ i :: t then s.pts.length else s.prt x, pts := s.pts ++ [sortN (i :: t)] } S' K' fl ps' ∧
        Gk (fun b => b = p ∨ b = bo ∨ b = bp ∨ K.ownBlock = some b) w w' ∧ S'.ownBlock = S.ownBlock ∧ (∀ r ∈ ps', r ∈ ps ∨ ∀ k, (Value.slice r.A r.l r.c).ownBlock = some k → w.heap.size ≤ k) := by
  obtain ⟨plc, box, num, low, nxt, opn, prt, hbase, stk, pts, prs, psx⟩ := h
  obtain ⟨⟨d1, d2, d3, d4, d5⟩, ⟨d6, d7, d8, d9⟩, ⟨e1, e2, e3⟩, ⟨e4, e5⟩, e6⟩ := plc.ne
  obtain ⟨l1, l2, l3, l4, l5, l6⟩ := plc.l
  have hpl : ps.length = s.pts.length := by have := congrArg List.length psx; simpa using this
  obtain ⟨P, hP⟩ : ∃ P, s.pts.length = P := ⟨_, rfl⟩
  rw [hP] at hpl ⊢
  replace hP := Lib.hid hP
  obtain ⟨KA, kc, hK, hkl, hkc, hkr⟩ := pts.form
  rw [List.length_map, hpl] at hK hkl
  rw [hpl] at hp
  replace hpl := Lib.hid hpl
  subst hK
  obtain ⟨SA, sc, hS, hsl, hsc, hsr⟩ := stk.form
  rw [List.length_map] at hS hsl
  subst hS
  obtain ⟨g, rfl, hgb, hgl, hgf, hgc⟩ := stk.addr (by simp; omega)
  obtain ⟨L, hL⟩ : ∃ L, (i :: t).length = L := ⟨_, rfl⟩
  have hL1 : 1 ≤ L := by rw [← hL]; simp
  have hfL : (fl ++ i :: t).length = fl.length + L := by rw [List.length_append, hL]
  rw [hfL] at box stk hl hsl
  have hst : ∀ (d x : Nat), (i :: t)[d]? = some x → w.cell? ⟨g, fl.length + d, none⟩ = some (.int .i64 (x : Int)) := by
    intro d x hx
    have := hgc (fl.length + d) (eN x) (by rw [List.getElem?_map, List.getElem?_append_right (by omega), show fl.length + d - fl.length = d by omega, hx]; rfl) 0 _ rfl
    simpa using this
  have hgp : ∀ k, k < base → g ≠ k := fun k hk => by omega
  obtain ⟨f, hf⟩ : ∃ f, fl.length = f := ⟨_, rfl⟩
  rw [hf] at box stk hl hsl hst
  have hwL : IntKind.i64.wrap ((f + L : Nat) : Int) = ((f + L : Nat) : Int) := IntWalk.i64_in _ (by omega)
  have b5 := blk_cell box 5
  simp at b5
  have hboxH := Lib.hid box
  have hstH := Lib.hid hst
  have hlp := blk_lt box
  go_enter Try.func31, Try.ntmps31
  go_wp2
  go_loopg [4, 5] L (fun gg a k wr => ∃ (e : Nat) (z : Int), e < L ∧ gg = e + 1 ∧ a = .int .i64 z ∧ z = ((f + (e + 1) : Nat) : Int) ∧ wr.heap[bo]? = some (.cells (rowB n fun x => if x ∈ (i :: t).drop (e + 1) then false else s.opn x) 4 (0, 0)) ∧
    wr.heap[bp]? = some (.cells (rowN n fun x => if x ∈ (i :: t).drop (e + 1) then P else s.prt x) 3 (0, 0)) ∧ Gk (fun b => b = bo ∨ b = bp) w wr)
  case atStart =>
    refine ⟨L - 1, _, by omega, by omega, rfl, by omega, ?_, ?_, Gk.refl _ _⟩
    · rw [List.drop_of_length_le (by omega)]; simpa using opn
    · rw [List.drop_of_length_le (by omega)]; simpa using prt
  case round =>
    obtain ⟨e, z, heL, rfl, rfl, hz, wo, wp, hg⟩ := hrel
    have hbr := hg.blk hboxH.out (by omega)
    have b4 := blk_cell hbr 4
    have b5 := blk_cell hbr 5
    have b7 := blk_cell hbr 7
    have b8 := blk_cell hbr 8
    simp at b4 b5 b7 b8
    obtain ⟨x, hx⟩ : ∃ x, (i :: t)[e]? = some x := ⟨_, List.getElem?_eq_getElem (by omega)⟩
    have hxn : x < n := hlt x (List.mem_of_getElem? hx)
    have hcx := (World.cell?_of_block (a := ⟨g, f + e, none⟩) (hg.block g hgl (by omega))).trans (hstH.out e x hx)
    have co := blk_cell wo x
    have cp := blk_cell wp x
    rw [rowB_at _ hxn] at co
    rw [rowN_at _ hxn] at cp
    have hfo := blk_frozen wo x
    have hfp := blk_frozen wp x
    have hlo := blk_lt wo
    have hlp2 := blk_lt wp
    have hwd : IntKind.i64.wrap (z - 1) = ((f + e : Nat) : Int) := by rw [IntWalk.i64_in _ (by omega)]; omega
    have hz1 : z - 1 = ((f + e : Nat) : Int) := by omega
    replace hz := Lib.hid hz
    have hfe : f + e < f + L := by omega
    have hxni : (x : Int) < (n : Int) := by omega
    obtain ⟨u, hu⟩ : ∃ u, (((wr.setCell ⟨bo, x, none⟩ (.bool false)).setCell ⟨bp, x, none⟩ (.int .i64 (P : Int))).drew) = u := ⟨_, rfl⟩
    have uo : u.heap[bo]? = some (.cells (rowB n fun y => if y ∈ (i :: t).drop e then false else s.opn y) 4 (0, 0)) := by
      rw [← hu, ← upd_drop hx]
      exact heap_drew (heap_set_ne (Ne.symm e6) (rowB_store wo false))
    have up : u.heap[bp]? = some (.cells (rowN n fun y => if y ∈ (i :: t).drop e then P else s.prt y) 3 (0, 0)) := by
      rw [← hu, ← upd_drop hx]
      exact heap_drew (rowN_store (heap_set_ne e6 wp) P)
    have hgu : Gk (fun b => b = bo ∨ b = bp) w u := by
      rw [← hu]
      exact ((hg.set (.inl (.inl rfl)) _).set (.inl (.inr rfl)) _).drew
    have uoH := Lib.hid uo
    have upH := Lib.hid up
    have hguH := Lib.hid hgu
    clear uo up hgu wo wp hg
    rcases Nat.eq_zero_or_pos e with he0 | hepos
    · subst he0
      obtain rfl : i = x := by simpa using hx
      rw [Nat.add_zero] at hcx hwd hz1 hfe
      go_wp2
      go_region
      try rw [hu]
      clear hu co cp hfo hfp hcx b4 b5 b7 b8 hbr
      have hbu := hguH.out.blk hboxH.out (by omega)
      have b5 := blk_cell hbu 5
      simp at b5
      have hlpu := blk_lt hbu
      have ustk : Ow u base 3 1 (.slice (some ⟨g, 0, none⟩) (f + L) sc) ((fl ++ i :: t).map eN) := hguH.out.ow stk fun k hk hS => by
        have h1 := (stk.block k hk).1
        omega
      have upts : Ow u base 31 1 (.slice KA P kc) (ps.map Rw.enc) := hguH.out.ow pts fun k hk hS => by
        have h1 := (pts.block k hk).1
        omega
      have hrdu : Rd u u.heap.size 1 (some ⟨g, f, none⟩) L (((i :: t).map Int.ofNat).map eI) := by
        have h1 := ustk.rd.1.from_ (k := f) (by omega)
        rw [Nat.zero_add, Nat.add_sub_cancel_left, List.map_append, List.drop_append, List.drop_of_length_le (by rw [List.length_map]; omega), List.length_map, hf, Nat.sub_self, List.nil_append, List.drop_zero, map_eN] at h1
        exact h1
      have hsc1 : ¬ sc = f := by omega
      have hsc2 : f ≤ f + L := by omega
      have cC := Lib.hid (cloneI_any (some ⟨g, f, none⟩) L (sc - f) ((i :: t).map Int.ofNat) u hrdu (by omega))
      have hzu := hguH.out.size
      go_wp2_with fail
      refine cC.out.mono ?_
      rintro e w2 ⟨A2, c2, rfl, o2, hb2⟩
      clear cC hrdu b5 hlpu
      have cS := Lib.hid (sortI_any u.heap.size A2 L c2 _ w2 o2 (by omega))
      go_wp2_with fail
      refine cS.out.mono ?_
      rintro e w3 ⟨rfl, o3, hg3⟩
      rw [sort_nat] at o3
      have hb3 : Below u.heap.size u w3 := hb2.grown hg3 hb2.size fun k e => (o2.block k e).1
      have hz3 := hb3.size
      have hb3p := blk_below hbu hb3
      have b5 := blk_cell hb3p 5
      have b8 := blk_cell hb3p 8
      simp at b5 b8
      have hlp3 := blk_lt hb3p
      have p3 := upts.below hb3
      clear cS o2
      have hns : ¬ P = kc ∨ True := .inr trivial
      go_wp2_with (at_builtin; refine wpList_append_rd _ rfl _ _ _ rfl eInts (base := base) (v := .slice KA P kc) (xs := ps.map Rw.enc) rfl (p3.below ((Below.refl _ w3).alloc (Nat.le_refl _) _)) rfl (Rd.one' [Value.slice A2 L c2] rfl) (by simp) (by simp [Value.oneCell']) (by rw [List.length_map, hpl.out]; simp [maxLen]; omega) (by rw [List.length_map, hpl.out]; omega) (by simp; omega) ?_; intro A4 n4 c4 w4 hn4 hown4 hg4 hat4; (obtain rfl : n4 = P + 1 := (by rw [hn4]; simp [hpl.out])); clear hn4; (have hsz4 := hg4.size); (have hgr : Gk (fun b => (Value.slice KA P kc).ownBlock = some b) w3 w4 := ((Gk.refl _ w3).alloc _).grown hg4 (fun k e => .inl e)); (have hb4 := hgr.blk hb3p (p3.ge l1)); (have hl4 := blk_lt hb4); (have hf4 := blk_frozen hb4 5); (have hf48 := blk_frozen hb4 8); (have q5 := blk_cell hb4 5); (have q8 := blk_cell hb4 8); simp at q5 q8)
      go_end0
      have hgrS : Gk (fun b => b = p ∨ (Value.slice KA P kc).ownBlock = some b) w3 ((w4.setCell ⟨p, 8, none⟩ (.slice A4 (P + 1) c4)).setCell ⟨p, 5, none⟩ (.slice (some ⟨g, 0, none⟩) f sc)) :=
        ((hgr.mono (S' := fun b => b = p ∨ (Value.slice KA P kc).ownBlock = some b) (fun k _ h => .inr h)).set (.inl (.inl rfl)) _).set (.inl (.inl rfl)) _
      have hT : Gk (fun b => b = p ∨ b = bo ∨ b = bp ∨ (Value.slice KA P kc).ownBlock = some b) w ((w4.setCell ⟨p, 8, none⟩ (.slice A4 (P + 1) c4)).setCell ⟨p, 5, none⟩ (.slice (some ⟨g, 0, none⟩) f sc)) :=
        (((hguH.out.mono (S' := fun b => b = p ∨ b = bo ∨ b = bp ∨ (Value.slice KA P kc).ownBlock = some b) (fun k _ h => by omega)).then hb3 (Nat.le_refl _)).trans hgrS (fun k _ h => by
          rcases h with h | h
          · exact .inl h
          · exact .inr (.inr (.inr h))))
      have hKb : ∀ k, (Value.slice KA P kc).ownBlock = some k → base ≤ k ∧ k < w.heap.size := fun k hk => pts.block k hk
      have hL2 : (sortN (i :: t)).length = L := by rw [sortN_len]; exact hL
      refine ⟨rfl, .slice (some ⟨g, 0, none⟩) f sc, .slice A4 (P + 1) c4, ps ++ [⟨A2, L, c2, (sortN (i :: t)).map Int.ofNat⟩], ⟨plc, ?_, ?_, ?_, ?_, ?_, ?_, ?_, ?_, ?_, ?_, ?_⟩, hT, rfl, fun r hr => ?_⟩
      · rw [blk_set (g := p) (i := 5) (cs := #[.slice A n c, .slice (some ⟨bn, 0, none⟩) n n, .slice (some ⟨bl, 0, none⟩) n n, .slice (some ⟨bx, 0, none⟩) n n, .slice (some ⟨bo, 0, none⟩) n n, .slice (some ⟨g, 0, none⟩) (f + L) sc, .int .i64 (s.cnt : Int), .slice (some ⟨bp, 0, none⟩) n n, .slice A4 (P + 1) c4]) (t := 41) (by rw [blk_set hb4 8]; simp)]
        simp
      · exact hT.blk num fun h => by rcases h with h | h | h | h <;> first | omega | (have := hKb _ h; omega)
      · exact hT.blk low fun h => by rcases h with h | h | h | h <;> first | omega | (have := hKb _ h; omega)
      · exact hT.blk nxt fun h => by rcases h with h | h | h | h <;> first | omega | (have := hKb _ h; omega)
      · exact hgrS.blk (blk_below uoH.out hb3) fun h => by rcases h with h | h <;> first | omega | (have := hKb _ h; omega)
      · exact hgrS.blk (blk_below upH.out hb3) fun h => by rcases h with h | h <;> first | omega | (have := hKb _ h; omega)
      · exact Nat.le_trans hbase hT.size
      · have h1 := ustk.front (k := f) (by omega)
        have h2 : ((fl ++ i :: t).map eN).take f = fl.map eN := by rw [← List.map_take, List.take_left' hf]
        rw [h2] at h1
        refine hgrS.ow (h1.below hb3) fun k hk hS => ?_
        rcases hS with h3 | h3
        · have := (h1.block k hk).1; omega
        · exact h1.ne_own upts (by decide) hk h3
      · rw [List.map_append]
        exact (hown4.setCell (a := ⟨p, 8, none⟩) l1 _).setCell (a := ⟨p, 5, none⟩) l1 _
      · intro r hr
        rcases List.mem_append.1 hr with hr | hr
        · obtain ⟨h1, h2⟩ := prs r hr
          refine ⟨hT.ow h1 fun k hk hS => ?_, h2⟩
          have h3 := (h1.block k hk).1
          rcases hS with h6 | h6 | h6 | h6
          · omega
          · omega
          · omega
          · exact h1.ne_own pts (by decide) hk h6
        · obtain rfl := List.mem_singleton.1 hr
          have h1 : Ow ((w4.setCell ⟨p, 8, none⟩ (.slice A4 (P + 1) c4)).setCell ⟨p, 5, none⟩ (.slice (some ⟨g, 0, none⟩) f sc)) u.heap.size 3 1 (.slice A2 L c2) (((sortN (i :: t)).map Int.ofNat).map eI) := hgrS.ow o3 fun k hk hS => by
            have h2 := (o3.block k hk).1
            rcases hS with h3 | h3
            · omega
            · have := (hKb k h3).2; omega
          refine ⟨h1.base (by omega), fun k hk h4 => ?_⟩
          have h3 := (h1.block k hk).1
          have : g = k := Option.some.inj h4
          omega
      · rw [List.map_append, List.map_append, psx]; rfl
      · rcases List.mem_append.1 hr with hr | hr
        · exact .inl hr
        · obtain rfl := List.mem_singleton.1 hr
          exact .inr fun k hk => Nat.le_trans hzu (o3.block k hk).1
    · have heq : ((x : Int) == (i : Int)) = false := by
        rw [beq_eq_false_iff_ne]
        intro h0
        obtain ⟨e', rfl⟩ : ∃ e', e = e' + 1 := ⟨e - 1, by omega⟩
        have hx2 : t[e']? = some x := by simpa using hx
        have := List.mem_of_getElem? hx2
        rw [List.nodup_cons] at hnd
        have h1 : x = i := by omega
        exact hnd.1 (h1 ▸ this)
      go_wp2
      go_region
      try rw [hu]
      clear hu co cp hfo hfp hcx b4 b5 b7 b8 hbr
      go_wp2
      go_roundg e
      case measure => omega
      case rel =>
        obtain ⟨e', rfl⟩ : ∃ e', e = e' + 1 := ⟨e - 1, by omega⟩
        exact ⟨e', _, by omega, rfl, rfl, by omega, uoH.out, upH.out, hguH.out⟩
end Go.Proofs.Ytebpghpeeedgcaa
