/- scc.Parts: what a right list of lists is to the search; the counted steps as they lie in memory. -/
import Derived.Test.YtebpghpeeedgcaaNe
import Derived.Test.YtebpghpeeedgcaaNc
namespace Go.Proofs.Ytebpghpeeedgcaa
open Go.RowKit

theorem ok_gOf {n : Nat} {rs : List Rw} (hl : rs.length = n) (h : okX n rs = true) : rs.map Rw.xs = (gOf (rs.map Rw.xs)).map fun l => l.map Int.ofNat := by
  unfold gOf
  rw [List.map_map]
  have hxl : (rs.map Rw.xs).length = n := by rw [List.length_map]; exact hl
  rw [hxl]
  conv => lhs; rw [← List.map_id (rs.map Rw.xs)]
  refine List.map_congr_left fun l hl2 => ?_
  obtain ⟨r, hr, rfl⟩ := List.mem_map.1 hl2
  unfold okX at h
  have h1 := List.all_eq_true.1 (List.all_eq_true.1 h r hr)
  show r.xs = ((r.xs.filter (inR n)).map Int.toNat).map Int.ofNat
  rw [List.filter_eq_self.2 h1, List.map_map]
  conv => lhs; rw [← List.map_id r.xs]
  refine List.map_congr_left fun x hx => ?_
  have h2 := h1 x hx
  unfold inR at h2
  rw [Bool.and_eq_true, decide_eq_true_iff, decide_eq_true_iff] at h2
  show x = Int.ofNat x.toNat
  rw [Int.ofNat_eq_natCast, Int.toNat_of_nonneg h2.1]
theorem bh_of {w : World} {B n : Nat} {A : Option Addr} {rs : List Rw} (hA : RdG w B A n rs) (h : okX n rs = true) (hm : ∀ r ∈ rs, r.l ≤ 100000) : Bh w B A n rs (gOf (rs.map Rw.xs)) :=
  ⟨hA, ok_gOf hA.len h, gOf_ok _, hm⟩
/-- The step counted: what is left to each part, and who waits. -/
theorem ceK_row {g : Gr} {pt : Nat → Nat} {i j k : Nat} (h : (sucs g i)[j]? = some k) : ceK pt (edgesK g i (j + 1)) = if pt i = pt k then ceK pt (edgesK g i j) else ceK pt (edgesK g i j) ++ [(pt i, pt k)] := by
  rw [edgesK_step g i h, ceK_snoc]
theorem edges_le {g : Gr} {n : Nat} (hr : ∀ i, i < n → (sucs g i).length ≤ 100000) {i : Nat} (hi : i < n) (j : Nat) : (edgesK g i j).length ≤ (i + 1) * 100000 := by
  have hs : ∀ i, i < n → ((List.range i).map fun x => (sucs g x).length).sum ≤ i * 100000 := by
    intro i
    induction i with
    | zero => intro _; simp
    | succ i ih =>
      intro h
      rw [List.range_succ, List.map_append, List.sum_append]
      have := ih (by omega)
      have h1 := hr i (by omega)
      simp
      omega
  rw [edgesK_len]
  have h1 := hs i hi
  have h2 := hr i hi
  have h3 : min j (sucs g i).length ≤ (sucs g i).length := Nat.min_le_right _ _
  omega
theorem allK_le {g : Gr} {n : Nat} (hn : g.length = n) (hr : ∀ i, i < n → (sucs g i).length ≤ 100000) : (allK g).length ≤ n * 100000 := by
  unfold allK
  cases h : g.length with
  | zero => rw [edgesK_zero]; simp
  | succ m =>
    rw [← edgesK_row]
    have := edges_le (i := m) hr (by omega) (sucs g m).length
    rw [show n = m + 1 by omega]
    exact this
theorem made_rowS (n : Nat) : madeCells #[Value.slice none 0 0] n = (List.replicate n (Value.slice none 0 0)).toArray := by
  apply Array.ext_getElem?
  intro k
  by_cases hk : k < n
  · simp [madeCells, hk, Nat.mod_one]
  · simp [madeCells, hk]
theorem make_ints (n : Nat) (hn : n ≤ 100000) (w : World) : (Instr.makeSlice 22 (.int .i64 (n : Int)) (.int .i64 (n : Int))).run Try.prog w = .ok (.slice (some ⟨w.heap.size, 0, none⟩) n n) (w.alloc (.cells (List.replicate n (Value.slice none 0 0)).toArray 31)) := by
  obtain ⟨i, hi, h0, h1, h2⟩ := info_parts infoInts
  have h := run_makeSlice (P := Try.prog) (w := w) 22 31 i _ Try.underlying22 hi h0 .i64 .i64 n n (by omega) (Int.le_refl _) (by rw [h1]; simp; omega) (by rw [h2]; omega) (by omega)
  rw [h1, Int.toNat_natCast, Nat.mul_one] at h
  rw [h, show (Value.slice none 0 0).cells = #[Value.slice none 0 0] from rfl, made_rowS]
/-- As PtP, and all things are among the parts. -/
def PsP (xs : List (List Int)) (n : Nat) (E : Int) (w : World) (e : Ending) (w' : World) : Prop :=
  ∃ (OA : Option Addr) (oc : Nat) (ps : List Rw) (o : List (List Nat)), e = .returned (.tuple #[.slice OA ps.length oc, .int .i64 E]) ∧ RdG w' w'.heap.size OA ps.length ps ∧ (∀ r ∈ ps, r.l ≤ 100000) ∧ ps.map Rw.xs = o.map (fun l => l.map Int.ofNat) ∧ (E = 0 → Full (gOf xs) o ∧ ∀ x, x < n → Tof o x) ∧ (E ≠ 0 → o = []) ∧ Below w.heap.size w w'
/-- A row of numbers, and a family of rows. -/
structure CW (L V base P : Nat) (lf : Nat → Nat) (wt : Nat → List Nat) (vs : List Value) (w : World) : Prop where
  hl : w.heap[L]? = some (.cells (rowN P lf) 3 (0, 0))
  hv : w.heap[V]? = some (.cells vs.toArray 31 (0, 0))
  fm : Fam w base 3 P vs wt
section
variable {L V base P : Nat} {lf : Nat → Nat} {wt : Nat → List Nat} {vs : List Value} {w w' : World}
theorem CW.below (h : CW L V base P lf wt vs w) (hb : Below w.heap.size w w') : CW L V base P lf wt vs w' :=
  ⟨blk_below h.hl hb, blk_below h.hv hb, h.fm.below hb⟩
theorem CW.ne (h : CW L V base P lf wt vs w) : L ≠ V := by
  rintro rfl
  have h1 := h.hl
  rw [h.hv] at h1
  injection h1 with h1
  injection h1 with _ h2
  exact absurd h2 (by decide)
theorem CW.at_ (h : CW L V base P lf wt vs w) {q : Nat} (hq : q < P) : ∃ WA wc, vs[q]? = some (.slice WA (wt q).length wc) ∧ w.cell? ⟨V, q, none⟩ = some (.slice WA (wt q).length wc) ∧ Ow w base 3 1 (.slice WA (wt q).length wc) ((wt q).map eN) := by
  obtain ⟨v, hv⟩ : ∃ v, vs[q]? = some v := ⟨_, List.getElem?_eq_getElem (by rw [h.fm.len]; exact hq)⟩
  have ho := h.fm.own q v hv
  obtain ⟨A, c, e, _⟩ := ho.form
  rw [List.length_map] at e
  subst e
  refine ⟨A, c, hv, ?_, ho⟩
  rw [blk_cell h.hv q, List.getElem?_toArray, hv]
theorem CW.left (h : CW L V base P lf wt vs w) {q : Nat} (hq : q < P) : w.cell? ⟨L, q, none⟩ = some (.int .i64 ((lf q : Nat) : Int)) := by
  rw [blk_cell h.hl q, rowN_at _ hq]
/-- A number is put in: the family stays. -/
theorem CW.put (h : CW L V base P lf wt vs w) (hLb : L < base) (q v : Nat) : CW L V base P (upd lf q v) wt vs (w.setCell ⟨L, q, none⟩ (.int .i64 (v : Int))) :=
  ⟨rowN_store h.hl v, heap_set_ne h.ne h.hv, h.fm.kept ((Gk.refl (fun b => b = L) w).set (.inl rfl) _) fun v hv b hb e => by
    obtain ⟨i, hi⟩ := List.mem_iff_getElem?.1 hv
    have := ((h.fm.own i v hi).block b hb).1; omega⟩
/-- A number is appended to one of the rows. -/
theorem CW.app (h : CW L V base P lf wt vs w) (hLb : L < base) (hVb : V < base) {q x : Nat} {v v' : Value} {o : Obj} {w5 : World} (hv : vs[q]? = some v) (hg : (w.alloc o).grownBy w5 v.ownBlock) (ho : Ow w5 base 3 1 v' ((wt q).map eN ++ [eN x]))
    (hb : v'.ownBlock = v.ownBlock ∨ v'.ownBlock = some (w.alloc o).heap.size) : CW L V base P lf (fun y => if y = q then wt q ++ [x] else wt y) (vs.set q v') (w5.setCell ⟨V, q, none⟩ v') := by
  have hgr : Gk (fun b => v.ownBlock = some b) w w5 := ((Gk.refl _ w).alloc _).grown hg (fun k e => .inl e)
  have hov := h.fm.own q v hv
  have hnL : v.ownBlock ≠ some L := fun e => by have := (hov.block L e).1; omega
  have hnV : v.ownBlock ≠ some V := fun e => by have := (hov.block V e).1; omega
  have h5 := hgr.blk h.hv hnV
  have hF : Fam w5 base 3 P (vs.set q v') (fun y => if y = q then wt q ++ [x] else wt y) := (h.fm.below ((Below.refl _ w).alloc (Nat.le_refl _) o)).app hv ho hg hb
  refine ⟨heap_set_ne (Ne.symm h.ne) (hgr.blk h.hl hnL), ?_, hF.kept ((Gk.refl (fun b => b = V) w5).set (.inl rfl) _) fun u hu b hb2 e => ?_⟩
  · rw [blk_set h5 q, List.setIfInBounds_toArray]
  · obtain ⟨i, hi⟩ := List.mem_iff_getElem?.1 hu
    have := ((hF.own i u hi).block b hb2).1; omega
end
theorem CW.later {L V base P : Nat} {lf lf2 : Nat → Nat} {wt : Nat → List Nat} {vs : List Value} {w w' : World} (h : CW L V base P lf wt vs w) (hg : Gk (fun b => b = L) w w') (hr : w'.heap[L]? = some (.cells (rowN P lf2) 3 (0, 0))) (hLb : L < base) : CW L V base P lf2 wt vs w' :=
  ⟨hr, hg.blk h.hv (Ne.symm h.ne), h.fm.kept hg fun v hv b hb e => by
    obtain ⟨i, hi⟩ := List.mem_iff_getElem?.1 hv
    have := ((h.fm.own i v hi).block b hb).1; omega⟩
theorem cntK_upd (ce : List (Nat × Nat)) (p q : Nat) : cntK (ce ++ [(p, q)]) [] = upd (cntK ce []) p (cntK ce [] p + 1) := by
  funext x
  rw [cntK_add]; rfl
theorem waitK_upd (ce : List (Nat × Nat)) (p q : Nat) : waitK (ce ++ [(p, q)]) = fun y => if y = q then waitK ce q ++ [p] else waitK ce y := by
  funext x
  rw [waitK_add]
/-- Both at once: the step counted. -/
theorem CW.count {L V base P : Nat} {ce : List (Nat × Nat)} {vs : List Value} {w wy w5 : World} (h : CW L V base P (cntK ce []) (waitK ce) vs w) (hLb : L < base) (hVb : V < base) {p q : Nat} {v v' : Value} {o : Obj} (hwy : w.drew.setCell ⟨L, p, none⟩ (.int .i64 ((cntK ce [] p + 1 : Nat) : Int)) = wy) (hv : vs[q]? = some v)
    (hg : (wy.alloc o).grownBy w5 v.ownBlock) (ho : Ow w5 base 3 1 v' ((waitK ce q).map eN ++ [eN p])) (hb : v'.ownBlock = v.ownBlock ∨ v'.ownBlock = some (wy.alloc o).heap.size) :
    CW L V base P (cntK (ce ++ [(p, q)]) []) (waitK (ce ++ [(p, q)])) (vs.set q v') (w5.setCell ⟨V, q, none⟩ v') := by
  rw [cntK_upd, waitK_upd]
  have h1 : CW L V base P (cntK ce []) (waitK ce) vs w.drew := h.below (Below.refl _ _).drew
  have h2 := h1.put hLb p (cntK ce [] p + 1)
  rw [hwy] at h2
  exact h2.app hLb hVb hv hg ho hb
/-- The parts that were taken, as they lie in memory. -/
def selK (ps : List Rw) (os : List Nat) : List Rw := os.map fun p => ps.getD p default
theorem selK_snoc (ps : List Rw) (os : List Nat) {p : Nat} {r : Rw} (h : ps[p]? = some r) : selK ps (os ++ [p]) = selK ps os ++ [r] := by
  unfold selK
  rw [List.map_append, List.map_singleton, List.getD_eq_getElem?_getD, h]; rfl
theorem selK_len (ps : List Rw) (os : List Nat) : (selK ps os).length = os.length := by unfold selK; simp
/-- Between two rounds: w3 is the world when the steps were counted. -/
structure MainK (w3 wr : World) (L : Nat) (g : Gr) (s : TS) (ps : List Rw) (os rd : List Nat) (lf : Nat → Nat) (RA OA : Option Addr) (rc oc : Nat) : Prop where
  ka : KA (ceK s.prt (allK g)) s.pts.length os rd lf
  pre : Pre g (outs s.pts os)
  rdy : Ow wr w3.heap.size 3 1 (.slice RA rd.length rc) (rd.map eN)
  out : Ow wr w3.heap.size 31 1 (.slice OA os.length oc) ((selK ps os).map Rw.enc)
  row : wr.heap[L]? = some (.cells (rowN ps.length lf) 3 (0, 0))
  gk : Gk (fun b => b = L) w3 wr
/-- Within a round. -/
structure InK (w3 wr : World) (L : Nat) (g : Gr) (s : TS) (ps : List Rw) (os : List Nat) (p : Nat) (ws rd : List Nat) (lf : Nat → Nat) (RA OA : Option Addr) (rc oc : Nat) : Prop where
  kb : KB (ceK s.prt (allK g)) s.pts.length os p ws rd lf
  rdy : Ow wr w3.heap.size 3 1 (.slice RA rd.length rc) (rd.map eN)
  out : Ow wr w3.heap.size 31 1 (.slice OA (os.length + 1) oc) ((selK ps (os ++ [p])).map Rw.enc)
  row : wr.heap[L]? = some (.cells (rowN ps.length lf) 3 (0, 0))
  gk : Gk (fun b => b = L) w3 wr
theorem part_rows {w w' : World} {base p bn bl bx bo bp : Nat} {A : Option Addr} {n c : Nat} {s : TS} {S : Value} {KA : Option Addr} {kc : Nat} {sk : List Nat} {ps : List Rw} {g : Gr} (hW : WK w base p bn bl bx bo bp A n c s S (.slice KA ps.length kc) sk ps) (ht : Tar g s.prt s.pts) (hb : Below w.heap.size w w') (hg : g.length ≤ 100000)
    {os : List Nat} (ho : ∀ q ∈ os, q < s.pts.length) : (∀ r ∈ selK ps os, r.Ok w' w'.heap.size ∧ r.l ≤ 100000) ∧ (selK ps os).map Rw.xs = (outs s.pts os).map fun l => l.map Int.ofNat := by
  have h1 : ∀ q ∈ os, ∃ r, ps[q]? = some r ∧ ps.getD q default = r ∧ r.xs = (s.pts.getD q []).map Int.ofNat ∧ r.Ok w' w'.heap.size ∧ r.l ≤ 100000 := by
    intro q hq
    obtain ⟨_, r, _, _, hr, _, hxs, _⟩ := hW.part ht (ho q hq)
    have ho' := ((hW.below hb).prs r (List.mem_of_getElem? hr)).1
    have hl : r.xs.length = r.l := by simpa using ho'.rd.2.1
    have hpl : s.pts[q]? = some (s.pts.getD q []) := by rw [List.getD_eq_getElem?_getD, List.getElem?_eq_getElem (ho q hq)]; rfl
    obtain ⟨_, h2, h3⟩ := ht.scc q _ hpl
    have h4 := nodup_le g.length (l := s.pts.getD q []) (h2.imp fun h => Nat.ne_of_lt h) fun x hx => (h3 x hx).1
    refine ⟨r, hr, by rw [List.getD_eq_getElem?_getD, hr]; rfl, hxs, ho'.rd.1, ?_⟩
    rw [← hl, hxs, List.length_map]; omega
  constructor
  · intro r hr
    obtain ⟨q, hq, rfl⟩ := List.mem_map.1 hr
    obtain ⟨r, _, e, _, h4, h5⟩ := h1 q hq
    rw [e]; exact ⟨h4, h5⟩
  · unfold selK outs
    rw [List.map_map, List.map_map]
    refine List.map_congr_left fun q hq => ?_
    obtain ⟨r, _, e, h3, _⟩ := h1 q hq
    show (ps.getD q default).xs = _
    rw [e]; exact h3
/-- The end: none is ready. -/
theorem MainK.done {w0 w w3 w' : World} {base p bn bl bx bo bp : Nat} {A : Option Addr} {n c : Nat} {s : TS} {S : Value} {KA : Option Addr} {kc : Nat} {sk : List Nat} {ps : List Rw} {g : Gr} {xs : List (List Int)} (hW : WK w base p bn bl bx bo bp A n c s S (.slice KA ps.length kc) sk ps) (ht : Tar g s.prt s.pts) (hgx : gOf xs = g) (hgn : g.length = n) (hn : n ≤ 100000)
    {L : Nat} {os : List Nat} {lf : Nat → Nat} {RA OA : Option Addr} {rc oc : Nat} (h : MainK w3 w' L g s ps os [] lf RA OA rc oc) (hb3 : Below w.heap.size w w3) (hL : w.heap.size ≤ L) (hb0 : Below w0.heap.size w0 w) {e : Ending} (he : e = .returned (.tuple #[.slice OA os.length oc, .int .i64 0])) : PsP xs n 0 w0 e w' := by
  have hb : Below w.heap.size w w' := hb3.trans (h.gk.below hb3.size (fun k e => by omega))
  obtain ⟨h1, h2⟩ := part_rows hW ht hb (by omega) h.ka.lt
  have hF := h.ka.full ht h.pre
  refine ⟨OA, oc, selK ps os, outs s.pts os, by rw [he, selK_len], ⟨?_, fun r hr => (h1 r hr).1⟩, fun r hr => (h1 r hr).2, h2, fun _ => ⟨by rw [hgx]; exact hF, fun x hx => ht.all hF x (by omega)⟩, fun h0 => absurd rfl h0, hb0.trans (hb.mono hb0.size)⟩
  have := h.out.rd.1
  rw [selK_len]
  exact this
/-- One is told. -/
theorem InK.tell {w3 wr : World} {L : Nat} {g : Gr} {s : TS} {ps : List Rw} {os : List Nat} {p q : Nat} {ws rd : List Nat} {lf : Nat → Nat} {RA OA : Option Addr} {rc oc : Nat} (_ht : Tar g s.prt s.pts) (h : InK w3 wr L g s ps os p (q :: ws) rd lf RA OA rc oc) (hq : q < s.pts.length) (hqo : q ∉ os ++ [p]) (hL : L < w3.heap.size) :
    0 < lf q ∧ Ow (wr.setCell ⟨L, q, none⟩ (.int .i64 ((lf q - 1 : Nat) : Int))) w3.heap.size 3 1 (.slice RA rd.length rc) (rd.map eN) ∧ Ow (wr.setCell ⟨L, q, none⟩ (.int .i64 ((lf q - 1 : Nat) : Int))) w3.heap.size 31 1 (.slice OA (os.length + 1) oc) ((selK ps (os ++ [p])).map Rw.enc) ∧
    (wr.setCell ⟨L, q, none⟩ (.int .i64 ((lf q - 1 : Nat) : Int))).heap[L]? = some (.cells (rowN ps.length (upd lf q (lf q - 1))) 3 (0, 0)) ∧ Gk (fun b => b = L) w3 (wr.setCell ⟨L, q, none⟩ (.int .i64 ((lf q - 1 : Nat) : Int))) ∧
    KB (ceK s.prt (allK g)) s.pts.length os p ws (if lf q - 1 = 0 then rd ++ [q] else rd) (upd lf q (lf q - 1)) := by
  obtain ⟨h0, h1⟩ := h.kb.step hq hqo
  exact ⟨h0, h.rdy.setCell (a := ⟨L, q, none⟩) hL _, h.out.setCell (a := ⟨L, q, none⟩) hL _, rowN_store h.row _, h.gk.set (.inl rfl) _, h1⟩
theorem mem_waitK {ce : List (Nat × Nat)} {p q : Nat} : q ∈ waitK ce p ↔ (q, p) ∈ ce := by
  unfold waitK
  simp only [List.mem_map, List.mem_filter, Prod.exists, beq_iff_eq]
  constructor
  · rintro ⟨a, b, ⟨h1, rfl⟩, rfl⟩; exact h1
  · intro h; exact ⟨q, p, ⟨h, rfl⟩, rfl⟩
/-- Who waits for the part that is taken is not out. -/
theorem MainK.waits {w3 wr : World} {L : Nat} {g : Gr} {s : TS} {ps : List Rw} {os rd : List Nat} {lf : Nat → Nat} {RA OA : Option Addr} {rc oc : Nat} (ht : Tar g s.prt s.pts) (h : MainK w3 wr L g s ps os rd lf RA OA rc oc) {p : Nat} (hp : p ∈ rd) :
    p < s.pts.length ∧ ∀ q ∈ waitK (ceK s.prt (allK g)) p, q < s.pts.length ∧ q ∉ os ++ [p] := by
  obtain ⟨h1, h2, h3⟩ := (h.ka.rd p).1 hp
  refine ⟨h1, fun q hq => ?_⟩
  have h4 := mem_waitK.1 hq
  refine ⟨(ht.ce_lt h4).1, fun h5 => ?_⟩
  rcases List.mem_append.1 h5 with h5 | h5
  · exact h2 (h.ka.cl _ h4 h5)
  · exact (mem_ceK.1 h4).1 (List.mem_singleton.1 h5)
/-- The round's end. -/
theorem InK.end_ {w3 wr w4 : World} {L : Nat} {g : Gr} {s : TS} {ps : List Rw} {os rd rd2 : List Nat} {p : Nat} {lf lf2 : Nat → Nat} {RA OA RA2 OA2 : Option Addr} {rc oc rc2 oc2 : Nat} (ht : Tar g s.prt s.pts) (h : MainK w3 wr L g s ps os rd lf RA OA rc oc) (hp : p ∈ rd) (hmin : ∀ q ∈ rd, keyP s p ≤ keyP s q)
    (h2 : InK w3 w4 L g s ps os p [] rd2 lf2 RA2 OA2 rc2 oc2) : MainK w3 w4 L g s ps (os ++ [p]) rd2 lf2 RA2 OA2 rc2 oc2 := by
  obtain ⟨h1, h3, h4⟩ := (h.ka.rd p).1 hp
  refine ⟨h2.kb.done h.ka.lt h.ka.nd h1 h3 h.ka.cl (fun e he h5 => ?_), h.ka.pick ht h.pre hp fun q hq => ?_, h2.rdy, ?_, h2.row, h2.gk⟩
  · have h6 := h.ka.lf p
    rw [h4] at h6
    exact cntK_zero h6.symm he h5
  · have := hmin q hq
    unfold keyP at this
    omega
  · rw [List.length_append]
    exact h2.out
end Go.Proofs.Ytebpghpeeedgcaa
