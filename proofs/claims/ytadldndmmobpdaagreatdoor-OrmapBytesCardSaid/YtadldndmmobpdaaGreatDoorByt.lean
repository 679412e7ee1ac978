/- A buffer of bytes that the call itself has made of a text: what append of a text does to it, and the text that it comes to. -/
import Derived.Test.YtadldndmmobpdaaGreatDoorOct
import Derived.Test.YtadldndmmobpdaaGreatDoorGd
import Derived.Lib.FrozenHead
import Derived.Laws.IdiomStrings
namespace Go.Proofs.YtadldndmmobpdaaGreatDoor
open Go.RowKit Go.Lib

/-- The slice value holds these bytes, from block 'base' on; no cell of its row is frozen. -/
def Byb (w : World) (base : Nat) (e : TypeId) (v : Value) (l : List UInt8) : Prop :=
  ∃ g cap cur fz, v = .slice (some ⟨g, 0, none⟩) l.length cap ∧ base ≤ g ∧ w.heap[g]? = some (.cells cur e fz) ∧ (fz.2 = 0 ∨ cap ≤ fz.1) ∧ l.length ≤ cap ∧ cap ≤ maxLen ∧ cur.size = cap ∧ cur.toList.take l.length = byC l
section
variable {w w' : World} {base : Nat} {e : TypeId} {v : Value} {l : List UInt8}
theorem Byb.lt (h : Byb w base e v l) : ∀ k, v.ownBlock = some k → base ≤ k ∧ k < w.heap.size := by
  intro k hk
  obtain ⟨g, cap, cur, fz, rfl, hb, hg, _⟩ := h
  simp [Value.ownBlock] at hk
  subst hk
  exact ⟨hb, (Array.getElem?_eq_some_iff.1 hg).1⟩
theorem Byb.below (h : Byb w base e v l) (hb : Below w.heap.size w w') : Byb w' base e v l := by
  obtain ⟨g, cap, cur, fz, hv, hbg, hg, r⟩ := h
  exact ⟨g, cap, cur, fz, hv, hbg, (hb.block g (Array.getElem?_eq_some_iff.1 hg).1).trans hg, r⟩
theorem Byb.form (h : Byb w base e v l) : ∃ g cap, v = .slice (some ⟨g, 0, none⟩) l.length cap ∧ base ≤ g ∧ g < w.heap.size := by
  obtain ⟨g, cap, cur, fz, rfl, hb, hg, _⟩ := h
  exact ⟨g, cap, rfl, hb, (Array.getElem?_eq_some_iff.1 hg).1⟩
/-- It reads as its bytes. -/
theorem Byb.rd {A : Option Addr} {n c : Nat} (h : Byb w base e (.slice A n c) l) : Rd w w.heap.size 1 A n (byE l) ∧ l.length = n := by
  obtain ⟨g, cap, cur, fz, hv, hb, hg, _, hlc, _, hsz, htk⟩ := h
  injection hv with h1 h2 h3
  subst h1; subst h2
  refine ⟨⟨by simp, fun _ => ⟨g, 0, rfl, (Array.getElem?_eq_some_iff.1 hg).1, fun k x hx j u hu => ?_⟩⟩, rfl⟩
  simp only [byE, List.getElem?_map] at hx
  obtain ⟨b, hb2, rfl⟩ := Option.map_eq_some_iff.1 hx
  have hj : j = 0 := by have := (List.getElem?_eq_some_iff.1 hu).1; simp at this; omega
  subst hj
  simp only [List.getElem?_cons_zero, Option.some.injEq] at hu
  subst hu
  have hkl := (List.getElem?_eq_some_iff.1 hb2).1
  have h4 : (cur.toList.take l.length)[k]? = some (.int .u8 (b.toNat : Int)) := by rw [htk]; simp [hb2]
  rw [List.getElem?_take_of_lt hkl] at h4
  rw [cell_of_row w g _ cur e fz hg]
  simpa using h4
end
theorem heap_setCell_any {w : World} {g : Nat} {cs : Array Value} {t : TypeId} {fz : Nat × Nat} (h : w.heap[g]? = some (.cells cs t fz)) (i : Nat) (u : Value) :
    (w.setCell ⟨g, i, none⟩ u).heap[g]? = some (.cells (cs.setIfInBounds i u) t fz) := by
  simp [World.setCell, Array.getElem?_modify, h]
theorem heap_setCells_any {g : Nat} {t : TypeId} {fz : Nat × Nat} : ∀ (vs : List Value) {w : World} {cs : Array Value} (i : Nat), w.heap[g]? = some (.cells cs t fz) → ∃ cs', (w.setCells g i vs).heap[g]? = some (.cells cs' t fz) ∧ cs'.toList = setL cs.toList i vs ∧ cs'.size = cs.size
  | [], w, cs, i, h => ⟨cs, h, rfl, rfl⟩
  | v :: r, w, cs, i, h => by
    obtain ⟨cs', h1, h2, h3⟩ := heap_setCells_any r (i + 1) (heap_setCell_any h i v)
    exact ⟨cs', h1, by rw [h2, setL, Array.toList_setIfInBounds], by rw [h3]; simp⟩
section
variable {P : Program} (w : World)
/-- '[]byte(s)'. -/
theorem conv_byb {src dst e : TypeId} (l : List UInt8) (hl : l.length ≤ 1099511627776) (hs : P.underlying src = some .string) (hd : P.underlying dst = some (.slice e)) (he : P.underlying e = some (.int .u8)) {base : Nat} (hb : base ≤ w.heap.size) :
    ∃ v w', (convert src dst (.string (bs l))).run P w = .ok v w' ∧ Byb w' base e v l ∧ Below w.heap.size w w' := by
  have hge := grownCap_ge w (bs l).size 0 e
  have hle : grownCap w (bs l).size 0 e ≤ maxLen := grownCap_le_maxLen w _ _ _ (by rw [bs_size]; unfold maxLen; omega)
  have hr := run_bytes_of_string w src dst e (bs l) hs hd he
  generalize grownCap w (bs l).size 0 e = cap at hge hle hr
  rw [bs_size] at hge
  have hsz : (bytesRow (bs l) cap).size = cap := by
    unfold bytesRow
    rw [Array.size_append, Array.size_map, Array.size_replicate, bs_size]
    have : (bs l).data.size = l.length := bs_size l
    omega
  refine ⟨_, _, hr, ⟨w.heap.size, cap, _, _, by rw [bs_size], hb, heap_alloc_new w.drew _, .inr (by rw [hsz]; exact Nat.le_refl _), hge, hle, hsz, ?_⟩, ((Below.refl _ w).drew).alloc (Nat.le_refl _) _⟩
  unfold bytesRow
  rw [Array.toList_append, Array.toList_map, List.take_left']
  · rfl
  · simp [bs]
theorem run_append_byb {base : Nat} {t u ty e : TypeId} {i : TypeInfo} (ht : P.underlying t = some (.slice e)) (hu : P.underlying u = some .string) (hi : P.info? e = some i) (hz : i.zero = some (.int .u8 0))
    (hsize : i.size = 1) (hby : i.bytes = 1) {v : Value} {l : List UInt8} (hown : Byb w base e v l) (s : List UInt8) (hn : l.length + s.length ≤ 1099511627776) (hbase : base ≤ w.heap.size) :
    ∃ v' w', (Builtin.append_ #[t, u] ty #[v, .string (bs s)]).run P w = .ok v' w' ∧ Byb w' base e v' (l ++ s) ∧ w.grownBy w' v.ownBlock := by
  obtain ⟨g, cap, cur, fz, rfl, hbg, hg, hfz, hnc, hcm, hcs, htake⟩ := hown
  have hsz : (bs s).size = s.length := bs_size s
  have hcl : strCells (bs s) = byC s := rfl
  have hlen : (byC s).length = s.length := by simp
  by_cases hroom : l.length + s.length ≤ cap
  · have hf := run_firstCells_string (P := P) w 1 (bs s)
    have hst := run_storeCells_cells (P := P) g l.length (byC s) 0 w (fun j hj => by rw [cell_of_row w g _ cur e fz hg]; simp; omega)
      (fun j hj => by simp only [World.frozen?, hg]; rcases hfz with h | h <;> simp <;> omega) (fun x hx => by simp only [List.mem_map] at hx; obtain ⟨b, _, rfl⟩ := hx; rfl)
    rw [Nat.add_zero] at hst
    rw [hsz, hcl] at hf
    obtain ⟨cs', h1, h2, h3⟩ := heap_setCells_any (byC s) l.length hg
    refine ⟨.slice (some ⟨g, 0, none⟩) (l.length + s.length) cap, w.setCells g l.length (byC s), ?_, ⟨g, cap, cs', fz, by rw [List.length_append], hbg, h1, hfz, by rw [List.length_append]; exact hroom, hcm, by rw [h3]; exact hcs, ?_⟩, grown_setCells _ _ (World.grownBy.refl w _)⟩
    · have hr2 : l.length + (bs s).size ≤ cap := by rw [hsz]; exact hroom
      simp [Builtin.append_, run_underlying ht, run_underlying hu, sizeOf, typeInfo, hi, hsize, Builtin.lenOf, hroom, hr2, hf, Addr.add_lit, hst, hsz, hcl]
    · have e1 : byC l ++ byC s = byC (l ++ s) := by simp
      rw [h2, setL_mid _ _ _ (by simp; omega), htake, e1, show (l ++ s).length = (byC (l ++ s)).length by simp]
      exact List.take_left
  · have holds : ∀ j u, (byC l)[j]? = some u → w.cell? ((⟨g, 0, none⟩ : Addr).add j) = some u := by
      intro j u hu2
      have hadd : (⟨g, 0, none⟩ : Addr).add j = ⟨g, j, none⟩ := by unfold Addr.add; split <;> simp_all
      have hjl : j < l.length := by have := (List.getElem?_eq_some_iff.1 hu2).1; simpa using this
      rw [hadd, cell_of_row w g j cur e fz hg]
      rw [← htake, List.getElem?_take_of_lt hjl] at hu2
      simpa using hu2
    have hr := run_append_grow_string (P := P) w t u ty e i (.int .u8 0) ht hu hi hz ⟨g, 0, none⟩ l.length cap (byC l) (by rw [hsize]; simp) holds (bs s) (by rw [hsz]; omega) (by rw [hsz]; omega) (by rw [hby, hsz]; exact growslice_fits (by omega) (by omega))
    have hge := grownCap_ge w (l.length + (bs s).size) cap e
    have hcm2 : grownCap w (l.length + (bs s).size) cap e ≤ maxLen := grownCap_le_maxLen w _ cap e (by rw [hsz]; unfold maxLen; omega)
    rw [hsz] at hge hcm2
    refine ⟨_, _, hr, ⟨w.heap.size, _, _, (0, 0), by rw [List.length_append, hsz], hbase, heap_alloc_new w.drew _, .inl rfl, by rw [List.length_append, ← hsz]; rw [hsz]; exact hge, hcm2, ?_, ?_⟩, ⟨rfl, rfl, rfl, by simp, fun k hk _ => Below.heap_alloc w.drew _ k hk⟩⟩
    · have hz1 : (Value.int IntKind.u8 0).cells.size = 1 := rfl
      simp only [Array.size_append, List.size_toArray, size_zeroCells, hz1, strCells_length, hsz]
      simp
      omega
    · rw [hcl]
      simp only [Array.toList_append, List.append_assoc]
      rw [← List.append_assoc]
      have e1 : byC l ++ byC s = byC (l ++ s) := by simp
      have e2 : (l ++ s).length = (byC (l ++ s)).length := by simp
      rw [e1, e2]
      exact List.take_left
end
section
variable {P : Program} {w : World}
theorem wp_append_byb {o : Oper} {a : Act} {K : Act → World → Prop} {Q : Exit → Act → World → Prop} (sl x : Operand) (t u : TypeId)
    (ho : o.op = .call { callee := .builtin .append, args := #[sl, x], argTypes := #[t, u] }) {base : Nat} {e : TypeId} {i : TypeInfo} (ht : P.underlying t = some (.slice e)) (hu : P.underlying u = some .string) (hi : P.info? e = some i) (hz : i.zero = some (.int .u8 0))
    (hsize : i.size = 1) (hby : i.bytes = 1) {v : Value} {l : List UInt8} (hs : a.eval sl = v) (hown : Byb w base e v l) (s : List UInt8) (hx : a.eval x = .string (bs s)) (hn : l.length + s.length ≤ 1099511627776) (hbase : base ≤ w.heap.size)
    (h : ∀ g' n' c' w', Byb w' base e (.slice (some ⟨g', 0, none⟩) n' c') (l ++ s) → w.grownBy w' v.ownBlock → K (a.put o.dst (.slice (some ⟨g', 0, none⟩) n' c')) w') : o.wp P a w K Q := by
  obtain ⟨v', w', hr, h2, h3⟩ := run_append_byb (P := P) (ty := o.type) w ht hu hi hz hsize hby hown s hn hbase
  obtain ⟨g', c', hv, _⟩ := h2.form
  subst hv
  unfold Oper.wp execOp
  simp only [ho, resolve, invoke, builtin, Sem.run_bind, Sem.run_pure, Result.andThen_ok, List.map_toArray, List.map_cons, List.map_nil, hs, hx, hr]
  exact h _ _ _ w' h2 h3
theorem wpList_append_byb {ops : Array Oper} {rest : List Oper} {o : Oper} {a : Act} {Q : Exit → Act → World → Prop} (hgd : o.guard = none) (sl x : Operand) (t u : TypeId)
    (ho : o.op = .call { callee := .builtin .append, args := #[sl, x], argTypes := #[t, u] }) {base : Nat} {e : TypeId} {i : TypeInfo} (ht : P.underlying t = some (.slice e)) (hu : P.underlying u = some .string) (hi : P.info? e = some i) (hz : i.zero = some (.int .u8 0))
    (hsize : i.size = 1) (hby : i.bytes = 1) {v : Value} {l : List UInt8} (hs : a.eval sl = v) (hown : Byb w base e v l) (s : List UInt8) (hx : a.eval x = .string (bs s)) (hn : l.length + s.length ≤ 1099511627776) (hbase : base ≤ w.heap.size)
    (h : ∀ g' n' c' w', Byb w' base e (.slice (some ⟨g', 0, none⟩) n' c') (l ++ s) → w.grownBy w' v.ownBlock → wpList P ops Q rest (a.put o.dst (.slice (some ⟨g', 0, none⟩) n' c')) w') : wpList P ops Q (o :: rest) a w :=
  wpList_plain hgd fun _ hK => wp_append_byb sl x t u ho ht hu hi hz hsize hby hs hown s hx hn hbase fun g' n' c' w' h1 h2 => hK _ _ (h g' n' c' w' h1 h2)
theorem step_append_byb {ops : Array Oper} {o : Oper} {a : Act} {K : Act → World → Prop} {Q : Exit → Act → World → Prop} {R : Prop} (hgd : o.guard = none) (sl x : Operand) (t u : TypeId)
    (ho : o.op = .call { callee := .builtin .append, args := #[sl, x], argTypes := #[t, u] }) {base : Nat} {e : TypeId} {i : TypeInfo} (ht : P.underlying t = some (.slice e)) (hu : P.underlying u = some .string) (hi : P.info? e = some i) (hz : i.zero = some (.int .u8 0))
    (hsize : i.size = 1) (hby : i.bytes = 1) {v : Value} {l : List UInt8} (hs : a.eval sl = v) (hown : Byb w base e v l) (s : List UInt8) (hx : a.eval x = .string (bs s)) (hn : l.length + s.length ≤ 1099511627776) (hbase : base ≤ w.heap.size)
    (h : ∀ g' n' c' w', Byb w' base e (.slice (some ⟨g', 0, none⟩) n' c') (l ++ s) → w.grownBy w' v.ownBlock → K (a.put o.dst (.slice (some ⟨g', 0, none⟩) n' c')) w') :
    if Region.wanted o (yielded ops a.tmps) = true then Oper.wp P o a w K Q else R := by
  have hw : Region.wanted o (yielded ops a.tmps) = true := by simp [Region.wanted, hgd]
  rw [if_pos hw]
  exact wp_append_byb sl x t u ho ht hu hi hz hsize hby hs hown s hx hn hbase h
end
end Go.Proofs.YtadldndmmobpdaaGreatDoor
