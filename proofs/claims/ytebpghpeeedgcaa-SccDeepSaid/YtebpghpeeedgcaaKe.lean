/- Rows of numbers made at once; frames that name the blocks that may change; families of rows of one's own (general lemmas). -/
import Derived.Test.YtebpghpeeedgcaaGd
import Derived.Test.YtebpghpeeedgcaaGb
import Derived.Test.YtebpghpeeedgcaaKa
namespace Go.Proofs.Ytebpghpeeedgcaa
open Go.RowKit

def eN (x : Nat) : List Value := [.int .i64 (x : Int)]
def eI (x : Int) : List Value := [.int .i64 x]
def eB (b : Bool) : List Value := [.bool b]
theorem eN_len {xs : List Nat} : ∀ x ∈ xs.map eN, x.length = 1 := by intro x hx; obtain ⟨t, _, rfl⟩ := List.mem_map.1 hx; rfl
theorem eI_len {xs : List Int} : ∀ x ∈ xs.map eI, x.length = 1 := by intro x hx; obtain ⟨t, _, rfl⟩ := List.mem_map.1 hx; rfl
theorem eB_len {xs : List Bool} : ∀ x ∈ xs.map eB, x.length = 1 := by intro x hx; obtain ⟨t, _, rfl⟩ := List.mem_map.1 hx; rfl
theorem eN_one {xs : List Nat} : ∀ x ∈ xs.map eN, ∀ u ∈ x, u.oneCell' = true := by
  intro x hx u hu; obtain ⟨t, _, rfl⟩ := List.mem_map.1 hx
  obtain rfl := List.mem_singleton.1 hu; rfl
theorem eI_one {xs : List Int} : ∀ x ∈ xs.map eI, ∀ u ∈ x, u.oneCell' = true := by
  intro x hx u hu; obtain ⟨t, _, rfl⟩ := List.mem_map.1 hx
  obtain rfl := List.mem_singleton.1 hu; rfl
theorem eB_one {xs : List Bool} : ∀ x ∈ xs.map eB, ∀ u ∈ x, u.oneCell' = true := by
  intro x hx u hu; obtain ⟨t, _, rfl⟩ := List.mem_map.1 hx
  obtain rfl := List.mem_singleton.1 hu; rfl
/-- The cells of a row made at once. -/
def rowN (n : Nat) (f : Nat → Nat) : Array Value := ((List.range n).map fun x => Value.int .i64 (f x : Int)).toArray
def rowB (n : Nat) (f : Nat → Bool) : Array Value := ((List.range n).map fun x => Value.bool (f x)).toArray
theorem rowN_size (n : Nat) (f : Nat → Nat) : (rowN n f).size = n := by simp [rowN]
theorem rowB_size (n : Nat) (f : Nat → Bool) : (rowB n f).size = n := by simp [rowB]
theorem rowN_at {n : Nat} (f : Nat → Nat) {i : Nat} (h : i < n) : (rowN n f)[i]? = some (.int .i64 (f i : Int)) := by simp [rowN, h]
theorem rowB_at {n : Nat} (f : Nat → Bool) {i : Nat} (h : i < n) : (rowB n f)[i]? = some (.bool (f i)) := by simp [rowB, h]
theorem map_range_set {α : Type} (n : Nat) (f : Nat → α) (i : Nat) (v : α) : ((List.range n).map f).set i v = (List.range n).map fun x => if x = i then v else f x := by
  refine List.ext_getElem? fun k => ?_
  rw [List.getElem?_set, List.getElem?_map, List.getElem?_map]
  by_cases hk : i = k
  · subst hk
    by_cases hn : i < n
    · simp [hn]
    · simp [hn]
  · have : ¬ k = i := Ne.symm hk
    by_cases hn : k < n
    · simp [hn, hk, this]
    · simp [hn, hk]
theorem rowN_set (n : Nat) (f : Nat → Nat) (i v : Nat) : (rowN n f).setIfInBounds i (.int .i64 (v : Int)) = rowN n (upd f i v) := by
  unfold rowN
  rw [List.setIfInBounds_toArray, map_range_set]
  congr 2
  funext x
  unfold upd
  split <;> rfl
theorem rowB_set (n : Nat) (f : Nat → Bool) (i : Nat) (v : Bool) : (rowB n f).setIfInBounds i (.bool v) = rowB n (upd f i v) := by
  unfold rowB
  rw [List.setIfInBounds_toArray, map_range_set]
  congr 2
  funext x
  unfold upd
  split <;> rfl
theorem rowN_zero (n : Nat) : Builtin.zeroCells #[.int .i64 0] n = rowN n fun _ => 0 := by
  apply Array.toList_inj.1
  rw [zeroCells_list _ _ (by decide)]
  unfold rowN
  induction n with
  | zero => rfl
  | succ n ih => rw [List.replicate_succ', List.flatten_append, ih, List.range_succ, List.map_append]; rfl
theorem rowB_zero (n : Nat) : Builtin.zeroCells #[.bool false] n = rowB n fun _ => false := by
  apply Array.toList_inj.1
  rw [zeroCells_list _ _ (by decide)]
  unfold rowB
  induction n with
  | zero => rfl
  | succ n ih => rw [List.replicate_succ', List.flatten_append, ih, List.range_succ, List.map_append]; rfl
theorem rowN_store {w : World} {b n i : Nat} {f : Nat → Nat} {t : TypeId} (h : w.heap[b]? = some (.cells (rowN n f) t (0, 0))) (v : Nat) : (w.setCell ⟨b, i, none⟩ (.int .i64 (v : Int))).heap[b]? = some (.cells (rowN n (upd f i v)) t (0, 0)) := by
  rw [blk_set h i, rowN_set]
theorem rowB_store {w : World} {b n i : Nat} {f : Nat → Bool} {t : TypeId} (h : w.heap[b]? = some (.cells (rowB n f) t (0, 0))) (v : Bool) : (w.setCell ⟨b, i, none⟩ (.bool v)).heap[b]? = some (.cells (rowB n (upd f i v)) t (0, 0)) := by
  rw [blk_set h i, rowB_set]
/-- Nothing changes but the blocks named, and what is new. -/
structure Gk (S : Nat → Prop) (w w' : World) : Prop where
  os : w'.os = w.os
  tape : w'.tape = w.tape
  output : w'.output = w.output
  size : w.heap.size ≤ w'.heap.size
  block : ∀ k, k < w.heap.size → ¬ S k → w'.heap[k]? = w.heap[k]?
section
variable {S S' : Nat → Prop} {w w' w2 : World}
theorem Gk.refl (S : Nat → Prop) (w : World) : Gk S w w := ⟨rfl, rfl, rfl, Nat.le_refl _, fun _ _ _ => rfl⟩
theorem Gk.trans (h : Gk S w w') (h2 : Gk S' w' w2) (hs : ∀ k, k < w.heap.size → S' k → S k) : Gk S w w2 :=
  ⟨h2.os.trans h.os, h2.tape.trans h.tape, h2.output.trans h.output, Nat.le_trans h.size h2.size, fun k hk hn => (h2.block k (Nat.lt_of_lt_of_le hk h.size) fun e => hn (hs k hk e)).trans (h.block k hk hn)⟩
theorem Gk.mono (h : Gk S w w') (hs : ∀ k, k < w.heap.size → S k → S' k) : Gk S' w w' := ⟨h.os, h.tape, h.output, h.size, fun k hk hn => h.block k hk fun e => hn (hs k hk e)⟩
theorem Gk.set (h : Gk S w w') {p : Addr} (hp : S p.block ∨ w.heap.size ≤ p.block) (u : Value) : Gk S w (w'.setCell p u) :=
  ⟨h.os, h.tape, h.output, by have := h.size; simpa using this, fun k hk hn => (heap_set_ne (fun e => by exact hp.elim (fun hp => hn (e ▸ hp)) (fun hp => by omega)) rfl).trans (h.block k hk hn)⟩
theorem Gk.alloc (h : Gk S w w') (x : Obj) : Gk S w (w'.alloc x) :=
  ⟨h.os, h.tape, h.output, Nat.le_trans h.size (by simp), fun k hk hn => (Below.heap_alloc w' x k (Nat.lt_of_lt_of_le hk h.size)).trans (h.block k hk hn)⟩
theorem Gk.drew (h : Gk S w w') : Gk S w w'.drew := ⟨h.os, h.tape, h.output, h.size, h.block⟩
theorem Gk.drewN (h : Gk S w w') (n : Nat) : Gk S w (w'.drewN n) := ⟨h.os, h.tape, h.output, h.size, h.block⟩
theorem Gk.grown (h : Gk S w w') {row : Option Nat} (hg : w'.grownBy w2 row) (hr : ∀ k, row = some k → S k ∨ w.heap.size ≤ k) : Gk S w w2 :=
  ⟨hg.os.trans h.os, hg.tape.trans h.tape, hg.output.trans h.output, Nat.le_trans h.size hg.size, fun k hk hn => (hg.block k (Nat.lt_of_lt_of_le hk h.size) fun e => (hr k e.symm).elim hn (fun h1 => by omega)).trans (h.block k hk hn)⟩
theorem Gk.then (h : Gk S w w') {B : Nat} (hb : Below B w' w2) (hB : w'.heap.size ≤ B) : Gk S w w2 :=
  ⟨hb.os.trans h.os, hb.tape.trans h.tape, hb.output.trans h.output, Nat.le_trans h.size hb.size, fun k hk hn => (hb.block k (Nat.lt_of_lt_of_le (Nat.lt_of_lt_of_le hk h.size) hB)).trans (h.block k hk hn)⟩
theorem Gk.below (h : Gk S w w') {B : Nat} (hB : B ≤ w.heap.size) (hs : ∀ k, S k → B ≤ k) : Below B w w' :=
  ⟨h.os, h.tape, h.output, h.size, fun k hk => h.block k (by omega) fun e => by have := hs k e; omega⟩
theorem Gk.blk (h : Gk S w w') {b : Nat} {x : Obj} (hb : w.heap[b]? = some x) (hn : ¬ S b) : w'.heap[b]? = some x := (h.block b (blk_lt hb) hn).trans hb
theorem Gk.rd (h : Gk S w w') {B sz n : Nat} {A : Option Addr} {xs : List (List Value)} (hr : Rd w B sz A n xs) (hB : B ≤ w.heap.size) (hn : ∀ b o, A = some ⟨b, o, none⟩ → ¬ S b) : Rd w' B sz A n xs :=
  ⟨hr.1, fun h0 => by
    obtain ⟨b, o, e, hb, hc⟩ := hr.2 h0
    exact ⟨b, o, e, hb, fun k x hx j u hu => (World.cell?_of_block (h.block b (by omega) (hn b o e))).trans (hc k x hx j u hu)⟩⟩
theorem Gk.ow (h : Gk S w w') {base sz : Nat} {e : TypeId} {v : Value} {xs : List (List Value)} (ho : Ow w base e sz v xs) (hn : ∀ k, v.ownBlock = some k → ¬ S k) : Ow w' base e sz v xs := by
  obtain ⟨h1, h2, h3⟩ := ho
  refine ⟨h1, h2, ?_⟩
  rcases h3 with h3 | ⟨g, cap, cur, rfl, hb, hg, h4⟩
  · exact .inl h3
  · exact .inr ⟨g, cap, cur, rfl, hb, h.blk hg (hn g rfl), h4⟩
end
theorem Ow.ne_own {w : World} {b1 b2 s1 s2 k : Nat} {e1 e2 : TypeId} {v1 v2 : Value} {xs ys : List (List Value)} (h : Ow w b1 e1 s1 v1 xs) (h2 : Ow w b2 e2 s2 v2 ys) (hne : e1 ≠ e2) (hk : v1.ownBlock = some k) : v2.ownBlock ≠ some k := by
  intro hk2
  rcases h.2.2 with ⟨rfl, _⟩ | ⟨g, cap, cur, rfl, _, hg, _⟩
  · cases hk
  rcases h2.2.2 with ⟨rfl, _⟩ | ⟨g', cap', cur', rfl, _, hg', _⟩
  · cases hk2
  injection hk with hk
  injection hk2 with hk2
  dsimp only at hk hk2
  subst hk
  subst hk2
  rw [hg] at hg'
  injection hg' with hg'
  injection hg' with _ h3
  exact hne h3
theorem Gk.of_below {w w' : World} (h : Below w.heap.size w w') (S : Nat → Prop) : Gk S w w' := ⟨h.os, h.tape, h.output, h.size, fun k hk _ => h.block k hk⟩
theorem Gk.of_grown {w w' : World} {row : Option Nat} (h : w.grownBy w' row) : Gk (fun k => row = some k) w w' := ⟨h.os, h.tape, h.output, h.size, fun k hk hn => h.block k hk fun e => hn e.symm⟩
/-- A list of lists: each list as its slice says. -/
structure Rw where
  A : Option Addr
  l : Nat
  c : Nat
  xs : List Int
instance : Inhabited Rw := ⟨⟨none, 0, 0, []⟩⟩
def Rw.enc (r : Rw) : List Value := [.slice r.A r.l r.c]
def Rw.Ok (w : World) (B : Nat) (r : Rw) : Prop := Rd w B 1 r.A r.l (r.xs.map eI)
theorem Rw.len_ {rs : List Rw} : ∀ x ∈ rs.map Rw.enc, x.length = 1 := by intro x hx; obtain ⟨t, _, rfl⟩ := List.mem_map.1 hx; rfl
theorem Rw.one_ {rs : List Rw} : ∀ x ∈ rs.map Rw.enc, ∀ u ∈ x, u.oneCell' = true := by
  intro x hx u hu; obtain ⟨t, _, rfl⟩ := List.mem_map.1 hx
  obtain rfl := List.mem_singleton.1 hu; rfl
theorem Rw.Ok.below {w w' : World} {B : Nat} {r : Rw} (h : r.Ok w B) (hb : Below B w w') : r.Ok w' B := Rd.below h hb
theorem Rw.Ok.more {w : World} {B B' : Nat} {r : Rw} (h : r.Ok w B) (hb : B ≤ B') : r.Ok w B' := Rd.more h hb
theorem Rw.Ok.len {w : World} {B : Nat} {r : Rw} (h : r.Ok w B) : r.xs.length = r.l := by simpa using h.1
def RdG (w : World) (B : Nat) (A : Option Addr) (n : Nat) (rs : List Rw) : Prop := Rd w B 1 A n (rs.map Rw.enc) ∧ ∀ r ∈ rs, r.Ok w B
theorem RdG.below {w w' : World} {B n : Nat} {A : Option Addr} {rs : List Rw} (h : RdG w B A n rs) (hb : Below B w w') : RdG w' B A n rs := ⟨Rd.below h.1 hb, fun p hp => (h.2 p hp).below hb⟩
theorem RdG.more {w : World} {B B' n : Nat} {A : Option Addr} {rs : List Rw} (h : RdG w B A n rs) (hb : B ≤ B') : RdG w B' A n rs := ⟨Rd.more h.1 hb, fun p hp => (h.2 p hp).more hb⟩
theorem RdG.len {w : World} {B n : Nat} {A : Option Addr} {rs : List Rw} (h : RdG w B A n rs) : rs.length = n := by simpa using h.1.1
theorem RdG.nil_ {w : World} {B : Nat} : RdG w B none 0 [] := ⟨Rd.nil_, by simp⟩
/-- An element of a list of lists: its slice's cell, and the list. -/
theorem RdG.at_ {w : World} {B n : Nat} {A : Option Addr} {rs : List Rw} (h : RdG w B A n rs) {k : Nat} (hk : k < n) : ∃ b o r, A = some ⟨b, o, none⟩ ∧ b < B ∧ rs[k]? = some r ∧ w.cell? ⟨b, o + k, none⟩ = some (.slice r.A r.l r.c) ∧ r.Ok w B := by
  obtain ⟨b, o, r, e, hb, hr, hc⟩ := h.1.at_ hk
  exact ⟨b, o, r, e, hb, hr, by have := hc 0 _ rfl; simpa using this, h.2 r (List.mem_of_getElem? hr)⟩
theorem Rw.Ok.at_ {w : World} {B : Nat} {r : Rw} (h : r.Ok w B) {k : Nat} (hk : k < r.l) : ∃ b o v, r.A = some ⟨b, o, none⟩ ∧ b < B ∧ r.xs[k]? = some v ∧ w.cell? ⟨b, o + k, none⟩ = some (.int .i64 v) := by
  obtain ⟨b, o, v, e, hb, hr, hc⟩ := Rd.at_ (enc := eI) h hk
  exact ⟨b, o, v, e, hb, hr, by have := hc 0 _ rfl; simpa using this⟩
/-- Rows of one's own, no two in one block. -/
structure Fam (w : World) (base : Nat) (e : TypeId) (n : Nat) (vs : List Value) (wt : Nat → List Nat) : Prop where
  len : vs.length = n
  own : ∀ (k : Nat) v, vs[k]? = some v → Ow w base e 1 v ((wt k).map eN)
  dis : ∀ (j k : Nat) v u b, j ≠ k → vs[j]? = some v → vs[k]? = some u → v.ownBlock = some b → u.ownBlock ≠ some b
section
variable {w w' : World} {base n : Nat} {e : TypeId} {vs : List Value} {wt : Nat → List Nat}
theorem Fam.zero (w : World) (base : Nat) (e : TypeId) (n : Nat) : Fam w base e n (List.replicate n (.slice none 0 0)) fun _ => [] where
  len := by simp
  own := fun k v hv => by
    obtain rfl := (List.mem_replicate.1 (List.mem_of_getElem? hv)).2
    exact Ow.nil_ _ _ _ _
  dis := fun j k v u b _ hv _ hb => by
    obtain rfl := (List.mem_replicate.1 (List.mem_of_getElem? hv)).2
    cases hb
theorem Fam.kept (h : Fam w base e n vs wt) {S : Nat → Prop} (hg : Gk S w w') (hn : ∀ v ∈ vs, ∀ b, v.ownBlock = some b → ¬ S b) : Fam w' base e n vs wt :=
  ⟨h.len, fun k v hv => hg.ow (h.own k v hv) (hn v (List.mem_of_getElem? hv)), h.dis⟩
theorem Fam.below (h : Fam w base e n vs wt) (hb : Below w.heap.size w w') : Fam w' base e n vs wt := h.kept (S := fun _ => False) (Gk.of_below hb _) fun _ _ _ _ h => h
theorem Fam.app (h : Fam w base e n vs wt) {k x : Nat} {v v' : Value} (hv : vs[k]? = some v) (ho : Ow w' base e 1 v' ((wt k).map eN ++ [eN x])) (hg : w.grownBy w' v.ownBlock) (hb : v'.ownBlock = v.ownBlock ∨ v'.ownBlock = some w.heap.size) :
    Fam w' base e n (vs.set k v') (fun q => if q = k then wt k ++ [x] else wt q) := by
  have hk := (List.getElem?_eq_some_iff.1 hv).1
  have hget : ∀ (j : Nat) u, (vs.set k v')[j]? = some u → (j = k ∧ u = v') ∨ (j ≠ k ∧ vs[j]? = some u) := by
    intro j u hu
    rw [List.getElem?_set] at hu
    by_cases e1 : k = j
    · rw [if_pos e1, if_pos (by omega)] at hu
      exact .inl ⟨e1.symm, by injection hu with hu; exact hu.symm⟩
    · rw [if_neg e1] at hu
      exact .inr ⟨Ne.symm e1, hu⟩
  refine ⟨by rw [List.length_set]; exact h.len, fun j u hu => ?_, fun j i u z b hji hu hz hub => ?_⟩
  · rcases hget j u hu with ⟨rfl, rfl⟩ | ⟨h1, h2⟩
    · rw [if_pos rfl, List.map_append]; exact ho
    · rw [if_neg h1]
      exact (Gk.of_grown hg).ow (h.own j u h2) fun b hb1 hb2 => h.dis k j v u b (Ne.symm h1) hv h2 hb2 hb1
  · have hold : ∀ (i : Nat) z b, i ≠ k → vs[i]? = some z → z.ownBlock = some b → v'.ownBlock ≠ some b := by
      intro i z b h1 h2 h3 h4
      rcases hb with h5 | h5
      · rw [h5] at h4
        exact h.dis i k z v b h1 h2 hv h3 h4
      · rw [h5] at h4
        injection h4 with h4
        have := (Ow.block (h.own i z h2) b h3).2
        omega
    rcases hget j u hu with ⟨rfl, rfl⟩ | ⟨h1, h2⟩
    · rcases hget i z hz with ⟨rfl, rfl⟩ | ⟨h3, h4⟩
      · exact absurd rfl hji
      · exact fun h5 => hold i z b h3 h4 h5 hub
    · rcases hget i z hz with ⟨rfl, rfl⟩ | ⟨h3, h4⟩
      · exact fun h5 => hold j u b h1 h2 hub h5
      · exact h.dis j i u z b hji h2 h4 hub
end
end Go.Proofs.Ytebpghpeeedgcaa
