/- The search's steps, as the program takes them (no program in sight). -/
import Derived.Test.YtebpghpeeedgcaaKd
namespace Go.Proofs.Ytebpghpeeedgcaa

theorem upd_self {α : Type} (f : Nat → α) (i : Nat) : upd f i (f i) = f := by
  funext x
  unfold upd
  split
  · rename_i h; rw [h]
  · rfl
/-- How many were not reached. -/
def un : Nat → (Nat → Nat) → Nat
  | 0, _ => 0
  | n + 1, f => un n f + if f n = 0 then 1 else 0
theorem un_out {n k v : Nat} {f : Nat → Nat} (h : n ≤ k) : un n (upd f k v) = un n f := by
  induction n with
  | zero => rfl
  | succ n ih => rw [un, un, ih (by omega), upd_ne (by omega)]
theorem un_upd {n k v : Nat} {f : Nat → Nat} (hk : k < n) (h0 : f k = 0) (hv : 0 < v) : un n (upd f k v) + 1 = un n f := by
  induction n with
  | zero => omega
  | succ n ih =>
    rw [un, un]
    by_cases e : k = n
    · subst e
      rw [un_out (Nat.le_refl _), upd_at, if_neg (by omega), if_pos h0]
    · have := ih (by omega)
      rw [upd_ne (Ne.symm e)]
      omega
theorem un_zero (n : Nat) : un n (fun _ => 0) = n := by
  induction n with
  | zero => rfl
  | succ n ih => rw [un, ih, if_pos rfl]
structure Cnt (n : Nat) (s : TS) (ss : List (Nat × List Nat)) : Prop where
  c1 : s.cnt + un n s.num = n
  c2 : s.pts.length + (flat ss).length ≤ s.cnt
section
variable {g : Gr} {s : TS} {n : Nat}
theorem Cnt.reach {k : Nat} {ss : List (Nat × List Nat)} {l x : Nat → Nat} {o : Nat → Bool} (h : Cnt n s ss) (hk : k < n) (h0 : s.num k = 0) : Cnt n { s with num := upd s.num k (s.cnt + 1), low := l, nxt := x, opn := o, cnt := s.cnt + 1 } ((k, []) :: ss) where
  c1 := by
    have h1 := h.c1
    have h2 := un_upd (v := s.cnt + 1) hk h0 (by omega)
    show s.cnt + 1 + un n (upd s.num k (s.cnt + 1)) = n
    omega
  c2 := by
    have h1 := h.c2
    show s.pts.length + (flat ss ++ [k]).length ≤ s.cnt + 1
    rw [List.length_append, List.length_singleton]
    omega
theorem Cnt.close {i : Nat} {t : List Nat} {r : List (Nat × List Nat)} {o : Nat → Bool} {l p : Nat → Nat} {q : List Nat} (h : Cnt n s ((i, t) :: r)) : Cnt n { s with opn := o, low := l, prt := p, pts := s.pts ++ [q] } r where
  c1 := h.c1
  c2 := by
    have h1 := h.c2
    have h2 : (flat ((i, t) :: r)).length = (flat r).length + (t.length + 1) := by rw [flat, List.length_append, List.length_cons]
    show (s.pts ++ [q]).length + _ ≤ s.cnt
    rw [List.length_append, List.length_singleton]
    omega
theorem Cnt.merge {i u : Nat} {t v : List Nat} {r : List (Nat × List Nat)} {l : Nat → Nat} (h : Cnt n s ((i, t) :: (u, v) :: r)) : Cnt n { s with low := l } ((u, v ++ i :: t) :: r) where
  c1 := h.c1
  c2 := by
    have h1 := h.c2
    have h2 : flat ((u, v ++ i :: t) :: r) = flat ((i, t) :: (u, v) :: r) := by simp [flat]
    rw [h2]
    exact h1
theorem Cnt.other {ss : List (Nat × List Nat)} {l x : Nat → Nat} (h : Cnt n s ss) : Cnt n { s with low := l, nxt := x } ss := ⟨h.c1, h.c2⟩
variable {i k : Nat} {t : List Nat} {r : List (Nat × List Nat)}
theorem sucs_ok (hg : Gok g) {j : Nat} (h : (sucs g i)[j]? = some k) : Ed g i k ∧ i < g.length ∧ k < g.length := by
  have h1 : Ed g i k := List.mem_of_getElem? h
  exact ⟨h1, hg _ _ h1⟩
theorem Inv.stepReach (h : Inv g s ((i, t) :: r)) (hg : Gok g) (hk : (sucs g i)[s.nxt i]? = some k) (h0 : s.num k = 0) :
    Inv g { s with num := upd s.num k (s.cnt + 1), low := upd s.low k (s.cnt + 1), nxt := upd s.nxt i (s.nxt i + 1), opn := upd s.opn k true, cnt := s.cnt + 1 } ((k, []) :: (i, t) :: r) := by
  obtain ⟨he, hil, hkl⟩ := sucs_ok hg hk
  have hpi := h.pos i (by simp [flat])
  have hik : i ≠ k := fun e => by subst e; omega
  have h1 := h.reach h0 hkl ⟨he, h.chn⟩
  refine h1.bump (i := i) (k := k) (t := t) (by simp) hk (by show 0 < upd s.num k (s.cnt + 1) k; rw [upd_at]; omega) fun _ => ?_
  show upd s.low k (s.cnt + 1) i ≤ upd s.num k (s.cnt + 1) k
  rw [upd_ne hik, upd_at]
  have := h.lle (i, t) (by simp)
  have := h.le i
  dsimp only at *
  omega
theorem Inv.stepLow (h : Inv g s ((i, t) :: r)) (hk : (sucs g i)[s.nxt i]? = some k) (h0 : 0 < s.num k) (ho : s.opn k = true) :
    Inv g { s with low := upd s.low i (min (s.low i) (s.num k)), nxt := upd s.nxt i (s.nxt i + 1) } ((i, t) :: r) := by
  have he : Ed g i k := List.mem_of_getElem? hk
  have h1 : Inv g { s with low := upd s.low i (min (s.low i) (s.num k)) } ((i, t) :: r) := by
    by_cases hc : s.num k ≤ s.low i
    · exact h.lower (Nat.min_le_left _ _) ((h.op k).1 ho) (by omega) (.one he)
    · obtain ⟨y, hy, e1, e2⟩ := h.lat (i, t) (by simp)
      exact h.lower (Nat.min_le_left _ _) hy (by rw [e1]; dsimp only; omega) e2
  refine h1.bump (i := i) (k := k) (t := t) (by simp) hk h0 fun _ => ?_
  show upd s.low i (min (s.low i) (s.num k)) i ≤ s.num k
  rw [upd_at]
  omega
theorem Inv.stepSkip (h : Inv g s ((i, t) :: r)) (hk : (sucs g i)[s.nxt i]? = some k) (h0 : 0 < s.num k) (ho : s.opn k = false) :
    Inv g { s with nxt := upd s.nxt i (s.nxt i + 1) } ((i, t) :: r) :=
  h.bump (i := i) (k := k) (t := t) (by simp) hk h0 fun e => by rw [ho] at e; cases e
theorem Inv.under {u : Nat} {v : List Nat} (h : Inv g s ((i, t) :: (u, v) :: r)) (hl : s.low i = s.num i) : min (s.low u) (s.low i) = s.low u := by
  have h1 := h.lle (u, v) (by simp)
  have h2 : s.num u < s.num i := by
    have h3 := h.inc
    have h4 : flat ((i, t) :: (u, v) :: r) = flat ((u, v) :: r) ++ i :: t := rfl
    rw [h4] at h3
    exact (List.pairwise_append.1 h3).2.2 u (by simp [flat]) i (by simp)
  dsimp only at h1
  omega
/-- The last one on the path leads below itself to none. -/
theorem Inv.alone (h : Inv g s [(i, t)]) : s.low i = s.num i := by
  obtain ⟨y, hy, h1, _⟩ := h.lat (i, t) (by simp)
  have h2 := h.lle (i, t) (by simp)
  have h3 := h.inc
  have h4 : flat [(i, t)] = i :: t := rfl
  rw [h4] at hy h3
  dsimp only at h1 h2
  rcases List.mem_cons.1 hy with e | hy
  · rw [← h1, e]
  · have := (List.pairwise_cons.1 h3).1 y hy
    omega
theorem Inv.mem_lt {ss : List (Nat × List Nat)} (h : Inv g s ss) {x : Nat} (hx : x ∈ flat ss) : x < g.length := h.lt x (h.pos x hx)
end
end Go.Proofs.Ytebpghpeeedgcaa
