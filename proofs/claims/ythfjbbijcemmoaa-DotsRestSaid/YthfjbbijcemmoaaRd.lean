/- A slice of structs that reads as a list: nil and empty let in. -/
import Derived.Test.YthfjbbijcemmoaaLib
namespace Go.Proofs.Ythfjbbijcemmoaa
open Go.RowKit

/-- The slice value '.slice A n c' reads as the list xs: each element is a list of cells; it lies below block B. -/
def Rd (w : World) (B sz : Nat) (A : Option Addr) (n : Nat) (xs : List (List Value)) : Prop :=
  xs.length = n ∧ (0 < n → ∃ b o, A = some ⟨b, o, none⟩ ∧ b < B ∧ ∀ k (x : List Value), xs[k]? = some x → ∀ j u, x[j]? = some u → w.cell? ⟨b, o + k * sz + j, none⟩ = some u)

section
variable {w w' : World} {B B' sz n : Nat} {A : Option Addr} {xs : List (List Value)} {α : Type} {enc : α → List Value} {ps : List α}

theorem Rd.nil_ : Rd w B sz none 0 [] := ⟨rfl, fun h => absurd h (by omega)⟩
theorem Rd.keep (h : Rd w B sz A n xs) (hk : ∀ b o, b < B → w'.cell? ⟨b, o, none⟩ = w.cell? ⟨b, o, none⟩) : Rd w' B sz A n xs :=
  ⟨h.1, fun hn => by
    obtain ⟨b, o, e, hb, hc⟩ := h.2 hn
    exact ⟨b, o, e, hb, fun k x hx j u hu => (hk _ _ hb).trans (hc k x hx j u hu)⟩⟩
theorem Rd.more (h : Rd w B sz A n xs) (hB : B ≤ B') : Rd w B' sz A n xs :=
  ⟨h.1, fun hn => by
    obtain ⟨b, o, e, hb, hc⟩ := h.2 hn
    exact ⟨b, o, e, by omega, hc⟩⟩
theorem Rd.below (h : Rd w B sz A n xs) (hb : Below B w w') : Rd w' B sz A n xs := h.keep fun _ _ hp => hb.cell (p := ⟨_, _, none⟩) hp
theorem Rd.at_ (h : Rd w B sz A n (ps.map enc)) {k : Nat} (hk : k < n) : ∃ b o p, A = some ⟨b, o, none⟩ ∧ b < B ∧ ps[k]? = some p ∧ ∀ j u, (enc p)[j]? = some u → w.cell? ⟨b, o + k * sz + j, none⟩ = some u := by
  obtain ⟨b, o, e, hb, hc⟩ := h.2 (by omega)
  have hl : k < ps.length := by have := h.1; simp at this; omega
  exact ⟨b, o, ps[k], e, hb, by simp [hl], fun j u hu => hc k (enc ps[k]) (by simp [hl]) j u hu⟩
theorem Rd.len (h : Rd w B sz A n (ps.map enc)) : ps.length = n := by have := h.1; simpa using this
end

theorem all_take_succ {α : Type} {l : List α} {P : α → Prop} {k : Nat} {x : α} (h : ∀ y ∈ l.take k, P y) (hx : l[k]? = some x) (hp : P x) : ∀ y ∈ l.take (k + 1), P y := by
  intro y hy
  rw [List.take_add_one, hx] at hy
  rcases List.mem_append.1 hy with h1 | h1
  · exact h y h1
  · simp at h1; exact h1 ▸ hp
theorem all_take_all {α : Type} {l : List α} {P : α → Prop} {n : Nat} (h : ∀ y ∈ l.take n, P y) (hn : l.length = n) : ∀ y ∈ l, P y := by
  rw [List.take_of_length_le (by omega)] at h
  exact h
end Go.Proofs.Ythfjbbijcemmoaa
