/- Lists of texts: the library's Sort and Compact in the words of rows. -/
import Derived.Test.YtelipindcacphaaGreatDoorShS
import Derived.Test.YtelipindcacphaaGreatDoorSrA
import Derived.Test.YtelipindcacphaaGreatDoorOct
import Derived.Test.YtelipindcacphaaGreatDoorSrS
namespace Go.Proofs.YtelipindcacphaaGreatDoor
open Go.RowKit Go.Sort

/-- A text as an element of a list: one cell. -/
def encS (e : List UInt8) : List Value := [.string (bs e)]
theorem encS_len {xs : List (List UInt8)} : ∀ x ∈ xs.map encS, x.length = 1 := by
  intro x hx; obtain ⟨t, _, rfl⟩ := List.mem_map.1 hx; rfl
theorem encS_one {xs : List (List UInt8)} : ∀ x ∈ xs.map encS, ∀ u ∈ x, u.oneCell' = true := by
  intro x hx u hu; obtain ⟨t, _, rfl⟩ := List.mem_map.1 hx
  simp only [encS, List.mem_cons, List.not_mem_nil, or_false] at hu
  subst hu; rfl
def RdS (w : World) (B : Nat) (A : Option Addr) (n : Nat) (xs : List (List UInt8)) : Prop := Rd w B 1 A n (xs.map encS)
theorem RdS.below {w w' : World} {B n : Nat} {A : Option Addr} {xs : List (List UInt8)} (h : RdS w B A n xs) (hb : Below B w w') : RdS w' B A n xs := Rd.below h hb
theorem RdS.more {w : World} {B B' n : Nat} {A : Option Addr} {xs : List (List UInt8)} (h : RdS w B A n xs) (hb : B ≤ B') : RdS w B' A n xs := Rd.more h hb
theorem RdS.len {w : World} {B n : Nat} {A : Option Addr} {xs : List (List UInt8)} (h : RdS w B A n xs) : xs.length = n := by simpa using h.1
theorem infoStr : (Tryz.prog.info? 9).map (fun i => (i.zero, i.size, i.bytes)) = some (some (.string ⟨#[]⟩), 1, 16) := by kernel_rfl
theorem eStr : ElemInfo Tryz.prog 22 9 1 16 := by
  obtain ⟨i, hi, h0, h1, h2⟩ := info_parts infoStr
  exact ⟨Tryz.underlying22, ⟨i, _, hi, h0, h1, h2, rfl⟩, by decide⟩
theorem encStr_bs (e : List UInt8) : encStr e = .string (bs e) := rfl
theorem putRow_str (w : World) (g : Nat) (ys : List (List UInt8)) : putRow encStr w g 0 ys.toArray = putRowK encS 1 w g 0 ys.toArray := by
  unfold putRowK putRow
  congr 1
  funext c
  unfold putCells
  apply Array.ext_getElem?
  intro k
  simp only [Array.getElem?_mapIdx]
  cases hc : c[k]? with
  | none => rfl
  | some y =>
    simp only [Option.map_some, size_flatK, Nat.mul_one]
    by_cases h : 0 ≤ k ∧ k < 0 + ys.toArray.size
    · rw [if_pos h, if_pos h]
      have hk : k - 0 < ys.toArray.size * 1 := by omega
      rw [show id (flatK encS 1 ys.toArray)[k - 0]! = (flatK encS 1 ys.toArray)[k - 0]! from rfl, get_flatK encS 1 ys.toArray _ hk]
      simp [encS, encStr_bs, Nat.mod_one]
    · rw [if_neg h, if_neg h]
theorem holdsS_of {w : World} {base g n c : Nat} {xs : List (List UInt8)} (h : Ow w base 9 1 (.slice (some ⟨g, 0, none⟩) n c) (xs.map encS)) (hn : 0 < n) : Holds encStr w g 0 xs.toArray := by
  obtain ⟨g', he, _, _, hf, hc⟩ := h.addr hn
  injection he with he
  injection he with he
  subst he
  intro j hj
  have hj' : j < xs.length := by simpa using hj
  refine ⟨?_, hf _⟩
  have := hc j (encS xs[j]) (by rw [List.getElem?_map, List.getElem?_eq_getElem hj']; rfl) 0 _ rfl
  rw [Nat.zero_add, getElem!_pos xs.toArray j hj, encStr_bs]
  simpa using this
theorem sortS_any (base : Nat) (A : Option Addr) (n c : Nat) (xs : List (List UInt8)) (w : World) (hown : Ow w base 9 1 (.slice A n c) (xs.map encS)) (hn : n ≤ 1000000) :
    Calls Tryz.prog 58 #[.slice A n c] w
      fun e w' => e = .returned (.tuple #[]) ∧ Ow w' base 9 1 (.slice A n c) ((sortS xs).map encS) ∧ w.grownBy w' (Value.slice A n c).ownBlock := by
  have hl : xs.length = n := by simpa using hown.rd.2.1
  rcases Nat.eq_zero_or_pos n with h0 | hpos
  · subst h0
    obtain rfl := List.eq_nil_of_length_eq_zero hl
    refine Calls.mono (shSortS0 A c w) ?_
    rintro e w' ⟨rfl, hw⟩
    subst hw
    exact ⟨rfl, by unfold sortS; simpa using hown, World.grownBy.refl _ _⟩
  · obtain ⟨g, rfl, hgb, hgl, _, _⟩ := hown.addr hpos
    have h := shSortS g 0 c xs w (holdsS_of hown hpos) hgl (by omega)
    rw [hl] at h
    refine Calls.mono h ?_
    rintro e w' ⟨rfl, m, os, rfl⟩
    have hso := sorted_ow (m := m) (enc := encS) (ys := sortS xs) (fun _ => rfl) (by decide) hown hpos (by rw [sortS_len, hl]) os
    have e1 : Sort.grow (putRow encStr (Sort.ahead w m) g 0 (xs.mergeSort fun x y => decide (x ≤ y)).toArray) os = sortWorldK encS 1 w g 0 m (sortS xs).toArray os := by
      unfold sortWorldK sortS; rw [putRow_str]
    rw [e1]
    exact ⟨rfl, hso.1, hso.2⟩
theorem grow_nil (w : World) : Sort.grow w #[] = w := by unfold Sort.grow; simp
end Go.Proofs.YtelipindcacphaaGreatDoor
