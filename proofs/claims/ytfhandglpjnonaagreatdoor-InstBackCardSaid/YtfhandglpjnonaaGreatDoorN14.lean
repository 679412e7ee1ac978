/- The library's Sort and Compact of texts: their text is the one that the kit has walked. A range over an iterator that keeps its state in cells of its own (blocks Z); the body never leaves the loop. The plain law of slices.Compact; what a sorted list without its repeats comes to. What the library's sort of structs leaves, in the words of rows. Plain words on lists of texts: in order, without repeats (no program in sight). Lists of texts: the library's Sort and Compact in the words of rows. Prefixes and interests: plain words (no program in sight). strings.Split and strings.HasPrefix: their text is the one that the kit has walked. -/
import Derived.Shelf.Sort.Plain
import Derived.Shelf.Slices.CompactS
import Derived.Shelf.Slices.In.SortNone
import Derived.Test.YtfhandglpjnonaaGreatDoorRows
import Derived.RangeFuncNested
import Derived.RangeFuncBound
import Derived.RangeFuncCalls
import Derived.RangeFuncLeaves
import Derived.OwnWalkIn
import Derived.Test.YtfhandglpjnonaaGreatDoorGa
import Derived.Test.YtfhandglpjnonaaGreatDoorN03
import Derived.Test.YtfhandglpjnonaaGreatDoorN02
import Derived.Shelf.SlSortCmp.WholeK
import Derived.Shelf.SlSortCmp.NoneTotal
import Derived.Lib.SlicesCompact
import Derived.Lib.Split
import Derived.Shelf.Strings.Prefix
import Derived.Shelf.Strings.Split
namespace Go.Proofs.YtfhandglpjnonaaGreatDoor
open Go.Shelf Go.Sort Go.RowKit Go.Lib
end Go.Proofs.YtfhandglpjnonaaGreatDoor
namespace Go.Proofs.YtfhandglpjnonaaGreatDoor
open Go.RowKit
variable {F : Fence} {n : Nat} {P : Program} {w : World}
end Go.Proofs.YtfhandglpjnonaaGreatDoor
namespace Go.Proofs.YtfhandglpjnonaaGreatDoor
end Go.Proofs.YtfhandglpjnonaaGreatDoor
namespace Go.Proofs.YtfhandglpjnonaaGreatDoor
open Go.RowKit Go.Sort
section
variable {α : Type} [Inhabited α] {enc : α → List Value} {k : Nat}
end
end Go.Proofs.YtfhandglpjnonaaGreatDoor
namespace Go.Proofs.YtfhandglpjnonaaGreatDoor
open Go.Sort
end Go.Proofs.YtfhandglpjnonaaGreatDoor
namespace Go.Proofs.YtfhandglpjnonaaGreatDoor
open Go.RowKit Go.Sort
def encS (e : List UInt8) : List Value := [.string (bs e)]
theorem encS_len {xs : List (List UInt8)} : ∀ x ∈ xs.map encS, x.length = 1 := by
 intro x hx; obtain ⟨t, _, rfl⟩ := List.mem_map.1 hx; rfl
def RdS (w : World) (B : Nat) (A : Option Addr) (n : Nat) (xs : List (List UInt8)) : Prop := Rd w B 1 A n (xs.map encS)
theorem RdS.below {w w' : World} {B n : Nat} {A : Option Addr} {xs : List (List UInt8)} (h : RdS w B A n xs) (hb : Below B w w') : RdS w' B A n xs := Rd.below h hb
theorem RdS.more {w : World} {B B' n : Nat} {A : Option Addr} {xs : List (List UInt8)} (h : RdS w B A n xs) (hb : B ≤ B') : RdS w B' A n xs := Rd.more h hb
theorem RdS.len {w : World} {B n : Nat} {A : Option Addr} {xs : List (List UInt8)} (h : RdS w B A n xs) : xs.length = n := by simpa using h.1
end Go.Proofs.YtfhandglpjnonaaGreatDoor
namespace Go.Proofs.YtfhandglpjnonaaGreatDoor
open Go.Lib
def okC (c : UInt8) : Bool := decide ((97 ≤ c.toNat ∧ c.toNat ≤ 122) ∨ (48 ≤ c.toNat ∧ c.toNat ≤ 57))
def partB (s : List UInt8) : Bool := !s.isEmpty && s.all okC
def pre : Nat → List UInt8 → Bool
 | n, [] => decide (0 < n)
 | n, c :: s => if okC c then pre (n + 1) s else if c = 47 ∧ 0 < n then pre 0 s else false
theorem okC_slash : okC 47 = false := by decide
theorem pre_part : ∀ (s : List UInt8) (n : Nat), (47 : UInt8) ∉ s → pre n s = (s.all okC && decide (0 < n + s.length))
 | [], n, _ => by simp [pre]
 | c :: s, n, h => by
  have hc : ¬ c = 47 := fun e => h (by simp [e])
  have hs : (47 : UInt8) ∉ s := fun e => h (List.mem_cons_of_mem _ e)
  rw [pre, List.all_cons]
  by_cases ho : okC c = true
  ·
   rw [if_pos ho, pre_part s (n + 1) hs, ho, Bool.true_and]
   congr 1
   simp; omega
  ·
   rw [if_neg ho, if_neg (fun e => hc e.1)]
   simp [ho]
theorem pre_slash : ∀ (u v : List UInt8) (n : Nat), (47 : UInt8) ∉ u → pre n (u ++ 47 :: v) = (u.all okC && decide (0 < n + u.length) && pre 0 v)
 | [], v, n, _ => by
  rw [List.nil_append, pre, if_neg (by rw [okC_slash]; simp)]
  by_cases h : 0 < n
  ·
   rw [if_pos ⟨rfl, h⟩]; simp [h]
  ·
   rw [if_neg (fun e => h e.2)]; simp [h]
 | c :: u, v, n, h => by
  have hc : ¬ c = 47 := fun e => h (by simp [e])
  have hs : (47 : UInt8) ∉ u := fun e => h (List.mem_cons_of_mem _ e)
  rw [List.cons_append, pre, List.all_cons]
  by_cases ho : okC c = true
  ·
   rw [if_pos ho, pre_slash u v (n + 1) hs, ho, Bool.true_and]
   congr 2
   simp; omega
  ·
   rw [if_neg ho, if_neg (fun e => hc e.1)]
   simp [ho]
theorem index_slash : ∀ s : List UInt8, (index s [47] = -1 ∧ (47 : UInt8) ∉ s) ∨ ∃ u v, s = u ++ 47 :: v ∧ (47 : UInt8) ∉ u ∧ index s [47] = u.length
 | [] => .inl ⟨rfl, by simp⟩
 | c :: s => by
  rw [index]
  by_cases hc : c = 47
  ·
   subst hc
   rw [if_pos (by simp [List.isPrefixOf])]
   exact .inr ⟨[], s, rfl, by simp, rfl⟩
  ·
   rw [if_neg (by simp [List.isPrefixOf]; exact fun e => hc e.symm)]
   rcases index_slash s with ⟨h1, h2⟩ | ⟨u, v, rfl, h2, h3⟩
   ·
    rw [h1]
    refine .inl ⟨by simp, ?_⟩
    intro h
    rcases List.mem_cons.1 h with e | e
    ·
     exact hc e.symm
    ·
     exact h2 e
   ·
    rw [h3, if_neg (by simp)]
    refine .inr ⟨c :: u, v, rfl, ?_, by simp⟩
    intro h
    rcases List.mem_cons.1 h with e | e
    ·
     exact hc e.symm
    ·
     exact h2 e
theorem splitK_parts : ∀ (f : Nat) (s : List UInt8), s.length < f → (splitK [47] 0 (countFrom [47] f s) s).all partB = pre 0 s
 | 0, _, h => by omega
 | f + 1, s, h => by
  rw [countFrom]
  rcases index_slash s with ⟨h1, h2⟩ | ⟨u, v, rfl, h2, h3⟩
  ·
   rw [if_pos (by simp [h1]), splitK, pre_part s 0 h2]
   cases s <;> simp [partB]
  ·
   rw [if_neg (by simp [h3]), Nat.add_comm, splitK, if_neg (by simp [h3]), h3, pre_slash u v 0 h2]
   have e1 : (u ++ 47 :: v).take (((u.length : Nat) : Int).toNat + 0) = u := by simp
   have e2 : (u ++ 47 :: v).drop (((u.length : Nat) : Int).toNat + [(47 : UInt8)].length) = v := by simp
   rw [e1, e2, List.all_cons, splitK_parts f v (by simp at h; omega)]
   congr 1
   cases u <;> simp [partB]
theorem split_parts (s : List UInt8) : (split s [47]).all partB = pre 0 s := splitK_parts (s.length + 1) s (by omega)
end Go.Proofs.YtfhandglpjnonaaGreatDoor
namespace Go.Proofs.YtfhandglpjnonaaGreatDoor
open Go.Shelf Go.RowKit Go.Lib
def sh_lays146_ren : Go.Shelf.Ren := ⟨fun | 146 => 160 | 221 => 171 | 268 => 176 | 138 => 177 | 143 => 178 | 195 => 180 | 197 => 181 | 218 => 182 | 219 => 183 | 260 => 184 | 217 => 185 | 225 => 186 | 224 => 187 | 267 => 188 | 266 => 189 | 314 => 190 | n => n, fun | 9 => 9 | 31 => 251 | 3 => 3 | 4 => 4 | 0 => 0 | 105 => 265 | 21 => 21 | 5 => 5 | 46 => 210 | 119 => 268 | 139 => 271 | 138 => 270 | 146 => 272 | 51 => 22 | n => n, fun | 1 => 1 | 3 => 2 | 4 => 3 | n => n⟩
theorem sh_lays146 : Go.Proofs.Lays.n146 Tryz.prog sh_lays146_ren := {
 mixed := by kernel_rfl
 f138 := Tryz.func177.trans (congrArg some (by kernel_rfl))
 f143 := Tryz.func178.trans (congrArg some (by kernel_rfl))
 f146 := Tryz.func160.trans (congrArg some (by kernel_rfl))
 f195 := Tryz.func180.trans (congrArg some (by kernel_rfl))
 f197 := Tryz.func181.trans (congrArg some (by kernel_rfl))
 f217 := Tryz.func185.trans (congrArg some (by kernel_rfl))
 f218 := Tryz.func182.trans (congrArg some (by kernel_rfl))
 f219 := Tryz.func183.trans (congrArg some (by kernel_rfl))
 f221 := Tryz.func171.trans (congrArg some (by kernel_rfl))
 f224 := Tryz.func187.trans (congrArg some (by kernel_rfl))
 f225 := Tryz.func186.trans (congrArg some (by kernel_rfl))
 f260 := Tryz.func184.trans (congrArg some (by kernel_rfl))
 f266 := Tryz.func189.trans (congrArg some (by kernel_rfl))
 f267 := Tryz.func188.trans (congrArg some (by kernel_rfl))
 f268 := Tryz.func176.trans (congrArg some (by kernel_rfl))
 f314 := Tryz.func190.trans (congrArg some (by kernel_rfl))
 t0 := Tryz.underlying0
 a0 := Tryz.isAgg0
 z0 := Tryz.sizeOf0
 v0 := Tryz.zeroValue0
 t3 := Tryz.underlying3
 a3 := Tryz.isAgg3
 z3 := Tryz.sizeOf3
 v3 := Tryz.zeroValue3
 t4 := Tryz.underlying4
 a4 := Tryz.isAgg4
 z4 := Tryz.sizeOf4
 v4 := Tryz.zeroValue4
 t5 := Tryz.underlying5
 a5 := Tryz.isAgg5
 z5 := Tryz.sizeOf5
 v5 := Tryz.zeroValue5
 t9 := Tryz.underlying9
 a9 := Tryz.isAgg9
 z9 := Tryz.sizeOf9
 v9 := Tryz.zeroValue9
 t21 := Tryz.underlying21
 a21 := Tryz.isAgg21
 z21 := Tryz.sizeOf21
 v21 := Tryz.zeroValue21
 t31 := Tryz.underlying251
 a31 := Tryz.isAgg251
 z31 := Tryz.sizeOf251
 v31 := Tryz.zeroValue251
 t46 := Tryz.underlying210
 a46 := Tryz.isAgg210
 z46 := Tryz.sizeOf210
 v46 := Tryz.zeroValue210
 t51 := Tryz.underlying22
 a51 := Tryz.isAgg22
 z51 := Tryz.sizeOf22
 v51 := Tryz.zeroValue22
 t105 := Tryz.underlying265
 a105 := Tryz.isAgg265
 z105 := Tryz.sizeOf265
 v105 := Tryz.zeroValue265
 t119 := Tryz.underlying268
 a119 := Tryz.isAgg268
 z119 := Tryz.sizeOf268
 t138 := Tryz.underlying270
 a138 := Tryz.isAgg270
 z138 := Tryz.sizeOf270
 v138 := Tryz.zeroValue270
 t139 := Tryz.underlying271
 a139 := Tryz.isAgg271
 z139 := Tryz.sizeOf271
 v139 := Tryz.zeroValue271
 t146 := Tryz.underlying272
 a146 := Tryz.isAgg272
 z146 := Tryz.sizeOf272
 v146 := Tryz.zeroValue272
 g1 := by kernel_rfl
 g3 := by kernel_rfl
 g4 := by kernel_rfl }
theorem shSplit (s sep : ByteArray) (m : Int) (w : World) (hs : s.size < 4294967281) (hm : w.cell? ⟨1, 0, none⟩ = some (.int .i64 m)) (h1 : 1 ≤ sep.size) :
 Calls Tryz.prog 160 #[.string s, .string sep] w fun e w' =>
  e = .returned (.slice (some ⟨w.heap.size, 0, none⟩) (Lib.countB s sep + 1) (Lib.countB s sep + 1)) ∧ w' = w.alloc (.cells ((Lib.splitB sep 0 (Lib.countB s sep) s).map Value.string).toArray 9) := Any.strings_Split sh_lays146 (by kernel_rfl) s sep m w hs hm h1
end Go.Proofs.YtfhandglpjnonaaGreatDoor
