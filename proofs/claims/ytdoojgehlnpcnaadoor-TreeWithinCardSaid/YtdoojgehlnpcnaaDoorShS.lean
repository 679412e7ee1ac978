/- The library's Sort and Compact of texts: their text is the one that the kit has walked. -/
import Derived.Shelf.Sort.Plain
import Derived.Shelf.Slices.CompactS
import Derived.Shelf.Slices.In.SortNone
import Derived.Test.YtdoojgehlnpcnaaDoorRows
namespace Go.Proofs.YtdoojgehlnpcnaaDoor
open Go.Shelf Go.Sort Go.RowKit Go.Lib

def sh_lays190_ren : Go.Shelf.Ren := ⟨fun | 190 => 47 | 125 => 55 | 258 => 54 | 128 => 69 | 129 => 70 | 302 => 60 | 303 => 61 | 304 => 62 | 305 => 63 | 306 => 64 | 307 => 65 | 308 => 66 | 309 => 67 | 310 => 68 | 333 => 76 | 329 => 77 | 330 => 78 | 334 => 79 | 335 => 80 | 336 => 81 | 344 => 84 | n => n, fun | 31 => 22 | 9 => 9 | 3 => 3 | 46 => 61 | 0 => 0 | 51 => 75 | 53 => 77 | 4 => 4 | 183 => 68 | 182 => 67 | 131 => 72 | 5 => 5 | 218 => 79 | 222 => 83 | 228 => 91 | 229 => 92 | n => n, fun | n => n⟩
theorem sh_lays190 : Go.Proofs.Lays.n190 Tryd.prog sh_lays190_ren := {
  mixed := by kernel_rfl
  f125 := Tryd.func55.trans (congrArg some (by kernel_rfl))
  f128 := Tryd.func69.trans (congrArg some (by kernel_rfl))
  f129 := Tryd.func70.trans (congrArg some (by kernel_rfl))
  f190 := Tryd.func47.trans (congrArg some (by kernel_rfl))
  f258 := Tryd.func54.trans (congrArg some (by kernel_rfl))
  f302 := Tryd.func60.trans (congrArg some (by kernel_rfl))
  f303 := Tryd.func61.trans (congrArg some (by kernel_rfl))
  f304 := Tryd.func62.trans (congrArg some (by kernel_rfl))
  f305 := Tryd.func63.trans (congrArg some (by kernel_rfl))
  f306 := Tryd.func64.trans (congrArg some (by kernel_rfl))
  f307 := Tryd.func65.trans (congrArg some (by kernel_rfl))
  f308 := Tryd.func66.trans (congrArg some (by kernel_rfl))
  f309 := Tryd.func67.trans (congrArg some (by kernel_rfl))
  f310 := Tryd.func68.trans (congrArg some (by kernel_rfl))
  f329 := Tryd.func77.trans (congrArg some (by kernel_rfl))
  f330 := Tryd.func78.trans (congrArg some (by kernel_rfl))
  f333 := Tryd.func76.trans (congrArg some (by kernel_rfl))
  f334 := Tryd.func79.trans (congrArg some (by kernel_rfl))
  f335 := Tryd.func80.trans (congrArg some (by kernel_rfl))
  f336 := Tryd.func81.trans (congrArg some (by kernel_rfl))
  f344 := Tryd.func84.trans (congrArg some (by kernel_rfl))
  t0 := Tryd.underlying0
  a0 := Tryd.isAgg0
  z0 := Tryd.sizeOf0
  v0 := Tryd.zeroValue0
  t3 := Tryd.underlying3
  a3 := Tryd.isAgg3
  z3 := Tryd.sizeOf3
  v3 := Tryd.zeroValue3
  t4 := Tryd.underlying4
  a4 := Tryd.isAgg4
  z4 := Tryd.sizeOf4
  v4 := Tryd.zeroValue4
  t5 := Tryd.underlying5
  a5 := Tryd.isAgg5
  z5 := Tryd.sizeOf5
  v5 := Tryd.zeroValue5
  t9 := Tryd.underlying9
  a9 := Tryd.isAgg9
  z9 := Tryd.sizeOf9
  v9 := Tryd.zeroValue9
  t31 := Tryd.underlying22
  a31 := Tryd.isAgg22
  z31 := Tryd.sizeOf22
  v31 := Tryd.zeroValue22
  t46 := Tryd.underlying61
  a46 := Tryd.isAgg61
  z46 := Tryd.sizeOf61
  v46 := Tryd.zeroValue61
  t51 := Tryd.underlying75
  a51 := Tryd.isAgg75
  z51 := Tryd.sizeOf75
  v51 := Tryd.zeroValue75
  t53 := Tryd.underlying77
  a53 := Tryd.isAgg77
  z53 := Tryd.sizeOf77
  v53 := Tryd.zeroValue77
  t131 := Tryd.underlying72
  a131 := Tryd.isAgg72
  z131 := Tryd.sizeOf72
  v131 := Tryd.zeroValue72
  t182 := Tryd.underlying67
  a182 := Tryd.isAgg67
  z182 := Tryd.sizeOf67
  v182 := Tryd.zeroValue67
  t183 := Tryd.underlying68
  a183 := Tryd.isAgg68
  z183 := Tryd.sizeOf68
  v183 := Tryd.zeroValue68
  t218 := Tryd.underlying79
  a218 := Tryd.isAgg79
  z218 := Tryd.sizeOf79
  v218 := Tryd.zeroValue79
  t222 := Tryd.underlying83
  a222 := Tryd.isAgg83
  z222 := Tryd.sizeOf83
  v222 := Tryd.zeroValue83
  t228 := Tryd.underlying91
  a228 := Tryd.isAgg91
  z228 := Tryd.sizeOf91
  v228 := Tryd.zeroValue91
  t229 := Tryd.underlying92
  a229 := Tryd.isAgg92
  z229 := Tryd.sizeOf92
  v229 := Tryd.zeroValue92 }
theorem shSortS (blk off cap : Nat) (ss : List (List UInt8)) (w : World) (hH : Holds encStr w blk off ss.toArray) (hblk : blk < w.heap.size) (hsz : ss.length < 4611686018427387904) :
    Calls Tryd.prog 47 #[.slice (some ⟨blk, off, none⟩) ss.length cap] w fun e w' =>
      e = .returned (.tuple #[]) ∧ ∃ n os, w' = grow (putRow encStr (Sort.ahead w n) blk off (ss.mergeSort fun x y => decide (x ≤ y)).toArray) os := Any.slices_Sort_string sh_lays190 blk off cap ss w hH hblk hsz
theorem shSortS0 (p : Option Addr) (cap : Nat) (w : World) :
    Calls Tryd.prog 47 #[.slice p 0 cap] w fun e w' => e = .returned (.tuple #[]) ∧ w' = w := Any.slices_Sort_string_none sh_lays190 p cap w
end Go.Proofs.YtdoojgehlnpcnaaDoor
