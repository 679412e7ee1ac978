/- strings.Split and strings.HasPrefix: their text is the one that the kit has walked. Is a name within a vector? (both). A vector with one name more. The document's Take. The document's Beyond: what of a set is not within a vector. The document's Fold. The document's Make: the set of any names, one by one put in its place. slices.Clone at names. -/
import Derived.Shelf.Strings.Prefix
import Derived.Shelf.Strings.Split
import Derived.Test.YtpolplmniaoikaaDoorRows
import Derived.Test.YtpolplmniaoikaaDoorN05
import Derived.Deep.RegionWith
import Derived.Test.YtpolplmniaoikaaDoorVcA
import Derived.Test.YtpolplmniaoikaaDoorN09
import Derived.Test.YtpolplmniaoikaaDoorGb
import Derived.Test.YtpolplmniaoikaaDoorGc
import Derived.Deep.QuietTactic
import Derived.Lib.SliceRun
import Derived.Test.YtpolplmniaoikaaDoorN29
namespace Go.Proofs.YtpolplmniaoikaaDoor
open Go.Shelf Go.RowKit Go.Lib

def sh_lays146_ren : Go.Shelf.Ren := ⟨fun | 146 => 51 | 221 => 65 | 268 => 74 | 138 => 75 | 143 => 76 | 195 => 79 | 197 => 80 | 218 => 81 | 219 => 82 | 260 => 84 | 217 => 85 | 225 => 86 | 224 => 87 | 267 => 88 | 266 => 89 | 314 => 90 | n => n, fun | 9 => 9 | 31 => 105 | 3 => 3 | 4 => 4 | 0 => 0 | 105 => 130 | 21 => 21 | 5 => 5 | 46 => 118 | 119 => 134 | 139 => 137 | 138 => 136 | 146 => 138 | 51 => 22 | n => n, fun | 1 => 0 | 3 => 1 | 4 => 2 | n => n⟩
theorem sh_lays146 : Go.Proofs.Lays.n146 Tryd.prog sh_lays146_ren := {
  mixed := by kernel_rfl
  f138 := Tryd.func75.trans (congrArg some (by kernel_rfl))
  f143 := Tryd.func76.trans (congrArg some (by kernel_rfl))
  f146 := Tryd.func51.trans (congrArg some (by kernel_rfl))
  f195 := Tryd.func79.trans (congrArg some (by kernel_rfl))
  f197 := Tryd.func80.trans (congrArg some (by kernel_rfl))
  f217 := Tryd.func85.trans (congrArg some (by kernel_rfl))
  f218 := Tryd.func81.trans (congrArg some (by kernel_rfl))
  f219 := Tryd.func82.trans (congrArg some (by kernel_rfl))
  f221 := Tryd.func65.trans (congrArg some (by kernel_rfl))
  f224 := Tryd.func87.trans (congrArg some (by kernel_rfl))
  f225 := Tryd.func86.trans (congrArg some (by kernel_rfl))
  f260 := Tryd.func84.trans (congrArg some (by kernel_rfl))
  f266 := Tryd.func89.trans (congrArg some (by kernel_rfl))
  f267 := Tryd.func88.trans (congrArg some (by kernel_rfl))
  f268 := Tryd.func74.trans (congrArg some (by kernel_rfl))
  f314 := Tryd.func90.trans (congrArg some (by kernel_rfl))
  t0 := Tryd.underlying0
  a0 := Tryd.isAgg0
  z0 := Tryd.sizeOf0
  v0 := Tryd.zeroValue0
  t3 := Tryd.underlying3
  a3 := Tryd.isAgg3
  z3 := Tryd.sizeOf3
  v3 := Tryd.zeroValue3
  t4 := Tryd.underlying4
  a4 := Tryd.isAgg4
  z4 := Tryd.sizeOf4
  v4 := Tryd.zeroValue4
  t5 := Tryd.underlying5
  a5 := Tryd.isAgg5
  z5 := Tryd.sizeOf5
  v5 := Tryd.zeroValue5
  t9 := Tryd.underlying9
  a9 := Tryd.isAgg9
  z9 := Tryd.sizeOf9
  v9 := Tryd.zeroValue9
  t21 := Tryd.underlying21
  a21 := Tryd.isAgg21
  z21 := Tryd.sizeOf21
  v21 := Tryd.zeroValue21
  t31 := Tryd.underlying105
  a31 := Tryd.isAgg105
  z31 := Tryd.sizeOf105
  v31 := Tryd.zeroValue105
  t46 := Tryd.underlying118
  a46 := Tryd.isAgg118
  z46 := Tryd.sizeOf118
  v46 := Tryd.zeroValue118
  t51 := Tryd.underlying22
  a51 := Tryd.isAgg22
  z51 := Tryd.sizeOf22
  v51 := Tryd.zeroValue22
  t105 := Tryd.underlying130
  a105 := Tryd.isAgg130
  z105 := Tryd.sizeOf130
  v105 := Tryd.zeroValue130
  t119 := Tryd.underlying134
  a119 := Tryd.isAgg134
  z119 := Tryd.sizeOf134
  t138 := Tryd.underlying136
  a138 := Tryd.isAgg136
  z138 := Tryd.sizeOf136
  v138 := Tryd.zeroValue136
  t139 := Tryd.underlying137
  a139 := Tryd.isAgg137
  z139 := Tryd.sizeOf137
  v139 := Tryd.zeroValue137
  t146 := Tryd.underlying138
  a146 := Tryd.isAgg138
  z146 := Tryd.sizeOf138
  v146 := Tryd.zeroValue138
  g1 := by kernel_rfl
  g3 := by kernel_rfl
  g4 := by kernel_rfl }
theorem shSplit (s sep : ByteArray) (m : Int) (w : World) (hs : s.size < 4294967281) (hm : w.cell? ⟨0, 0, none⟩ = some (.int .i64 m)) (h1 : 1 ≤ sep.size) :
    Calls Tryd.prog 51 #[.string s, .string sep] w fun e w' =>
      e = .returned (.slice (some ⟨w.heap.size, 0, none⟩) (Lib.countB s sep + 1) (Lib.countB s sep + 1)) ∧ w' = w.alloc (.cells ((Lib.splitB sep 0 (Lib.countB s sep) s).map Value.string).toArray 9) := Any.strings_Split sh_lays146 (by kernel_rfl) s sep m w hs hm h1
end Go.Proofs.YtpolplmniaoikaaDoor
namespace Go.Proofs.YtpolplmniaoikaaDoor
open Go.RowKit

end Go.Proofs.YtpolplmniaoikaaDoor
namespace Go.Proofs.YtpolplmniaoikaaDoor
open Go.RowKit

theorem set_cells (v : Vm) (k : Nat) (hk : k < 8) (s : Int) : (#[.int .u32 v.d0, .int .u32 v.d1, .int .u32 v.d2, .int .u32 v.d3, .int .u32 v.d4, .int .u32 v.d5, .int .u32 v.d6, .int .u32 v.d7] : Array Value).setIfInBounds k (.int .u32 s) = #[.int .u32 (v.set k s).d0, .int .u32 (v.set k s).d1, .int .u32 (v.set k s).d2, .int .u32 (v.set k s).d3, .int .u32 (v.set k s).d4, .int .u32 (v.set k s).d5, .int .u32 (v.set k s).d6, .int .u32 (v.set k s).d7] := by
  obtain rfl | rfl | rfl | rfl | rfl | rfl | rfl | rfl : k = 0 ∨ k = 1 ∨ k = 2 ∨ k = 3 ∨ k = 4 ∨ k = 5 ∨ k = 6 ∨ k = 7 := by omega
  all_goals simp [Vm.set]
theorem get_cells (v : Vm) (k : Nat) (hk : k < 8) : (#[.int .u32 v.d0, .int .u32 v.d1, .int .u32 v.d2, .int .u32 v.d3, .int .u32 v.d4, .int .u32 v.d5, .int .u32 v.d6, .int .u32 v.d7] : Array Value)[k]? = some (.int .u32 (v.get k)) := by
  obtain rfl | rfl | rfl | rfl | rfl | rfl | rfl | rfl : k = 0 ∨ k = 1 ∨ k = 2 ∨ k = 3 ∨ k = 4 ∨ k = 5 ∨ k = 6 ∨ k = 7 := by omega
  all_goals simp [Vm.get]
theorem vchk_get {v : Vm} (h : vchk v = true) (o : Int) : v.get o ≤ 1048576 := by
  unfold vchk at h
  rw [decide_eq_true_eq] at h
  unfold Vm.get
  (repeat' split) <;> omega

end Go.Proofs.YtpolplmniaoikaaDoor
namespace Go.Proofs.YtpolplmniaoikaaDoor
open Go.RowKit

end Go.Proofs.YtpolplmniaoikaaDoor
namespace Go.Proofs.YtpolplmniaoikaaDoor
open Go.RowKit


end Go.Proofs.YtpolplmniaoikaaDoor
namespace Go.Proofs.YtpolplmniaoikaaDoor
open Go.RowKit

end Go.Proofs.YtpolplmniaoikaaDoor
namespace Go.Proofs.YtpolplmniaoikaaDoor
open Go.RowKit

theorem Ow.keptI {w w' : World} {base : Nat} {e : TypeId} {sz b : Nat} {v : Value} {xs : List (List Value)} (h : Ow w base e sz v xs) (hg : w.grownBy w' (some b)) (hb : w.heap.size ≤ b ∨ v.ownBlock ≠ some b) : Ow w' base e sz v xs :=
  ⟨h.1, h.2.kept hg (.inr (fun e' => by
    rcases hb with h' | h'
    · have := h.block b e'; omega
    · exact h' e'))⟩

end Go.Proofs.YtpolplmniaoikaaDoor
namespace Go.Proofs.YtpolplmniaoikaaDoor
open Go.RowKit

theorem RdI.kp {N B n0 n : Nat} {w w' : World} {A : Option Addr} {xs : List Im} (h : RdI w n0 A n xs) (hk : KpB N B w w') (h1 : n0 ≤ N) (h2 : n0 ≤ B) : RdI w' n0 A n xs :=
  Rd.keep h fun b o hb => World.cell?_of_block (a := ⟨b, o, none⟩) (hk.block b (by omega) (by omega))
end Go.Proofs.YtpolplmniaoikaaDoor
