/- The library's sort of items: its text is the one that the kit has walked. -/
import Derived.Test.YtadldndmmobpdaaRows
import Derived.Shelf.SlLaysF0
import Derived.Shelf.SlGeneric
namespace Go.Proofs.Ytadldndmmobpdaa
open Go.Shelf

def sortIt_ren : Go.Shelf.Ren := ⟨fun | 6 => 72 | 15 => 115 | 14 => 119 | 28 => 145 | 29 => 146 | 20 => 148 | 21 => 149 | 22 => 150 | 23 => 151 | 24 => 152 | 25 => 153 | 26 => 154 | 27 => 155 | 46 => 174 | 47 => 169 | 48 => 170 | 49 => 175 | 50 => 176 | 57 => 183 | n => n, fun | 22 => 72 | 24 => 136 | 25 => 141 | 3 => 3 | 39 => 172 | 0 => 0 | 53 => 26 | 55 => 197 | 4 => 4 | 46 => 189 | 45 => 188 | 50 => 142 | 5 => 5 | 9 => 9 | 66 => 211 | 70 => 215 | 76 => 224 | 77 => 225 | n => n, fun | n => n⟩
theorem sortIt : Go.Proofs.SlLaysF0.n6 Try.prog sortIt_ren := {
  mixed := by kernel_rfl
  f6 := ⟨Try.f72.name, by decide, Try.func72.trans (congrArg some (by kernel_rfl))⟩
  f14 := ⟨Try.f119.name, by decide, Try.func119.trans (congrArg some (by kernel_rfl))⟩
  f15 := Try.func115.trans (congrArg some (by kernel_rfl))
  f20 := ⟨Try.f148.name, by decide, Try.func148.trans (congrArg some (by kernel_rfl))⟩
  f21 := ⟨Try.f149.name, by decide, Try.func149.trans (congrArg some (by kernel_rfl))⟩
  f22 := ⟨Try.f150.name, by decide, Try.func150.trans (congrArg some (by kernel_rfl))⟩
  f23 := ⟨Try.f151.name, by decide, Try.func151.trans (congrArg some (by kernel_rfl))⟩
  f24 := ⟨Try.f152.name, by decide, Try.func152.trans (congrArg some (by kernel_rfl))⟩
  f25 := ⟨Try.f153.name, by decide, Try.func153.trans (congrArg some (by kernel_rfl))⟩
  f26 := ⟨Try.f154.name, by decide, Try.func154.trans (congrArg some (by kernel_rfl))⟩
  f27 := ⟨Try.f155.name, by decide, Try.func155.trans (congrArg some (by kernel_rfl))⟩
  f28 := Try.func145.trans (congrArg some (by kernel_rfl))
  f29 := Try.func146.trans (congrArg some (by kernel_rfl))
  f46 := ⟨Try.f174.name, by decide, Try.func174.trans (congrArg some (by kernel_rfl))⟩
  f47 := Try.func169.trans (congrArg some (by kernel_rfl))
  f48 := Try.func170.trans (congrArg some (by kernel_rfl))
  f49 := ⟨Try.f175.name, by decide, Try.func175.trans (congrArg some (by kernel_rfl))⟩
  f50 := ⟨Try.f176.name, by decide, Try.func176.trans (congrArg some (by kernel_rfl))⟩
  f57 := ⟨Try.f183.name, by decide, Try.func183.trans (congrArg some (by kernel_rfl))⟩
  t0 := Try.underlying0
  a0 := Try.isAgg0
  z0 := Try.sizeOf0
  v0 := Try.zeroValue0
  t3 := Try.underlying3
  a3 := Try.isAgg3
  z3 := Try.sizeOf3
  v3 := Try.zeroValue3
  t4 := Try.underlying4
  a4 := Try.isAgg4
  z4 := Try.sizeOf4
  v4 := Try.zeroValue4
  t5 := Try.underlying5
  a5 := Try.isAgg5
  z5 := Try.sizeOf5
  v5 := Try.zeroValue5
  t9 := Try.underlying9
  a9 := Try.isAgg9
  z9 := Try.sizeOf9
  v9 := Try.zeroValue9
  t22 := Try.underlying72
  a22 := Try.isAgg72
  z22 := Try.sizeOf72
  v22 := Try.zeroValue72
  t25 := Try.underlying141
  a25 := Try.isAgg141
  z25 := Try.sizeOf141
  v25 := Try.zeroValue141
  t39 := Try.underlying172
  a39 := Try.isAgg172
  z39 := Try.sizeOf172
  v39 := Try.zeroValue172
  t45 := Try.underlying188
  a45 := Try.isAgg188
  z45 := Try.sizeOf188
  v45 := Try.zeroValue188
  t46 := Try.underlying189
  a46 := Try.isAgg189
  z46 := Try.sizeOf189
  v46 := Try.zeroValue189
  t50 := Try.underlying142
  a50 := Try.isAgg142
  z50 := Try.sizeOf142
  v50 := Try.zeroValue142
  t53 := Try.underlying26
  a53 := Try.isAgg26
  z53 := Try.sizeOf26
  v53 := Try.zeroValue26
  t55 := Try.underlying197
  a55 := Try.isAgg197
  z55 := Try.sizeOf197
  v55 := Try.zeroValue197
  t66 := Try.underlying211
  a66 := Try.isAgg211
  z66 := Try.sizeOf211
  v66 := Try.zeroValue211
  t70 := Try.underlying215
  a70 := Try.isAgg215
  z70 := Try.sizeOf215
  v70 := Try.zeroValue215
  t76 := Try.underlying224
  a76 := Try.isAgg224
  z76 := Try.sizeOf224
  v76 := Try.zeroValue224
  t77 := Try.underlying225
  a77 := Try.isAgg225
  z77 := Try.sizeOf225
  v77 := Try.zeroValue225 }
end Go.Proofs.Ytadldndmmobpdaa
