/- The layings of the library functions on spans, datoms. No condition. -/
import Derived.Test.YtjojdiefnhbglaaOps22
import Derived.Test.YtjojdiefnhbglaaOps24
import Derived.Shelf.Spec.SlicesGrow
import Derived.Test.YtjojdiefnhbglaaEInst
namespace Go.Proofs
open Go.Shelf
def Try.laysSP_ren : Go.Shelf.Ren := ⟨fun | 6 => 43 | 15 => 83 | 14 => 82 | 28 => 119 | 29 => 120 | 20 => 111 | 21 => 112 | 22 => 113 | 23 => 114 | 24 => 115 | 25 => 116 | 26 => 117 | 27 => 118 | 46 => 145 | 47 => 146 | 48 => 147 | 49 => 148 | 50 => 149 | 57 => 159 | n => n, fun | 22 => 46 | 24 => 53 | 25 => 117 | 3 => 3 | 39 => 161 | 0 => 0 | 53 => 199 | 55 => 201 | 4 => 4 | 46 => 193 | 45 => 192 | 50 => 123 | 5 => 5 | 9 => 9 | 66 => 218 | 70 => 222 | 76 => 232 | 77 => 70 | n => n, fun | n => n⟩
theorem Try.laysSP : Go.Proofs.SlLaysF0.n6 Try.prog Try.laysSP_ren := {
  mixed := by kernel_rfl
  f6 := ⟨Try.f43.name, by decide, Try.func43.trans (congrArg some (by kernel_rfl))⟩
  f14 := ⟨Try.f82.name, by decide, Try.func82.trans (congrArg some (by kernel_rfl))⟩
  f15 := Try.func83.trans (congrArg some (by kernel_rfl))
  f20 := ⟨Try.f111.name, by decide, Try.func111.trans (congrArg some (by kernel_rfl))⟩
  f21 := ⟨Try.f112.name, by decide, Try.func112.trans (congrArg some (by kernel_rfl))⟩
  f22 := ⟨Try.f113.name, by decide, Try.func113.trans (congrArg some (by kernel_rfl))⟩
  f23 := ⟨Try.f114.name, by decide, Try.func114.trans (congrArg some (by kernel_rfl))⟩
  f24 := ⟨Try.f115.name, by decide, Try.func115.trans (congrArg some (by kernel_rfl))⟩
  f25 := ⟨Try.f116.name, by decide, Try.func116.trans (congrArg some (by kernel_rfl))⟩
  f26 := ⟨Try.f117.name, by decide, Try.func117.trans (congrArg some (by kernel_rfl))⟩
  f27 := ⟨Try.f118.name, by decide, Try.func118.trans (congrArg some (by kernel_rfl))⟩
  f28 := Try.func119.trans (congrArg some (by kernel_rfl))
  f29 := Try.func120.trans (congrArg some (by kernel_rfl))
  f46 := ⟨Try.f145.name, by decide, Try.func145.trans (congrArg some (by kernel_rfl))⟩
  f47 := Try.func146.trans (congrArg some (by kernel_rfl))
  f48 := Try.func147.trans (congrArg some (by kernel_rfl))
  f49 := ⟨Try.f148.name, by decide, Try.func148.trans (congrArg some (by kernel_rfl))⟩
  f50 := ⟨Try.f149.name, by decide, Try.func149.trans (congrArg some (by kernel_rfl))⟩
  f57 := ⟨Try.f159.name, by decide, Try.func159.trans (congrArg some (by kernel_rfl))⟩
  t0 := Try.underlying0
  a0 := Try.isAgg0
  z0 := Try.sizeOf0
  v0 := Try.zeroValue0
  t3 := Try.underlying3
  a3 := Try.isAgg3
  z3 := Try.sizeOf3
  v3 := Try.zeroValue3
  t4 := Try.underlying4
  a4 := Try.isAgg4
  z4 := Try.sizeOf4
  v4 := Try.zeroValue4
  t5 := Try.underlying5
  a5 := Try.isAgg5
  z5 := Try.sizeOf5
  v5 := Try.zeroValue5
  t9 := Try.underlying9
  a9 := Try.isAgg9
  z9 := Try.sizeOf9
  v9 := Try.zeroValue9
  t22 := Try.underlying46
  a22 := Try.isAgg46
  z22 := Try.sizeOf46
  v22 := Try.zeroValue46
  t25 := Try.underlying117
  a25 := Try.isAgg117
  z25 := Try.sizeOf117
  v25 := Try.zeroValue117
  t39 := Try.underlying161
  a39 := Try.isAgg161
  z39 := Try.sizeOf161
  v39 := Try.zeroValue161
  t45 := Try.underlying192
  a45 := Try.isAgg192
  z45 := Try.sizeOf192
  v45 := Try.zeroValue192
  t46 := Try.underlying193
  a46 := Try.isAgg193
  z46 := Try.sizeOf193
  v46 := Try.zeroValue193
  t50 := Try.underlying123
  a50 := Try.isAgg123
  z50 := Try.sizeOf123
  v50 := Try.zeroValue123
  t53 := Try.underlying199
  a53 := Try.isAgg199
  z53 := Try.sizeOf199
  v53 := Try.zeroValue199
  t55 := Try.underlying201
  a55 := Try.isAgg201
  z55 := Try.sizeOf201
  v55 := Try.zeroValue201
  t66 := Try.underlying218
  a66 := Try.isAgg218
  z66 := Try.sizeOf218
  v66 := Try.zeroValue218
  t70 := Try.underlying222
  a70 := Try.isAgg222
  z70 := Try.sizeOf222
  v70 := Try.zeroValue222
  t76 := Try.underlying232
  a76 := Try.isAgg232
  z76 := Try.sizeOf232
  v76 := Try.zeroValue232
  t77 := Try.underlying70
  a77 := Try.isAgg70
  z77 := Try.sizeOf70
  v77 := Try.zeroValue70 }
end Go.Proofs
