/- The facts on equality of structs, as instances. No condition. -/
import Derived.Test.YtfnmipagllofiaaGreatDoorOps7
import Derived.Test.YtfnmipagllofiaaGreatDoorWInst
import Derived.Test.YtfnmipagllofiaaGreatDoorOps22
import Derived.Shelf.Strings.OnBuilder
import Derived.Shelf.Strings.Split
import Derived.Shelf.Strings.Cut
import Derived.Shelf.Small.Wraps
import Derived.Shelf.Strconv.Itoa4
import Derived.Shelf.Strconv.ParseInt10All
import Derived.Test.YtfnmipagllofiaaGreatDoorBase
namespace Go.Proofs
open Go.AL
instance : EqF Tryz.prog 2 [.i .i64] 1 := eqf_int Tryz.underlying2 Tryz.isAgg2
instance : EqF Tryz.prog 3 [.i .i64] 1 := eqf_int Tryz.underlying3 Tryz.isAgg3
instance : EqF Tryz.prog 4 [.b] 1 := eqf_bool Tryz.underlying4 Tryz.isAgg4
instance : EqF Tryz.prog 5 [.i .u8] 1 := eqf_int Tryz.underlying5 Tryz.isAgg5
instance : EqF Tryz.prog 6 [.i .u8] 1 := eqf_int Tryz.underlying6 Tryz.isAgg6
instance : EqF Tryz.prog 9 [.s] 1 := eqf_str Tryz.underlying9 Tryz.isAgg9
instance : EqF Tryz.prog 10 [.s] 1 := eqf_str Tryz.underlying10 Tryz.isAgg10
instance : EqF Tryz.prog 11 [.s] 1 := eqf_str Tryz.underlying11 Tryz.isAgg11
instance : EqF Tryz.prog 12 [.i .u64] 1 := eqf_int Tryz.underlying12 Tryz.isAgg12
instance : EqF Tryz.prog 21 [.i .i32] 1 := eqf_int Tryz.underlying21 Tryz.isAgg21
instance : EqF Tryz.prog 23 [.i .i64, .i .i64] 2 := eqf_struct Tryz.underlying23 (by kernel_rfl) Tryz.isAgg23 Tryz.sizeOf23 rfl (by repeat first | exact FldEq.nil _ | refine FldEq.cons3 (by decide) rfl (by decide) (by rfl) ?_)
instance : EqG Tryz.prog 23 := ⟨by kernel_rfl⟩
instance : EqF Tryz.prog 25 [.i .i64] 1 := eqf_int Tryz.underlying25 Tryz.isAgg25
instance : EqF Tryz.prog 76 [.i .u64] 1 := eqf_int Tryz.underlying76 Tryz.isAgg76
instance : EqF Tryz.prog 83 [.i .i64] 1 := eqf_int Tryz.underlying83 Tryz.isAgg83
instance : EqF Tryz.prog 91 [.i .u32] 1 := eqf_int Tryz.underlying91 Tryz.isAgg91
instance : EqF Tryz.prog 93 [.i .u64] 1 := eqf_int Tryz.underlying93 Tryz.isAgg93
instance : EqF Tryz.prog 106 [.i .u64] 1 := eqf_int Tryz.underlying106 Tryz.isAgg106
instance : EqF Tryz.prog 120 [.i .i64] 1 := eqf_int Tryz.underlying120 Tryz.isAgg120
instance : EqF Tryz.prog 152 [.i .u8] 1 := eqf_int Tryz.underlying152 Tryz.isAgg152
instance : EqF Tryz.prog 153 [.i .u8] 1 := eqf_int Tryz.underlying153 Tryz.isAgg153
instance : EqF Tryz.prog 155 [.i .i32] 1 := eqf_int Tryz.underlying155 Tryz.isAgg155
instance : EqF Tryz.prog 156 [.i .i32] 1 := eqf_int Tryz.underlying156 Tryz.isAgg156
end Go.Proofs

namespace Go.Proofs
open Go.Shelf
def Tryz.lays146_ren : Go.Shelf.Ren := ⟨fun | 146 => 35 | 221 => 49 | 268 => 70 | 138 => 71 | 143 => 72 | 195 => 87 | 197 => 88 | 218 => 89 | 219 => 73 | 260 => 102 | 217 => 90 | 225 => 91 | 224 => 92 | 267 => 93 | 266 => 103 | 314 => 104 | n => n, fun | 9 => 9 | 31 => 39 | 3 => 3 | 4 => 4 | 0 => 0 | 105 => 117 | 21 => 21 | 5 => 5 | 46 => 76 | 119 => 139 | 139 => 142 | 138 => 141 | 146 => 129 | 51 => 91 | n => n, fun | 1 => 1 | 3 => 6 | 4 => 7 | n => n⟩
theorem Tryz.lays146 : Go.Proofs.Lays.n146 Tryz.prog Tryz.lays146_ren := {
  mixed := by kernel_rfl
  f138 := Tryz.func71.trans (congrArg some (by kernel_rfl))
  f143 := Tryz.func72.trans (congrArg some (by kernel_rfl))
  f146 := Tryz.func35.trans (congrArg some (by kernel_rfl))
  f195 := Tryz.func87.trans (congrArg some (by kernel_rfl))
  f197 := Tryz.func88.trans (congrArg some (by kernel_rfl))
  f217 := Tryz.func90.trans (congrArg some (by kernel_rfl))
  f218 := Tryz.func89.trans (congrArg some (by kernel_rfl))
  f219 := Tryz.func73.trans (congrArg some (by kernel_rfl))
  f221 := Tryz.func49.trans (congrArg some (by kernel_rfl))
  f224 := Tryz.func92.trans (congrArg some (by kernel_rfl))
  f225 := Tryz.func91.trans (congrArg some (by kernel_rfl))
  f260 := Tryz.func102.trans (congrArg some (by kernel_rfl))
  f266 := Tryz.func103.trans (congrArg some (by kernel_rfl))
  f267 := Tryz.func93.trans (congrArg some (by kernel_rfl))
  f268 := Tryz.func70.trans (congrArg some (by kernel_rfl))
  f314 := Tryz.func104.trans (congrArg some (by kernel_rfl))
  t0 := Tryz.underlying0
  a0 := Tryz.isAgg0
  z0 := Tryz.sizeOf0
  v0 := Tryz.zeroValue0
  t3 := Tryz.underlying3
  a3 := Tryz.isAgg3
  z3 := Tryz.sizeOf3
  v3 := Tryz.zeroValue3
  t4 := Tryz.underlying4
  a4 := Tryz.isAgg4
  z4 := Tryz.sizeOf4
  v4 := Tryz.zeroValue4
  t5 := Tryz.underlying5
  a5 := Tryz.isAgg5
  z5 := Tryz.sizeOf5
  v5 := Tryz.zeroValue5
  t9 := Tryz.underlying9
  a9 := Tryz.isAgg9
  z9 := Tryz.sizeOf9
  v9 := Tryz.zeroValue9
  t21 := Tryz.underlying21
  a21 := Tryz.isAgg21
  z21 := Tryz.sizeOf21
  v21 := Tryz.zeroValue21
  t31 := Tryz.underlying39
  a31 := Tryz.isAgg39
  z31 := Tryz.sizeOf39
  v31 := Tryz.zeroValue39
  t46 := Tryz.underlying76
  a46 := Tryz.isAgg76
  z46 := Tryz.sizeOf76
  v46 := Tryz.zeroValue76
  t51 := Tryz.underlying91
  a51 := Tryz.isAgg91
  z51 := Tryz.sizeOf91
  v51 := Tryz.zeroValue91
  t105 := Tryz.underlying117
  a105 := Tryz.isAgg117
  z105 := Tryz.sizeOf117
  v105 := Tryz.zeroValue117
  t119 := Tryz.underlying139
  a119 := Tryz.isAgg139
  z119 := Tryz.sizeOf139
  t138 := Tryz.underlying141
  a138 := Tryz.isAgg141
  z138 := Tryz.sizeOf141
  v138 := Tryz.zeroValue141
  t139 := Tryz.underlying142
  a139 := Tryz.isAgg142
  z139 := Tryz.sizeOf142
  v139 := Tryz.zeroValue142
  t146 := Tryz.underlying129
  a146 := Tryz.isAgg129
  z146 := Tryz.sizeOf129
  v146 := Tryz.zeroValue129
  g1 := by kernel_rfl
  g3 := by kernel_rfl
  g4 := by kernel_rfl }
def Tryz.lays145_ren : Go.Shelf.Ren := ⟨fun | 145 => 36 | 220 => 50 | 219 => 73 | 217 => 90 | 225 => 91 | 224 => 92 | 267 => 93 | 266 => 103 | 314 => 104 | n => n, fun | 9 => 9 | 4 => 4 | 59 => 67 | 3 => 3 | 5 => 5 | 46 => 76 | 146 => 129 | 51 => 91 | n => n, fun | 1 => 1 | n => n⟩
theorem Tryz.lays145 : Go.Proofs.Lays.n145 Tryz.prog Tryz.lays145_ren := {
  mixed := by kernel_rfl
  f145 := Tryz.func36.trans (congrArg some (by kernel_rfl))
  f217 := Tryz.func90.trans (congrArg some (by kernel_rfl))
  f219 := Tryz.func73.trans (congrArg some (by kernel_rfl))
  f220 := Tryz.func50.trans (congrArg some (by kernel_rfl))
  f224 := Tryz.func92.trans (congrArg some (by kernel_rfl))
  f225 := Tryz.func91.trans (congrArg some (by kernel_rfl))
  f266 := Tryz.func103.trans (congrArg some (by kernel_rfl))
  f267 := Tryz.func93.trans (congrArg some (by kernel_rfl))
  f314 := Tryz.func104.trans (congrArg some (by kernel_rfl))
  t3 := Tryz.underlying3
  a3 := Tryz.isAgg3
  z3 := Tryz.sizeOf3
  v3 := Tryz.zeroValue3
  t4 := Tryz.underlying4
  a4 := Tryz.isAgg4
  z4 := Tryz.sizeOf4
  v4 := Tryz.zeroValue4
  t5 := Tryz.underlying5
  a5 := Tryz.isAgg5
  z5 := Tryz.sizeOf5
  v5 := Tryz.zeroValue5
  t9 := Tryz.underlying9
  a9 := Tryz.isAgg9
  z9 := Tryz.sizeOf9
  v9 := Tryz.zeroValue9
  t46 := Tryz.underlying76
  a46 := Tryz.isAgg76
  z46 := Tryz.sizeOf76
  v46 := Tryz.zeroValue76
  t51 := Tryz.underlying91
  a51 := Tryz.isAgg91
  z51 := Tryz.sizeOf91
  v51 := Tryz.zeroValue91
  t59 := Tryz.underlying67
  a59 := Tryz.isAgg67
  z59 := Tryz.sizeOf67
  v59 := Tryz.zeroValue67
  t146 := Tryz.underlying129
  a146 := Tryz.isAgg129
  z146 := Tryz.sizeOf129
  v146 := Tryz.zeroValue129
  g1 := by kernel_rfl }
def Tryz.lays103_ren : Go.Shelf.Ren := ⟨fun | 103 => 37 | 210 => 51 | 206 => 74 | n => n, fun | 9 => 9 | 4 => 4 | 24 => 69 | 3 => 3 | n => n, fun | n => n⟩
theorem Tryz.lays103 : Go.Proofs.Lays.n103 Tryz.prog Tryz.lays103_ren := {
  mixed := by kernel_rfl
  f103 := Tryz.func37.trans (congrArg some (by kernel_rfl))
  f206 := Tryz.func74.trans (congrArg some (by kernel_rfl))
  f210 := Tryz.func51.trans (congrArg some (by kernel_rfl))
  t3 := Tryz.underlying3
  a3 := Tryz.isAgg3
  z3 := Tryz.sizeOf3
  v3 := Tryz.zeroValue3
  t4 := Tryz.underlying4
  a4 := Tryz.isAgg4
  z4 := Tryz.sizeOf4
  v4 := Tryz.zeroValue4
  t9 := Tryz.underlying9
  a9 := Tryz.isAgg9
  z9 := Tryz.sizeOf9
  v9 := Tryz.zeroValue9
  t24 := Tryz.underlying69
  a24 := Tryz.isAgg69
  z24 := Tryz.sizeOf69
  v24 := Tryz.zeroValue69 }
def Tryz.lays104_ren : Go.Shelf.Ren := ⟨fun | 104 => 38 | 211 => 52 | 207 => 75 | n => n, fun | 9 => 9 | 4 => 4 | 24 => 69 | 3 => 3 | n => n, fun | n => n⟩
theorem Tryz.lays104 : Go.Proofs.Lays.n104 Tryz.prog Tryz.lays104_ren := {
  mixed := by kernel_rfl
  f104 := Tryz.func38.trans (congrArg some (by kernel_rfl))
  f207 := Tryz.func75.trans (congrArg some (by kernel_rfl))
  f211 := Tryz.func52.trans (congrArg some (by kernel_rfl))
  t3 := Tryz.underlying3
  a3 := Tryz.isAgg3
  z3 := Tryz.sizeOf3
  v3 := Tryz.zeroValue3
  t4 := Tryz.underlying4
  a4 := Tryz.isAgg4
  z4 := Tryz.sizeOf4
  v4 := Tryz.zeroValue4
  t9 := Tryz.underlying9
  a9 := Tryz.isAgg9
  z9 := Tryz.sizeOf9
  v9 := Tryz.zeroValue9
  t24 := Tryz.underlying69
  a24 := Tryz.isAgg69
  z24 := Tryz.sizeOf69
  v24 := Tryz.zeroValue69 }
def Tryz.lays173_ren : Go.Shelf.Ren := ⟨fun | 173 => 31 | 246 => 46 | 283 => 64 | 284 => 65 | 285 => 66 | 286 => 67 | 129 => 63 | 317 => 83 | 318 => 84 | 319 => 85 | 320 => 86 | 337 => 100 | 338 => 101 | n => n, fun | 2 => 2 | 3 => 3 | 9 => 9 | 4 => 4 | 171 => 95 | 0 => 0 | 53 => 93 | 37 => 57 | 5 => 5 | 173 => 97 | 212 => 114 | 51 => 91 | 20 => 20 | 213 => 115 | 46 => 76 | 232 => 137 | 233 => 138 | n => n, fun | 17 => 0 | 18 => 4 | 19 => 5 | n => n⟩
theorem Tryz.lays173 : Go.Proofs.LaysM.n173 Tryz.prog Tryz.lays173_ren := {
  mixed := by kernel_rfl
  f129 := Tryz.func63.trans (congrArg some (by kernel_rfl))
  f173 := Tryz.func31.trans (congrArg some (by kernel_rfl))
  f246 := Tryz.func46.trans (congrArg some (by kernel_rfl))
  f283 := Tryz.func64.trans (congrArg some (by kernel_rfl))
  f284 := Tryz.func65.trans (congrArg some (by kernel_rfl))
  f285 := Tryz.func66.trans (congrArg some (by kernel_rfl))
  f286 := Tryz.func67.trans (congrArg some (by kernel_rfl))
  f317 := Tryz.func83.trans (congrArg some (by kernel_rfl))
  f318 := Tryz.func84.trans (congrArg some (by kernel_rfl))
  f319 := Tryz.func85.trans (congrArg some (by kernel_rfl))
  f320 := Tryz.func86.trans (congrArg some (by kernel_rfl))
  f337 := Tryz.func100.trans (congrArg some (by kernel_rfl))
  f338 := Tryz.func101.trans (congrArg some (by kernel_rfl))
  t0 := Tryz.underlying0
  a0 := Tryz.isAgg0
  z0 := Tryz.sizeOf0
  v0 := Tryz.zeroValue0
  t2 := Tryz.underlying2
  a2 := Tryz.isAgg2
  z2 := Tryz.sizeOf2
  v2 := Tryz.zeroValue2
  t3 := Tryz.underlying3
  a3 := Tryz.isAgg3
  z3 := Tryz.sizeOf3
  v3 := Tryz.zeroValue3
  t4 := Tryz.underlying4
  a4 := Tryz.isAgg4
  z4 := Tryz.sizeOf4
  v4 := Tryz.zeroValue4
  t5 := Tryz.underlying5
  a5 := Tryz.isAgg5
  z5 := Tryz.sizeOf5
  v5 := Tryz.zeroValue5
  t9 := Tryz.underlying9
  a9 := Tryz.isAgg9
  z9 := Tryz.sizeOf9
  v9 := Tryz.zeroValue9
  t20 := Tryz.underlying20
  a20 := Tryz.isAgg20
  z20 := Tryz.sizeOf20
  v20 := Tryz.zeroValue20
  t37 := Tryz.underlying57
  a37 := Tryz.isAgg57
  z37 := Tryz.sizeOf57
  v37 := Tryz.zeroValue57
  t46 := Tryz.underlying76
  a46 := Tryz.isAgg76
  z46 := Tryz.sizeOf76
  v46 := Tryz.zeroValue76
  t51 := Tryz.underlying91
  a51 := Tryz.isAgg91
  z51 := Tryz.sizeOf91
  v51 := Tryz.zeroValue91
  t53 := Tryz.underlying93
  a53 := Tryz.isAgg93
  z53 := Tryz.sizeOf93
  v53 := Tryz.zeroValue93
  t171 := Tryz.underlying95
  a171 := Tryz.isAgg95
  z171 := Tryz.sizeOf95
  v171 := Tryz.zeroValue95
  t173 := Tryz.underlying97
  a173 := Tryz.isAgg97
  z173 := Tryz.sizeOf97
  v173 := Tryz.zeroValue97
  t212 := Tryz.underlying114
  a212 := Tryz.isAgg114
  z212 := Tryz.sizeOf114
  v212 := Tryz.zeroValue114
  t213 := Tryz.underlying115
  a213 := Tryz.isAgg115
  z213 := Tryz.sizeOf115
  t232 := Tryz.underlying137
  a232 := Tryz.isAgg137
  z232 := Tryz.sizeOf137
  v232 := Tryz.zeroValue137
  t233 := Tryz.underlying138
  a233 := Tryz.isAgg138
  z233 := Tryz.sizeOf138
  v233 := Tryz.zeroValue138
  g17 := by kernel_rfl
  g18 := by kernel_rfl
  g19 := by kernel_rfl
  i0 := by kernel_rfl
  i2 := by kernel_rfl
  i3 := by kernel_rfl
  i4 := by kernel_rfl
  i5 := by kernel_rfl
  i9 := by kernel_rfl
  i20 := by kernel_rfl
  i37 := by kernel_rfl
  i46 := by kernel_rfl
  i51 := by kernel_rfl
  i53 := by kernel_rfl
  i171 := by kernel_rfl
  i173 := by kernel_rfl
  i212 := by kernel_rfl
  i232 := by kernel_rfl
  i233 := by kernel_rfl
  m17 := by kernel_rfl
  m18 := by kernel_rfl
  m19 := by kernel_rfl }
def Tryz.lays247_ren : Go.Shelf.Ren := ⟨fun | 247 => 76 | 287 => 94 | 321 => 105 | 322 => 106 | n => n, fun | 9 => 9 | 3 => 3 | 2 => 2 | 75 => 62 | 4 => 4 | 167 => 120 | 5 => 5 | 53 => 93 | 175 => 121 | 46 => 76 | 37 => 57 | 0 => 0 | 21 => 21 | 80 => 65 | n => n, fun | n => n⟩
theorem Tryz.lays247 : Go.Proofs.LaysC.n247 Tryz.prog Tryz.lays247_ren := {
  mixed := by kernel_rfl
  f247 := Tryz.func76.trans (congrArg some (by kernel_rfl))
  f287 := Tryz.func94.trans (congrArg some (by kernel_rfl))
  f321 := Tryz.func105.trans (congrArg some (by kernel_rfl))
  f322 := Tryz.func106.trans (congrArg some (by kernel_rfl))
  t0 := Tryz.underlying0
  a0 := Tryz.isAgg0
  z0 := Tryz.sizeOf0
  v0 := Tryz.zeroValue0
  t2 := Tryz.underlying2
  a2 := Tryz.isAgg2
  z2 := Tryz.sizeOf2
  v2 := Tryz.zeroValue2
  t3 := Tryz.underlying3
  a3 := Tryz.isAgg3
  z3 := Tryz.sizeOf3
  v3 := Tryz.zeroValue3
  t4 := Tryz.underlying4
  a4 := Tryz.isAgg4
  z4 := Tryz.sizeOf4
  v4 := Tryz.zeroValue4
  t5 := Tryz.underlying5
  a5 := Tryz.isAgg5
  z5 := Tryz.sizeOf5
  v5 := Tryz.zeroValue5
  t9 := Tryz.underlying9
  a9 := Tryz.isAgg9
  z9 := Tryz.sizeOf9
  v9 := Tryz.zeroValue9
  t21 := Tryz.underlying21
  a21 := Tryz.isAgg21
  z21 := Tryz.sizeOf21
  v21 := Tryz.zeroValue21
  t37 := Tryz.underlying57
  a37 := Tryz.isAgg57
  z37 := Tryz.sizeOf57
  v37 := Tryz.zeroValue57
  t46 := Tryz.underlying76
  a46 := Tryz.isAgg76
  z46 := Tryz.sizeOf76
  v46 := Tryz.zeroValue76
  t53 := Tryz.underlying93
  a53 := Tryz.isAgg93
  z53 := Tryz.sizeOf93
  v53 := Tryz.zeroValue93
  t75 := Tryz.underlying62
  a75 := Tryz.isAgg62
  z75 := Tryz.sizeOf62
  v75 := Tryz.zeroValue62
  t167 := Tryz.underlying120
  a167 := Tryz.isAgg120
  z167 := Tryz.sizeOf120
  v167 := Tryz.zeroValue120
  t175 := Tryz.underlying121
  a175 := Tryz.isAgg121
  z175 := Tryz.sizeOf121
  v175 := Tryz.zeroValue121
  t80 := Tryz.underlying65
  a80 := Tryz.isAgg65
  z80 := Tryz.sizeOf65
  v80 := Tryz.zeroValue65
  i0 := by kernel_rfl
  i2 := by kernel_rfl
  i3 := by kernel_rfl
  i4 := by kernel_rfl
  i5 := by kernel_rfl
  i9 := by kernel_rfl
  i21 := by kernel_rfl
  i37 := by kernel_rfl
  i46 := by kernel_rfl
  i53 := by kernel_rfl
  i75 := by kernel_rfl
  i80 := by kernel_rfl
  i167 := by kernel_rfl
  i175 := by kernel_rfl
  c0 := by kernel_rfl
  c2 := by kernel_rfl
  c3 := by kernel_rfl
  c4 := by kernel_rfl
  c5 := by kernel_rfl
  c9 := by kernel_rfl
  c21 := by kernel_rfl
  c37 := by kernel_rfl
  c46 := by kernel_rfl
  c53 := by kernel_rfl
  c75 := by kernel_rfl
  c80 := by kernel_rfl
  c167 := by kernel_rfl
  c175 := by kernel_rfl }
def Tryz.laysSS_ren : Go.Shelf.Ren := ⟨fun | 6 => 25 | 15 => 43 | 14 => 42 | 28 => 62 | 29 => 63 | 20 => 54 | 21 => 55 | 22 => 56 | 23 => 57 | 24 => 58 | 25 => 59 | 26 => 60 | 27 => 61 | 46 => 78 | 47 => 79 | 48 => 80 | 49 => 81 | 50 => 82 | 57 => 99 | n => n, fun | 22 => 24 | 24 => 23 | 25 => 48 | 3 => 3 | 39 => 76 | 0 => 0 | 53 => 91 | 55 => 93 | 4 => 4 | 46 => 84 | 45 => 83 | 50 => 88 | 5 => 5 | 9 => 9 | 66 => 106 | 70 => 110 | 76 => 126 | 77 => 127 | n => n, fun | n => n⟩
theorem Tryz.laysSS : Go.Proofs.SlLaysF0.n6 Tryz.prog Tryz.laysSS_ren := {
  mixed := by kernel_rfl
  f6 := ⟨Tryz.f25.name, by decide, Tryz.func25.trans (congrArg some (by kernel_rfl))⟩
  f14 := ⟨Tryz.f42.name, by decide, Tryz.func42.trans (congrArg some (by kernel_rfl))⟩
  f15 := Tryz.func43.trans (congrArg some (by kernel_rfl))
  f20 := ⟨Tryz.f54.name, by decide, Tryz.func54.trans (congrArg some (by kernel_rfl))⟩
  f21 := ⟨Tryz.f55.name, by decide, Tryz.func55.trans (congrArg some (by kernel_rfl))⟩
  f22 := ⟨Tryz.f56.name, by decide, Tryz.func56.trans (congrArg some (by kernel_rfl))⟩
  f23 := ⟨Tryz.f57.name, by decide, Tryz.func57.trans (congrArg some (by kernel_rfl))⟩
  f24 := ⟨Tryz.f58.name, by decide, Tryz.func58.trans (congrArg some (by kernel_rfl))⟩
  f25 := ⟨Tryz.f59.name, by decide, Tryz.func59.trans (congrArg some (by kernel_rfl))⟩
  f26 := ⟨Tryz.f60.name, by decide, Tryz.func60.trans (congrArg some (by kernel_rfl))⟩
  f27 := ⟨Tryz.f61.name, by decide, Tryz.func61.trans (congrArg some (by kernel_rfl))⟩
  f28 := Tryz.func62.trans (congrArg some (by kernel_rfl))
  f29 := Tryz.func63.trans (congrArg some (by kernel_rfl))
  f46 := ⟨Tryz.f78.name, by decide, Tryz.func78.trans (congrArg some (by kernel_rfl))⟩
  f47 := Tryz.func79.trans (congrArg some (by kernel_rfl))
  f48 := Tryz.func80.trans (congrArg some (by kernel_rfl))
  f49 := ⟨Tryz.f81.name, by decide, Tryz.func81.trans (congrArg some (by kernel_rfl))⟩
  f50 := ⟨Tryz.f82.name, by decide, Tryz.func82.trans (congrArg some (by kernel_rfl))⟩
  f57 := ⟨Tryz.f99.name, by decide, Tryz.func99.trans (congrArg some (by kernel_rfl))⟩
  t0 := Tryz.underlying0
  a0 := Tryz.isAgg0
  z0 := Tryz.sizeOf0
  v0 := Tryz.zeroValue0
  t3 := Tryz.underlying3
  a3 := Tryz.isAgg3
  z3 := Tryz.sizeOf3
  v3 := Tryz.zeroValue3
  t4 := Tryz.underlying4
  a4 := Tryz.isAgg4
  z4 := Tryz.sizeOf4
  v4 := Tryz.zeroValue4
  t5 := Tryz.underlying5
  a5 := Tryz.isAgg5
  z5 := Tryz.sizeOf5
  v5 := Tryz.zeroValue5
  t9 := Tryz.underlying9
  a9 := Tryz.isAgg9
  z9 := Tryz.sizeOf9
  v9 := Tryz.zeroValue9
  t22 := Tryz.underlying24
  a22 := Tryz.isAgg24
  z22 := Tryz.sizeOf24
  v22 := Tryz.zeroValue24
  t25 := Tryz.underlying48
  a25 := Tryz.isAgg48
  z25 := Tryz.sizeOf48
  v25 := Tryz.zeroValue48
  t39 := Tryz.underlying76
  a39 := Tryz.isAgg76
  z39 := Tryz.sizeOf76
  v39 := Tryz.zeroValue76
  t45 := Tryz.underlying83
  a45 := Tryz.isAgg83
  z45 := Tryz.sizeOf83
  v45 := Tryz.zeroValue83
  t46 := Tryz.underlying84
  a46 := Tryz.isAgg84
  z46 := Tryz.sizeOf84
  v46 := Tryz.zeroValue84
  t50 := Tryz.underlying88
  a50 := Tryz.isAgg88
  z50 := Tryz.sizeOf88
  v50 := Tryz.zeroValue88
  t53 := Tryz.underlying91
  a53 := Tryz.isAgg91
  z53 := Tryz.sizeOf91
  v53 := Tryz.zeroValue91
  t55 := Tryz.underlying93
  a55 := Tryz.isAgg93
  z55 := Tryz.sizeOf93
  v55 := Tryz.zeroValue93
  t66 := Tryz.underlying106
  a66 := Tryz.isAgg106
  z66 := Tryz.sizeOf106
  v66 := Tryz.zeroValue106
  t70 := Tryz.underlying110
  a70 := Tryz.isAgg110
  z70 := Tryz.sizeOf110
  v70 := Tryz.zeroValue110
  t76 := Tryz.underlying126
  a76 := Tryz.isAgg126
  z76 := Tryz.sizeOf126
  v76 := Tryz.zeroValue126
  t77 := Tryz.underlying127
  a77 := Tryz.isAgg127
  z77 := Tryz.sizeOf127
  v77 := Tryz.zeroValue127 }
def Tryz.laysGS_ren : Go.Shelf.Ren := ⟨fun | 4 => 28 | n => n, fun | 22 => 24 | 25 => 23 | 3 => 3 | 4 => 4 | 9 => 9 | 20 => 20 | 0 => 0 | 2 => 2 | n => n, fun | n => n⟩
theorem Tryz.laysGS : Go.Proofs.Lays8.n4 Tryz.prog Tryz.laysGS_ren := {
  mixed := by kernel_rfl
  f4 := ⟨Tryz.f28.name, by decide, Tryz.func28.trans (congrArg some (by kernel_rfl))⟩
  t0 := Tryz.underlying0
  a0 := Tryz.isAgg0
  z0 := Tryz.sizeOf0
  v0 := Tryz.zeroValue0
  t3 := Tryz.underlying3
  a3 := Tryz.isAgg3
  z3 := Tryz.sizeOf3
  v3 := Tryz.zeroValue3
  t4 := Tryz.underlying4
  a4 := Tryz.isAgg4
  z4 := Tryz.sizeOf4
  v4 := Tryz.zeroValue4
  t9 := Tryz.underlying9
  a9 := Tryz.isAgg9
  z9 := Tryz.sizeOf9
  v9 := Tryz.zeroValue9
  t20 := Tryz.underlying20
  a20 := Tryz.isAgg20
  z20 := Tryz.sizeOf20
  v20 := Tryz.zeroValue20
  t22 := Tryz.underlying24
  a22 := Tryz.isAgg24
  z22 := Tryz.sizeOf24
  v22 := Tryz.zeroValue24 }
end Go.Proofs

namespace Go.Proofs
structure Sp where
  f : Int
  t : Int
theorem Sp.ext' {a b : Sp} (h1 : a.f = b.f) (h2 : a.t = b.t) : a = b := by
  obtain ⟨a, b⟩ := a; simp only at h1 h2; subst h1; subst h2; rfl
def inS (l : List Sp) (x : Int) : Prop := ∃ s, s ∈ l ∧ s.f ≤ x ∧ x < s.t
def neS (l : List Sp) : Prop := ∀ s, s ∈ l → s.f < s.t
def SetP (l : List Sp) : Prop := neS l ∧ l.Pairwise (fun a b => a.t < b.f)
theorem inS_nil (x : Int) : ¬ inS [] x := fun ⟨_, h, _⟩ => by simp at h
theorem inS_cons (s : Sp) (l : List Sp) (x : Int) : inS (s :: l) x ↔ (s.f ≤ x ∧ x < s.t) ∨ inS l x := by
  constructor
  · rintro ⟨r, hr, h⟩
    rcases List.mem_cons.1 hr with rfl | hr
    · exact .inl h
    · exact .inr ⟨r, hr, h⟩
  · rintro (h | ⟨r, hr, h⟩)
    · exact ⟨s, List.mem_cons_self, h⟩
    · exact ⟨r, List.mem_cons_of_mem _ hr, h⟩
theorem inS_append (a b : List Sp) (x : Int) : inS (a ++ b) x ↔ inS a x ∨ inS b x := by
  induction a with
  | nil => simp [inS_nil]
  | cons s a ih => rw [List.cons_append, inS_cons, inS_cons, ih, or_assoc]
theorem inS_perm {a b : List Sp} (h : a.Perm b) (x : Int) : inS a x ↔ inS b x :=
  ⟨fun ⟨s, hs, e⟩ => ⟨s, h.mem_iff.1 hs, e⟩, fun ⟨s, hs, e⟩ => ⟨s, h.mem_iff.2 hs, e⟩⟩
theorem SetP.nil : SetP [] := ⟨fun _ h => by simp at h, List.Pairwise.nil⟩
theorem setP_cons {s : Sp} {l : List Sp} : SetP (s :: l) ↔ s.f < s.t ∧ (∀ r, r ∈ l → s.t < r.f) ∧ SetP l := by
  constructor
  · rintro ⟨h1, h2⟩
    exact ⟨h1 s List.mem_cons_self, (List.pairwise_cons.1 h2).1, fun r hr => h1 r (List.mem_cons_of_mem _ hr), (List.pairwise_cons.1 h2).2⟩
  · rintro ⟨h1, h2, h3, h4⟩
    refine ⟨fun r hr => ?_, List.pairwise_cons.2 ⟨h2, h4⟩⟩
    rcases List.mem_cons.1 hr with rfl | hr
    · exact h1
    · exact h3 r hr
theorem setP_append {a b : List Sp} (ha : SetP a) (hb : SetP b) (h : ∀ s, s ∈ a → ∀ r, r ∈ b → s.t < r.f) : SetP (a ++ b) :=
  ⟨fun s hs => by rcases List.mem_append.1 hs with h | h; exact ha.1 s h; exact hb.1 s h, List.pairwise_append.2 ⟨ha.2, hb.2, h⟩⟩
theorem setP_one {s : Sp} (h : s.f < s.t) : SetP [s] := setP_cons.2 ⟨h, fun _ h => by simp at h, .nil⟩
theorem set_ext : ∀ {a b : List Sp}, SetP a → SetP b → (∀ x, inS a x ↔ inS b x) → a = b
  | [], [], _, _, _ => rfl
  | [], r :: b, _, hb, h => absurd ((h r.f).2 ((inS_cons _ _ _).2 (.inl ⟨Int.le_refl _, (setP_cons.1 hb).1⟩))) (inS_nil _)
  | s :: a, [], ha, _, h => absurd ((h s.f).1 ((inS_cons _ _ _).2 (.inl ⟨Int.le_refl _, (setP_cons.1 ha).1⟩))) (inS_nil _)
  | s :: a, r :: b, ha, hb, h => by
    obtain ⟨a1, a2, a3⟩ := setP_cons.1 ha
    obtain ⟨b1, b2, b3⟩ := setP_cons.1 hb
    have lo1 : r.f ≤ s.f := by
      rcases (inS_cons _ _ _).1 ((h s.f).1 ((inS_cons _ _ _).2 (.inl ⟨Int.le_refl _, a1⟩))) with e | ⟨u, hu, e⟩
      · exact e.1
      · have := b2 u hu; omega
    have lo2 : s.f ≤ r.f := by
      rcases (inS_cons _ _ _).1 ((h r.f).2 ((inS_cons _ _ _).2 (.inl ⟨Int.le_refl _, b1⟩))) with e | ⟨u, hu, e⟩
      · exact e.1
      · have := a2 u hu; omega
    have hi1 : r.t ≤ s.t := by
      rcases Int.lt_or_le s.t r.t with g | g
      · rcases (inS_cons _ _ _).1 ((h s.t).2 ((inS_cons _ _ _).2 (.inl ⟨by omega, g⟩))) with e | ⟨u, hu, e⟩
        · omega
        · have := a2 u hu; omega
      · exact g
    have hi2 : s.t ≤ r.t := by
      rcases Int.lt_or_le r.t s.t with g | g
      · rcases (inS_cons _ _ _).1 ((h r.t).1 ((inS_cons _ _ _).2 (.inl ⟨by omega, g⟩))) with e | ⟨u, hu, e⟩
        · omega
        · have := b2 u hu; omega
      · exact g
    have e : s = r := Sp.ext' (by omega) (by omega)
    subst e
    congr 1
    refine set_ext a3 b3 fun x => ⟨fun hx => ?_, fun hx => ?_⟩
    · rcases (inS_cons _ _ _).1 ((h x).1 ((inS_cons _ _ _).2 (.inr hx))) with e | e
      · obtain ⟨u, hu, e2⟩ := hx; have := a2 u hu; omega
      · exact e
    · rcases (inS_cons _ _ _).1 ((h x).2 ((inS_cons _ _ _).2 (.inr hx))) with e | e
      · obtain ⟨u, hu, e2⟩ := hx; have := b2 u hu; omega
      · exact e
theorem set_empty {a : List Sp} (ha : SetP a) (h : ∀ x, ¬ inS a x) : a = [] := set_ext ha .nil fun x => ⟨fun e => absurd e (h x), fun e => absurd e (inS_nil x)⟩
def SetI (l : List Sp) : Prop := ∀ (i : Nat) (h : i < l.length), l[i].f < l[i].t ∧ ∀ h0 : 0 < i, (l[i - 1]'(by omega)).t < l[i].f
theorem setI_iff (l : List Sp) : SetI l ↔ SetP l := by
  constructor
  · intro h
    refine ⟨fun s hs => ?_, List.pairwise_iff_getElem.2 ?_⟩
    · obtain ⟨i, hi, rfl⟩ := List.getElem_of_mem hs
      exact (h i hi).1
    · intro i j hi hj hij
      induction j with
      | zero => omega
      | succ j ih =>
        have h1 := (h (j + 1) hj).2 (by omega)
        simp only [Nat.add_sub_cancel] at h1
        rcases Nat.lt_or_ge i j with g | g
        · have h2 := ih (by omega) g
          have h3 := (h j (by omega)).1
          omega
        · have e : i = j := by omega
          subst e; exact h1
  · rintro ⟨h1, h2⟩ i hi
    exact ⟨h1 _ (List.getElem_mem _), fun h0 => List.pairwise_iff_getElem.1 h2 (i - 1) i (by omega) hi (by omega)⟩
def jn (out : List Sp) (s : Sp) : List Sp :=
  match out.getLast? with
  | none => out ++ [s]
  | some p => if s.f ≤ p.t then out.dropLast ++ [⟨p.f, max p.t s.t⟩] else out ++ [s]
def J (m : List Sp) : List Sp := m.foldl jn []
theorem jn_nil (s : Sp) : jn [] s = [s] := rfl
theorem jn_snoc (o : List Sp) (p s : Sp) : jn (o ++ [p]) s = if s.f ≤ p.t then o ++ [⟨p.f, max p.t s.t⟩] else o ++ [p] ++ [s] := by
  unfold jn; rw [List.getLast?_concat]; simp only [List.dropLast_concat]
theorem J_snoc (m : List Sp) (s : Sp) : J (m ++ [s]) = jn (J m) s := by unfold J; rw [List.foldl_append]; rfl
theorem snoc_cases {α : Type} (l : List α) : l = [] ∨ ∃ m x, l = m ++ [x] := by
  rcases List.eq_nil_or_concat l with h | ⟨m, x, h⟩
  · exact .inl h
  · exact .inr ⟨m, x, by rw [h, List.concat_eq_append]⟩
theorem snoc_ind {α : Type} {p : List α → Prop} (h0 : p []) (h1 : ∀ m x, p m → p (m ++ [x])) : ∀ l, p l := fun l => by
  have : ∀ (n : Nat) (l : List α), l.length = n → p l := fun n => by
    induction n with
    | zero => intro l hl; rw [List.length_eq_zero_iff.1 hl]; exact h0
    | succ n ih =>
      intro l hl
      rcases snoc_cases l with rfl | ⟨m, x, rfl⟩
      · exact h0
      · exact h1 m x (ih m (by simpa using hl))
  exact this _ l rfl
theorem setP_snoc {o : List Sp} {p : Sp} : SetP (o ++ [p]) ↔ SetP o ∧ p.f < p.t ∧ ∀ s, s ∈ o → s.t < p.f := by
  constructor
  · rintro ⟨h1, h2⟩
    obtain ⟨g1, g2, g3⟩ := List.pairwise_append.1 h2
    exact ⟨⟨fun s hs => h1 s (List.mem_append_left _ hs), g1⟩, h1 p (by simp), fun s hs => g3 s hs p (by simp)⟩
  · rintro ⟨h1, h2, h3⟩
    exact setP_append h1 (setP_one h2) fun s hs r hr => by rw [List.mem_singleton.1 hr]; exact h3 s hs
theorem inS_one (p : Sp) (x : Int) : inS [p] x ↔ p.f ≤ x ∧ x < p.t := by
  rw [inS_cons]; exact ⟨fun h => by rcases h with h | h; exact h; exact absurd h (inS_nil x), .inl⟩
theorem J_ok : ∀ m : List Sp, neS m → m.Pairwise (fun a b => a.f ≤ b.f) → SetP (J m) ∧ (∀ x, inS (J m) x ↔ inS m x) ∧ ∀ p, (J m).getLast? = some p → ∃ s, s ∈ m ∧ p.f = s.f := by
  refine snoc_ind ?_ ?_
  · intro _ _; exact ⟨.nil, fun x => Iff.rfl, fun p h => by simp [J] at h⟩
  · intro m s ih hn hp
    obtain ⟨g1, _, g3⟩ := List.pairwise_append.1 hp
    obtain ⟨i1, i2, i3⟩ := ih (fun r hr => hn r (List.mem_append_left _ hr)) g1
    have hs : s.f < s.t := hn s (by simp)
    rw [J_snoc]
    rcases snoc_cases (J m) with e | ⟨o, p, e⟩
    · rw [e, jn_nil]
      refine ⟨setP_one hs, fun x => ?_, fun p h => ?_⟩
      · rw [inS_append, ← i2 x, e]; exact ⟨.inr, fun h => by rcases h with h | h; exact absurd h (inS_nil x); exact h⟩
      · simp at h; subst h; exact ⟨s, by simp, rfl⟩
    · rw [e] at i1 i2 i3
      obtain ⟨k1, k2, k3⟩ := setP_snoc.1 i1
      obtain ⟨q, hq, hqf⟩ := i3 p (by simp)
      have hle : p.f ≤ s.f := by rw [hqf]; exact g3 q hq s (by simp)
      rw [e, jn_snoc]
      by_cases h : s.f ≤ p.t
      · rw [if_pos h]
        refine ⟨setP_snoc.2 ⟨k1, by show p.f < max p.t s.t; omega, k3⟩, fun x => ?_, fun r hr => ?_⟩
        · rw [inS_append, inS_one, inS_append, inS_one, ← i2 x, inS_append, inS_one]
          simp only []
          constructor
          · rintro (h1 | h1)
            · exact .inl (.inl h1)
            · by_cases h2 : x < p.t
              · exact .inl (.inr ⟨h1.1, h2⟩)
              · exact .inr (by omega)
          · rintro ((h1 | h1) | h1)
            · exact .inl h1
            · exact .inr (by omega)
            · exact .inr (by omega)
        · simp at hr; subst hr; exact ⟨q, List.mem_append_left _ hq, hqf⟩
      · rw [if_neg h]
        refine ⟨setP_snoc.2 ⟨i1, hs, fun r hr => ?_⟩, fun x => ?_, fun r hr => ?_⟩
        · rcases List.mem_append.1 hr with h1 | h1
          · have := k3 r h1; omega
          · rw [List.mem_singleton.1 h1]; omega
        · rw [inS_append, inS_append m, ← i2 x]
        · simp at hr; subst hr; exact ⟨s, by simp, rfl⟩
def meetL (a b : List Sp) : List Sp :=
  match a, b with
  | s :: a, r :: b => (if max s.f r.f < min s.t r.t then [⟨max s.f r.f, min s.t r.t⟩] else []) ++ (if s.t < r.t then meetL a (r :: b) else meetL (s :: a) b)
  | [], _ => []
  | _ :: _, [] => []
termination_by a.length + b.length
decreasing_by all_goals (simp; try omega)
theorem meetL_nil (b : List Sp) : meetL [] b = [] := by unfold meetL; rfl
theorem meetL_nil2 (a : List Sp) : meetL a [] = [] := by cases a <;> (unfold meetL; rfl)
theorem meetL_cons (s r : Sp) (a b : List Sp) : meetL (s :: a) (r :: b) = (if max s.f r.f < min s.t r.t then [⟨max s.f r.f, min s.t r.t⟩] else []) ++ (if s.t < r.t then meetL a (r :: b) else meetL (s :: a) b) := by rw [meetL]
abbrev loT : Int := -9223372036854775808
abbrev hiT : Int := 9223372036854775807
def restL (at_ : Int) : List Sp → List Sp
  | [] => if at_ < hiT then [⟨at_, hiT⟩] else []
  | s :: l => (if at_ < s.f then [⟨at_, s.f⟩] else []) ++ restL s.t l
end Go.Proofs
