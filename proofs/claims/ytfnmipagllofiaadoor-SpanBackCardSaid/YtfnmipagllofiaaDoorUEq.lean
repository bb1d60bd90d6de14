/- The facts on equality of structs, as instances. No condition. -/
import Derived.Test.YtfnmipagllofiaaDoorOps7
import Derived.Test.YtfnmipagllofiaaDoorUInst
import Derived.Test.YtfnmipagllofiaaDoorOps22
import Derived.Shelf.Strings.OnBuilder
import Derived.Shelf.Strings.Split
import Derived.Shelf.Strings.Cut
import Derived.Shelf.Small.Wraps
import Derived.Shelf.Strconv.Itoa4
import Derived.Shelf.Strconv.ParseInt10All
import Derived.Test.YtfnmipagllofiaaDoorBase
namespace Go.Proofs
open Go.AL
instance : EqF Tryd.prog 2 [.i .i64] 1 := eqf_int Tryd.underlying2 Tryd.isAgg2
instance : EqF Tryd.prog 3 [.i .i64] 1 := eqf_int Tryd.underlying3 Tryd.isAgg3
instance : EqF Tryd.prog 4 [.b] 1 := eqf_bool Tryd.underlying4 Tryd.isAgg4
instance : EqF Tryd.prog 5 [.i .u8] 1 := eqf_int Tryd.underlying5 Tryd.isAgg5
instance : EqF Tryd.prog 6 [.i .u8] 1 := eqf_int Tryd.underlying6 Tryd.isAgg6
instance : EqF Tryd.prog 9 [.s] 1 := eqf_str Tryd.underlying9 Tryd.isAgg9
instance : EqF Tryd.prog 10 [.s] 1 := eqf_str Tryd.underlying10 Tryd.isAgg10
instance : EqF Tryd.prog 11 [.s] 1 := eqf_str Tryd.underlying11 Tryd.isAgg11
instance : EqF Tryd.prog 12 [.i .u64] 1 := eqf_int Tryd.underlying12 Tryd.isAgg12
instance : EqF Tryd.prog 21 [.i .i32] 1 := eqf_int Tryd.underlying21 Tryd.isAgg21
instance : EqF Tryd.prog 23 [.i .i64] 1 := eqf_int Tryd.underlying23 Tryd.isAgg23
instance : EqF Tryd.prog 38 [.i .i64, .i .i64] 2 := eqf_struct Tryd.underlying38 (by kernel_rfl) Tryd.isAgg38 Tryd.sizeOf38 rfl (by repeat first | exact FldEq.nil _ | refine FldEq.cons3 (by decide) rfl (by decide) (by rfl) ?_)
instance : EqG Tryd.prog 38 := ⟨by kernel_rfl⟩
instance : EqF Tryd.prog 80 [.i .u64] 1 := eqf_int Tryd.underlying80 Tryd.isAgg80
instance : EqF Tryd.prog 93 [.i .u64] 1 := eqf_int Tryd.underlying93 Tryd.isAgg93
instance : EqF Tryd.prog 94 [.i .i64] 1 := eqf_int Tryd.underlying94 Tryd.isAgg94
instance : EqF Tryd.prog 105 [.i .u32] 1 := eqf_int Tryd.underlying105 Tryd.isAgg105
instance : EqF Tryd.prog 117 [.i .i64] 1 := eqf_int Tryd.underlying117 Tryd.isAgg117
instance : EqF Tryd.prog 132 [.i .u64] 1 := eqf_int Tryd.underlying132 Tryd.isAgg132
instance : EqF Tryd.prog 149 [.i .u8] 1 := eqf_int Tryd.underlying149 Tryd.isAgg149
instance : EqF Tryd.prog 150 [.i .u8] 1 := eqf_int Tryd.underlying150 Tryd.isAgg150
instance : EqF Tryd.prog 152 [.i .i32] 1 := eqf_int Tryd.underlying152 Tryd.isAgg152
instance : EqF Tryd.prog 153 [.i .i32] 1 := eqf_int Tryd.underlying153 Tryd.isAgg153
end Go.Proofs

namespace Go.Proofs
open Go.Shelf
def Tryd.lays146_ren : Go.Shelf.Ren := ⟨fun | 146 => 16 | 221 => 28 | 268 => 40 | 138 => 41 | 143 => 42 | 195 => 60 | 197 => 61 | 218 => 62 | 219 => 43 | 260 => 80 | 217 => 63 | 225 => 64 | 224 => 65 | 267 => 66 | 266 => 81 | 314 => 82 | n => n, fun | 9 => 9 | 31 => 36 | 3 => 3 | 4 => 4 | 0 => 0 | 105 => 89 | 21 => 21 | 5 => 5 | 46 => 93 | 119 => 125 | 139 => 128 | 138 => 127 | 146 => 108 | 51 => 105 | n => n, fun | 1 => 0 | 3 => 4 | 4 => 5 | n => n⟩
theorem Tryd.lays146 : Go.Proofs.Lays.n146 Tryd.prog Tryd.lays146_ren := {
  mixed := by kernel_rfl
  f138 := Tryd.func41.trans (congrArg some (by kernel_rfl))
  f143 := Tryd.func42.trans (congrArg some (by kernel_rfl))
  f146 := Tryd.func16.trans (congrArg some (by kernel_rfl))
  f195 := Tryd.func60.trans (congrArg some (by kernel_rfl))
  f197 := Tryd.func61.trans (congrArg some (by kernel_rfl))
  f217 := Tryd.func63.trans (congrArg some (by kernel_rfl))
  f218 := Tryd.func62.trans (congrArg some (by kernel_rfl))
  f219 := Tryd.func43.trans (congrArg some (by kernel_rfl))
  f221 := Tryd.func28.trans (congrArg some (by kernel_rfl))
  f224 := Tryd.func65.trans (congrArg some (by kernel_rfl))
  f225 := Tryd.func64.trans (congrArg some (by kernel_rfl))
  f260 := Tryd.func80.trans (congrArg some (by kernel_rfl))
  f266 := Tryd.func81.trans (congrArg some (by kernel_rfl))
  f267 := Tryd.func66.trans (congrArg some (by kernel_rfl))
  f268 := Tryd.func40.trans (congrArg some (by kernel_rfl))
  f314 := Tryd.func82.trans (congrArg some (by kernel_rfl))
  t0 := Tryd.underlying0
  a0 := Tryd.isAgg0
  z0 := Tryd.sizeOf0
  v0 := Tryd.zeroValue0
  t3 := Tryd.underlying3
  a3 := Tryd.isAgg3
  z3 := Tryd.sizeOf3
  v3 := Tryd.zeroValue3
  t4 := Tryd.underlying4
  a4 := Tryd.isAgg4
  z4 := Tryd.sizeOf4
  v4 := Tryd.zeroValue4
  t5 := Tryd.underlying5
  a5 := Tryd.isAgg5
  z5 := Tryd.sizeOf5
  v5 := Tryd.zeroValue5
  t9 := Tryd.underlying9
  a9 := Tryd.isAgg9
  z9 := Tryd.sizeOf9
  v9 := Tryd.zeroValue9
  t21 := Tryd.underlying21
  a21 := Tryd.isAgg21
  z21 := Tryd.sizeOf21
  v21 := Tryd.zeroValue21
  t31 := Tryd.underlying36
  a31 := Tryd.isAgg36
  z31 := Tryd.sizeOf36
  v31 := Tryd.zeroValue36
  t46 := Tryd.underlying93
  a46 := Tryd.isAgg93
  z46 := Tryd.sizeOf93
  v46 := Tryd.zeroValue93
  t51 := Tryd.underlying105
  a51 := Tryd.isAgg105
  z51 := Tryd.sizeOf105
  v51 := Tryd.zeroValue105
  t105 := Tryd.underlying89
  a105 := Tryd.isAgg89
  z105 := Tryd.sizeOf89
  v105 := Tryd.zeroValue89
  t119 := Tryd.underlying125
  a119 := Tryd.isAgg125
  z119 := Tryd.sizeOf125
  t138 := Tryd.underlying127
  a138 := Tryd.isAgg127
  z138 := Tryd.sizeOf127
  v138 := Tryd.zeroValue127
  t139 := Tryd.underlying128
  a139 := Tryd.isAgg128
  z139 := Tryd.sizeOf128
  v139 := Tryd.zeroValue128
  t146 := Tryd.underlying108
  a146 := Tryd.isAgg108
  z146 := Tryd.sizeOf108
  v146 := Tryd.zeroValue108
  g1 := by kernel_rfl
  g3 := by kernel_rfl
  g4 := by kernel_rfl }
def Tryd.lays145_ren : Go.Shelf.Ren := ⟨fun | 145 => 17 | 220 => 29 | 219 => 43 | 217 => 63 | 225 => 64 | 224 => 65 | 267 => 66 | 266 => 81 | 314 => 82 | n => n, fun | 9 => 9 | 4 => 4 | 59 => 42 | 3 => 3 | 5 => 5 | 46 => 93 | 146 => 108 | 51 => 105 | n => n, fun | 1 => 0 | n => n⟩
theorem Tryd.lays145 : Go.Proofs.Lays.n145 Tryd.prog Tryd.lays145_ren := {
  mixed := by kernel_rfl
  f145 := Tryd.func17.trans (congrArg some (by kernel_rfl))
  f217 := Tryd.func63.trans (congrArg some (by kernel_rfl))
  f219 := Tryd.func43.trans (congrArg some (by kernel_rfl))
  f220 := Tryd.func29.trans (congrArg some (by kernel_rfl))
  f224 := Tryd.func65.trans (congrArg some (by kernel_rfl))
  f225 := Tryd.func64.trans (congrArg some (by kernel_rfl))
  f266 := Tryd.func81.trans (congrArg some (by kernel_rfl))
  f267 := Tryd.func66.trans (congrArg some (by kernel_rfl))
  f314 := Tryd.func82.trans (congrArg some (by kernel_rfl))
  t3 := Tryd.underlying3
  a3 := Tryd.isAgg3
  z3 := Tryd.sizeOf3
  v3 := Tryd.zeroValue3
  t4 := Tryd.underlying4
  a4 := Tryd.isAgg4
  z4 := Tryd.sizeOf4
  v4 := Tryd.zeroValue4
  t5 := Tryd.underlying5
  a5 := Tryd.isAgg5
  z5 := Tryd.sizeOf5
  v5 := Tryd.zeroValue5
  t9 := Tryd.underlying9
  a9 := Tryd.isAgg9
  z9 := Tryd.sizeOf9
  v9 := Tryd.zeroValue9
  t46 := Tryd.underlying93
  a46 := Tryd.isAgg93
  z46 := Tryd.sizeOf93
  v46 := Tryd.zeroValue93
  t51 := Tryd.underlying105
  a51 := Tryd.isAgg105
  z51 := Tryd.sizeOf105
  v51 := Tryd.zeroValue105
  t59 := Tryd.underlying42
  a59 := Tryd.isAgg42
  z59 := Tryd.sizeOf42
  v59 := Tryd.zeroValue42
  t146 := Tryd.underlying108
  a146 := Tryd.isAgg108
  z146 := Tryd.sizeOf108
  v146 := Tryd.zeroValue108
  g1 := by kernel_rfl }
def Tryd.lays103_ren : Go.Shelf.Ren := ⟨fun | 103 => 18 | 210 => 30 | 206 => 44 | n => n, fun | 9 => 9 | 4 => 4 | 24 => 44 | 3 => 3 | n => n, fun | n => n⟩
theorem Tryd.lays103 : Go.Proofs.Lays.n103 Tryd.prog Tryd.lays103_ren := {
  mixed := by kernel_rfl
  f103 := Tryd.func18.trans (congrArg some (by kernel_rfl))
  f206 := Tryd.func44.trans (congrArg some (by kernel_rfl))
  f210 := Tryd.func30.trans (congrArg some (by kernel_rfl))
  t3 := Tryd.underlying3
  a3 := Tryd.isAgg3
  z3 := Tryd.sizeOf3
  v3 := Tryd.zeroValue3
  t4 := Tryd.underlying4
  a4 := Tryd.isAgg4
  z4 := Tryd.sizeOf4
  v4 := Tryd.zeroValue4
  t9 := Tryd.underlying9
  a9 := Tryd.isAgg9
  z9 := Tryd.sizeOf9
  v9 := Tryd.zeroValue9
  t24 := Tryd.underlying44
  a24 := Tryd.isAgg44
  z24 := Tryd.sizeOf44
  v24 := Tryd.zeroValue44 }
def Tryd.lays104_ren : Go.Shelf.Ren := ⟨fun | 104 => 19 | 211 => 31 | 207 => 45 | n => n, fun | 9 => 9 | 4 => 4 | 24 => 44 | 3 => 3 | n => n, fun | n => n⟩
theorem Tryd.lays104 : Go.Proofs.Lays.n104 Tryd.prog Tryd.lays104_ren := {
  mixed := by kernel_rfl
  f104 := Tryd.func19.trans (congrArg some (by kernel_rfl))
  f207 := Tryd.func45.trans (congrArg some (by kernel_rfl))
  f211 := Tryd.func31.trans (congrArg some (by kernel_rfl))
  t3 := Tryd.underlying3
  a3 := Tryd.isAgg3
  z3 := Tryd.sizeOf3
  v3 := Tryd.zeroValue3
  t4 := Tryd.underlying4
  a4 := Tryd.isAgg4
  z4 := Tryd.sizeOf4
  v4 := Tryd.zeroValue4
  t9 := Tryd.underlying9
  a9 := Tryd.isAgg9
  z9 := Tryd.sizeOf9
  v9 := Tryd.zeroValue9
  t24 := Tryd.underlying44
  a24 := Tryd.isAgg44
  z24 := Tryd.sizeOf44
  v24 := Tryd.zeroValue44 }
def Tryd.lays173_ren : Go.Shelf.Ren := ⟨fun | 173 => 23 | 246 => 37 | 283 => 54 | 284 => 55 | 285 => 56 | 286 => 57 | 129 => 76 | 317 => 75 | 318 => 77 | 319 => 78 | 320 => 79 | 337 => 97 | 338 => 98 | n => n, fun | 2 => 2 | 3 => 3 | 9 => 9 | 4 => 4 | 171 => 79 | 0 => 0 | 53 => 80 | 37 => 53 | 5 => 5 | 173 => 83 | 212 => 104 | 51 => 105 | 20 => 20 | 213 => 106 | 46 => 93 | 232 => 138 | 233 => 139 | n => n, fun | 17 => 1 | 18 => 6 | 19 => 7 | n => n⟩
theorem Tryd.lays173 : Go.Proofs.LaysM.n173 Tryd.prog Tryd.lays173_ren := {
  mixed := by kernel_rfl
  f129 := Tryd.func76.trans (congrArg some (by kernel_rfl))
  f173 := Tryd.func23.trans (congrArg some (by kernel_rfl))
  f246 := Tryd.func37.trans (congrArg some (by kernel_rfl))
  f283 := Tryd.func54.trans (congrArg some (by kernel_rfl))
  f284 := Tryd.func55.trans (congrArg some (by kernel_rfl))
  f285 := Tryd.func56.trans (congrArg some (by kernel_rfl))
  f286 := Tryd.func57.trans (congrArg some (by kernel_rfl))
  f317 := Tryd.func75.trans (congrArg some (by kernel_rfl))
  f318 := Tryd.func77.trans (congrArg some (by kernel_rfl))
  f319 := Tryd.func78.trans (congrArg some (by kernel_rfl))
  f320 := Tryd.func79.trans (congrArg some (by kernel_rfl))
  f337 := Tryd.func97.trans (congrArg some (by kernel_rfl))
  f338 := Tryd.func98.trans (congrArg some (by kernel_rfl))
  t0 := Tryd.underlying0
  a0 := Tryd.isAgg0
  z0 := Tryd.sizeOf0
  v0 := Tryd.zeroValue0
  t2 := Tryd.underlying2
  a2 := Tryd.isAgg2
  z2 := Tryd.sizeOf2
  v2 := Tryd.zeroValue2
  t3 := Tryd.underlying3
  a3 := Tryd.isAgg3
  z3 := Tryd.sizeOf3
  v3 := Tryd.zeroValue3
  t4 := Tryd.underlying4
  a4 := Tryd.isAgg4
  z4 := Tryd.sizeOf4
  v4 := Tryd.zeroValue4
  t5 := Tryd.underlying5
  a5 := Tryd.isAgg5
  z5 := Tryd.sizeOf5
  v5 := Tryd.zeroValue5
  t9 := Tryd.underlying9
  a9 := Tryd.isAgg9
  z9 := Tryd.sizeOf9
  v9 := Tryd.zeroValue9
  t20 := Tryd.underlying20
  a20 := Tryd.isAgg20
  z20 := Tryd.sizeOf20
  v20 := Tryd.zeroValue20
  t37 := Tryd.underlying53
  a37 := Tryd.isAgg53
  z37 := Tryd.sizeOf53
  v37 := Tryd.zeroValue53
  t46 := Tryd.underlying93
  a46 := Tryd.isAgg93
  z46 := Tryd.sizeOf93
  v46 := Tryd.zeroValue93
  t51 := Tryd.underlying105
  a51 := Tryd.isAgg105
  z51 := Tryd.sizeOf105
  v51 := Tryd.zeroValue105
  t53 := Tryd.underlying80
  a53 := Tryd.isAgg80
  z53 := Tryd.sizeOf80
  v53 := Tryd.zeroValue80
  t171 := Tryd.underlying79
  a171 := Tryd.isAgg79
  z171 := Tryd.sizeOf79
  v171 := Tryd.zeroValue79
  t173 := Tryd.underlying83
  a173 := Tryd.isAgg83
  z173 := Tryd.sizeOf83
  v173 := Tryd.zeroValue83
  t212 := Tryd.underlying104
  a212 := Tryd.isAgg104
  z212 := Tryd.sizeOf104
  v212 := Tryd.zeroValue104
  t213 := Tryd.underlying106
  a213 := Tryd.isAgg106
  z213 := Tryd.sizeOf106
  t232 := Tryd.underlying138
  a232 := Tryd.isAgg138
  z232 := Tryd.sizeOf138
  v232 := Tryd.zeroValue138
  t233 := Tryd.underlying139
  a233 := Tryd.isAgg139
  z233 := Tryd.sizeOf139
  v233 := Tryd.zeroValue139
  g17 := by kernel_rfl
  g18 := by kernel_rfl
  g19 := by kernel_rfl
  i0 := by kernel_rfl
  i2 := by kernel_rfl
  i3 := by kernel_rfl
  i4 := by kernel_rfl
  i5 := by kernel_rfl
  i9 := by kernel_rfl
  i20 := by kernel_rfl
  i37 := by kernel_rfl
  i46 := by kernel_rfl
  i51 := by kernel_rfl
  i53 := by kernel_rfl
  i171 := by kernel_rfl
  i173 := by kernel_rfl
  i212 := by kernel_rfl
  i232 := by kernel_rfl
  i233 := by kernel_rfl
  m17 := by kernel_rfl
  m18 := by kernel_rfl
  m19 := by kernel_rfl }
def Tryd.lays247_ren : Go.Shelf.Ren := ⟨fun | 247 => 46 | 287 => 67 | 321 => 83 | 322 => 84 | n => n, fun | 9 => 9 | 3 => 3 | 2 => 2 | 75 => 58 | 4 => 4 | 167 => 94 | 5 => 5 | 53 => 80 | 175 => 95 | 46 => 93 | 37 => 53 | 0 => 0 | 21 => 21 | 80 => 61 | n => n, fun | n => n⟩
theorem Tryd.lays247 : Go.Proofs.LaysC.n247 Tryd.prog Tryd.lays247_ren := {
  mixed := by kernel_rfl
  f247 := Tryd.func46.trans (congrArg some (by kernel_rfl))
  f287 := Tryd.func67.trans (congrArg some (by kernel_rfl))
  f321 := Tryd.func83.trans (congrArg some (by kernel_rfl))
  f322 := Tryd.func84.trans (congrArg some (by kernel_rfl))
  t0 := Tryd.underlying0
  a0 := Tryd.isAgg0
  z0 := Tryd.sizeOf0
  v0 := Tryd.zeroValue0
  t2 := Tryd.underlying2
  a2 := Tryd.isAgg2
  z2 := Tryd.sizeOf2
  v2 := Tryd.zeroValue2
  t3 := Tryd.underlying3
  a3 := Tryd.isAgg3
  z3 := Tryd.sizeOf3
  v3 := Tryd.zeroValue3
  t4 := Tryd.underlying4
  a4 := Tryd.isAgg4
  z4 := Tryd.sizeOf4
  v4 := Tryd.zeroValue4
  t5 := Tryd.underlying5
  a5 := Tryd.isAgg5
  z5 := Tryd.sizeOf5
  v5 := Tryd.zeroValue5
  t9 := Tryd.underlying9
  a9 := Tryd.isAgg9
  z9 := Tryd.sizeOf9
  v9 := Tryd.zeroValue9
  t21 := Tryd.underlying21
  a21 := Tryd.isAgg21
  z21 := Tryd.sizeOf21
  v21 := Tryd.zeroValue21
  t37 := Tryd.underlying53
  a37 := Tryd.isAgg53
  z37 := Tryd.sizeOf53
  v37 := Tryd.zeroValue53
  t46 := Tryd.underlying93
  a46 := Tryd.isAgg93
  z46 := Tryd.sizeOf93
  v46 := Tryd.zeroValue93
  t53 := Tryd.underlying80
  a53 := Tryd.isAgg80
  z53 := Tryd.sizeOf80
  v53 := Tryd.zeroValue80
  t75 := Tryd.underlying58
  a75 := Tryd.isAgg58
  z75 := Tryd.sizeOf58
  v75 := Tryd.zeroValue58
  t167 := Tryd.underlying94
  a167 := Tryd.isAgg94
  z167 := Tryd.sizeOf94
  v167 := Tryd.zeroValue94
  t175 := Tryd.underlying95
  a175 := Tryd.isAgg95
  z175 := Tryd.sizeOf95
  v175 := Tryd.zeroValue95
  t80 := Tryd.underlying61
  a80 := Tryd.isAgg61
  z80 := Tryd.sizeOf61
  v80 := Tryd.zeroValue61
  i0 := by kernel_rfl
  i2 := by kernel_rfl
  i3 := by kernel_rfl
  i4 := by kernel_rfl
  i5 := by kernel_rfl
  i9 := by kernel_rfl
  i21 := by kernel_rfl
  i37 := by kernel_rfl
  i46 := by kernel_rfl
  i53 := by kernel_rfl
  i75 := by kernel_rfl
  i80 := by kernel_rfl
  i167 := by kernel_rfl
  i175 := by kernel_rfl
  c0 := by kernel_rfl
  c2 := by kernel_rfl
  c3 := by kernel_rfl
  c4 := by kernel_rfl
  c5 := by kernel_rfl
  c9 := by kernel_rfl
  c21 := by kernel_rfl
  c37 := by kernel_rfl
  c46 := by kernel_rfl
  c53 := by kernel_rfl
  c75 := by kernel_rfl
  c80 := by kernel_rfl
  c167 := by kernel_rfl
  c175 := by kernel_rfl }
def Tryd.laysSS_ren : Go.Shelf.Ren := ⟨fun | 6 => 51 | 15 => 73 | 14 => 72 | 28 => 96 | 29 => 76 | 20 => 88 | 21 => 89 | 22 => 90 | 23 => 91 | 24 => 92 | 25 => 93 | 26 => 94 | 27 => 95 | 46 => 100 | 47 => 101 | 48 => 102 | 49 => 103 | 50 => 104 | 57 => 105 | n => n, fun | 22 => 22 | 24 => 38 | 25 => 77 | 3 => 3 | 39 => 93 | 0 => 0 | 53 => 105 | 55 => 80 | 4 => 4 | 46 => 118 | 45 => 117 | 50 => 122 | 5 => 5 | 9 => 9 | 66 => 132 | 70 => 136 | 76 => 140 | 77 => 141 | n => n, fun | n => n⟩
theorem Tryd.laysSS : Go.Proofs.SlLaysF0.n6 Tryd.prog Tryd.laysSS_ren := {
  mixed := by kernel_rfl
  f6 := ⟨Tryd.f51.name, by decide, Tryd.func51.trans (congrArg some (by kernel_rfl))⟩
  f14 := ⟨Tryd.f72.name, by decide, Tryd.func72.trans (congrArg some (by kernel_rfl))⟩
  f15 := Tryd.func73.trans (congrArg some (by kernel_rfl))
  f20 := ⟨Tryd.f88.name, by decide, Tryd.func88.trans (congrArg some (by kernel_rfl))⟩
  f21 := ⟨Tryd.f89.name, by decide, Tryd.func89.trans (congrArg some (by kernel_rfl))⟩
  f22 := ⟨Tryd.f90.name, by decide, Tryd.func90.trans (congrArg some (by kernel_rfl))⟩
  f23 := ⟨Tryd.f91.name, by decide, Tryd.func91.trans (congrArg some (by kernel_rfl))⟩
  f24 := ⟨Tryd.f92.name, by decide, Tryd.func92.trans (congrArg some (by kernel_rfl))⟩
  f25 := ⟨Tryd.f93.name, by decide, Tryd.func93.trans (congrArg some (by kernel_rfl))⟩
  f26 := ⟨Tryd.f94.name, by decide, Tryd.func94.trans (congrArg some (by kernel_rfl))⟩
  f27 := ⟨Tryd.f95.name, by decide, Tryd.func95.trans (congrArg some (by kernel_rfl))⟩
  f28 := Tryd.func96.trans (congrArg some (by kernel_rfl))
  f29 := Tryd.func76.trans (congrArg some (by kernel_rfl))
  f46 := ⟨Tryd.f100.name, by decide, Tryd.func100.trans (congrArg some (by kernel_rfl))⟩
  f47 := Tryd.func101.trans (congrArg some (by kernel_rfl))
  f48 := Tryd.func102.trans (congrArg some (by kernel_rfl))
  f49 := ⟨Tryd.f103.name, by decide, Tryd.func103.trans (congrArg some (by kernel_rfl))⟩
  f50 := ⟨Tryd.f104.name, by decide, Tryd.func104.trans (congrArg some (by kernel_rfl))⟩
  f57 := ⟨Tryd.f105.name, by decide, Tryd.func105.trans (congrArg some (by kernel_rfl))⟩
  t0 := Tryd.underlying0
  a0 := Tryd.isAgg0
  z0 := Tryd.sizeOf0
  v0 := Tryd.zeroValue0
  t3 := Tryd.underlying3
  a3 := Tryd.isAgg3
  z3 := Tryd.sizeOf3
  v3 := Tryd.zeroValue3
  t4 := Tryd.underlying4
  a4 := Tryd.isAgg4
  z4 := Tryd.sizeOf4
  v4 := Tryd.zeroValue4
  t5 := Tryd.underlying5
  a5 := Tryd.isAgg5
  z5 := Tryd.sizeOf5
  v5 := Tryd.zeroValue5
  t9 := Tryd.underlying9
  a9 := Tryd.isAgg9
  z9 := Tryd.sizeOf9
  v9 := Tryd.zeroValue9
  t22 := Tryd.underlying22
  a22 := Tryd.isAgg22
  z22 := Tryd.sizeOf22
  v22 := Tryd.zeroValue22
  t25 := Tryd.underlying77
  a25 := Tryd.isAgg77
  z25 := Tryd.sizeOf77
  v25 := Tryd.zeroValue77
  t39 := Tryd.underlying93
  a39 := Tryd.isAgg93
  z39 := Tryd.sizeOf93
  v39 := Tryd.zeroValue93
  t45 := Tryd.underlying117
  a45 := Tryd.isAgg117
  z45 := Tryd.sizeOf117
  v45 := Tryd.zeroValue117
  t46 := Tryd.underlying118
  a46 := Tryd.isAgg118
  z46 := Tryd.sizeOf118
  v46 := Tryd.zeroValue118
  t50 := Tryd.underlying122
  a50 := Tryd.isAgg122
  z50 := Tryd.sizeOf122
  v50 := Tryd.zeroValue122
  t53 := Tryd.underlying105
  a53 := Tryd.isAgg105
  z53 := Tryd.sizeOf105
  v53 := Tryd.zeroValue105
  t55 := Tryd.underlying80
  a55 := Tryd.isAgg80
  z55 := Tryd.sizeOf80
  v55 := Tryd.zeroValue80
  t66 := Tryd.underlying132
  a66 := Tryd.isAgg132
  z66 := Tryd.sizeOf132
  v66 := Tryd.zeroValue132
  t70 := Tryd.underlying136
  a70 := Tryd.isAgg136
  z70 := Tryd.sizeOf136
  v70 := Tryd.zeroValue136
  t76 := Tryd.underlying140
  a76 := Tryd.isAgg140
  z76 := Tryd.sizeOf140
  v76 := Tryd.zeroValue140
  t77 := Tryd.underlying141
  a77 := Tryd.isAgg141
  z77 := Tryd.sizeOf141
  v77 := Tryd.zeroValue141 }
end Go.Proofs

namespace Go.Proofs
structure Sp where
  f : Int
  t : Int
theorem Sp.ext' {a b : Sp} (h1 : a.f = b.f) (h2 : a.t = b.t) : a = b := by
  obtain ⟨a, b⟩ := a; simp only at h1 h2; subst h1; subst h2; rfl
def inS (l : List Sp) (x : Int) : Prop := ∃ s, s ∈ l ∧ s.f ≤ x ∧ x < s.t
def neS (l : List Sp) : Prop := ∀ s, s ∈ l → s.f < s.t
def SetP (l : List Sp) : Prop := neS l ∧ l.Pairwise (fun a b => a.t < b.f)
theorem inS_nil (x : Int) : ¬ inS [] x := fun ⟨_, h, _⟩ => by simp at h
theorem inS_cons (s : Sp) (l : List Sp) (x : Int) : inS (s :: l) x ↔ (s.f ≤ x ∧ x < s.t) ∨ inS l x := by
  constructor
  · rintro ⟨r, hr, h⟩
    rcases List.mem_cons.1 hr with rfl | hr
    · exact .inl h
    · exact .inr ⟨r, hr, h⟩
  · rintro (h | ⟨r, hr, h⟩)
    · exact ⟨s, List.mem_cons_self, h⟩
    · exact ⟨r, List.mem_cons_of_mem _ hr, h⟩
theorem inS_append (a b : List Sp) (x : Int) : inS (a ++ b) x ↔ inS a x ∨ inS b x := by
  induction a with
  | nil => simp [inS_nil]
  | cons s a ih => rw [List.cons_append, inS_cons, inS_cons, ih, or_assoc]
theorem inS_perm {a b : List Sp} (h : a.Perm b) (x : Int) : inS a x ↔ inS b x :=
  ⟨fun ⟨s, hs, e⟩ => ⟨s, h.mem_iff.1 hs, e⟩, fun ⟨s, hs, e⟩ => ⟨s, h.mem_iff.2 hs, e⟩⟩
theorem SetP.nil : SetP [] := ⟨fun _ h => by simp at h, List.Pairwise.nil⟩
theorem setP_cons {s : Sp} {l : List Sp} : SetP (s :: l) ↔ s.f < s.t ∧ (∀ r, r ∈ l → s.t < r.f) ∧ SetP l := by
  constructor
  · rintro ⟨h1, h2⟩
    exact ⟨h1 s List.mem_cons_self, (List.pairwise_cons.1 h2).1, fun r hr => h1 r (List.mem_cons_of_mem _ hr), (List.pairwise_cons.1 h2).2⟩
  · rintro ⟨h1, h2, h3, h4⟩
    refine ⟨fun r hr => ?_, List.pairwise_cons.2 ⟨h2, h4⟩⟩
    rcases List.mem_cons.1 hr with rfl | hr
    · exact h1
    · exact h3 r hr
theorem setP_append {a b : List Sp} (ha : SetP a) (hb : SetP b) (h : ∀ s, s ∈ a → ∀ r, r ∈ b → s.t < r.f) : SetP (a ++ b) :=
  ⟨fun s hs => by rcases List.mem_append.1 hs with h | h; exact ha.1 s h; exact hb.1 s h, List.pairwise_append.2 ⟨ha.2, hb.2, h⟩⟩
theorem setP_one {s : Sp} (h : s.f < s.t) : SetP [s] := setP_cons.2 ⟨h, fun _ h => by simp at h, .nil⟩
theorem set_ext : ∀ {a b : List Sp}, SetP a → SetP b → (∀ x, inS a x ↔ inS b x) → a = b
  | [], [], _, _, _ => rfl
  | [], r :: b, _, hb, h => absurd ((h r.f).2 ((inS_cons _ _ _).2 (.inl ⟨Int.le_refl _, (setP_cons.1 hb).1⟩))) (inS_nil _)
  | s :: a, [], ha, _, h => absurd ((h s.f).1 ((inS_cons _ _ _).2 (.inl ⟨Int.le_refl _, (setP_cons.1 ha).1⟩))) (inS_nil _)
  | s :: a, r :: b, ha, hb, h => by
    obtain ⟨a1, a2, a3⟩ := setP_cons.1 ha
    obtain ⟨b1, b2, b3⟩ := setP_cons.1 hb
    have lo1 : r.f ≤ s.f := by
      rcases (inS_cons _ _ _).1 ((h s.f).1 ((inS_cons _ _ _).2 (.inl ⟨Int.le_refl _, a1⟩))) with e | ⟨u, hu, e⟩
      · exact e.1
      · have := b2 u hu; omega
    have lo2 : s.f ≤ r.f := by
      rcases (inS_cons _ _ _).1 ((h r.f).2 ((inS_cons _ _ _).2 (.inl ⟨Int.le_refl _, b1⟩))) with e | ⟨u, hu, e⟩
      · exact e.1
      · have := a2 u hu; omega
    have hi1 : r.t ≤ s.t := by
      rcases Int.lt_or_le s.t r.t with g | g
      · rcases (inS_cons _ _ _).1 ((h s.t).2 ((inS_cons _ _ _).2 (.inl ⟨by omega, g⟩))) with e | ⟨u, hu, e⟩
        · omega
        · have := a2 u hu; omega
      · exact g
    have hi2 : s.t ≤ r.t := by
      rcases Int.lt_or_le r.t s.t with g | g
      · rcases (inS_cons _ _ _).1 ((h r.t).1 ((inS_cons _ _ _).2 (.inl ⟨by omega, g⟩))) with e | ⟨u, hu, e⟩
        · omega
        · have := b2 u hu; omega
      · exact g
    have e : s = r := Sp.ext' (by omega) (by omega)
    subst e
    congr 1
    refine set_ext a3 b3 fun x => ⟨fun hx => ?_, fun hx => ?_⟩
    · rcases (inS_cons _ _ _).1 ((h x).1 ((inS_cons _ _ _).2 (.inr hx))) with e | e
      · obtain ⟨u, hu, e2⟩ := hx; have := a2 u hu; omega
      · exact e
    · rcases (inS_cons _ _ _).1 ((h x).2 ((inS_cons _ _ _).2 (.inr hx))) with e | e
      · obtain ⟨u, hu, e2⟩ := hx; have := b2 u hu; omega
      · exact e
theorem set_empty {a : List Sp} (ha : SetP a) (h : ∀ x, ¬ inS a x) : a = [] := set_ext ha .nil fun x => ⟨fun e => absurd e (h x), fun e => absurd e (inS_nil x)⟩
def SetI (l : List Sp) : Prop := ∀ (i : Nat) (h : i < l.length), l[i].f < l[i].t ∧ ∀ h0 : 0 < i, (l[i - 1]'(by omega)).t < l[i].f
theorem setI_iff (l : List Sp) : SetI l ↔ SetP l := by
  constructor
  · intro h
    refine ⟨fun s hs => ?_, List.pairwise_iff_getElem.2 ?_⟩
    · obtain ⟨i, hi, rfl⟩ := List.getElem_of_mem hs
      exact (h i hi).1
    · intro i j hi hj hij
      induction j with
      | zero => omega
      | succ j ih =>
        have h1 := (h (j + 1) hj).2 (by omega)
        simp only [Nat.add_sub_cancel] at h1
        rcases Nat.lt_or_ge i j with g | g
        · have h2 := ih (by omega) g
          have h3 := (h j (by omega)).1
          omega
        · have e : i = j := by omega
          subst e; exact h1
  · rintro ⟨h1, h2⟩ i hi
    exact ⟨h1 _ (List.getElem_mem _), fun h0 => List.pairwise_iff_getElem.1 h2 (i - 1) i (by omega) hi (by omega)⟩
def jn (out : List Sp) (s : Sp) : List Sp :=
  match out.getLast? with
  | none => out ++ [s]
  | some p => if s.f ≤ p.t then out.dropLast ++ [⟨p.f, max p.t s.t⟩] else out ++ [s]
def J (m : List Sp) : List Sp := m.foldl jn []
theorem jn_nil (s : Sp) : jn [] s = [s] := rfl
theorem jn_snoc (o : List Sp) (p s : Sp) : jn (o ++ [p]) s = if s.f ≤ p.t then o ++ [⟨p.f, max p.t s.t⟩] else o ++ [p] ++ [s] := by
  unfold jn; rw [List.getLast?_concat]; simp only [List.dropLast_concat]
theorem J_snoc (m : List Sp) (s : Sp) : J (m ++ [s]) = jn (J m) s := by unfold J; rw [List.foldl_append]; rfl
theorem snoc_cases {α : Type} (l : List α) : l = [] ∨ ∃ m x, l = m ++ [x] := by
  rcases List.eq_nil_or_concat l with h | ⟨m, x, h⟩
  · exact .inl h
  · exact .inr ⟨m, x, by rw [h, List.concat_eq_append]⟩
theorem snoc_ind {α : Type} {p : List α → Prop} (h0 : p []) (h1 : ∀ m x, p m → p (m ++ [x])) : ∀ l, p l := fun l => by
  have : ∀ (n : Nat) (l : List α), l.length = n → p l := fun n => by
    induction n with
    | zero => intro l hl; rw [List.length_eq_zero_iff.1 hl]; exact h0
    | succ n ih =>
      intro l hl
      rcases snoc_cases l with rfl | ⟨m, x, rfl⟩
      · exact h0
      · exact h1 m x (ih m (by simpa using hl))
  exact this _ l rfl
theorem setP_snoc {o : List Sp} {p : Sp} : SetP (o ++ [p]) ↔ SetP o ∧ p.f < p.t ∧ ∀ s, s ∈ o → s.t < p.f := by
  constructor
  · rintro ⟨h1, h2⟩
    obtain ⟨g1, g2, g3⟩ := List.pairwise_append.1 h2
    exact ⟨⟨fun s hs => h1 s (List.mem_append_left _ hs), g1⟩, h1 p (by simp), fun s hs => g3 s hs p (by simp)⟩
  · rintro ⟨h1, h2, h3⟩
    exact setP_append h1 (setP_one h2) fun s hs r hr => by rw [List.mem_singleton.1 hr]; exact h3 s hs
theorem inS_one (p : Sp) (x : Int) : inS [p] x ↔ p.f ≤ x ∧ x < p.t := by
  rw [inS_cons]; exact ⟨fun h => by rcases h with h | h; exact h; exact absurd h (inS_nil x), .inl⟩
theorem J_ok : ∀ m : List Sp, neS m → m.Pairwise (fun a b => a.f ≤ b.f) → SetP (J m) ∧ (∀ x, inS (J m) x ↔ inS m x) ∧ ∀ p, (J m).getLast? = some p → ∃ s, s ∈ m ∧ p.f = s.f := by
  refine snoc_ind ?_ ?_
  · intro _ _; exact ⟨.nil, fun x => Iff.rfl, fun p h => by simp [J] at h⟩
  · intro m s ih hn hp
    obtain ⟨g1, _, g3⟩ := List.pairwise_append.1 hp
    obtain ⟨i1, i2, i3⟩ := ih (fun r hr => hn r (List.mem_append_left _ hr)) g1
    have hs : s.f < s.t := hn s (by simp)
    rw [J_snoc]
    rcases snoc_cases (J m) with e | ⟨o, p, e⟩
    · rw [e, jn_nil]
      refine ⟨setP_one hs, fun x => ?_, fun p h => ?_⟩
      · rw [inS_append, ← i2 x, e]; exact ⟨.inr, fun h => by rcases h with h | h; exact absurd h (inS_nil x); exact h⟩
      · simp at h; subst h; exact ⟨s, by simp, rfl⟩
    · rw [e] at i1 i2 i3
      obtain ⟨k1, k2, k3⟩ := setP_snoc.1 i1
      obtain ⟨q, hq, hqf⟩ := i3 p (by simp)
      have hle : p.f ≤ s.f := by rw [hqf]; exact g3 q hq s (by simp)
      rw [e, jn_snoc]
      by_cases h : s.f ≤ p.t
      · rw [if_pos h]
        refine ⟨setP_snoc.2 ⟨k1, by show p.f < max p.t s.t; omega, k3⟩, fun x => ?_, fun r hr => ?_⟩
        · rw [inS_append, inS_one, inS_append, inS_one, ← i2 x, inS_append, inS_one]
          simp only []
          constructor
          · rintro (h1 | h1)
            · exact .inl (.inl h1)
            · by_cases h2 : x < p.t
              · exact .inl (.inr ⟨h1.1, h2⟩)
              · exact .inr (by omega)
          · rintro ((h1 | h1) | h1)
            · exact .inl h1
            · exact .inr (by omega)
            · exact .inr (by omega)
        · simp at hr; subst hr; exact ⟨q, List.mem_append_left _ hq, hqf⟩
      · rw [if_neg h]
        refine ⟨setP_snoc.2 ⟨i1, hs, fun r hr => ?_⟩, fun x => ?_, fun r hr => ?_⟩
        · rcases List.mem_append.1 hr with h1 | h1
          · have := k3 r h1; omega
          · rw [List.mem_singleton.1 h1]; omega
        · rw [inS_append, inS_append m, ← i2 x]
        · simp at hr; subst hr; exact ⟨s, by simp, rfl⟩
abbrev loT : Int := -9223372036854775808
abbrev hiT : Int := 9223372036854775807
def rngS (l : List Sp) : Prop := ∀ s, s ∈ l → (loT ≤ s.f ∧ s.f ≤ hiT) ∧ loT ≤ s.t ∧ s.t ≤ hiT
end Go.Proofs
