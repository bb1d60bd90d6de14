/- Contracts of numbers' texts: FormatInt, ParseInt. -/
import Derived.Test.YtaphfieahcimcaaGreatDoorZQT1
import Derived.Test.YtaphfieahcimcaaGreatDoorOps19
import Derived.Shelf.Strconv.Itoa4
import Derived.Shelf.Strconv.ParseInt10All
import Derived.Lib.BufferWrite
import Derived.Lib.Hide
import Derived.Laws.MakeOwn
namespace Go.Proofs
open Go.AL
open Go.Shelf Go.RowKit

def Tryz.lays173_ren : Go.Shelf.Ren := ⟨fun | 173 => 33 | 246 => 57 | 283 => 70 | 284 => 71 | 285 => 72 | 286 => 73 | 129 => 81 | 317 => 80 | 318 => 82 | 319 => 83 | 320 => 84 | 337 => 89 | 338 => 90 | n => n, fun | 2 => 2 | 3 => 3 | 9 => 9 | 4 => 4 | 171 => 95 | 0 => 0 | 53 => 96 | 37 => 55 | 5 => 5 | 173 => 99 | 212 => 110 | 51 => 111 | 20 => 20 | 213 => 112 | 46 => 83 | 232 => 124 | 233 => 125 | n => n, fun | 17 => 1 | 18 => 2 | 19 => 3 | n => n⟩
theorem Tryz.lays173 : Go.Proofs.LaysM.n173 Tryz.prog Tryz.lays173_ren := {
  mixed := by kernel_rfl
  f129 := Tryz.func81.trans (congrArg some (by kernel_rfl))
  f173 := Tryz.func33.trans (congrArg some (by kernel_rfl))
  f246 := Tryz.func57.trans (congrArg some (by kernel_rfl))
  f283 := Tryz.func70.trans (congrArg some (by kernel_rfl))
  f284 := Tryz.func71.trans (congrArg some (by kernel_rfl))
  f285 := Tryz.func72.trans (congrArg some (by kernel_rfl))
  f286 := Tryz.func73.trans (congrArg some (by kernel_rfl))
  f317 := Tryz.func80.trans (congrArg some (by kernel_rfl))
  f318 := Tryz.func82.trans (congrArg some (by kernel_rfl))
  f319 := Tryz.func83.trans (congrArg some (by kernel_rfl))
  f320 := Tryz.func84.trans (congrArg some (by kernel_rfl))
  f337 := Tryz.func89.trans (congrArg some (by kernel_rfl))
  f338 := Tryz.func90.trans (congrArg some (by kernel_rfl))
  t0 := Tryz.underlying0
  a0 := Tryz.isAgg0
  z0 := Tryz.sizeOf0
  v0 := Tryz.zeroValue0
  t2 := Tryz.underlying2
  a2 := Tryz.isAgg2
  z2 := Tryz.sizeOf2
  v2 := Tryz.zeroValue2
  t3 := Tryz.underlying3
  a3 := Tryz.isAgg3
  z3 := Tryz.sizeOf3
  v3 := Tryz.zeroValue3
  t4 := Tryz.underlying4
  a4 := Tryz.isAgg4
  z4 := Tryz.sizeOf4
  v4 := Tryz.zeroValue4
  t5 := Tryz.underlying5
  a5 := Tryz.isAgg5
  z5 := Tryz.sizeOf5
  v5 := Tryz.zeroValue5
  t9 := Tryz.underlying9
  a9 := Tryz.isAgg9
  z9 := Tryz.sizeOf9
  v9 := Tryz.zeroValue9
  t20 := Tryz.underlying20
  a20 := Tryz.isAgg20
  z20 := Tryz.sizeOf20
  v20 := Tryz.zeroValue20
  t37 := Tryz.underlying55
  a37 := Tryz.isAgg55
  z37 := Tryz.sizeOf55
  v37 := Tryz.zeroValue55
  t46 := Tryz.underlying83
  a46 := Tryz.isAgg83
  z46 := Tryz.sizeOf83
  v46 := Tryz.zeroValue83
  t51 := Tryz.underlying111
  a51 := Tryz.isAgg111
  z51 := Tryz.sizeOf111
  v51 := Tryz.zeroValue111
  t53 := Tryz.underlying96
  a53 := Tryz.isAgg96
  z53 := Tryz.sizeOf96
  v53 := Tryz.zeroValue96
  t171 := Tryz.underlying95
  a171 := Tryz.isAgg95
  z171 := Tryz.sizeOf95
  v171 := Tryz.zeroValue95
  t173 := Tryz.underlying99
  a173 := Tryz.isAgg99
  z173 := Tryz.sizeOf99
  v173 := Tryz.zeroValue99
  t212 := Tryz.underlying110
  a212 := Tryz.isAgg110
  z212 := Tryz.sizeOf110
  v212 := Tryz.zeroValue110
  t213 := Tryz.underlying112
  a213 := Tryz.isAgg112
  z213 := Tryz.sizeOf112
  t232 := Tryz.underlying124
  a232 := Tryz.isAgg124
  z232 := Tryz.sizeOf124
  v232 := Tryz.zeroValue124
  t233 := Tryz.underlying125
  a233 := Tryz.isAgg125
  z233 := Tryz.sizeOf125
  v233 := Tryz.zeroValue125
  g17 := by kernel_rfl
  g18 := by kernel_rfl
  g19 := by kernel_rfl
  i0 := by kernel_rfl
  i2 := by kernel_rfl
  i3 := by kernel_rfl
  i4 := by kernel_rfl
  i5 := by kernel_rfl
  i9 := by kernel_rfl
  i20 := by kernel_rfl
  i37 := by kernel_rfl
  i46 := by kernel_rfl
  i51 := by kernel_rfl
  i53 := by kernel_rfl
  i171 := by kernel_rfl
  i173 := by kernel_rfl
  i212 := by kernel_rfl
  i232 := by kernel_rfl
  i233 := by kernel_rfl
  m17 := by kernel_rfl
  m18 := by kernel_rfl
  m19 := by kernel_rfl }
def Tryz.lays247_ren : Go.Shelf.Ren := ⟨fun | 247 => 85 | 287 => 91 | 321 => 97 | 322 => 98 | n => n, fun | 9 => 9 | 3 => 3 | 2 => 2 | 75 => 61 | 4 => 4 | 167 => 118 | 5 => 5 | 53 => 96 | 175 => 119 | 46 => 83 | 37 => 55 | 0 => 0 | 21 => 21 | 80 => 66 | n => n, fun | n => n⟩
theorem Tryz.lays247 : Go.Proofs.LaysC.n247 Tryz.prog Tryz.lays247_ren := {
  mixed := by kernel_rfl
  f247 := Tryz.func85.trans (congrArg some (by kernel_rfl))
  f287 := Tryz.func91.trans (congrArg some (by kernel_rfl))
  f321 := Tryz.func97.trans (congrArg some (by kernel_rfl))
  f322 := Tryz.func98.trans (congrArg some (by kernel_rfl))
  t0 := Tryz.underlying0
  a0 := Tryz.isAgg0
  z0 := Tryz.sizeOf0
  v0 := Tryz.zeroValue0
  t2 := Tryz.underlying2
  a2 := Tryz.isAgg2
  z2 := Tryz.sizeOf2
  v2 := Tryz.zeroValue2
  t3 := Tryz.underlying3
  a3 := Tryz.isAgg3
  z3 := Tryz.sizeOf3
  v3 := Tryz.zeroValue3
  t4 := Tryz.underlying4
  a4 := Tryz.isAgg4
  z4 := Tryz.sizeOf4
  v4 := Tryz.zeroValue4
  t5 := Tryz.underlying5
  a5 := Tryz.isAgg5
  z5 := Tryz.sizeOf5
  v5 := Tryz.zeroValue5
  t9 := Tryz.underlying9
  a9 := Tryz.isAgg9
  z9 := Tryz.sizeOf9
  v9 := Tryz.zeroValue9
  t21 := Tryz.underlying21
  a21 := Tryz.isAgg21
  z21 := Tryz.sizeOf21
  v21 := Tryz.zeroValue21
  t37 := Tryz.underlying55
  a37 := Tryz.isAgg55
  z37 := Tryz.sizeOf55
  v37 := Tryz.zeroValue55
  t46 := Tryz.underlying83
  a46 := Tryz.isAgg83
  z46 := Tryz.sizeOf83
  v46 := Tryz.zeroValue83
  t53 := Tryz.underlying96
  a53 := Tryz.isAgg96
  z53 := Tryz.sizeOf96
  v53 := Tryz.zeroValue96
  t75 := Tryz.underlying61
  a75 := Tryz.isAgg61
  z75 := Tryz.sizeOf61
  v75 := Tryz.zeroValue61
  t167 := Tryz.underlying118
  a167 := Tryz.isAgg118
  z167 := Tryz.sizeOf118
  v167 := Tryz.zeroValue118
  t175 := Tryz.underlying119
  a175 := Tryz.isAgg119
  z175 := Tryz.sizeOf119
  v175 := Tryz.zeroValue119
  t80 := Tryz.underlying66
  a80 := Tryz.isAgg66
  z80 := Tryz.sizeOf66
  v80 := Tryz.zeroValue66
  i0 := by kernel_rfl
  i2 := by kernel_rfl
  i3 := by kernel_rfl
  i4 := by kernel_rfl
  i5 := by kernel_rfl
  i9 := by kernel_rfl
  i21 := by kernel_rfl
  i37 := by kernel_rfl
  i46 := by kernel_rfl
  i53 := by kernel_rfl
  i75 := by kernel_rfl
  i80 := by kernel_rfl
  i167 := by kernel_rfl
  i175 := by kernel_rfl
  c0 := by kernel_rfl
  c2 := by kernel_rfl
  c3 := by kernel_rfl
  c4 := by kernel_rfl
  c5 := by kernel_rfl
  c9 := by kernel_rfl
  c21 := by kernel_rfl
  c37 := by kernel_rfl
  c46 := by kernel_rfl
  c53 := by kernel_rfl
  c75 := by kernel_rfl
  c80 := by kernel_rfl
  c167 := by kernel_rfl
  c175 := by kernel_rfl }



/-- The table of powers of ten is laid. -/
def PowOK [GlobF Tryz.prog] : Prop := ∃ t fz, GlobF.o Tryz.prog 1 = some (.cells (Lib.pow10Tab.map (Value.int .u64)).toArray t fz)
/-- The two errors are laid. -/
def ErrsOK [GlobF Tryz.prog] : Prop := ∃ t1 u1 t2 u2, GlobF.f Tryz.prog 4 0 = some (.iface t1 u1) ∧ GlobF.f Tryz.prog 5 0 = some (.iface t2 u2)

theorem grown_grow (w : World) (k : Nat) (os : Array Obj) : AL.Grown w (Go.Sort.grow (w.drewN k) os) :=
  ⟨rfl, rfl, rfl, Nat.le_add_right _ _, by show w.heap.size ≤ (w.heap ++ os).size; simp, fun b hb => by show (w.heap ++ os)[b]? = _; exact Array.getElem?_append_left hb⟩

theorem fmt_pc [GlobF Tryz.prog] (hp : PowOK) (n : Int) (h0 : -9223372036854775808 ≤ n) (h1 : n ≤ 9223372036854775807) : PC Tryz.prog 33 [.sc (.int .i64 n), .sc (.int .i64 10)] (str (Lib.itoa n)) := by
  obtain ⟨t, fz, hg⟩ := hp
  refine PC.of_grown (us := [.int .i64 n, .int .i64 10]) (enters_of Tryz.func33 (by kernel_rfl) rfl) fun w _ hgo => ?_
  have htab : Lib.TabIs Tryz.prog w "internal/strconv.uint64pow10" .u64 Lib.pow10Tab := by
    unfold Lib.TabIs World.var?
    rw [show Tryz.prog.globalNamed "internal/strconv.uint64pow10" = some 1 by kernel_rfl]
    simp only [Option.bind_some]
    rw [hgo _ _ hg]
  exact (Any.strconv_FormatInt_10 Tryz.lays173 n h0 h1 w htab).mono fun e w' ⟨h1, k, os, h2⟩ => ⟨h1, h2 ▸ grown_grow w k os⟩

theorem grown_bytes {w w' : World} {T : TypeId} {s : ByteArray} (h : w' = w ∨ ∃ t, w' = Lib.bytesWorld w T t) : AL.Grown w w' := by
  rcases h with rfl | ⟨t, rfl⟩
  · exact ⟨rfl, rfl, rfl, Nat.le_refl _, Nat.le_refl _, fun _ _ => rfl⟩
  · have hf : ∀ (w0 : World) (a : Addr) (n : Nat), (w0.freeze a n).tape = w0.tape ∧ (w0.freeze a n).os = w0.os ∧ (w0.freeze a n).output = w0.output ∧ (w0.freeze a n).drawn = w0.drawn ∧ (w0.freeze a n).heap.size = w0.heap.size ∧ ∀ b, b ≠ a.block → (w0.freeze a n).heap[b]? = w0.heap[b]? := fun w0 a n => by
      unfold World.freeze
      split
      · exact ⟨rfl, rfl, rfl, rfl, rfl, fun _ _ => rfl⟩
      · refine ⟨rfl, rfl, rfl, rfl, by show (w0.heap.modify _ _).size = _; simp, fun b hb => ?_⟩
        show (w0.heap.modify a.block _)[b]? = _
        simp [Array.getElem?_modify, Ne.symm hb]
    unfold Lib.bytesWorld
    obtain ⟨h1, h2, h3, h4, h5, h6⟩ := hf (w.drew.alloc (.cells (Lib.bytesCells w T t) T)) ⟨w.heap.size, (Lib.bytesCells w T t).size, none⟩ 1
    refine ⟨h1, h2, h3, by rw [h4]; exact Nat.le_succ _, by rw [h5]; show w.heap.size ≤ (w.heap.push _).size; simp, fun b hb => ?_⟩
    rw [h6 b (by show b ≠ w.heap.size; omega)]
    exact Lib.alloc_old w.drew _ b hb

theorem iparse_ac [GlobF Tryz.prog] (s : List UInt8) (hs : s.length < 281474976710656) (h : List AObj) : AC Tryz.prog 85 [str s, .sc (.int .i64 10), .sc (.int .i64 64)] h (fun v h' => h' = h ∧ ∃ a b, Value.tuple #[a, b] = Lib.intTuple 118 (Lib.intSat 64 s) (Lib.parseIntB 64 s) ∧ v = .tu [.sc a, .sc b]) := by
  refine AC.of_grown2 (us := [.string ⟨s.toArray⟩, .int .i64 10, .int .i64 64]) (enters_of Tryz.func85 (by kernel_rfl) rfl) fun w _ _ => ?_
  refine (Any.internal_strconv_ParseInt_10_all64 Tryz.lays247 ⟨s.toArray⟩ (by show s.toArray.size ≤ _; simp; omega) w).mono ?_
  rintro e w' ⟨rfl, hw⟩
  rcases hpi : Lib.parseIntB 64 s with n | _ | _
  · exact ⟨.int .i64 n, .nilIface, rfl, by simp [Lib.intTuple], grown_bytes (s := ⟨s.toArray⟩) hw⟩
  · exact ⟨.int .i64 0, .iface 118 (.int .i64 2), rfl, by simp [Lib.intTuple]; rfl, grown_bytes (s := ⟨s.toArray⟩) hw⟩
  · exact ⟨.int .i64 (Lib.intSat 64 s), .iface 118 (.int .i64 1), rfl, by simp [Lib.intTuple]; rfl, grown_bytes (s := ⟨s.toArray⟩) hw⟩
end Go.Proofs
