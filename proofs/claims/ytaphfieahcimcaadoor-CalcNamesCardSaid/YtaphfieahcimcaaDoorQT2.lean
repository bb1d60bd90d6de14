/- Contracts of numbers' texts: FormatInt, ParseInt. -/
import Derived.Test.YtaphfieahcimcaaDoorQT1
import Derived.Test.YtaphfieahcimcaaDoorOps19
import Derived.Shelf.Strconv.Itoa4
import Derived.Shelf.Strconv.ParseInt10All
import Derived.Lib.BufferWrite
import Derived.Lib.Hide
import Derived.Laws.MakeOwn
namespace Go.Proofs
open Go.AL
open Go.Shelf Go.RowKit

def Tryd.lays173_ren : Go.Shelf.Ren := ⟨fun | 173 => 57 | 246 => 86 | 283 => 105 | 284 => 106 | 285 => 107 | 286 => 108 | 129 => 83 | 317 => 116 | 318 => 117 | 319 => 118 | 320 => 119 | 337 => 123 | 338 => 124 | n => n, fun | 2 => 2 | 3 => 3 | 9 => 9 | 4 => 4 | 171 => 131 | 0 => 0 | 53 => 109 | 37 => 78 | 5 => 5 | 173 => 133 | 212 => 146 | 51 => 107 | 20 => 20 | 213 => 147 | 46 => 75 | 232 => 159 | 233 => 160 | n => n, fun | 17 => 1 | 18 => 4 | 19 => 5 | n => n⟩
theorem Tryd.lays173 : Go.Proofs.LaysM.n173 Tryd.prog Tryd.lays173_ren := {
  mixed := by kernel_rfl
  f129 := Tryd.func83.trans (congrArg some (by kernel_rfl))
  f173 := Tryd.func57.trans (congrArg some (by kernel_rfl))
  f246 := Tryd.func86.trans (congrArg some (by kernel_rfl))
  f283 := Tryd.func105.trans (congrArg some (by kernel_rfl))
  f284 := Tryd.func106.trans (congrArg some (by kernel_rfl))
  f285 := Tryd.func107.trans (congrArg some (by kernel_rfl))
  f286 := Tryd.func108.trans (congrArg some (by kernel_rfl))
  f317 := Tryd.func116.trans (congrArg some (by kernel_rfl))
  f318 := Tryd.func117.trans (congrArg some (by kernel_rfl))
  f319 := Tryd.func118.trans (congrArg some (by kernel_rfl))
  f320 := Tryd.func119.trans (congrArg some (by kernel_rfl))
  f337 := Tryd.func123.trans (congrArg some (by kernel_rfl))
  f338 := Tryd.func124.trans (congrArg some (by kernel_rfl))
  t0 := Tryd.underlying0
  a0 := Tryd.isAgg0
  z0 := Tryd.sizeOf0
  v0 := Tryd.zeroValue0
  t2 := Tryd.underlying2
  a2 := Tryd.isAgg2
  z2 := Tryd.sizeOf2
  v2 := Tryd.zeroValue2
  t3 := Tryd.underlying3
  a3 := Tryd.isAgg3
  z3 := Tryd.sizeOf3
  v3 := Tryd.zeroValue3
  t4 := Tryd.underlying4
  a4 := Tryd.isAgg4
  z4 := Tryd.sizeOf4
  v4 := Tryd.zeroValue4
  t5 := Tryd.underlying5
  a5 := Tryd.isAgg5
  z5 := Tryd.sizeOf5
  v5 := Tryd.zeroValue5
  t9 := Tryd.underlying9
  a9 := Tryd.isAgg9
  z9 := Tryd.sizeOf9
  v9 := Tryd.zeroValue9
  t20 := Tryd.underlying20
  a20 := Tryd.isAgg20
  z20 := Tryd.sizeOf20
  v20 := Tryd.zeroValue20
  t37 := Tryd.underlying78
  a37 := Tryd.isAgg78
  z37 := Tryd.sizeOf78
  v37 := Tryd.zeroValue78
  t46 := Tryd.underlying75
  a46 := Tryd.isAgg75
  z46 := Tryd.sizeOf75
  v46 := Tryd.zeroValue75
  t51 := Tryd.underlying107
  a51 := Tryd.isAgg107
  z51 := Tryd.sizeOf107
  v51 := Tryd.zeroValue107
  t53 := Tryd.underlying109
  a53 := Tryd.isAgg109
  z53 := Tryd.sizeOf109
  v53 := Tryd.zeroValue109
  t171 := Tryd.underlying131
  a171 := Tryd.isAgg131
  z171 := Tryd.sizeOf131
  v171 := Tryd.zeroValue131
  t173 := Tryd.underlying133
  a173 := Tryd.isAgg133
  z173 := Tryd.sizeOf133
  v173 := Tryd.zeroValue133
  t212 := Tryd.underlying146
  a212 := Tryd.isAgg146
  z212 := Tryd.sizeOf146
  v212 := Tryd.zeroValue146
  t213 := Tryd.underlying147
  a213 := Tryd.isAgg147
  z213 := Tryd.sizeOf147
  t232 := Tryd.underlying159
  a232 := Tryd.isAgg159
  z232 := Tryd.sizeOf159
  v232 := Tryd.zeroValue159
  t233 := Tryd.underlying160
  a233 := Tryd.isAgg160
  z233 := Tryd.sizeOf160
  v233 := Tryd.zeroValue160
  g17 := by kernel_rfl
  g18 := by kernel_rfl
  g19 := by kernel_rfl
  i0 := by kernel_rfl
  i2 := by kernel_rfl
  i3 := by kernel_rfl
  i4 := by kernel_rfl
  i5 := by kernel_rfl
  i9 := by kernel_rfl
  i20 := by kernel_rfl
  i37 := by kernel_rfl
  i46 := by kernel_rfl
  i51 := by kernel_rfl
  i53 := by kernel_rfl
  i171 := by kernel_rfl
  i173 := by kernel_rfl
  i212 := by kernel_rfl
  i232 := by kernel_rfl
  i233 := by kernel_rfl
  m17 := by kernel_rfl
  m18 := by kernel_rfl
  m19 := by kernel_rfl }
def Tryd.lays247_ren : Go.Shelf.Ren := ⟨fun | 247 => 120 | 287 => 125 | 321 => 130 | 322 => 131 | n => n, fun | 9 => 9 | 3 => 3 | 2 => 2 | 75 => 84 | 4 => 4 | 167 => 153 | 5 => 5 | 53 => 109 | 175 => 154 | 46 => 75 | 37 => 78 | 0 => 0 | 21 => 21 | 80 => 89 | n => n, fun | n => n⟩
theorem Tryd.lays247 : Go.Proofs.LaysC.n247 Tryd.prog Tryd.lays247_ren := {
  mixed := by kernel_rfl
  f247 := Tryd.func120.trans (congrArg some (by kernel_rfl))
  f287 := Tryd.func125.trans (congrArg some (by kernel_rfl))
  f321 := Tryd.func130.trans (congrArg some (by kernel_rfl))
  f322 := Tryd.func131.trans (congrArg some (by kernel_rfl))
  t0 := Tryd.underlying0
  a0 := Tryd.isAgg0
  z0 := Tryd.sizeOf0
  v0 := Tryd.zeroValue0
  t2 := Tryd.underlying2
  a2 := Tryd.isAgg2
  z2 := Tryd.sizeOf2
  v2 := Tryd.zeroValue2
  t3 := Tryd.underlying3
  a3 := Tryd.isAgg3
  z3 := Tryd.sizeOf3
  v3 := Tryd.zeroValue3
  t4 := Tryd.underlying4
  a4 := Tryd.isAgg4
  z4 := Tryd.sizeOf4
  v4 := Tryd.zeroValue4
  t5 := Tryd.underlying5
  a5 := Tryd.isAgg5
  z5 := Tryd.sizeOf5
  v5 := Tryd.zeroValue5
  t9 := Tryd.underlying9
  a9 := Tryd.isAgg9
  z9 := Tryd.sizeOf9
  v9 := Tryd.zeroValue9
  t21 := Tryd.underlying21
  a21 := Tryd.isAgg21
  z21 := Tryd.sizeOf21
  v21 := Tryd.zeroValue21
  t37 := Tryd.underlying78
  a37 := Tryd.isAgg78
  z37 := Tryd.sizeOf78
  v37 := Tryd.zeroValue78
  t46 := Tryd.underlying75
  a46 := Tryd.isAgg75
  z46 := Tryd.sizeOf75
  v46 := Tryd.zeroValue75
  t53 := Tryd.underlying109
  a53 := Tryd.isAgg109
  z53 := Tryd.sizeOf109
  v53 := Tryd.zeroValue109
  t75 := Tryd.underlying84
  a75 := Tryd.isAgg84
  z75 := Tryd.sizeOf84
  v75 := Tryd.zeroValue84
  t167 := Tryd.underlying153
  a167 := Tryd.isAgg153
  z167 := Tryd.sizeOf153
  v167 := Tryd.zeroValue153
  t175 := Tryd.underlying154
  a175 := Tryd.isAgg154
  z175 := Tryd.sizeOf154
  v175 := Tryd.zeroValue154
  t80 := Tryd.underlying89
  a80 := Tryd.isAgg89
  z80 := Tryd.sizeOf89
  v80 := Tryd.zeroValue89
  i0 := by kernel_rfl
  i2 := by kernel_rfl
  i3 := by kernel_rfl
  i4 := by kernel_rfl
  i5 := by kernel_rfl
  i9 := by kernel_rfl
  i21 := by kernel_rfl
  i37 := by kernel_rfl
  i46 := by kernel_rfl
  i53 := by kernel_rfl
  i75 := by kernel_rfl
  i80 := by kernel_rfl
  i167 := by kernel_rfl
  i175 := by kernel_rfl
  c0 := by kernel_rfl
  c2 := by kernel_rfl
  c3 := by kernel_rfl
  c4 := by kernel_rfl
  c5 := by kernel_rfl
  c9 := by kernel_rfl
  c21 := by kernel_rfl
  c37 := by kernel_rfl
  c46 := by kernel_rfl
  c53 := by kernel_rfl
  c75 := by kernel_rfl
  c80 := by kernel_rfl
  c167 := by kernel_rfl
  c175 := by kernel_rfl }



/-- The table of powers of ten is laid. -/
def PowOK [GlobF Tryd.prog] : Prop := ∃ t fz, GlobF.o Tryd.prog 1 = some (.cells (Lib.pow10Tab.map (Value.int .u64)).toArray t fz)
/-- The two errors are laid. -/
def ErrsOK [GlobF Tryd.prog] : Prop := ∃ t1 u1 t2 u2, GlobF.f Tryd.prog 6 0 = some (.iface t1 u1) ∧ GlobF.f Tryd.prog 7 0 = some (.iface t2 u2)

theorem grown_grow (w : World) (k : Nat) (os : Array Obj) : AL.Grown w (Go.Sort.grow (w.drewN k) os) :=
  ⟨rfl, rfl, rfl, Nat.le_add_right _ _, by show w.heap.size ≤ (w.heap ++ os).size; simp, fun b hb => by show (w.heap ++ os)[b]? = _; exact Array.getElem?_append_left hb⟩

theorem fmt_pc [GlobF Tryd.prog] (hp : PowOK) (n : Int) (h0 : -9223372036854775808 ≤ n) (h1 : n ≤ 9223372036854775807) : PC Tryd.prog 57 [.sc (.int .i64 n), .sc (.int .i64 10)] (str (Lib.itoa n)) := by
  obtain ⟨t, fz, hg⟩ := hp
  refine PC.of_grown (us := [.int .i64 n, .int .i64 10]) (enters_of Tryd.func57 (by kernel_rfl) rfl) fun w _ hgo => ?_
  have htab : Lib.TabIs Tryd.prog w "internal/strconv.uint64pow10" .u64 Lib.pow10Tab := by
    unfold Lib.TabIs World.var?
    rw [show Tryd.prog.globalNamed "internal/strconv.uint64pow10" = some 1 by kernel_rfl]
    simp only [Option.bind_some]
    rw [hgo _ _ hg]
  exact (Any.strconv_FormatInt_10 Tryd.lays173 n h0 h1 w htab).mono fun e w' ⟨h1, k, os, h2⟩ => ⟨h1, h2 ▸ grown_grow w k os⟩

theorem grown_bytes {w w' : World} {T : TypeId} {s : ByteArray} (h : w' = w ∨ ∃ t, w' = Lib.bytesWorld w T t) : AL.Grown w w' := by
  rcases h with rfl | ⟨t, rfl⟩
  · exact ⟨rfl, rfl, rfl, Nat.le_refl _, Nat.le_refl _, fun _ _ => rfl⟩
  · have hf : ∀ (w0 : World) (a : Addr) (n : Nat), (w0.freeze a n).tape = w0.tape ∧ (w0.freeze a n).os = w0.os ∧ (w0.freeze a n).output = w0.output ∧ (w0.freeze a n).drawn = w0.drawn ∧ (w0.freeze a n).heap.size = w0.heap.size ∧ ∀ b, b ≠ a.block → (w0.freeze a n).heap[b]? = w0.heap[b]? := fun w0 a n => by
      unfold World.freeze
      split
      · exact ⟨rfl, rfl, rfl, rfl, rfl, fun _ _ => rfl⟩
      · refine ⟨rfl, rfl, rfl, rfl, by show (w0.heap.modify _ _).size = _; simp, fun b hb => ?_⟩
        show (w0.heap.modify a.block _)[b]? = _
        simp [Array.getElem?_modify, Ne.symm hb]
    unfold Lib.bytesWorld
    obtain ⟨h1, h2, h3, h4, h5, h6⟩ := hf (w.drew.alloc (.cells (Lib.bytesCells w T t) T)) ⟨w.heap.size, (Lib.bytesCells w T t).size, none⟩ 1
    refine ⟨h1, h2, h3, by rw [h4]; exact Nat.le_succ _, by rw [h5]; show w.heap.size ≤ (w.heap.push _).size; simp, fun b hb => ?_⟩
    rw [h6 b (by show b ≠ w.heap.size; omega)]
    exact Lib.alloc_old w.drew _ b hb

theorem iparse_ac [GlobF Tryd.prog] (s : List UInt8) (hs : s.length < 281474976710656) (h : List AObj) : AC Tryd.prog 120 [str s, .sc (.int .i64 10), .sc (.int .i64 64)] h (fun v h' => h' = h ∧ ∃ a b, Value.tuple #[a, b] = Lib.intTuple 153 (Lib.intSat 64 s) (Lib.parseIntB 64 s) ∧ v = .tu [.sc a, .sc b]) := by
  refine AC.of_grown2 (us := [.string ⟨s.toArray⟩, .int .i64 10, .int .i64 64]) (enters_of Tryd.func120 (by kernel_rfl) rfl) fun w _ _ => ?_
  refine (Any.internal_strconv_ParseInt_10_all64 Tryd.lays247 ⟨s.toArray⟩ (by show s.toArray.size ≤ _; simp; omega) w).mono ?_
  rintro e w' ⟨rfl, hw⟩
  rcases hpi : Lib.parseIntB 64 s with n | _ | _
  · exact ⟨.int .i64 n, .nilIface, rfl, by simp [Lib.intTuple], grown_bytes (s := ⟨s.toArray⟩) hw⟩
  · exact ⟨.int .i64 0, .iface 153 (.int .i64 2), rfl, by simp [Lib.intTuple]; rfl, grown_bytes (s := ⟨s.toArray⟩) hw⟩
  · exact ⟨.int .i64 (Lib.intSat 64 s), .iface 153 (.int .i64 1), rfl, by simp [Lib.intTuple]; rfl, grown_bytes (s := ⟨s.toArray⟩) hw⟩
end Go.Proofs
