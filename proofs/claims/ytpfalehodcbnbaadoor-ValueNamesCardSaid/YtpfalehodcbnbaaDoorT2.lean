/- Contracts of numbers' texts: FormatInt, ParseInt. -/
import Derived.Test.YtpfalehodcbnbaaDoorT1
import Derived.Test.YtpfalehodcbnbaaDoorOps19
import Derived.Shelf.Strconv.Itoa4
import Derived.Shelf.Strconv.ParseInt10All
import Derived.Lib.BufferWrite
import Derived.Lib.Hide
import Derived.Laws.MakeOwn
namespace Go.Proofs
open Go.AL
open Go.Shelf Go.RowKit

def Tryd.lays173_ren : Go.Shelf.Ren := ⟨fun | 173 => 20 | 246 => 38 | 283 => 49 | 284 => 50 | 285 => 51 | 286 => 52 | 129 => 60 | 317 => 59 | 318 => 61 | 319 => 62 | 320 => 63 | 337 => 68 | 338 => 69 | n => n, fun | 2 => 2 | 3 => 3 | 9 => 9 | 4 => 4 | 171 => 78 | 0 => 0 | 53 => 79 | 37 => 45 | 5 => 5 | 173 => 82 | 212 => 93 | 51 => 94 | 20 => 20 | 213 => 95 | 46 => 69 | 232 => 107 | 233 => 108 | n => n, fun | 17 => 1 | 18 => 2 | 19 => 3 | n => n⟩
theorem Tryd.lays173 : Go.Proofs.LaysM.n173 Tryd.prog Tryd.lays173_ren := {
  mixed := by kernel_rfl
  f129 := Tryd.func60.trans (congrArg some (by kernel_rfl))
  f173 := Tryd.func20.trans (congrArg some (by kernel_rfl))
  f246 := Tryd.func38.trans (congrArg some (by kernel_rfl))
  f283 := Tryd.func49.trans (congrArg some (by kernel_rfl))
  f284 := Tryd.func50.trans (congrArg some (by kernel_rfl))
  f285 := Tryd.func51.trans (congrArg some (by kernel_rfl))
  f286 := Tryd.func52.trans (congrArg some (by kernel_rfl))
  f317 := Tryd.func59.trans (congrArg some (by kernel_rfl))
  f318 := Tryd.func61.trans (congrArg some (by kernel_rfl))
  f319 := Tryd.func62.trans (congrArg some (by kernel_rfl))
  f320 := Tryd.func63.trans (congrArg some (by kernel_rfl))
  f337 := Tryd.func68.trans (congrArg some (by kernel_rfl))
  f338 := Tryd.func69.trans (congrArg some (by kernel_rfl))
  t0 := Tryd.underlying0
  a0 := Tryd.isAgg0
  z0 := Tryd.sizeOf0
  v0 := Tryd.zeroValue0
  t2 := Tryd.underlying2
  a2 := Tryd.isAgg2
  z2 := Tryd.sizeOf2
  v2 := Tryd.zeroValue2
  t3 := Tryd.underlying3
  a3 := Tryd.isAgg3
  z3 := Tryd.sizeOf3
  v3 := Tryd.zeroValue3
  t4 := Tryd.underlying4
  a4 := Tryd.isAgg4
  z4 := Tryd.sizeOf4
  v4 := Tryd.zeroValue4
  t5 := Tryd.underlying5
  a5 := Tryd.isAgg5
  z5 := Tryd.sizeOf5
  v5 := Tryd.zeroValue5
  t9 := Tryd.underlying9
  a9 := Tryd.isAgg9
  z9 := Tryd.sizeOf9
  v9 := Tryd.zeroValue9
  t20 := Tryd.underlying20
  a20 := Tryd.isAgg20
  z20 := Tryd.sizeOf20
  v20 := Tryd.zeroValue20
  t37 := Tryd.underlying45
  a37 := Tryd.isAgg45
  z37 := Tryd.sizeOf45
  v37 := Tryd.zeroValue45
  t46 := Tryd.underlying69
  a46 := Tryd.isAgg69
  z46 := Tryd.sizeOf69
  v46 := Tryd.zeroValue69
  t51 := Tryd.underlying94
  a51 := Tryd.isAgg94
  z51 := Tryd.sizeOf94
  v51 := Tryd.zeroValue94
  t53 := Tryd.underlying79
  a53 := Tryd.isAgg79
  z53 := Tryd.sizeOf79
  v53 := Tryd.zeroValue79
  t171 := Tryd.underlying78
  a171 := Tryd.isAgg78
  z171 := Tryd.sizeOf78
  v171 := Tryd.zeroValue78
  t173 := Tryd.underlying82
  a173 := Tryd.isAgg82
  z173 := Tryd.sizeOf82
  v173 := Tryd.zeroValue82
  t212 := Tryd.underlying93
  a212 := Tryd.isAgg93
  z212 := Tryd.sizeOf93
  v212 := Tryd.zeroValue93
  t213 := Tryd.underlying95
  a213 := Tryd.isAgg95
  z213 := Tryd.sizeOf95
  t232 := Tryd.underlying107
  a232 := Tryd.isAgg107
  z232 := Tryd.sizeOf107
  v232 := Tryd.zeroValue107
  t233 := Tryd.underlying108
  a233 := Tryd.isAgg108
  z233 := Tryd.sizeOf108
  v233 := Tryd.zeroValue108
  g17 := by kernel_rfl
  g18 := by kernel_rfl
  g19 := by kernel_rfl
  i0 := by kernel_rfl
  i2 := by kernel_rfl
  i3 := by kernel_rfl
  i4 := by kernel_rfl
  i5 := by kernel_rfl
  i9 := by kernel_rfl
  i20 := by kernel_rfl
  i37 := by kernel_rfl
  i46 := by kernel_rfl
  i51 := by kernel_rfl
  i53 := by kernel_rfl
  i171 := by kernel_rfl
  i173 := by kernel_rfl
  i212 := by kernel_rfl
  i232 := by kernel_rfl
  i233 := by kernel_rfl
  m17 := by kernel_rfl
  m18 := by kernel_rfl
  m19 := by kernel_rfl }
def Tryd.lays247_ren : Go.Shelf.Ren := ⟨fun | 247 => 64 | 287 => 70 | 321 => 76 | 322 => 77 | n => n, fun | 9 => 9 | 3 => 3 | 2 => 2 | 75 => 51 | 4 => 4 | 167 => 101 | 5 => 5 | 53 => 79 | 175 => 102 | 46 => 69 | 37 => 45 | 0 => 0 | 21 => 21 | 80 => 56 | n => n, fun | n => n⟩
theorem Tryd.lays247 : Go.Proofs.LaysC.n247 Tryd.prog Tryd.lays247_ren := {
  mixed := by kernel_rfl
  f247 := Tryd.func64.trans (congrArg some (by kernel_rfl))
  f287 := Tryd.func70.trans (congrArg some (by kernel_rfl))
  f321 := Tryd.func76.trans (congrArg some (by kernel_rfl))
  f322 := Tryd.func77.trans (congrArg some (by kernel_rfl))
  t0 := Tryd.underlying0
  a0 := Tryd.isAgg0
  z0 := Tryd.sizeOf0
  v0 := Tryd.zeroValue0
  t2 := Tryd.underlying2
  a2 := Tryd.isAgg2
  z2 := Tryd.sizeOf2
  v2 := Tryd.zeroValue2
  t3 := Tryd.underlying3
  a3 := Tryd.isAgg3
  z3 := Tryd.sizeOf3
  v3 := Tryd.zeroValue3
  t4 := Tryd.underlying4
  a4 := Tryd.isAgg4
  z4 := Tryd.sizeOf4
  v4 := Tryd.zeroValue4
  t5 := Tryd.underlying5
  a5 := Tryd.isAgg5
  z5 := Tryd.sizeOf5
  v5 := Tryd.zeroValue5
  t9 := Tryd.underlying9
  a9 := Tryd.isAgg9
  z9 := Tryd.sizeOf9
  v9 := Tryd.zeroValue9
  t21 := Tryd.underlying21
  a21 := Tryd.isAgg21
  z21 := Tryd.sizeOf21
  v21 := Tryd.zeroValue21
  t37 := Tryd.underlying45
  a37 := Tryd.isAgg45
  z37 := Tryd.sizeOf45
  v37 := Tryd.zeroValue45
  t46 := Tryd.underlying69
  a46 := Tryd.isAgg69
  z46 := Tryd.sizeOf69
  v46 := Tryd.zeroValue69
  t53 := Tryd.underlying79
  a53 := Tryd.isAgg79
  z53 := Tryd.sizeOf79
  v53 := Tryd.zeroValue79
  t75 := Tryd.underlying51
  a75 := Tryd.isAgg51
  z75 := Tryd.sizeOf51
  v75 := Tryd.zeroValue51
  t167 := Tryd.underlying101
  a167 := Tryd.isAgg101
  z167 := Tryd.sizeOf101
  v167 := Tryd.zeroValue101
  t175 := Tryd.underlying102
  a175 := Tryd.isAgg102
  z175 := Tryd.sizeOf102
  v175 := Tryd.zeroValue102
  t80 := Tryd.underlying56
  a80 := Tryd.isAgg56
  z80 := Tryd.sizeOf56
  v80 := Tryd.zeroValue56
  i0 := by kernel_rfl
  i2 := by kernel_rfl
  i3 := by kernel_rfl
  i4 := by kernel_rfl
  i5 := by kernel_rfl
  i9 := by kernel_rfl
  i21 := by kernel_rfl
  i37 := by kernel_rfl
  i46 := by kernel_rfl
  i53 := by kernel_rfl
  i75 := by kernel_rfl
  i80 := by kernel_rfl
  i167 := by kernel_rfl
  i175 := by kernel_rfl
  c0 := by kernel_rfl
  c2 := by kernel_rfl
  c3 := by kernel_rfl
  c4 := by kernel_rfl
  c5 := by kernel_rfl
  c9 := by kernel_rfl
  c21 := by kernel_rfl
  c37 := by kernel_rfl
  c46 := by kernel_rfl
  c53 := by kernel_rfl
  c75 := by kernel_rfl
  c80 := by kernel_rfl
  c167 := by kernel_rfl
  c175 := by kernel_rfl }



/-- The table of powers of ten is laid. -/
def PowOK [GlobF Tryd.prog] : Prop := ∃ t fz, GlobF.o Tryd.prog 1 = some (.cells (Lib.pow10Tab.map (Value.int .u64)).toArray t fz)
/-- The two errors are laid. -/
def ErrsOK [GlobF Tryd.prog] : Prop := ∃ t1 u1 t2 u2, GlobF.f Tryd.prog 4 0 = some (.iface t1 u1) ∧ GlobF.f Tryd.prog 5 0 = some (.iface t2 u2)

theorem grown_grow (w : World) (k : Nat) (os : Array Obj) : AL.Grown w (Go.Sort.grow (w.drewN k) os) :=
  ⟨rfl, rfl, rfl, Nat.le_add_right _ _, by show w.heap.size ≤ (w.heap ++ os).size; simp, fun b hb => by show (w.heap ++ os)[b]? = _; exact Array.getElem?_append_left hb⟩

theorem fmt_pc [GlobF Tryd.prog] (hp : PowOK) (n : Int) (h0 : -9223372036854775808 ≤ n) (h1 : n ≤ 9223372036854775807) : PC Tryd.prog 20 [.sc (.int .i64 n), .sc (.int .i64 10)] (str (Lib.itoa n)) := by
  obtain ⟨t, fz, hg⟩ := hp
  refine PC.of_grown (us := [.int .i64 n, .int .i64 10]) (enters_of Tryd.func20 (by kernel_rfl) rfl) fun w _ hgo => ?_
  have htab : Lib.TabIs Tryd.prog w "internal/strconv.uint64pow10" .u64 Lib.pow10Tab := by
    unfold Lib.TabIs World.var?
    rw [show Tryd.prog.globalNamed "internal/strconv.uint64pow10" = some 1 by kernel_rfl]
    simp only [Option.bind_some]
    rw [hgo _ _ hg]
  exact (Any.strconv_FormatInt_10 Tryd.lays173 n h0 h1 w htab).mono fun e w' ⟨h1, k, os, h2⟩ => ⟨h1, h2 ▸ grown_grow w k os⟩

theorem grown_bytes {w w' : World} {T : TypeId} {s : ByteArray} (h : w' = w ∨ ∃ t, w' = Lib.bytesWorld w T t) : AL.Grown w w' := by
  rcases h with rfl | ⟨t, rfl⟩
  · exact ⟨rfl, rfl, rfl, Nat.le_refl _, Nat.le_refl _, fun _ _ => rfl⟩
  · have hf : ∀ (w0 : World) (a : Addr) (n : Nat), (w0.freeze a n).tape = w0.tape ∧ (w0.freeze a n).os = w0.os ∧ (w0.freeze a n).output = w0.output ∧ (w0.freeze a n).drawn = w0.drawn ∧ (w0.freeze a n).heap.size = w0.heap.size ∧ ∀ b, b ≠ a.block → (w0.freeze a n).heap[b]? = w0.heap[b]? := fun w0 a n => by
      unfold World.freeze
      split
      · exact ⟨rfl, rfl, rfl, rfl, rfl, fun _ _ => rfl⟩
      · refine ⟨rfl, rfl, rfl, rfl, by show (w0.heap.modify _ _).size = _; simp, fun b hb => ?_⟩
        show (w0.heap.modify a.block _)[b]? = _
        simp [Array.getElem?_modify, Ne.symm hb]
    unfold Lib.bytesWorld
    obtain ⟨h1, h2, h3, h4, h5, h6⟩ := hf (w.drew.alloc (.cells (Lib.bytesCells w T t) T)) ⟨w.heap.size, (Lib.bytesCells w T t).size, none⟩ 1
    refine ⟨h1, h2, h3, by rw [h4]; exact Nat.le_succ _, by rw [h5]; show w.heap.size ≤ (w.heap.push _).size; simp, fun b hb => ?_⟩
    rw [h6 b (by show b ≠ w.heap.size; omega)]
    exact Lib.alloc_old w.drew _ b hb

theorem iparse_ac [GlobF Tryd.prog] (s : List UInt8) (hs : s.length < 281474976710656) (h : List AObj) : AC Tryd.prog 64 [str s, .sc (.int .i64 10), .sc (.int .i64 64)] h (fun v h' => h' = h ∧ ∃ a b, Value.tuple #[a, b] = Lib.intTuple 101 (Lib.intSat 64 s) (Lib.parseIntB 64 s) ∧ v = .tu [.sc a, .sc b]) := by
  refine AC.of_grown2 (us := [.string ⟨s.toArray⟩, .int .i64 10, .int .i64 64]) (enters_of Tryd.func64 (by kernel_rfl) rfl) fun w _ _ => ?_
  refine (Any.internal_strconv_ParseInt_10_all64 Tryd.lays247 ⟨s.toArray⟩ (by show s.toArray.size ≤ _; simp; omega) w).mono ?_
  rintro e w' ⟨rfl, hw⟩
  rcases hpi : Lib.parseIntB 64 s with n | _ | _
  · exact ⟨.int .i64 n, .nilIface, rfl, by simp [Lib.intTuple], grown_bytes (s := ⟨s.toArray⟩) hw⟩
  · exact ⟨.int .i64 0, .iface 101 (.int .i64 2), rfl, by simp [Lib.intTuple]; rfl, grown_bytes (s := ⟨s.toArray⟩) hw⟩
  · exact ⟨.int .i64 (Lib.intSat 64 s), .iface 101 (.int .i64 1), rfl, by simp [Lib.intTuple]; rfl, grown_bytes (s := ⟨s.toArray⟩) hw⟩
end Go.Proofs
