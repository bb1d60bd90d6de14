/- What the arguments stand for. No condition. -/
import Derived.Test.YtaphfieahcimcaaC7
import Derived.Shelf.Strings.Shaped
namespace Go.Proofs
open Go.AL
open Go.Shelf

def Try.laysM143_ren : Go.Shelf.Ren := ⟨fun | 143 => 12 | 219 => 24 | 217 => 31 | 225 => 32 | 224 => 33 | 267 => 34 | 266 => 40 | 314 => 41 | n => n, fun | 9 => 9 | 3 => 3 | 4 => 4 | 5 => 5 | 46 => 49 | 146 => 55 | 51 => 54 | n => n, fun | 1 => 0 | n => n⟩
theorem Try.laysM143 : Go.Proofs.LaysM.n143 Try.prog Try.laysM143_ren := {
  mixed := by kernel_rfl
  f143 := Try.func12.trans (congrArg some (by kernel_rfl))
  f217 := Try.func31.trans (congrArg some (by kernel_rfl))
  f219 := Try.func24.trans (congrArg some (by kernel_rfl))
  f224 := Try.func33.trans (congrArg some (by kernel_rfl))
  f225 := Try.func32.trans (congrArg some (by kernel_rfl))
  f266 := Try.func40.trans (congrArg some (by kernel_rfl))
  f267 := Try.func34.trans (congrArg some (by kernel_rfl))
  f314 := Try.func41.trans (congrArg some (by kernel_rfl))
  t3 := Try.underlying3
  a3 := Try.isAgg3
  z3 := Try.sizeOf3
  v3 := Try.zeroValue3
  t4 := Try.underlying4
  a4 := Try.isAgg4
  z4 := Try.sizeOf4
  v4 := Try.zeroValue4
  t5 := Try.underlying5
  a5 := Try.isAgg5
  z5 := Try.sizeOf5
  v5 := Try.zeroValue5
  t9 := Try.underlying9
  a9 := Try.isAgg9
  z9 := Try.sizeOf9
  v9 := Try.zeroValue9
  t46 := Try.underlying49
  a46 := Try.isAgg49
  z46 := Try.sizeOf49
  v46 := Try.zeroValue49
  t51 := Try.underlying54
  a51 := Try.isAgg54
  z51 := Try.sizeOf54
  v51 := Try.zeroValue54
  t146 := Try.underlying55
  a146 := Try.isAgg55
  z146 := Try.sizeOf55
  v146 := Try.zeroValue55
  g1 := by kernel_rfl
  i3 := by kernel_rfl
  i4 := by kernel_rfl
  i5 := by kernel_rfl
  i9 := by kernel_rfl
  i46 := by kernel_rfl
  i51 := by kernel_rfl
  i146 := by kernel_rfl
  m1 := by kernel_rfl
  s1_3 := fun w h => Go.Proofs.cell_of_shapedOpen_int (zero := #[.int .i64 0]) (t := 3) h (of_decide_eq_true (by kernel_rfl)) (by kernel_rfl) rfl (by kernel_rfl) (by kernel_rfl) Try.underlying3 }

def valOk (v : Val) : Prop := (Lit.int .i64 v.kind).wf = true ∧ (Lit.int .i64 v.n).wf = true ∧ v.s.length ≤ maxLen
instance : Opn Try.prog 2 (fun n : Int => [.sc (.int .i64 n)]) (fun n : Int => (Lit.int .i64 n).wf = true) := opn_int Try.underlying2
instance : Opn Try.prog 3 (fun n : Int => [.sc (.int .i64 n)]) (fun n : Int => (Lit.int .i64 n).wf = true) := opn_int Try.underlying3
instance : Opn Try.prog 4 (fun b : Bool => [.sc (.bool b)]) (fun _ : Bool => True) := opn_bool Try.underlying4
instance : Opn Try.prog 5 (fun n : Int => [.sc (.int .u8 n)]) (fun n : Int => (Lit.int .u8 n).wf = true) := opn_int Try.underlying5
instance : Opn Try.prog 6 (fun n : Int => [.sc (.int .u8 n)]) (fun n : Int => (Lit.int .u8 n).wf = true) := opn_int Try.underlying6
instance : Opn Try.prog 9 (fun l : List UInt8 => [str l]) (fun l : List UInt8 => l.length ≤ maxLen) := opn_str Try.underlying9
instance : Opn Try.prog 10 (fun l : List UInt8 => [str l]) (fun l : List UInt8 => l.length ≤ maxLen) := opn_str Try.underlying10
instance : Opn Try.prog 11 (fun l : List UInt8 => [str l]) (fun l : List UInt8 => l.length ≤ maxLen) := opn_str Try.underlying11
instance : Opn Try.prog 12 (fun n : Int => [.sc (.int .u64 n)]) (fun n : Int => (Lit.int .u64 n).wf = true) := opn_int Try.underlying12
instance : Opn Try.prog 21 (fun n : Int => [.sc (.int .i32 n)]) (fun n : Int => (Lit.int .i32 n).wf = true) := opn_int Try.underlying21
instance : Opn Try.prog 24 (fun n : Int => [.sc (.int .i64 n)]) (fun n : Int => (Lit.int .i64 n).wf = true) := opn_int Try.underlying24
instance : Opn Try.prog 49 (fun n : Int => [.sc (.int .u64 n)]) (fun n : Int => (Lit.int .u64 n).wf = true) := opn_int Try.underlying49
instance : Opn Try.prog 54 (fun n : Int => [.sc (.int .u32 n)]) (fun n : Int => (Lit.int .u32 n).wf = true) := opn_int Try.underlying54
instance : Opn Try.prog 66 (fun n : Int => [.sc (.int .u8 n)]) (fun n : Int => (Lit.int .u8 n).wf = true) := opn_int Try.underlying66
instance : Opn Try.prog 67 (fun n : Int => [.sc (.int .u8 n)]) (fun n : Int => (Lit.int .u8 n).wf = true) := opn_int Try.underlying67
instance : Opn Try.prog 70 (fun n : Int => [.sc (.int .i32 n)]) (fun n : Int => (Lit.int .i32 n).wf = true) := opn_int Try.underlying70
instance : Opn Try.prog 71 (fun n : Int => [.sc (.int .i32 n)]) (fun n : Int => (Lit.int .i32 n).wf = true) := opn_int Try.underlying71
instance : Opn Try.prog 30 vC valOk := ⟨fun {H en w base spare held fuel cs x} hsp h => by
  obtain ⟨xs, n, rfl, rfl, hl, hn, hf⟩ := DataW.trod_struct Try.underlying30 h
  have hn' : xs.length = 3 := hn
  obtain ⟨a0, c0, k0⟩ := fld_open (ft := 3) (o := 0) hsp (hf 0 _ rfl) (by omega)
  obtain ⟨a1, c1, k1⟩ := fld_open (ft := 2) (o := 1) hsp (hf 1 _ rfl) (by omega)
  obtain ⟨a2, c2, k2⟩ := fld_open (ft := 9) (o := 2) hsp (hf 2 _ rfl) (by omega)
  exact ⟨Val.mk a0 a1 a2, (fl_cons c0 (fl_cons c1 (fl_cons c2 (fl_nil (by rw [hl, Cel.h (P := Try.prog) (t := 30)]; exact Nat.le_refl _))))), ⟨k0, k1, k2⟩⟩⟩
instance : Opn Try.prog 22 (fun l : List Val => [.sl none 3 (l.map vC)]) (fun l : List Val => l.length ≤ maxLen ∧ ∀ a, a ∈ l → valOk a) := opn_slice Try.underlying22 (fun _ => rfl) (by decide)
end Go.Proofs
