/- What the arguments stand for. No condition. -/
import Derived.Test.YtaphfieahcimcaaGreatDoorZQTV1
import Derived.Test.YtaphfieahcimcaaGreatDoorOpen
namespace Go.Proofs
open Go.AL
def valOk (v : Val) : Prop := (Lit.int .i64 v.kind).wf = true ∧ (Lit.int .i64 v.n).wf = true ∧ v.s.length ≤ maxLen
theorem valOk.rng {v : Val} (h : valOk v) : -9223372036854775808 ≤ v.n ∧ v.n ≤ 9223372036854775807 := by
  have := h.2.1
  simp [Lit.wf, IntKind.min, IntKind.max, IntKind.signed, IntKind.bits] at this
  omega
instance : Opn Tryz.prog 2 (fun n : Int => [.sc (.int .i64 n)]) (fun n : Int => (Lit.int .i64 n).wf = true) := opn_int Tryz.underlying2
instance : Opn Tryz.prog 3 (fun n : Int => [.sc (.int .i64 n)]) (fun n : Int => (Lit.int .i64 n).wf = true) := opn_int Tryz.underlying3
instance : Opn Tryz.prog 4 (fun b : Bool => [.sc (.bool b)]) (fun _ : Bool => True) := opn_bool Tryz.underlying4
instance : Opn Tryz.prog 5 (fun n : Int => [.sc (.int .u8 n)]) (fun n : Int => (Lit.int .u8 n).wf = true) := opn_int Tryz.underlying5
instance : Opn Tryz.prog 6 (fun n : Int => [.sc (.int .u8 n)]) (fun n : Int => (Lit.int .u8 n).wf = true) := opn_int Tryz.underlying6
instance : Opn Tryz.prog 9 (fun l : List UInt8 => [str l]) (fun l : List UInt8 => l.length ≤ maxLen) := opn_str Tryz.underlying9
instance : Opn Tryz.prog 10 (fun l : List UInt8 => [str l]) (fun l : List UInt8 => l.length ≤ maxLen) := opn_str Tryz.underlying10
instance : Opn Tryz.prog 11 (fun l : List UInt8 => [str l]) (fun l : List UInt8 => l.length ≤ maxLen) := opn_str Tryz.underlying11
instance : Opn Tryz.prog 12 (fun n : Int => [.sc (.int .u64 n)]) (fun n : Int => (Lit.int .u64 n).wf = true) := opn_int Tryz.underlying12
instance : Opn Tryz.prog 21 (fun n : Int => [.sc (.int .i32 n)]) (fun n : Int => (Lit.int .i32 n).wf = true) := opn_int Tryz.underlying21
instance : Opn Tryz.prog 26 (fun n : Int => [.sc (.int .i64 n)]) (fun n : Int => (Lit.int .i64 n).wf = true) := opn_int Tryz.underlying26
instance : Opn Tryz.prog 83 (fun n : Int => [.sc (.int .u64 n)]) (fun n : Int => (Lit.int .u64 n).wf = true) := opn_int Tryz.underlying83
instance : Opn Tryz.prog 96 (fun n : Int => [.sc (.int .u64 n)]) (fun n : Int => (Lit.int .u64 n).wf = true) := opn_int Tryz.underlying96
instance : Opn Tryz.prog 111 (fun n : Int => [.sc (.int .u32 n)]) (fun n : Int => (Lit.int .u32 n).wf = true) := opn_int Tryz.underlying111
instance : Opn Tryz.prog 118 (fun n : Int => [.sc (.int .i64 n)]) (fun n : Int => (Lit.int .i64 n).wf = true) := opn_int Tryz.underlying118
instance : Opn Tryz.prog 140 (fun n : Int => [.sc (.int .u8 n)]) (fun n : Int => (Lit.int .u8 n).wf = true) := opn_int Tryz.underlying140
instance : Opn Tryz.prog 141 (fun n : Int => [.sc (.int .u8 n)]) (fun n : Int => (Lit.int .u8 n).wf = true) := opn_int Tryz.underlying141
instance : Opn Tryz.prog 143 (fun n : Int => [.sc (.int .i32 n)]) (fun n : Int => (Lit.int .i32 n).wf = true) := opn_int Tryz.underlying143
instance : Opn Tryz.prog 144 (fun n : Int => [.sc (.int .i32 n)]) (fun n : Int => (Lit.int .i32 n).wf = true) := opn_int Tryz.underlying144
instance : Opn Tryz.prog 25 vC valOk := ⟨fun {H en w base spare held fuel cs x} hsp h => by
  obtain ⟨xs, n, rfl, rfl, hl, hn, hf⟩ := DataW.trod_struct Tryz.underlying25 h
  have hn' : xs.length = 3 := hn
  obtain ⟨a0, c0, k0⟩ := fld_open (ft := 3) (o := 0) hsp (hf 0 _ rfl) (by omega)
  obtain ⟨a1, c1, k1⟩ := fld_open (ft := 2) (o := 1) hsp (hf 1 _ rfl) (by omega)
  obtain ⟨a2, c2, k2⟩ := fld_open (ft := 9) (o := 2) hsp (hf 2 _ rfl) (by omega)
  exact ⟨Val.mk a0 a1 a2, (fl_cons c0 (fl_cons c1 (fl_cons c2 (fl_nil (by rw [hl, Cel.h (P := Tryz.prog) (t := 25)]; exact Nat.le_refl _))))), ⟨k0, k1, k2⟩⟩⟩
instance : Opn Tryz.prog 22 (fun l : List Val => [.sl none 3 (l.map vC)]) (fun l : List Val => l.length ≤ maxLen ∧ ∀ a, a ∈ l → valOk a) := opn_slice Tryz.underlying22 (fun _ => rfl) (by decide)
end Go.Proofs
