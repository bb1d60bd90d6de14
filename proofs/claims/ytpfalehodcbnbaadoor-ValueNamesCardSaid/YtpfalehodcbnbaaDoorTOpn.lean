/- What the arguments stand for. No condition. -/
import Derived.Test.YtpfalehodcbnbaaDoorTV1
import Derived.Test.YtpfalehodcbnbaaDoorOpen
namespace Go.Proofs
open Go.AL
def valOk (v : Val) : Prop := (Lit.int .i64 v.kind).wf = true ∧ (Lit.int .i64 v.n).wf = true ∧ v.s.length ≤ maxLen
theorem valOk.rng {v : Val} (h : valOk v) : -9223372036854775808 ≤ v.n ∧ v.n ≤ 9223372036854775807 := by
  have := h.2.1
  simp [Lit.wf, IntKind.min, IntKind.max, IntKind.signed, IntKind.bits] at this
  omega
instance : Opn Tryd.prog 2 (fun n : Int => [.sc (.int .i64 n)]) (fun n : Int => (Lit.int .i64 n).wf = true) := opn_int Tryd.underlying2
instance : Opn Tryd.prog 3 (fun n : Int => [.sc (.int .i64 n)]) (fun n : Int => (Lit.int .i64 n).wf = true) := opn_int Tryd.underlying3
instance : Opn Tryd.prog 4 (fun b : Bool => [.sc (.bool b)]) (fun _ : Bool => True) := opn_bool Tryd.underlying4
instance : Opn Tryd.prog 5 (fun n : Int => [.sc (.int .u8 n)]) (fun n : Int => (Lit.int .u8 n).wf = true) := opn_int Tryd.underlying5
instance : Opn Tryd.prog 6 (fun n : Int => [.sc (.int .u8 n)]) (fun n : Int => (Lit.int .u8 n).wf = true) := opn_int Tryd.underlying6
instance : Opn Tryd.prog 9 (fun l : List UInt8 => [str l]) (fun l : List UInt8 => l.length ≤ maxLen) := opn_str Tryd.underlying9
instance : Opn Tryd.prog 10 (fun l : List UInt8 => [str l]) (fun l : List UInt8 => l.length ≤ maxLen) := opn_str Tryd.underlying10
instance : Opn Tryd.prog 11 (fun l : List UInt8 => [str l]) (fun l : List UInt8 => l.length ≤ maxLen) := opn_str Tryd.underlying11
instance : Opn Tryd.prog 12 (fun n : Int => [.sc (.int .u64 n)]) (fun n : Int => (Lit.int .u64 n).wf = true) := opn_int Tryd.underlying12
instance : Opn Tryd.prog 21 (fun n : Int => [.sc (.int .i32 n)]) (fun n : Int => (Lit.int .i32 n).wf = true) := opn_int Tryd.underlying21
instance : Opn Tryd.prog 27 (fun n : Int => [.sc (.int .i64 n)]) (fun n : Int => (Lit.int .i64 n).wf = true) := opn_int Tryd.underlying27
instance : Opn Tryd.prog 69 (fun n : Int => [.sc (.int .u64 n)]) (fun n : Int => (Lit.int .u64 n).wf = true) := opn_int Tryd.underlying69
instance : Opn Tryd.prog 79 (fun n : Int => [.sc (.int .u64 n)]) (fun n : Int => (Lit.int .u64 n).wf = true) := opn_int Tryd.underlying79
instance : Opn Tryd.prog 94 (fun n : Int => [.sc (.int .u32 n)]) (fun n : Int => (Lit.int .u32 n).wf = true) := opn_int Tryd.underlying94
instance : Opn Tryd.prog 101 (fun n : Int => [.sc (.int .i64 n)]) (fun n : Int => (Lit.int .i64 n).wf = true) := opn_int Tryd.underlying101
instance : Opn Tryd.prog 123 (fun n : Int => [.sc (.int .u8 n)]) (fun n : Int => (Lit.int .u8 n).wf = true) := opn_int Tryd.underlying123
instance : Opn Tryd.prog 124 (fun n : Int => [.sc (.int .u8 n)]) (fun n : Int => (Lit.int .u8 n).wf = true) := opn_int Tryd.underlying124
instance : Opn Tryd.prog 126 (fun n : Int => [.sc (.int .i32 n)]) (fun n : Int => (Lit.int .i32 n).wf = true) := opn_int Tryd.underlying126
instance : Opn Tryd.prog 127 (fun n : Int => [.sc (.int .i32 n)]) (fun n : Int => (Lit.int .i32 n).wf = true) := opn_int Tryd.underlying127
instance : Opn Tryd.prog 23 vC valOk := ⟨fun {H en w base spare held fuel cs x} hsp h => by
  obtain ⟨xs, n, rfl, rfl, hl, hn, hf⟩ := DataW.trod_struct Tryd.underlying23 h
  have hn' : xs.length = 3 := hn
  obtain ⟨a0, c0, k0⟩ := fld_open (ft := 3) (o := 0) hsp (hf 0 _ rfl) (by omega)
  obtain ⟨a1, c1, k1⟩ := fld_open (ft := 2) (o := 1) hsp (hf 1 _ rfl) (by omega)
  obtain ⟨a2, c2, k2⟩ := fld_open (ft := 9) (o := 2) hsp (hf 2 _ rfl) (by omega)
  exact ⟨Val.mk a0 a1 a2, (fl_cons c0 (fl_cons c1 (fl_cons c2 (fl_nil (by rw [hl, Cel.h (P := Tryd.prog) (t := 23)]; exact Nat.le_refl _))))), ⟨k0, k1, k2⟩⟩⟩
end Go.Proofs
