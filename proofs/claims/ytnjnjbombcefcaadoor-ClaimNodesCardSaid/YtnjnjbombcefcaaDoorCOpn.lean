/- What the arguments stand for. No condition. -/
import Derived.Test.YtnjnjbombcefcaaDoorCK7
namespace Go.Proofs
open Go.AL
def valOk (v : Val) : Prop := (Lit.int .i64 v.kind).wf = true ∧ (Lit.int .i64 v.n).wf = true ∧ v.s.length ≤ maxLen
def entOk (x : Ent) : Prop := (Lit.int .i64 x.kind).wf = true ∧ (Lit.int .i64 x.n).wf = true ∧ x.name.length ≤ maxLen ∧ valOk x.v
def trmOk (t : Trm) : Prop := True ∧ valOk t.v ∧ entOk t.e
def frmOk (f : Frm) : Prop := (Lit.int .i64 f.op).wf = true ∧ entOk f.e ∧ f.a.length ≤ maxLen ∧ trmOk f.v ∧ trmOk f.old ∧ (Lit.int .i64 f.fr).wf = true ∧ (Lit.int .i64 f.to).wf = true
instance : Opn Tryd.prog 2 (fun n : Int => [.sc (.int .i64 n)]) (fun n : Int => (Lit.int .i64 n).wf = true) := opn_int Tryd.underlying2
instance : Opn Tryd.prog 3 (fun n : Int => [.sc (.int .i64 n)]) (fun n : Int => (Lit.int .i64 n).wf = true) := opn_int Tryd.underlying3
instance : Opn Tryd.prog 4 (fun b : Bool => [.sc (.bool b)]) (fun _ : Bool => True) := opn_bool Tryd.underlying4
instance : Opn Tryd.prog 5 (fun n : Int => [.sc (.int .u8 n)]) (fun n : Int => (Lit.int .u8 n).wf = true) := opn_int Tryd.underlying5
instance : Opn Tryd.prog 6 (fun n : Int => [.sc (.int .u8 n)]) (fun n : Int => (Lit.int .u8 n).wf = true) := opn_int Tryd.underlying6
instance : Opn Tryd.prog 9 (fun l : List UInt8 => [str l]) (fun l : List UInt8 => l.length ≤ maxLen) := opn_str Tryd.underlying9
instance : Opn Tryd.prog 10 (fun l : List UInt8 => [str l]) (fun l : List UInt8 => l.length ≤ maxLen) := opn_str Tryd.underlying10
instance : Opn Tryd.prog 11 (fun l : List UInt8 => [str l]) (fun l : List UInt8 => l.length ≤ maxLen) := opn_str Tryd.underlying11
instance : Opn Tryd.prog 12 (fun n : Int => [.sc (.int .u64 n)]) (fun n : Int => (Lit.int .u64 n).wf = true) := opn_int Tryd.underlying12
instance : Opn Tryd.prog 21 (fun n : Int => [.sc (.int .i32 n)]) (fun n : Int => (Lit.int .i32 n).wf = true) := opn_int Tryd.underlying21
instance : Opn Tryd.prog 23 (fun n : Int => [.sc (.int .i64 n)]) (fun n : Int => (Lit.int .i64 n).wf = true) := opn_int Tryd.underlying23
instance : Opn Tryd.prog 147 (fun n : Int => [.sc (.int .u64 n)]) (fun n : Int => (Lit.int .u64 n).wf = true) := opn_int Tryd.underlying147
instance : Opn Tryd.prog 166 (fun n : Int => [.sc (.int .u32 n)]) (fun n : Int => (Lit.int .u32 n).wf = true) := opn_int Tryd.underlying166
instance : Opn Tryd.prog 182 (fun n : Int => [.sc (.int .i64 n)]) (fun n : Int => (Lit.int .i64 n).wf = true) := opn_int Tryd.underlying182
instance : Opn Tryd.prog 183 (fun n : Int => [.sc (.int .u64 n)]) (fun n : Int => (Lit.int .u64 n).wf = true) := opn_int Tryd.underlying183
instance : Opn Tryd.prog 214 (fun n : Int => [.sc (.int .u8 n)]) (fun n : Int => (Lit.int .u8 n).wf = true) := opn_int Tryd.underlying214
instance : Opn Tryd.prog 215 (fun n : Int => [.sc (.int .u8 n)]) (fun n : Int => (Lit.int .u8 n).wf = true) := opn_int Tryd.underlying215
instance : Opn Tryd.prog 217 (fun n : Int => [.sc (.int .i32 n)]) (fun n : Int => (Lit.int .i32 n).wf = true) := opn_int Tryd.underlying217
instance : Opn Tryd.prog 218 (fun n : Int => [.sc (.int .i32 n)]) (fun n : Int => (Lit.int .i32 n).wf = true) := opn_int Tryd.underlying218
instance : Opn Tryd.prog 33 vC valOk := ⟨fun {H en w base spare held fuel cs x} hsp h => by
  obtain ⟨xs, n, rfl, rfl, hl, hn, hf⟩ := DataW.trod_struct Tryd.underlying33 h
  have hn' : xs.length = 3 := hn
  obtain ⟨a0, c0, k0⟩ := fld_open (ft := 3) (o := 0) hsp (hf 0 _ rfl) (by omega)
  obtain ⟨a1, c1, k1⟩ := fld_open (ft := 2) (o := 1) hsp (hf 1 _ rfl) (by omega)
  obtain ⟨a2, c2, k2⟩ := fld_open (ft := 9) (o := 2) hsp (hf 2 _ rfl) (by omega)
  exact ⟨Val.mk a0 a1 a2, (fl_cons c0 (fl_cons c1 (fl_cons c2 (fl_nil (by rw [hl, Cel.h (P := Tryd.prog) (t := 33)]; exact Nat.le_refl _))))), ⟨k0, k1, k2⟩⟩⟩
instance : Opn Tryd.prog 41 eC entOk := ⟨fun {H en w base spare held fuel cs x} hsp h => by
  obtain ⟨xs, n, rfl, rfl, hl, hn, hf⟩ := DataW.trod_struct Tryd.underlying41 h
  have hn' : xs.length = 4 := hn
  obtain ⟨a0, c0, k0⟩ := fld_open (ft := 3) (o := 0) hsp (hf 0 _ rfl) (by omega)
  obtain ⟨a1, c1, k1⟩ := fld_open (ft := 2) (o := 1) hsp (hf 1 _ rfl) (by omega)
  obtain ⟨a2, c2, k2⟩ := fld_open (ft := 9) (o := 2) hsp (hf 2 _ rfl) (by omega)
  obtain ⟨a3, c3, k3⟩ := fld_open (ft := 33) (o := 3) hsp (hf 3 _ rfl) (by omega)
  exact ⟨Ent.mk a0 a1 a2 a3, (fl_cons c0 (fl_cons c1 (fl_cons c2 (fl_cons c3 (fl_nil (by rw [hl, Cel.h (P := Tryd.prog) (t := 41)]; exact Nat.le_refl _)))))), ⟨k0, k1, k2, k3⟩⟩⟩
instance : Opn Tryd.prog 43 tC trmOk := ⟨fun {H en w base spare held fuel cs x} hsp h => by
  obtain ⟨xs, n, rfl, rfl, hl, hn, hf⟩ := DataW.trod_struct Tryd.underlying43 h
  have hn' : xs.length = 3 := hn
  obtain ⟨a0, c0, k0⟩ := fld_open (ft := 4) (o := 0) hsp (hf 0 _ rfl) (by omega)
  obtain ⟨a1, c1, k1⟩ := fld_open (ft := 33) (o := 1) hsp (hf 1 _ rfl) (by omega)
  obtain ⟨a2, c2, k2⟩ := fld_open (ft := 41) (o := 4) hsp (hf 2 _ rfl) (by omega)
  exact ⟨Trm.mk a0 a1 a2, (fl_cons c0 (fl_cons c1 (fl_cons c2 (fl_nil (by rw [hl, Cel.h (P := Tryd.prog) (t := 43)]; exact Nat.le_refl _))))), ⟨k0, k1, k2⟩⟩⟩
instance : Opn Tryd.prog 45 fC frmOk := ⟨fun {H en w base spare held fuel cs x} hsp h => by
  obtain ⟨xs, n, rfl, rfl, hl, hn, hf⟩ := DataW.trod_struct Tryd.underlying45 h
  have hn' : xs.length = 7 := hn
  obtain ⟨a0, c0, k0⟩ := fld_open (ft := 3) (o := 0) hsp (hf 0 _ rfl) (by omega)
  obtain ⟨a1, c1, k1⟩ := fld_open (ft := 41) (o := 1) hsp (hf 1 _ rfl) (by omega)
  obtain ⟨a2, c2, k2⟩ := fld_open (ft := 9) (o := 7) hsp (hf 2 _ rfl) (by omega)
  obtain ⟨a3, c3, k3⟩ := fld_open (ft := 43) (o := 8) hsp (hf 3 _ rfl) (by omega)
  obtain ⟨a4, c4, k4⟩ := fld_open (ft := 43) (o := 18) hsp (hf 4 _ rfl) (by omega)
  obtain ⟨a5, c5, k5⟩ := fld_open (ft := 2) (o := 28) hsp (hf 5 _ rfl) (by omega)
  obtain ⟨a6, c6, k6⟩ := fld_open (ft := 2) (o := 29) hsp (hf 6 _ rfl) (by omega)
  exact ⟨Frm.mk a0 a1 a2 a3 a4 a5 a6, (fl_cons c0 (fl_cons c1 (fl_cons c2 (fl_cons c3 (fl_cons c4 (fl_cons c5 (fl_cons c6 (fl_nil (by rw [hl, Cel.h (P := Tryd.prog) (t := 45)]; exact Nat.le_refl _))))))))), ⟨k0, k1, k2, k3, k4, k5, k6⟩⟩⟩
end Go.Proofs
