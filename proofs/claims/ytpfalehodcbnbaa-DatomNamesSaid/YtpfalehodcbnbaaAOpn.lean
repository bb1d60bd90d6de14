/- What the arguments stand for. No condition. -/
import Derived.Test.YtpfalehodcbnbaaAD6
import Derived.Test.YtpfalehodcbnbaaOpen
import Derived.Test.YtpfalehodcbnbaaMem
import Derived.Test.YtpfalehodcbnbaaPL3
namespace Go.Proofs
open Go.AL

def valOk (v : Val) : Prop := (Lit.int .i64 v.kind).wf = true ∧ (Lit.int .i64 v.n).wf = true ∧ v.s.length ≤ maxLen
def datOk (d : Dat) : Prop := (Lit.int .i64 d.e).wf = true ∧ (Lit.int .i64 d.a).wf = true ∧ valOk d.v ∧ (Lit.int .i64 d.t).wf = true ∧ True ∧ (Lit.int .i64 d.fr).wf = true ∧ (Lit.int .i64 d.to).wf = true
def prtOk (p : Prt) : Prop := True ∧ (Lit.int .i64 p.n).wf = true ∧ valOk p.v
instance : Opn Try.prog 2 (fun n : Int => [.sc (.int .i64 n)]) (fun n : Int => (Lit.int .i64 n).wf = true) := opn_int Try.underlying2
instance : Opn Try.prog 3 (fun n : Int => [.sc (.int .i64 n)]) (fun n : Int => (Lit.int .i64 n).wf = true) := opn_int Try.underlying3
instance : Opn Try.prog 4 (fun b : Bool => [.sc (.bool b)]) (fun _ : Bool => True) := opn_bool Try.underlying4
instance : Opn Try.prog 5 (fun n : Int => [.sc (.int .u8 n)]) (fun n : Int => (Lit.int .u8 n).wf = true) := opn_int Try.underlying5
instance : Opn Try.prog 6 (fun n : Int => [.sc (.int .u8 n)]) (fun n : Int => (Lit.int .u8 n).wf = true) := opn_int Try.underlying6
instance : Opn Try.prog 9 (fun l : List UInt8 => [str l]) (fun l : List UInt8 => l.length ≤ maxLen) := opn_str Try.underlying9
instance : Opn Try.prog 10 (fun l : List UInt8 => [str l]) (fun l : List UInt8 => l.length ≤ maxLen) := opn_str Try.underlying10
instance : Opn Try.prog 11 (fun l : List UInt8 => [str l]) (fun l : List UInt8 => l.length ≤ maxLen) := opn_str Try.underlying11
instance : Opn Try.prog 12 (fun n : Int => [.sc (.int .u64 n)]) (fun n : Int => (Lit.int .u64 n).wf = true) := opn_int Try.underlying12
instance : Opn Try.prog 21 (fun n : Int => [.sc (.int .i32 n)]) (fun n : Int => (Lit.int .i32 n).wf = true) := opn_int Try.underlying21
instance : Opn Try.prog 25 (fun n : Int => [.sc (.int .i64 n)]) (fun n : Int => (Lit.int .i64 n).wf = true) := opn_int Try.underlying25
instance : Opn Try.prog 95 (fun n : Int => [.sc (.int .u64 n)]) (fun n : Int => (Lit.int .u64 n).wf = true) := opn_int Try.underlying95
instance : Opn Try.prog 116 (fun n : Int => [.sc (.int .i64 n)]) (fun n : Int => (Lit.int .i64 n).wf = true) := opn_int Try.underlying116
instance : Opn Try.prog 124 (fun n : Int => [.sc (.int .u32 n)]) (fun n : Int => (Lit.int .u32 n).wf = true) := opn_int Try.underlying124
instance : Opn Try.prog 126 (fun n : Int => [.sc (.int .u64 n)]) (fun n : Int => (Lit.int .u64 n).wf = true) := opn_int Try.underlying126
instance : Opn Try.prog 139 (fun n : Int => [.sc (.int .u64 n)]) (fun n : Int => (Lit.int .u64 n).wf = true) := opn_int Try.underlying139
instance : Opn Try.prog 159 (fun n : Int => [.sc (.int .u8 n)]) (fun n : Int => (Lit.int .u8 n).wf = true) := opn_int Try.underlying159
instance : Opn Try.prog 160 (fun n : Int => [.sc (.int .u8 n)]) (fun n : Int => (Lit.int .u8 n).wf = true) := opn_int Try.underlying160
instance : Opn Try.prog 163 (fun n : Int => [.sc (.int .i32 n)]) (fun n : Int => (Lit.int .i32 n).wf = true) := opn_int Try.underlying163
instance : Opn Try.prog 164 (fun n : Int => [.sc (.int .i32 n)]) (fun n : Int => (Lit.int .i32 n).wf = true) := opn_int Try.underlying164
instance : Opn Try.prog 23 vC valOk := ⟨fun {H en w base spare held fuel cs x} hsp h => by
  obtain ⟨xs, n, rfl, rfl, hl, hn, hf⟩ := DataW.trod_struct Try.underlying23 h
  have hn' : xs.length = 3 := hn
  obtain ⟨a0, c0, k0⟩ := fld_open (ft := 3) (o := 0) hsp (hf 0 _ rfl) (by omega)
  obtain ⟨a1, c1, k1⟩ := fld_open (ft := 2) (o := 1) hsp (hf 1 _ rfl) (by omega)
  obtain ⟨a2, c2, k2⟩ := fld_open (ft := 9) (o := 2) hsp (hf 2 _ rfl) (by omega)
  exact ⟨Val.mk a0 a1 a2, (fl_cons c0 (fl_cons c1 (fl_cons c2 (fl_nil (by rw [hl, Cel.h (P := Try.prog) (t := 23)]; exact Nat.le_refl _))))), ⟨k0, k1, k2⟩⟩⟩
instance : Opn Try.prog 35 dC datOk := ⟨fun {H en w base spare held fuel cs x} hsp h => by
  obtain ⟨xs, n, rfl, rfl, hl, hn, hf⟩ := DataW.trod_struct Try.underlying35 h
  have hn' : xs.length = 7 := hn
  obtain ⟨a0, c0, k0⟩ := fld_open (ft := 2) (o := 0) hsp (hf 0 _ rfl) (by omega)
  obtain ⟨a1, c1, k1⟩ := fld_open (ft := 2) (o := 1) hsp (hf 1 _ rfl) (by omega)
  obtain ⟨a2, c2, k2⟩ := fld_open (ft := 23) (o := 2) hsp (hf 2 _ rfl) (by omega)
  obtain ⟨a3, c3, k3⟩ := fld_open (ft := 2) (o := 5) hsp (hf 3 _ rfl) (by omega)
  obtain ⟨a4, c4, k4⟩ := fld_open (ft := 4) (o := 6) hsp (hf 4 _ rfl) (by omega)
  obtain ⟨a5, c5, k5⟩ := fld_open (ft := 2) (o := 7) hsp (hf 5 _ rfl) (by omega)
  obtain ⟨a6, c6, k6⟩ := fld_open (ft := 2) (o := 8) hsp (hf 6 _ rfl) (by omega)
  exact ⟨Dat.mk a0 a1 a2 a3 a4 a5 a6, (fl_cons c0 (fl_cons c1 (fl_cons c2 (fl_cons c3 (fl_cons c4 (fl_cons c5 (fl_cons c6 (fl_nil (by rw [hl, Cel.h (P := Try.prog) (t := 35)]; exact Nat.le_refl _))))))))), ⟨k0, k1, k2, k3, k4, k5, k6⟩⟩⟩
instance : Opn Try.prog 37 pC prtOk := ⟨fun {H en w base spare held fuel cs x} hsp h => by
  obtain ⟨xs, n, rfl, rfl, hl, hn, hf⟩ := DataW.trod_struct Try.underlying37 h
  have hn' : xs.length = 3 := hn
  obtain ⟨a0, c0, k0⟩ := fld_open (ft := 4) (o := 0) hsp (hf 0 _ rfl) (by omega)
  obtain ⟨a1, c1, k1⟩ := fld_open (ft := 2) (o := 1) hsp (hf 1 _ rfl) (by omega)
  obtain ⟨a2, c2, k2⟩ := fld_open (ft := 23) (o := 2) hsp (hf 2 _ rfl) (by omega)
  exact ⟨Prt.mk a0 a1 a2, (fl_cons c0 (fl_cons c1 (fl_cons c2 (fl_nil (by rw [hl, Cel.h (P := Try.prog) (t := 37)]; exact Nat.le_refl _))))), ⟨k0, k1, k2⟩⟩⟩
instance : Opn Try.prog 29 (fun l : List Val => [.sl none 3 (l.map vC)]) (fun l : List Val => l.length ≤ maxLen ∧ ∀ a, a ∈ l → valOk a) := opn_slice Try.underlying29 (fun _ => rfl) (by decide)
instance : Opn Try.prog 33 (fun l : List Prt => [.sl none 5 (l.map pC)]) (fun l : List Prt => l.length ≤ maxLen ∧ ∀ a, a ∈ l → prtOk a) := opn_slice Try.underlying33 (fun _ => rfl) (by decide)
instance : Opn Try.prog 56 (fun l : List Dat => [.sl none 9 (l.map dC)]) (fun l : List Dat => l.length ≤ maxLen ∧ ∀ a, a ∈ l → datOk a) := opn_slice Try.underlying56 (fun _ => rfl) (by decide)
end Go.Proofs

/- What an argument that reads as data stands for: bytes. No condition. -/
namespace Go.AL
theorem opn_u8 {P : Program} {t : TypeId} (ht : P.underlying t = some (.int .u8)) : Opn P t (α := UInt8) byteC (fun _ => True) := ⟨fun _ h => by
  obtain ⟨n, rfl, _, hw⟩ := DataW.trod_int ht h
  refine ⟨UInt8.ofNat n.toNat, ?_, trivial⟩
  have e : ((UInt8.ofNat n.toNat).toNat : Int) = n := by
    simp [Lit.wf, IntKind.min, IntKind.max, IntKind.signed, IntKind.bits] at hw
    rw [UInt8.toNat_ofNat']; omega
  unfold byteC
  rw [e]
  exact .cons (.sc _) (.nil _)⟩
theorem opn_bytes {P : Program} {t e : TypeId} (ht : P.underlying t = some (.slice e)) (hu : P.underlying e = some (.int .u8)) [hc : Cel P e 1] :
    Opn P t (α := List UInt8) (fun l => [.sl none 1 (l.map byteC)]) (fun l => l.length ≤ maxLen) := ⟨fun hsp h => by
  obtain ⟨l, h1, h2⟩ := (opn_slice (he := opn_u8 hu) (hc := hc) ht (fun _ => rfl) (by decide)).h hsp h
  exact ⟨l, h1, h2.1⟩⟩
end Go.AL

/- What the arguments stand for: bytes. No condition. -/
namespace Go.Proofs
open Go.AL
instance : Opn Try.prog 38 (fun l : List UInt8 => [.sl none 1 (l.map byteC)]) (fun l : List UInt8 => l.length ≤ maxLen) := opn_bytes Try.underlying38 Try.underlying5
theorem datI_of {d : Dat} (h : datOk d) : datI d := ⟨i64_wf h.1, i64_wf h.2.1, i64_wf h.2.2.1.2.1, i64_wf h.2.2.2.1, i64_wf h.2.2.2.2.2.1, i64_wf h.2.2.2.2.2.2⟩
theorem datS_of {d : Dat} (h : datOk d) : d.v.s.length < 9223372036854775808 := Nat.lt_succ_of_le (show _ ≤ 9223372036854775807 from h.2.2.1.2.2)
end Go.Proofs
