/- What the arguments stand for. No condition. -/
import Derived.Test.YtfnmipagllofiaaGreatDoorWS1
import Derived.Test.YtfnmipagllofiaaGreatDoorOpen
import Derived.Test.YtfnmipagllofiaaGreatDoorWT6
import Derived.Lib.LaidTab
import Derived.MakeChecks
import Derived.LaidSub
namespace Go.Proofs
open Go.AL
def spOk (s : Sp) : Prop := (Lit.int .i64 s.f).wf = true ∧ (Lit.int .i64 s.t).wf = true
theorem i64_wf0 {n : Int} (h : (Lit.int .i64 n).wf = true) : -9223372036854775808 ≤ n ∧ n ≤ 9223372036854775807 := by
  simp [Lit.wf, IntKind.min, IntKind.max, IntKind.signed, IntKind.bits] at h
  omega
theorem spOk.rng {s : Sp} (h : spOk s) : (loT ≤ s.f ∧ s.f ≤ hiT) ∧ loT ≤ s.t ∧ s.t ≤ hiT := ⟨i64_wf0 h.1, i64_wf0 h.2⟩
instance : Opn Tryz.prog 2 (fun n : Int => [.sc (.int .i64 n)]) (fun n : Int => (Lit.int .i64 n).wf = true) := opn_int Tryz.underlying2
instance : Opn Tryz.prog 3 (fun n : Int => [.sc (.int .i64 n)]) (fun n : Int => (Lit.int .i64 n).wf = true) := opn_int Tryz.underlying3
instance : Opn Tryz.prog 4 (fun b : Bool => [.sc (.bool b)]) (fun _ : Bool => True) := opn_bool Tryz.underlying4
instance : Opn Tryz.prog 5 (fun n : Int => [.sc (.int .u8 n)]) (fun n : Int => (Lit.int .u8 n).wf = true) := opn_int Tryz.underlying5
instance : Opn Tryz.prog 6 (fun n : Int => [.sc (.int .u8 n)]) (fun n : Int => (Lit.int .u8 n).wf = true) := opn_int Tryz.underlying6
instance : Opn Tryz.prog 9 (fun l : List UInt8 => [str l]) (fun l : List UInt8 => l.length ≤ maxLen) := opn_str Tryz.underlying9
instance : Opn Tryz.prog 10 (fun l : List UInt8 => [str l]) (fun l : List UInt8 => l.length ≤ maxLen) := opn_str Tryz.underlying10
instance : Opn Tryz.prog 11 (fun l : List UInt8 => [str l]) (fun l : List UInt8 => l.length ≤ maxLen) := opn_str Tryz.underlying11
instance : Opn Tryz.prog 12 (fun n : Int => [.sc (.int .u64 n)]) (fun n : Int => (Lit.int .u64 n).wf = true) := opn_int Tryz.underlying12
instance : Opn Tryz.prog 21 (fun n : Int => [.sc (.int .i32 n)]) (fun n : Int => (Lit.int .i32 n).wf = true) := opn_int Tryz.underlying21
instance : Opn Tryz.prog 25 (fun n : Int => [.sc (.int .i64 n)]) (fun n : Int => (Lit.int .i64 n).wf = true) := opn_int Tryz.underlying25
instance : Opn Tryz.prog 76 (fun n : Int => [.sc (.int .u64 n)]) (fun n : Int => (Lit.int .u64 n).wf = true) := opn_int Tryz.underlying76
instance : Opn Tryz.prog 83 (fun n : Int => [.sc (.int .i64 n)]) (fun n : Int => (Lit.int .i64 n).wf = true) := opn_int Tryz.underlying83
instance : Opn Tryz.prog 91 (fun n : Int => [.sc (.int .u32 n)]) (fun n : Int => (Lit.int .u32 n).wf = true) := opn_int Tryz.underlying91
instance : Opn Tryz.prog 93 (fun n : Int => [.sc (.int .u64 n)]) (fun n : Int => (Lit.int .u64 n).wf = true) := opn_int Tryz.underlying93
instance : Opn Tryz.prog 106 (fun n : Int => [.sc (.int .u64 n)]) (fun n : Int => (Lit.int .u64 n).wf = true) := opn_int Tryz.underlying106
instance : Opn Tryz.prog 120 (fun n : Int => [.sc (.int .i64 n)]) (fun n : Int => (Lit.int .i64 n).wf = true) := opn_int Tryz.underlying120
instance : Opn Tryz.prog 152 (fun n : Int => [.sc (.int .u8 n)]) (fun n : Int => (Lit.int .u8 n).wf = true) := opn_int Tryz.underlying152
instance : Opn Tryz.prog 153 (fun n : Int => [.sc (.int .u8 n)]) (fun n : Int => (Lit.int .u8 n).wf = true) := opn_int Tryz.underlying153
instance : Opn Tryz.prog 155 (fun n : Int => [.sc (.int .i32 n)]) (fun n : Int => (Lit.int .i32 n).wf = true) := opn_int Tryz.underlying155
instance : Opn Tryz.prog 156 (fun n : Int => [.sc (.int .i32 n)]) (fun n : Int => (Lit.int .i32 n).wf = true) := opn_int Tryz.underlying156
instance : Opn Tryz.prog 23 sC spOk := ⟨fun {H en w base spare held fuel cs x} hsp h => by
  obtain ⟨xs, n, rfl, rfl, hl, hn, hf⟩ := DataW.trod_struct Tryz.underlying23 h
  have hn' : xs.length = 2 := hn
  obtain ⟨a0, c0, k0⟩ := fld_open (ft := 2) (o := 0) hsp (hf 0 _ rfl) (by omega)
  obtain ⟨a1, c1, k1⟩ := fld_open (ft := 2) (o := 1) hsp (hf 1 _ rfl) (by omega)
  exact ⟨Sp.mk a0 a1, (fl_cons c0 (fl_cons c1 (fl_nil (by rw [hl, Cel.h (P := Tryz.prog) (t := 23)]; exact Nat.le_refl _)))), ⟨k0, k1⟩⟩⟩
instance : Opn Tryz.prog 24 (fun l : List Sp => [.sl none 2 (l.map sC)]) (fun l : List Sp => l.length ≤ maxLen ∧ ∀ a, a ∈ l → spOk a) := opn_slice Tryz.underlying24 (fun _ => rfl) (by decide)
end Go.Proofs

namespace Go.AL
open Go.Lib
end Go.AL

namespace Go.AL
open Go.Lib
theorem laid_one {P : Program} {l : List (String × DataW Unit)} {w : World} (keep : String × DataW Unit → Bool) {name : String} {d : DataW Unit} (h : laidMetH P l w) (hf : l.filter keep = [(name, d)]) (hn : d.handleName?.isNone = true) : laidMet P [(name, d)] w := by
  have h1 := h.filter keep
  rw [hf, Go.MakeChecks.laidMetH_plain _ _ _ (by simp [hn])] at h1
  exact h1
theorem obj_of_tab {P : Program} {W : World} {name : String} {k : IntKind} {zs : List Int} {g : Nat} (hg : P.globalNamed name = some g) (h : TabIs P W name k zs) : ∃ t fz, W.heap[g]? = some (.cells (zs.map (Value.int k)).toArray t fz) := by
  unfold TabIs World.var? at h
  rw [hg] at h
  simp only [Option.bind_some] at h
  split at h
  · rename_i cs t fz hh
    cases h
    exact ⟨t, fz, hh⟩
  · cases h
theorem cell_of_iface {P : Program} {W : World} {name tn : String} {d : DataW Unit} {rest : List (String × DataW Unit)} {g : Nat} {t : TypeId} {ms : Array (String × TypeId)}
    (hg : P.globalNamed name = some g) (hty : (P.globals[g]?).map (·.type) = some t) (ht : P.underlying t = some (.interface ms))
    (h : laidMet P ((name, .iface tn d) :: rest) W) : ∃ u v, W.cell? ⟨g, 0, none⟩ = some (.iface u v) := by
  obtain ⟨ps, ⟨g', t', cs, fuel, p, q, hg', ht', hvar, hd, _, _⟩, _⟩ := h
  obtain rfl := Option.some.inj (hg.symm.trans hg')
  obtain rfl := Option.some.inj (hty.symm.trans ht')
  cases fuel with
  | zero => simp [DataW.trod] at hd
  | succ fuel =>
    have hcs : ∃ u v, cs = #[.iface u v] := by
      obtain ⟨l⟩ := cs
      simp only at hd
      unfold DataW.trod at hd
      rw [ht] at hd
      split at hd <;> simp_all
    obtain ⟨u, v, rfl⟩ := hcs
    exact ⟨u, v, by have := World.var?_cell hg hvar 0; simpa using this⟩
end Go.AL
