/- The rules of the abstract logic, seventh part: pieces of strings; three results. No condition. -/
import Derived.Test.YtpfalehodcbnbaaMem
import Derived.Laws.Strings2
namespace Go.AL

theorem extract_list (l : List UInt8) (i j : Nat) : (⟨l.toArray⟩ : ByteArray).extract i j = ⟨((l.take j).drop i).toArray⟩ := by
  apply ByteArray.ext
  apply Array.ext'
  simp only [ByteArray.data_extract, List.extract_toArray, List.extract_eq_take_drop, List.drop_take]

section
variable {P : Program} [GlobF P] {ty : TypeId} {pos : String} {af : Array Edge} {dst : Option Nat} {gd : Option (Nat × Bool)} {ρ : Operand → Option AV} {hp : List AObj}

theorem sliceAt_str {P0 : Program} {t : TypeId} [hu : Und P0 t .string] (s : ByteArray) (lo hi : Option Value) (w : World) : (Instr.sliceAt t (.string s) lo hi none).run P0 w = (Instr.slice t (.string s) lo hi none).run P0 w := by
  simp [Instr.sliceAt, run_underlying hu.h]

theorem D_slS {t : TypeId} {x y z : Operand} {k k' : IntKind} {l : List UInt8} {i j : Int} [hu : Und P t .string] (hx : ρ x = some (str l)) (hy : ρ y = some (.sc (.int k i))) (hz : ρ z = some (.sc (.int k' j)))
    (h0 : 0 ≤ i) (h1 : i ≤ j) (h2 : j ≤ l.length) : PPOp P { dst := dst, op := .slice t x (some y) (some z) none, type := ty, pos := pos, after := af, guard := gd } ρ (str ((l.take j.toNat).drop i.toNat)) :=
  PPOp.val (by simp) (fun B G act w hR E => ⟨.string ⟨((l.take j.toNat).drop i.toNat).toArray⟩, by
    have e0 := conc_sc (E x (by simp [Op.operands]) _ hx)
    have e1 := conc_sc (E y (by simp [Op.operands]) _ hy)
    have e2 := conc_sc (E z (by simp [Op.operands]) _ hz)
    simp only [execOp, e0, e1, e2, Option.map_some, Option.map_none, Sem.run_bind, sliceAt_str]
    rw [run_slice_string w t _ k k' i j hu.h h0 h1 (by simpa [ByteArray.size] using h2), extract_list]
    rfl, .sc _⟩)
theorem D_slSh {t : TypeId} {x z : Operand} {k' : IntKind} {l : List UInt8} {j : Int} [hu : Und P t .string] (hx : ρ x = some (str l)) (hz : ρ z = some (.sc (.int k' j)))
    (h1 : 0 ≤ j) (h2 : j ≤ l.length) : PPOp P { dst := dst, op := .slice t x none (some z) none, type := ty, pos := pos, after := af, guard := gd } ρ (str (l.take j.toNat)) :=
  PPOp.val (by simp) (fun B G act w hR E => ⟨.string ⟨(l.take j.toNat).toArray⟩, by
    have e0 := conc_sc (E x (by simp [Op.operands]) _ hx)
    have e2 := conc_sc (E z (by simp [Op.operands]) _ hz)
    simp only [execOp, e0, e2, Option.map_some, Option.map_none, Sem.run_bind, sliceAt_str]
    rw [run_slice_string_h w t _ hu.h k' j h1 (by simpa [ByteArray.size] using h2), extract_list]
    rfl, .sc _⟩)
theorem D_slSl {t : TypeId} {x y : Operand} {k : IntKind} {l : List UInt8} {i : Int} [hu : Und P t .string] (hx : ρ x = some (str l)) (hy : ρ y = some (.sc (.int k i)))
    (h0 : 0 ≤ i) (h1 : i ≤ l.length) : PPOp P { dst := dst, op := .slice t x (some y) none none, type := ty, pos := pos, after := af, guard := gd } ρ (str (l.drop i.toNat)) :=
  PPOp.val (by simp) (fun B G act w hR E => ⟨.string ⟨(l.drop i.toNat).toArray⟩, by
    have e0 := conc_sc (E x (by simp [Op.operands]) _ hx)
    have e1 := conc_sc (E y (by simp [Op.operands]) _ hy)
    simp only [execOp, e0, e1, Option.map_some, Option.map_none, Sem.run_bind, sliceAt_str]
    rw [run_slice_string_l w t _ hu.h k i h0 (by simpa [ByteArray.size] using h1), extract_list]
    simp [ByteArray.size, Result.andThen], .sc _⟩)
end

section
variable {P : Program} [GlobF P]
theorem ret3 {fn : Func} {t t2 t3 : Nat} {v1 v2 v3 u1 u2 u3 : AV} {s : AS} (hf : fn.results = #[.tmp t, .tmp t2, .tmp t3]) (hm : s.marks.l = []) (hv : lookO s.regs t = some v1) (hv2 : lookO s.regs t2 = some v2) (hv3 : lookO s.regs t3 = some v3)
    (hle : Le v1 u1) (hle2 : Le v2 u2) (hle3 : Le v3 u3) : Ret P fn (fun v' _ => Le v' (.tu [u1, u2, u3])) .ret s := by
  show MarksOK s.marks.l s.heap ∧ _
  rw [hm]
  refine ⟨trivial, .tu [v1, v2, v3], ResOf.three hf (lookO_eq hv) (lookO_eq hv2) (lookO_eq hv3), fun G v h => ?_⟩
  cases h with
  | tu l h =>
    have hc : ConcL G _ _ := ⟨l, h⟩
    have := LeL.conc (xs := [v1, v2, v3]) (ys := [u1, u2, u3]) ⟨hle, hle2, hle3, trivial⟩ hc
    exact .tu this.1 this.2
end
end Go.AL
