/- The rules of the abstract logic, fifth part: closures made; the search for a byte. No condition. -/
import Derived.Test.YtpfalehodcbnbaaOps3
namespace Go.AL

def opsO (ρ : Operand → Option AV) : List Operand → Option (List AV)
  | [] => some []
  | x :: l => match ρ x, opsO ρ l with
    | some u, some us => some (u :: us)
    | _, _ => none

theorem opsO_conc {G : Gh} {a : Act} {ρ : Operand → Option AV} : ∀ {l : List Operand} {ys : List AV}, opsO ρ l = some ys → (∀ x, x ∈ l → ∀ u, ρ x = some u → Conc G (a.eval x) u) → ConcL G (l.map a.eval) ys
  | [], ys, h, _ => by simp only [opsO, Option.some.injEq] at h; subst h; exact .nil _
  | x :: l, ys, h, hE => by
    simp only [opsO] at h
    split at h
    · rename_i u us hu hus
      simp only [Option.some.injEq] at h; subst h
      exact .cons (hE x (.head _) u hu) (opsO_conc hus fun z hz => hE z (.tail _ hz))
    · cases h

section
variable {P : Program} [GlobF P] {ty : TypeId} {pos : String} {af : Array Edge} {dst : Option Nat} {gd : Option (Nat × Bool)} {ρ : Operand → Option AV} {hp : List AObj}

theorem D_mkfn {f : FuncId} {caps : List Operand} {ys : List AV} (h : opsO ρ caps = some ys) : PPOp P { dst := dst, op := .makeFunc (.func f) #[] caps.toArray, type := ty, pos := pos, after := af, guard := gd } ρ (.fn (.func f) [] ys) :=
  PPOp.val (by simp) (fun B G a w hR E => by
    have hc := opsO_conc h (a := a) (G := G) fun x hx => E x (by simp [Op.operands]; exact hx)
    refine ⟨.func (.func f) #[] (caps.map a.eval).toArray, by simp [execOp, Instr.makeFunc], ?_⟩
    exact .fn (fs := []) rfl hc.1 (fun i v x h => by simp at h) hc.2)

theorem D_xidx {x y z : Operand} {ts : Array TypeId} {f : FuncId} {a : List UInt8} {c : Int} [hx : Xt P f Extern.BytealgIndexByte.indexByte] (hz : ρ z = some (.sc (.func (.func f) #[] #[]))) (h1 : ρ x = some (str a)) (h2 : ρ y = some (.sc (.int .u8 c))) :
    PPOp P { dst := dst, op := .call { callee := .value z, args := #[x, y], argTypes := ts }, type := ty, pos := pos, after := af, guard := gd } ρ (.sc (.int .i64 (Lib.indexByte a c.toNat.toUInt8))) :=
  PPOp.val (by simp) (fun B G act w hR E => ⟨.int .i64 (Lib.indexByte a c.toNat.toUInt8), by
    have e0 := conc_sc (E z (by simp [Op.operands, Call.operands]) _ hz)
    have e1 := conc_sc (E x (by simp [Op.operands, Call.operands]) _ h1)
    have e2 := conc_sc (E y (by simp [Op.operands, Call.operands]) _ h2)
    have := exec_call (P0 := P) (ty := ty) (pos := pos) (af := af) (args := [x, y]) (ts := ts) (dst := dst) (g := gd) (fs := []) (cs := []) (w := w) act.eval e0
    rw [show (#[x, y] : Array Operand) = [x, y].toArray from rfl, this, hx.h]
    simp only [List.map_cons, List.map_nil, e1, e2, List.nil_append, List.append_nil]
    rw [Lib.run_indexByteString]; rfl, .sc _⟩)
end

theorem idx_mem (c : UInt8) : ∀ (l : List UInt8), 0 ≤ Lib.indexByte l c ↔ c ∈ l
  | [] => by simp [Lib.indexByte]
  | b :: l => by
    have ih := idx_mem c l
    have hge := Lib.indexByte_ge l c
    unfold Lib.indexByte
    by_cases e : b = c
    · subst e; simp
    · simp only [beq_iff_eq, e, if_false, List.mem_cons]
      have e' : ¬ c = b := fun h => e h.symm
      simp only [e', false_or]
      split
      · rename_i h; rw [← ih, h]
      · rw [← ih]; omega
end Go.AL
