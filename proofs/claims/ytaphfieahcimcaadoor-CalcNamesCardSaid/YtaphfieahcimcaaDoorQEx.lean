/- A rule: a value that is another one. No condition. -/
import Derived.Test.YtaphfieahcimcaaDoorOps19
import Derived.Lib.MinMax
namespace Go.Proofs
open Go.AL
theorem D_eqv {P : Program} [GlobF P] {ρ : Operand → Option AV} {o : Oper} {v v' : AV} (h : PPOp P o ρ v) (e : v = v') : PPOp P o ρ v' := e ▸ h
end Go.Proofs

/- Rules: the greater of two numbers; a number's complement. No condition. -/
namespace Go.AL
section
variable {P : Program} [GlobF P] {ty : TypeId} {pos : String} {af : Array Edge} {dst : Option Nat} {gd : Option (Nat × Bool)} {ρ : Operand → Option AV}
theorem D_max {x y : Operand} {k k' : IntKind} {a b : Int} {ts : Array TypeId} (hx : ρ x = some (.sc (.int k a))) (hy : ρ y = some (.sc (.int k' b))) :
    PPOp P { dst := dst, op := .call { callee := .builtin .max, args := #[x, y], argTypes := ts }, type := ty, pos := pos, after := af, guard := gd } ρ (.sc (.int k (max a b))) :=
  PPOp.val (by simp) (fun B G act w hR E => ⟨.int k (max a b), by
    have e1 := conc_sc (E x (by simp [Op.operands, Call.operands]) _ hx)
    have e2 := conc_sc (E y (by simp [Op.operands, Call.operands]) _ hy)
    rw [exec_builtin]
    simp [e1, e2, builtin, Sem.run_bind, Go.Lib.run_max_ints], .sc _⟩)
theorem D_xorU {t : TypeId} {x : Operand} {a : Int} (hx : ρ x = some (.sc (.int .i64 a))) : PPOp P { dst := dst, op := .unOp .xor t x, type := ty, pos := pos, after := af, guard := gd } ρ (.sc (.int .i64 (bits .xor .i64 (-1) a))) :=
  PPOp.val (by simp) (fun B G act w hR E => ⟨.int .i64 (bits .xor .i64 (-1) a), by
    have e1 := conc_sc (E x (by first | exact List.Mem.head _ | exact List.Mem.tail _ (List.Mem.head _)) _ hx)
    simp [execOp, e1, Op.unary, Op.intBits, bits, IntKind.signed], .sc _⟩)
end
theorem not64 (a : Int) (h0 : -9223372036854775808 ≤ a) (h1 : a ≤ 9223372036854775807) : bits .xor .i64 (-1) a = -1 - a := by
  have e : BitVec.ofInt 64 (-1) ^^^ BitVec.ofInt 64 a = ~~~(BitVec.ofInt 64 a) := by
    rw [show BitVec.ofInt 64 (-1) = BitVec.allOnes 64 by decide]
    exact BitVec.allOnes_xor
  show IntKind.i64.wrap ((BitVec.ofInt 64 (-1) ^^^ BitVec.ofInt 64 a).toNat : Int) = _
  rw [e, BitVec.toNat_not, BitVec.toNat_ofInt]
  simp [IntKind.wrap, IntKind.signed, IntKind.bits]
  omega
end Go.AL
