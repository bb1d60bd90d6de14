/- Rules: bits. No condition. -/
import Derived.Test.YtjojdiefnhbglaaGreatOps11
import Derived.Lib.MinMax
set_option linter.all false
namespace Go.AL
section
variable {P : Program} [GlobF P] {ty : TypeId} {pos : String} {af : Array Edge} {dst : Option Nat} {gd : Option (Nat × Bool)} {ρ : Operand → Option AV}
theorem D_sc {o : Oper} {v v' : Value} (h : PPOp P o ρ (.sc v)) (e : v = v') : PPOp P o ρ (.sc v'):=e ▸ h
end
end Go.AL

namespace Go.AL
section
variable {P : Program} [GlobF P] {ty : TypeId} {pos : String} {af : Array Edge} {dst : Option Nat} {gd : Option (Nat × Bool)} {ρ : Operand → Option AV}
theorem D_max {x y : Operand} {k k' : IntKind} {a b : Int} {ts : Array TypeId} (hx : ρ x = some (.sc (.int k a))) (hy : ρ y = some (.sc (.int k' b))) :
    PPOp P { dst:=dst,op:=.call { callee:=.builtin .max,args:=#[x,y],argTypes:=ts },type:=ty,pos:=pos,after:=af,guard:=gd } ρ (.sc (.int k (max a b))) :=
  PPOp.val (by simp) (fun B G act w hR E=>⟨.int k (max a b),by
    have e1:=conc_sc (E x (by simp [Op.operands,Call.operands]) _ hx)
    have e2:=conc_sc (E y (by simp [Op.operands,Call.operands]) _ hy)
    rw [exec_builtin]
    simp [e1,e2,builtin,Sem.run_bind,Go.Lib.run_max_ints],.sc _⟩)
end
end Go.AL

namespace Go.AL
section
variable {P : Program} [GlobF P] {ty : TypeId} {pos : String} {af : Array Edge} {dst : Option Nat} {gd : Option (Nat × Bool)} {ρ : Operand → Option AV}
theorem D_min {x y : Operand} {k k' : IntKind} {a b : Int} {ts : Array TypeId} (hx : ρ x = some (.sc (.int k a))) (hy : ρ y = some (.sc (.int k' b))) :
    PPOp P { dst:=dst,op:=.call { callee:=.builtin .min,args:=#[x,y],argTypes:=ts },type:=ty,pos:=pos,after:=af,guard:=gd } ρ (.sc (.int k (min a b))) :=
  PPOp.val (by simp) (fun B G act w hR E=>⟨.int k (min a b),by
    have e1:=conc_sc (E x (by simp [Op.operands,Call.operands]) _ hx)
    have e2:=conc_sc (E y (by simp [Op.operands,Call.operands]) _ hy)
    rw [exec_builtin]
    simp [e1,e2,builtin,Sem.run_bind,Go.Lib.run_min_ints],.sc _⟩)
end
end Go.AL
