/- Rules: errors made, and held against one another; a package variable's cell. No condition. -/
import Derived.Test.YtnjnjbombcefcaaDoorOps17
import Derived.Test.YtnjnjbombcefcaaDoorOps5
import Derived.Test.YtnjnjbombcefcaaDoorOps11
set_option linter.all false
namespace Go.AL
section
variable {P : Program} [GlobF P] {ty : TypeId} {pos : String} {af : Array Edge} {dst : Option Nat} {gd : Option (Nat × Bool)} {ρ : Operand → Option AV}
class Ncf (P : Program) (t : TypeId) : Prop where
  h : ∃ d,P.underlying t = some d ∧ ∀ ms,d ≠ .interface ms
theorem run_mkI {P0 : Program} {t : TypeId} (hn : ∃ d,P0.underlying t = some d ∧ ∀ ms,d ≠ .interface ms) (v : Value) (w : World) : (Instr.makeInterface t v).run P0 w = .ok (.iface t v) w:=by
  obtain ⟨d,hd,hne⟩:=hn
  simp only [Instr.makeInterface,Sem.run_bind,run_underlying hd]
  cases d <;> first|rfl|exact absurd rfl (hne _)
theorem D_mkI {t : TypeId} {x : Operand} {v : Value} [hn : Ncf P t] (hx : ρ x = some (.sc v)) : PPOp P { dst:=dst,op:=.makeInterface t x,type:=ty,pos:=pos,after:=af,guard:=gd } ρ (.sc (.iface t v)) :=
  PPOp.val (by simp) (fun B G act w hR E=>⟨.iface t v,by
    rw [show execOp act.eval { dst:=dst,op:=.makeInterface t x,type:=ty,pos:=pos,after:=af,guard:=gd } = _ from rfl]
    have:=conc_sc (E x (by first|exact List.Mem.head _|exact List.Mem.tail _ (List.Mem.head _)) _ hx)
    simp [execOp,this,run_mkI hn.h],.sc _⟩)
class Cmi (P : Program) (t : TypeId) (k : outParam IntKind) : Prop where
  u : P.underlying t = some (.int k)
  c : (P.info? t).map (·.comparable) = some true
theorem D_ifE {t t' tx : TypeId} {k : IntKind} {x y : Operand} {a b : Int} [hu : Ifc P t] [hc : Cmi P tx k] (hx : ρ x = some (.sc (.iface tx (.int k a)))) (hy : ρ y = some (.sc (.iface tx (.int k b)))) :
    PPOp P { dst:=dst,op:=.binOp .eql t x y t',type:=ty,pos:=pos,after:=af,guard:=gd } ρ (.sc (.bool (decide (a = b)))) :=
  PPOp.val (by simp) (fun B G act w hR E=>⟨.bool (decide (a = b)),exec_bin _ (by
    obtain ⟨ms,hu⟩:=hu.h
    obtain ⟨j,hj,hjc⟩:=Option.map_eq_some_iff.1 hc.c
    rw [conc_sc (E x (by first|exact List.Mem.head _|exact List.Mem.tail _ (List.Mem.head _)) _ hx),conc_sc (E y (by first|exact List.Mem.tail _ (List.Mem.head _)|exact List.Mem.head _) _ hy)]
    have h : ∀ d : Nat,(Op.equalIn (d + 2) t (.iface tx (.int k a)) (.iface tx (.int k b))).run P w = .ok (a == b) w:=fun d=>by
      simp [Op.equalIn,run_underlying hu,typeInfo,hj,hjc,run_underlying hc.u]
    have hg : (eqGuard .eql t x y (.iface tx (.int k a)) (.iface tx (.int k b))).run P w = .ok () w:=rfl
    have e : (a == b) = decide (a = b):=by by_cases h : a = b <;> simp [h]
    rw [Sem.run_bind,hg]
    show (binOp .eql t (.iface tx (.int k a)) (.iface tx (.int k b))).run P w = _
    simp only [binOp]
    rw [Sem.run_bind]
    have h2:=h 9998
    rw [e] at h2
    rw [show (Op.equal t (.iface tx (.int k a)) (.iface tx (.int k b))).run P w = .ok (decide (a = b)) w from h2]
    rfl),.sc _⟩)
theorem D_loadG {t g : Nat} {x : Operand} {u : Value} [ha : Agg P t false] (hx : ρ x = some (.sc (.pointer (some ⟨g,0,none⟩)))) (hg : GlobF.f P g 0 = some u) : PPOp P { dst:=dst,op:=.load t x,type:=ty,pos:=pos,after:=af,guard:=gd } ρ (.sc u) :=
  PPOp.val (by simp) (fun B G act w hR E=>by
    have hv:=conc_sc (E x (by first|exact List.Mem.head _|exact List.Mem.tail _ (List.Mem.head _)) _ hx)
    have hcell:=hR.imm _ _ _ (hR.glob _ _ _ hg)
    exact ⟨u,by simp [execOp,hv,Instr.loadAt,Instr.sureAddr,loadVar,ha.h,load,Sem.run,hcell],.sc _⟩)
end
section
variable {P : Program} [GlobF P] {fr : Option Nat} {N : Nat} {Q : Exit → AS → Prop} {ops : Array Oper} {rest : List Oper} {rg : List (Nat × AV)} {h : List AObj} {mk : Mk} {ty : TypeId} {pos : String} {af : Array Edge} {d : Nat}
theorem m_mkIP {t : TypeId} {x : Operand} [hn : Ncf P t] (hd : Nat.blt d N = true) (hk : ∀ v,(∃ te u,v = Value.iface te u) → WL P fr N ops rest Q ⟨(d,.sc v) :: rg,h,mk⟩) :
    WL P fr N ops ({ dst:=some d,op:=.makeInterface t x,type:=ty,pos:=pos,after:=af,guard:=none } :: rest) Q ⟨rg,h,mk⟩:=by
  intro B G a w hR
  refine wpListIn_plain rfl fun K hK=>?_
  refine ⟨fun f _=>fence_fn fr f,?_⟩
  have hrun : (execOp a.eval { dst:=some d,op:=.makeInterface t x,type:=ty,pos:=pos,after:=af,guard:=none }).run P w = .ok (.value (.iface t (a.eval x))) w:=by
    simp [execOp,run_mkI hn.h]
  rw [Oper.semAt_eq _ _ _ (by simp),hrun]
  exact hK _ _ (hk (.iface t (a.eval x)) ⟨_,_,rfl⟩ B G _ w (hR.put (by simpa [Nat.blt_eq] using hd) (.sc _)))
end
end Go.AL

namespace Go.AL
section
variable {P : Program} [GlobF P] {ty : TypeId} {pos : String} {af : Array Edge} {dst : Option Nat} {gd : Option (Nat × Bool)} {ρ : Operand → Option AV}
theorem D_and {t t' : TypeId} {x y : Operand} {k : IntKind} {a b : Int} (hx : ρ x = some (.sc (.int k a))) (hy : ρ y = some (.sc (.int k b))) : PPOp P { dst:=dst,op:=.binOp .and t x y t',type:=ty,pos:=pos,after:=af,guard:=gd } ρ (.sc (.int k (bits .and k a b))) :=
  PPOp.val (by simp) (fun B G act w hR E=>⟨.int k (bits .and k a b),exec_bin _ (by
    rw [conc_sc (E x (by first|exact List.Mem.head _|exact List.Mem.tail _ (List.Mem.head _)) _ hx),conc_sc (E y (by first|exact List.Mem.tail _ (List.Mem.head _)|exact List.Mem.head _) _ hy),Sem.run_bind,show (eqGuard .and t x y (.int k a) (.int k b)).run P w = .ok () w from rfl]
    simp [binOp]
    rfl),.sc _⟩)
theorem D_or {t t' : TypeId} {x y : Operand} {k : IntKind} {a b : Int} (hx : ρ x = some (.sc (.int k a))) (hy : ρ y = some (.sc (.int k b))) : PPOp P { dst:=dst,op:=.binOp .or t x y t',type:=ty,pos:=pos,after:=af,guard:=gd } ρ (.sc (.int k (bits .or k a b))) :=
  PPOp.val (by simp) (fun B G act w hR E=>⟨.int k (bits .or k a b),exec_bin _ (by
    rw [conc_sc (E x (by first|exact List.Mem.head _|exact List.Mem.tail _ (List.Mem.head _)) _ hx),conc_sc (E y (by first|exact List.Mem.tail _ (List.Mem.head _)|exact List.Mem.head _) _ hy),Sem.run_bind,show (eqGuard .or t x y (.int k a) (.int k b)).run P w = .ok () w from rfl]
    simp [binOp]
    rfl),.sc _⟩)
theorem D_sc {o : Oper} {v v' : Value} (h : PPOp P o ρ (.sc v)) (e : v = v') : PPOp P o ρ (.sc v'):=e ▸ h
end
theorem and15 : ∀ c : Fin 256,bits .and .u8 ((c.val : Nat) : Int) 15 = ((c.val % 16 : Nat) : Int):=by decide +kernel
theorem and15' (c : UInt8) : bits .and .u8 (c.toNat : Int) 15 = ((c.toNat % 16 : Nat) : Int):=and15 ⟨c.toNat,c.toNat_lt⟩
theorem shr4' (c : UInt8) : ((c.toNat : Int)).fdiv (2 ^ (min (4 : Int).toNat IntKind.u8.bits)) = ((c.toNat / 16 : Nat) : Int):=by
  show ((c.toNat : Int)).fdiv 16 = _
  rw [Int.fdiv_eq_ediv_of_nonneg _ (by decide)]
  omega
end Go.AL
