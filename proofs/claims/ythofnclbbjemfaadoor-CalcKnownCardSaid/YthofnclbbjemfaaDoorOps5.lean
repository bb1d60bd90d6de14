/- The rules of the abstract logic, thirteenth part: arrays; calls upon a heap. No condition. -/
import Derived.Test.YthofnclbbjemfaaDoorApp4
import Derived.Laws.BytesArg
set_option linter.all false
namespace Go.AL
section
variable {P : Program} [GlobF P] {ty : TypeId} {pos : String} {af : Array Edge} {dst : Option Nat} {gd : Option (Nat × Bool)} {ρ : Operand → Option AV}
end
section
variable {P : Program} [GlobF P] {fr : Option Nat} {N : Nat} {Q : Exit → AS → Prop} {ops : Array Oper} {rest : List Oper} {rg : List (Nat × AV)} {h : List AObj} {mk : Mk} {ty : TypeId} {pos : String} {af : Array Edge} {d : Nat}
theorem WL_enterR {op : Op} {f : FuncId} {xs : List AV} {K : AV → List AObj → Prop} (hd : Nat.blt d N = true) (hdef : ∀ c,op ≠ .defer c) (hac : AC P f xs h K)
    (hop : ∀ (B : Base P) (G : Gh) (a : Act) (w : World),R B N G ⟨rg,h,mk⟩ a w → ∃ vs,(execOp a.eval { dst:=some d,op:=op,type:=ty,pos:=pos,after:=af,guard:=none }).run P w = (callFunc f vs.toArray).run P w ∧ ConcL G vs xs)
    (hk : ∀ v h',K v h' → WL P fr N ops rest Q ⟨(d,v) :: rg,h',mk⟩) :
    WL P fr N ops ({ dst:=some d,op:=op,type:=ty,pos:=pos,after:=af,guard:=none } :: rest) Q ⟨rg,h,mk⟩ :=
  WL_enter (s:=⟨rg,h,mk⟩) hd hdef hac hop hk
theorem m_call {x : Operand} {args : List Operand} {ts : Array TypeId} {f : FuncId} {xs : List AV} {K : AV → List AObj → Prop} (hac : AC P f xs h K) (hx : evR rg x = some (.sc (.func (.func f) #[] #[]))) (ha : opsO (evR rg) args = some xs) (hd : Nat.blt d N = true)
    (hk : ∀ v h',K v h' → WL P fr N ops rest Q ⟨(d,v) :: rg,h',mk⟩) :
    WL P fr N ops ({ dst:=some d,op:=.call { callee:=.value x,args:=args.toArray,argTypes:=ts },type:=ty,pos:=pos,after:=af,guard:=none } :: rest) Q ⟨rg,h,mk⟩ :=
  WL_enterR hd (by simp) hac (fun B G a w hR=>⟨args.map a.eval,by
    have ex:=hR.ev x
    rw [show (⟨rg,h,mk⟩ : AS).ev x = _ from AS.evO_eq ((evR_eq rg h mk) ▸ hx)] at ex
    rw [exec_call (fs:=[]) (cs:=[]) a.eval (conc_sc ex)];simp,opsO_conc ha fun x _ u hu=>by
      have:=hR.ev x
      rwa [show (⟨rg,h,mk⟩ : AS).ev x = u from AS.evO_eq ((evR_eq rg h mk) ▸ hu)] at this⟩) hk
theorem m_app {t e tk k n by_ : Nat} {x y : Operand} {els els' : List (List AV)} {tok' : Option Nat} {z : Value} [hu : Und P t (.slice e)] [hi : Inf P e k by_ z] [hone : OneLL els'] (hx : evR rg x = some (.sl (some tk) k els)) (hy : evR rg y = some (.sl tok' k els'))
    (ht : h[tk]? = some (.tail n k e)) (hn : n = els.length) (hk : Nat.blt 0 k = true) (hzk : Nat.beq z.cells.size k = true) (hb : (els.length + els'.length) * by_ ≤ 140737488355328) (h63 : els.length + els'.length < 4611686018427387904) (hd : Nat.blt d N = true)
    (hw : WL P fr N ops rest Q ⟨(d,.sl (some tk) k (els ++ els')) :: rg,h.set tk (.tail (els.length + els'.length) k e),mk⟩) :
    WL P fr N ops ({ dst:=some d,op:=.call { callee:=.builtin .append,args:=#[x,y],argTypes:=#[t,t] },type:=ty,pos:=pos,after:=af,guard:=none } :: rest) Q ⟨rg,h,mk⟩ :=
  pV (S_app hx hy ht hn hk hzk hb h63) hd hw
theorem m_appB {t e tk k n by_ : Nat} {x y : Operand} {els els' : List (List AV)} {tok' : Option Nat} {z : Value} [hu : Und P t (.slice e)] [hi : Inf P e k by_ z] (hx : evR rg x = some (.sl (some tk) k els)) (hy : evR rg y = some (.sl tok' k els')) (hone : els'.all (fun e=>e.all AV.one) = true)
    (ht : h[tk]? = some (.tail n k e)) (hn : n = els.length) (hk : Nat.blt 0 k = true) (hzk : Nat.beq z.cells.size k = true) (hb : (els.length + els'.length) * by_ ≤ 140737488355328) (h63 : els.length + els'.length < 4611686018427387904) (hd : Nat.blt d N = true)
    (hw : WL P fr N ops rest Q ⟨(d,.sl (some tk) k (els ++ els')) :: rg,h.set tk (.tail (els.length + els'.length) k e),mk⟩) :
    WL P fr N ops ({ dst:=some d,op:=.call { callee:=.builtin .append,args:=#[x,y],argTypes:=#[t,t] },type:=ty,pos:=pos,after:=af,guard:=none } :: rest) Q ⟨rg,h,mk⟩ :=
  haveI : OneLL els':=⟨fun e he=>⟨fun x hx=>List.all_eq_true.1 (List.all_eq_true.1 hone e he) x hx⟩⟩
  m_app hx hy ht hn hk hzk hb h63 hd hw
end
theorem get_set {α : Type} {h : List α} {i : Nat} {x y : α} (hi : h[i]? = some x) : (h.set i y)[i]? = some y:=List.getElem?_set_self (List.getElem?_eq_some_iff.1 hi).1
section
variable {P : Program} [GlobF P]
theorem ret0 {fn : Func} {e : Exit} {K : AV → List AObj → Prop} {rg : List (Nat × AV)} {h : List AObj} {mk : Mk} (he : e = .ret ∨ e = .normal) (hf : fn.results = #[]) (hm : mk.l = []) (hk : K (.tu []) h) : Ret P fn K e ⟨rg,h,mk⟩:=by
  obtain ⟨l,n0⟩:=mk
  simp only at hm;subst hm
  exact retK he (rs:=[]) (vs:=[]) hf trivial trivial hk
theorem retK1 {fn : Func} {e : Exit} {K : AV → List AObj → Prop} {rg : List (Nat × AV)} {h : List AObj} {mk : Mk} {r : ResultVar} {v : AV} (he : e = .ret ∨ e = .normal) (hf : fn.results = #[r]) (hm : mk.l = []) (hr : ResO P rg h r v) (hk : K v h) : Ret P fn K e ⟨rg,h,mk⟩:=by
  obtain ⟨l,n0⟩:=mk
  simp only at hm;subst hm
  exact retK he (rs:=[r]) (vs:=[v]) hf trivial ⟨hr,trivial⟩ hk
end
section
variable {P : Program} [GlobF P] {fr : Option Nat} {N : Nat} {Q : Exit → AS → Prop} {ops : Array Oper} {rest : List Oper} {s : AS} {ty : TypeId} {pos : String} {af : Array Edge} {dst : Option Nat}
theorem idAp {xs : Array Operand} {ts : Array TypeId} {g : Option (Nat × Bool)} (h : WL P fr N ops ({ dst:=dst,op:=.call { callee:=.builtin .append,args:=xs,argTypes:=ts },type:=ty,pos:=pos,after:=af,guard:=g } :: rest) Q s) : WL P fr N ops ({ dst:=dst,op:=.call { callee:=.builtin .append,args:=xs,argTypes:=ts },type:=ty,pos:=pos,after:=af,guard:=g } :: rest) Q s:=h
end
end Go.AL

namespace Go.AL
section
variable {P : Program} [GlobF P] {fr : Option Nat} {N : Nat} {Q : Exit → AS → Prop} {ops : Array Oper} {rg : List (Nat × AV)} {h : List AObj} {mk : Mk}
end
section
variable {P : Program} [GlobF P] {ty : TypeId} {pos : String} {af : Array Edge} {dst : Option Nat} {gd : Option (Nat × Bool)} {ρ : Operand → Option AV}
end
end Go.AL
