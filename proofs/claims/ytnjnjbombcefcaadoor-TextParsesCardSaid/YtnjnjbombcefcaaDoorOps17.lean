/- Rules of the abstract logic: pointers and interfaces held against nil, pointers through unsafe.Pointer, typed boxes, calls of the library's that have only grown the world. No condition. -/
import Derived.Test.YtnjnjbombcefcaaDoorOps11
import Derived.Test.YtnjnjbombcefcaaDoorOps7
import Derived.Lib.Builder
import Derived.Test.YtnjnjbombcefcaaDoorApp2
import Derived.Lib.AppendStr
set_option linter.all false
namespace Go.AL
section
variable {P : Program} [GlobF P] {ty : TypeId} {pos : String} {af : Array Edge} {dst : Option Nat} {gd : Option (Nat × Bool)} {ρ : Operand → Option AV} {hp : List AObj}
theorem box_inv2 {B : Base P} {G : Gh} {w : World} {r : Nat} {xs : List AV} {tp : Option TypeId} (hr : RH B G hp w) (ho : hp[r]? = some (.cells xs tp)) {v : Value} {off : Nat} (hv : Conc G v (.bp r off)) :
    ∃ (b : Nat) (c : List Value) (t : BT tp),v = .pointer (some ⟨b,off,none⟩) ∧ G.blk r = some b ∧ B.w.heap.size ≤ b ∧ ConcL G c xs ∧ w.heap[b]? = some (.cells c.toArray t.1 (0,0)) ∧ ∀ o,G.imm b o = none:=by
  obtain ⟨b,rfl,hb⟩:=conc_bp hv
  obtain ⟨b',c,t,g1,g2,g3,g4,g5⟩:=hr.obj r _ ho
  rw [hb] at g1;cases g1
  exact ⟨b,c,t,rfl,hb,g2,g4,g3,g5⟩
class Lies (P : Program) (T n off te : Nat) : Prop where
  h : liesAt P P.depth T (n / P.cellsOf T) off te 1 = true
theorem D_toU {t u te k by_ r off : Nat} {z : Value} {x : Operand} {xs : List AV} {tp : Option TypeId} [hu : Und P t (.pointer te)] [hd : Und P u .unsafePointer] [hi : Inf P te k by_ z] (hx : ρ x = some (.bp r off)) (ho : hp[r]? = some (.cells xs tp)) (hk : Nat.blt 0 k = true) (hoff : Nat.blt off xs.length = true) :
    POp P { dst:=dst,op:=.convert t u x,type:=ty,pos:=pos,after:=af,guard:=gd } ρ hp (.bp r off) :=
  POp.val (by simp) (fun B G act w hR E=>by
    obtain ⟨b,cs,t',hv,hb,_,h1,h2,_⟩:=box_inv2 hR ho (E _ (by first|exact List.Mem.head _|exact List.Mem.tail _ (List.Mem.head _)) _ hx)
    obtain ⟨j,hj,hs,_,_⟩:=hi.h
    have hk' : 0 < k:=by simpa [Nat.blt_eq] using hk
    have ho' : off < xs.length:=by simpa [Nat.blt_eq] using hoff
    have hsh : w.shape? b = some (t'.1,cs.length):=by simp [World.shape?,h2]
    have hrun:=Lib.run_to_unsafe (P:=P) w ⟨b,off,none⟩ hu.h hd.h hj (by rw [hs];omega) hsh (by show off < cs.length;rw [h1.1];exact ho')
    exact ⟨.pointer (some ⟨b,off,none⟩),by simp [execOp,hv,hrun],.bp hb⟩)
theorem D_fromU {t u te k by_ r off n T : Nat} {z : Value} {x : Operand} {xs : List AV} [hu : Und P t (.pointer te)] [hd : Und P u .unsafePointer] [hi : Inf P te k by_ z] [hl : Lies P T n off te] (hx : ρ x = some (.bp r off)) (ho : hp[r]? = some (.cells xs (some T))) (hn : xs.length = n) :
    POp P { dst:=dst,op:=.convert u t x,type:=ty,pos:=pos,after:=af,guard:=gd } ρ hp (.bp r off) :=
  POp.val (by simp) (fun B G act w hR E=>by
    obtain ⟨b,cs,t',hv,hb,_,h1,h2,_⟩:=box_inv2 hR ho (E _ (by first|exact List.Mem.head _|exact List.Mem.tail _ (List.Mem.head _)) _ hx)
    obtain ⟨j,hj,_,_,_⟩:=hi.h
    have hsh : w.shape? b = some (T,n):=by
      have:=t'.2 T rfl
      simp [World.shape?,h2,this,h1.1,hn]
    have hrun:=Lib.run_from_unsafe (P:=P) w ⟨b,off,none⟩ hd.h hu.h hj hsh hl.h
    exact ⟨.pointer (some ⟨b,off,none⟩),by simp [execOp,hv,hrun],.bp hb⟩)
theorem D_noesc {x z : Operand} {ts : Array TypeId} {f : FuncId} {v : AV} [hx : Xt P f Extern.AbiNoEscape.same] (hz : ρ z = some (.sc (.func (.func f) #[] #[]))) (h1 : ρ x = some v) :
    PPOp P { dst:=dst,op:=.call { callee:=.value z,args:=#[x],argTypes:=ts },type:=ty,pos:=pos,after:=af,guard:=gd } ρ v :=
  PPOp.val (by simp) (fun B G act w hR E=>⟨act.eval x,by
    have e0:=conc_sc (E z (by simp [Op.operands,Call.operands]) _ hz)
    have:=exec_call (P0:=P) (ty:=ty) (pos:=pos) (af:=af) (args:=[x]) (ts:=ts) (dst:=dst) (g:=gd) (fs:=[]) (cs:=[]) (w:=w) act.eval e0
    rw [show (#[x] : Array Operand) = [x].toArray from rfl,this,hx.h]
    simp only [List.map_cons,List.map_nil,List.nil_append,List.append_nil]
    rw [Lib.run_noEscape];rfl,E x (by simp [Op.operands,Call.operands]) _ h1⟩)
theorem run_eql_ptr_nil {P0 : Program} {t te : TypeId} (hu : P0.underlying t = some (.pointer te)) (a : Option Addr) (w : World) : (binOp .eql t (.pointer a) (.pointer none)).run P0 w = .ok (.bool a.isNone) w:=by
  have h : ∀ d : Nat,(Op.equalIn (d + 1) t (.pointer a) (.pointer none)).run P0 w = .ok a.isNone w:=fun d=>by
    cases a <;> simp [Op.equalIn,run_underlying hu]
  simp only [binOp]
  simp [Op.equal,Op.maxDepth,h 9999]
theorem D_peN {t te t' : TypeId} {x y : Operand} [hu : Und P t (.pointer te)] (hx : ρ x = some (.sc (.pointer none))) (hy : ρ y = some (.sc (.pointer none))) :
    PPOp P { dst:=dst,op:=.binOp .eql t x y t',type:=ty,pos:=pos,after:=af,guard:=gd } ρ (.sc (.bool true)) :=
  PPOp.val (by simp) (fun B G act w hR E=>⟨.bool true,exec_bin _ (by
    rw [conc_sc (E _ (by first|exact List.Mem.head _|exact List.Mem.tail _ (List.Mem.head _)) _ hx),conc_sc (E _ (by first|exact List.Mem.head _|exact List.Mem.tail _ (List.Mem.head _)) _ hy),Sem.run_bind,show (eqGuard .eql t x y (.pointer none) (.pointer none)).run P w = .ok () w from rfl]
    exact run_eql_ptr_nil hu.h none w),.sc _⟩)
theorem D_peB {t te t' : TypeId} {x y : Operand} {r o : Nat} [hu : Und P t (.pointer te)] (hx : ρ x = some (.bp r o)) (hy : ρ y = some (.sc (.pointer none))) :
    PPOp P { dst:=dst,op:=.binOp .eql t x y t',type:=ty,pos:=pos,after:=af,guard:=gd } ρ (.sc (.bool false)) :=
  PPOp.val (by simp) (fun B G act w hR E=>by
    obtain ⟨b,hv,hb⟩:=conc_bp (E _ (by first|exact List.Mem.head _|exact List.Mem.tail _ (List.Mem.head _)) _ hx)
    exact ⟨.bool false,exec_bin _ (by
      rw [hv,conc_sc (E _ (by first|exact List.Mem.tail _ (List.Mem.head _)|exact List.Mem.head _) _ hy),Sem.run_bind,show (eqGuard .eql t x y (.pointer (some ⟨b,o,none⟩)) (.pointer none)).run P w = .ok () w from rfl]
      exact run_eql_ptr_nil hu.h (some ⟨b,o,none⟩) w),.sc _⟩)
theorem D_pnB {t te t' k by_ : Nat} {z : Value} {x y : Operand} {r o : Nat} [hu : Und P t (.pointer te)] [hi : Inf P te k by_ z] (hx : ρ x = some (.bp r o)) (hy : ρ y = some (.bp r o)) :
    PPOp P { dst:=dst,op:=.binOp .neq t x y t',type:=ty,pos:=pos,after:=af,guard:=gd } ρ (.sc (.bool false)) :=
  PPOp.val (by simp) (fun B G act w hR E=>by
    obtain ⟨b,hv,hb⟩:=conc_bp (E _ (by first|exact List.Mem.head _|exact List.Mem.tail _ (List.Mem.head _)) _ hx)
    obtain ⟨b',hv',hb'⟩:=conc_bp (E _ (by first|exact List.Mem.tail _ (List.Mem.head _)|exact List.Mem.head _) _ hy)
    rw [hb] at hb';cases hb'
    obtain ⟨j,hj,_⟩:=hi.h
    exact ⟨.bool false,exec_bin _ (by
      rw [hv,hv',Sem.run_bind,show (eqGuard .neq t x y (.pointer (some ⟨b,o,none⟩)) (.pointer (some ⟨b,o,none⟩))).run P w = .ok () w from rfl]
      exact Lib.run_neq_ptr_same w _ hu.h hj),.sc _⟩)
class Ifc (P : Program) (t : TypeId) : Prop where
  h : ∃ ms,P.underlying t = some (.interface ms)
theorem run_neq_iface_nil {P0 : Program} {t : TypeId} (hu : ∃ ms,P0.underlying t = some (.interface ms)) {v : Value} {b : Bool} (hv : (v = .nilIface ∧ b = false) ∨ ((∃ te u,v = .iface te u) ∧ b = true)) (w : World) :
    (binOp .neq t v .nilIface).run P0 w = .ok (.bool b) w ∧ (binOp .eql t v .nilIface).run P0 w = .ok (.bool (!b)) w:=by
  obtain ⟨ms,hu⟩:=hu
  have h : ∀ d : Nat,(Op.equalIn (d + 1) t v .nilIface).run P0 w = .ok (!b) w:=fun d=>by
    rcases hv with ⟨rfl,rfl⟩ | ⟨⟨te,u,rfl⟩,rfl⟩ <;> simp [Op.equalIn,run_underlying hu]
  constructor
  · simp only [binOp]
    simp [Op.equal,Op.maxDepth,h 9999]
  · simp only [binOp]
    simp [Op.equal,Op.maxDepth,h 9999]
theorem D_inI {t t' : TypeId} {x : Operand} {v : Value} {b : Bool} [hu : Ifc P t] (hx : ρ x = some (.sc v)) (hv : (v = .nilIface ∧ b = false) ∨ ((∃ te u,v = .iface te u) ∧ b = true)) :
    PPOp P { dst:=dst,op:=.binOp .neq t x (.const .nilIface) t',type:=ty,pos:=pos,after:=af,guard:=gd } ρ (.sc (.bool b)) :=
  PPOp.val (by simp) (fun B G act w hR E=>⟨.bool b,exec_bin _ (by
    rw [conc_sc (E _ (by first|exact List.Mem.head _|exact List.Mem.tail _ (List.Mem.head _)) _ hx),show act.eval (.const .nilIface) = .nilIface from rfl,Sem.run_bind,show (eqGuard .neq t x (.const .nilIface) v .nilIface).run P w = .ok () w by rcases hv with ⟨rfl,_⟩ | ⟨⟨te,u,rfl⟩,_⟩ <;> cases x <;> rfl]
    exact (run_neq_iface_nil hu.h hv w).1),.sc _⟩)
theorem D_ieI {t t' : TypeId} {x : Operand} {v : Value} {b : Bool} [hu : Ifc P t] (hx : ρ x = some (.sc v)) (hv : (v = .nilIface ∧ b = false) ∨ ((∃ te u,v = .iface te u) ∧ b = true)) :
    PPOp P { dst:=dst,op:=.binOp .eql t x (.const .nilIface) t',type:=ty,pos:=pos,after:=af,guard:=gd } ρ (.sc (.bool (!b))) :=
  PPOp.val (by simp) (fun B G act w hR E=>⟨.bool (!b),exec_bin _ (by
    rw [conc_sc (E _ (by first|exact List.Mem.head _|exact List.Mem.tail _ (List.Mem.head _)) _ hx),show act.eval (.const .nilIface) = .nilIface from rfl,Sem.run_bind,show (eqGuard .eql t x (.const .nilIface) v .nilIface).run P w = .ok () w by rcases hv with ⟨rfl,_⟩ | ⟨⟨te,u,rfl⟩,_⟩ <;> cases x <;> rfl]
    exact (run_neq_iface_nil hu.h hv w).2),.sc _⟩)
end
section
variable {P : Program} [GlobF P]
theorem sc_args {G : Gh} {us vs : List Value} (hc : ConcL G vs (us.map .sc)) : vs = us:=by
  apply List.ext_getElem?
  intro i
  rcases Nat.lt_or_ge i us.length with hi|hi
  · have hi2 : i < vs.length:=by rw [hc.1];simpa using hi
    have:=hc.2 i vs[i] (.sc us[i]) (List.getElem?_eq_getElem hi2) (by simp [hi])
    rw [List.getElem?_eq_getElem hi2,List.getElem?_eq_getElem hi,conc_sc this]
  · rw [List.getElem?_eq_none (by rw [hc.1];simpa using hi),List.getElem?_eq_none hi]
theorem grown_imm {w w' : World} {imm : Nat → Nat → Option Value} (hg : Grown w w') (him : ∀ b o u,imm b o = some u → w.cell? ⟨b,o,none⟩ = some u) :
    ∃ imm' : Nat → Nat → Option Value,(∀ b o,b < w.heap.size → imm' b o = imm b o) ∧ ∀ b o u,imm' b o = some u → w'.cell? ⟨b,o,none⟩ = some u:=by
  refine ⟨fun b o=>if b < w.heap.size then imm b o else none,fun b o hb=>if_pos hb,fun b o u e=>?_⟩
  dsimp only at e
  by_cases hb : b < w.heap.size
  · rw [if_pos hb] at e
    have:=him b o u e
    unfold World.cell? at this ⊢
    rw [hg.out b hb];exact this
  · rw [if_neg hb] at e;cases e
theorem PC.of_grown {f : FuncId} {us : List Value} {v : Value} (he : Go.Proofs.Enters P f) (h : ∀ w : World,(∀ b o u,GlobF.f P b o = some u → w.cell? ⟨b,o,none⟩ = some u) → (∀ b x,GlobF.o P b = some x → w.heap[b]? = some x) → Calls P f us.toArray w fun e w'=>e = .returned v ∧ Grown w w') : PC P f (us.map .sc) (.sc v) :=
  ⟨he,fun w imm vs hgl him hc=>by
    rw [sc_args hc]
    exact (h w (fun b o u e=>him b o u (hgl.f b o u e)) hgl.o).mono fun e w' ⟨h1,h2⟩=>by
      obtain ⟨imm',i1,i2⟩:=grown_imm h2 him
      exact ⟨v,imm',h1,h2,i1,i2,.sc _⟩⟩
theorem AC.of_grown2 {f : FuncId} {us : List Value} {h : List AObj} {S : Value → Value → Prop} (he : Go.Proofs.Enters P f) (hk : ∀ w : World,(∀ b o u,GlobF.f P b o = some u → w.cell? ⟨b,o,none⟩ = some u) → (∀ b x,GlobF.o P b = some x → w.heap[b]? = some x) → Calls P f us.toArray w fun e w'=>∃ a b,S a b ∧ e = .returned (.tuple #[a,b]) ∧ Grown w w') :
    AC P f (us.map .sc) h (fun v h'=>h' = h ∧ ∃ a b,S a b ∧ v = .tu [.sc a,.sc b]) :=
  ⟨he,fun B G w vs hr hc=>by
    rw [sc_args hc]
    refine (hk w (fun b o u e=>hr.imm b o u (hr.glob b o u e)) hr.globW.o).mono ?_
    rintro e w' ⟨a,b,hs,rfl,hg⟩
    obtain ⟨imm',i1,i2⟩:=grown_imm hg hr.imm
    obtain ⟨hle,hr'⟩:=hr.grown hg i1 i2
    have hc2 : ConcL ⟨imm',G.blk,G.tl⟩ [a,b] [.sc a,.sc b]:=.cons (.sc _) (.cons (.sc _) (.nil _))
    exact ⟨_,_,h,_,rfl,hle,hr',.tu (cs:=[a,b]) hc2.1 hc2.2,rfl,a,b,hs,rfl⟩⟩
theorem RH.dead {B : Base P} {G : Gh} {h : List AObj} {w : World} (hr : RH B G h w) (r : Nat) : RH B G (h.set r .dead) w:=by
  have key : ∀ {q : Nat} {o : AObj},(h.set r .dead)[q]? = some o → o = .dead ∨ h[q]? = some o:=fun {q o} e=>by
    by_cases hq : q = r
    · subst hq
      by_cases hl : q < h.length
      · rw [List.getElem?_set_self hl] at e;cases e;exact .inl rfl
      · rw [List.getElem?_eq_none (by simpa using hl)] at e;cases e
    · rw [List.getElem?_set_ne (Ne.symm hq)] at e;exact .inr e
  refine ⟨hr.base,hr.tape,hr.os,hr.output,hr.drawn,hr.size,hr.out,hr.imm,hr.low,fun q o e=>?_,fun q q' o o' b h1 h2 h3 h4=>?_,fun q hq=>hr.fresh q (by simpa using hq)⟩
  · rcases key e with rfl|e
    · trivial
    · exact hr.obj q o e
  · rcases key h1 with rfl|h1
    · cases h3
    · rcases key h2 with rfl|h2
      · cases h4
      · exact hr.inj q q' o o' b h1 h2 h3 h4
end
section
variable {P : Program} [GlobF P] {fr : Option Nat} {N : Nat} {Q : Exit → AS → Prop} {ops : Array Oper} {rest : List Oper} {rg : List (Nat × AV)} {h : List AObj} {mk : Mk} {ty : TypeId} {pos : String} {af : Array Edge} {d : Nat}
theorem m_allocT {t : TypeId} {z : Value} [hz : Zer P t z] (hd : Nat.blt d N = true)
    (hk : WL P fr N ops rest Q ⟨(d,.bp h.length 0) :: rg,h ++ [.cells (z.cells.toList.map .sc) (some t)],mk⟩) :
    WL P fr N ops ({ dst:=some d,op:=.alloc t,type:=ty,pos:=pos,after:=af,guard:=none } :: rest) Q ⟨rg,h,mk⟩ :=
  WL_op (s:=⟨rg,h,mk⟩) hd (by simp) (fun B G a w hr=>by
    have hc : ConcL G z.cells.toList (z.cells.toList.map AV.sc):=⟨by simp,fun i v x hv hx=>by
      rw [List.getElem?_map,hv] at hx;simp at hx;subst hx;exact .sc v⟩
    obtain ⟨hle,hr'⟩:=hr.heap.allocBoxT z.cells.toList _ t hc 0
    refine ⟨.pointer (some ⟨w.heap.size,0,none⟩),_,_,?_,hle,hr',.bp (if_pos rfl)⟩
    have e : z.cells.toList.toArray = z.cells:=Array.toArray_toList
    rw [e]
    simp only [execOp,Instr.alloc,Sem.run_bind,Sem.run_pure,hz.h,Result.andThen_ok,run_newVar]
    rfl) hk
end
end Go.AL

namespace Go.AL
section
variable {P : Program} [GlobF P] {ty : TypeId} {pos : String} {af : Array Edge} {d : Nat} {gd : Option (Nat × Bool)} {ρ : Operand → Option AV} {h : List AObj}
end
section
variable {P : Program} [GlobF P] {fr : Option Nat} {N : Nat} {Q : Exit → AS → Prop} {ops : Array Oper} {rest : List Oper} {rg : List (Nat × AV)} {h : List AObj} {mk : Mk} {ty : TypeId} {pos : String} {af : Array Edge} {d : Nat}
end
end Go.AL
