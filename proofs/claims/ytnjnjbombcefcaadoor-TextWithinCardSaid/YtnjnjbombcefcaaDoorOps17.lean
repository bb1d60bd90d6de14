/- Rules of the abstract logic: pointers and interfaces held against nil, pointers through unsafe.Pointer, typed boxes, calls of the library's that have only grown the world. No condition. -/
import Derived.Test.YtnjnjbombcefcaaDoorOps11
import Derived.Test.YtnjnjbombcefcaaDoorOps7
import Derived.Lib.Builder
import Derived.Test.YtnjnjbombcefcaaDoorApp2
import Derived.Lib.AppendStr
set_option linter.all false
namespace Go.AL
section
variable {P : Program} [GlobF P] {ty : TypeId} {pos : String} {af : Array Edge} {dst : Option Nat} {gd : Option (Nat × Bool)} {ρ : Operand → Option AV} {hp : List AObj}
theorem box_inv2 {B : Base P} {G : Gh} {w : World} {r : Nat} {xs : List AV} {tp : Option TypeId} (hr : RH B G hp w) (ho : hp[r]? = some (.cells xs tp)) {v : Value} {off : Nat} (hv : Conc G v (.bp r off)) :
    ∃ (b : Nat) (c : List Value) (t : BT tp),v = .pointer (some ⟨b,off,none⟩) ∧ G.blk r = some b ∧ B.w.heap.size ≤ b ∧ ConcL G c xs ∧ w.heap[b]? = some (.cells c.toArray t.1 (0,0)) ∧ ∀ o,G.imm b o = none:=by
  obtain ⟨b,rfl,hb⟩:=conc_bp hv
  obtain ⟨b',c,t,g1,g2,g3,g4,g5⟩:=hr.obj r _ ho
  rw [hb] at g1;cases g1
  exact ⟨b,c,t,rfl,hb,g2,g4,g3,g5⟩
class Lies (P : Program) (T n off te : Nat) : Prop where
  h : liesAt P P.depth T (n / P.cellsOf T) off te 1 = true
theorem D_toU {t u te k by_ r off : Nat} {z : Value} {x : Operand} {xs : List AV} {tp : Option TypeId} [hu : Und P t (.pointer te)] [hd : Und P u .unsafePointer] [hi : Inf P te k by_ z] (hx : ρ x = some (.bp r off)) (ho : hp[r]? = some (.cells xs tp)) (hk : Nat.blt 0 k = true) (hoff : Nat.blt off xs.length = true) :
    POp P { dst:=dst,op:=.convert t u x,type:=ty,pos:=pos,after:=af,guard:=gd } ρ hp (.bp r off) :=
  POp.val (by simp) (fun B G act w hR E=>by
    obtain ⟨b,cs,t',hv,hb,_,h1,h2,_⟩:=box_inv2 hR ho (E _ (by first|exact List.Mem.head _|exact List.Mem.tail _ (List.Mem.head _)) _ hx)
    obtain ⟨j,hj,hs,_,_⟩:=hi.h
    have hk' : 0 < k:=by simpa [Nat.blt_eq] using hk
    have ho' : off < xs.length:=by simpa [Nat.blt_eq] using hoff
    have hsh : w.shape? b = some (t'.1,cs.length):=by simp [World.shape?,h2]
    have hrun:=Lib.run_to_unsafe (P:=P) w ⟨b,off,none⟩ hu.h hd.h hj (by rw [hs];omega) hsh (by show off < cs.length;rw [h1.1];exact ho')
    exact ⟨.pointer (some ⟨b,off,none⟩),by simp [execOp,hv,hrun],.bp hb⟩)
theorem D_fromU {t u te k by_ r off n T : Nat} {z : Value} {x : Operand} {xs : List AV} [hu : Und P t (.pointer te)] [hd : Und P u .unsafePointer] [hi : Inf P te k by_ z] [hl : Lies P T n off te] (hx : ρ x = some (.bp r off)) (ho : hp[r]? = some (.cells xs (some T))) (hn : xs.length = n) :
    POp P { dst:=dst,op:=.convert u t x,type:=ty,pos:=pos,after:=af,guard:=gd } ρ hp (.bp r off) :=
  POp.val (by simp) (fun B G act w hR E=>by
    obtain ⟨b,cs,t',hv,hb,_,h1,h2,_⟩:=box_inv2 hR ho (E _ (by first|exact List.Mem.head _|exact List.Mem.tail _ (List.Mem.head _)) _ hx)
    obtain ⟨j,hj,_,_,_⟩:=hi.h
    have hsh : w.shape? b = some (T,n):=by
      have:=t'.2 T rfl
      simp [World.shape?,h2,this,h1.1,hn]
    have hrun:=Lib.run_from_unsafe (P:=P) w ⟨b,off,none⟩ hd.h hu.h hj hsh hl.h
    exact ⟨.pointer (some ⟨b,off,none⟩),by simp [execOp,hv,hrun],.bp hb⟩)
theorem D_noesc {x z : Operand} {ts : Array TypeId} {f : FuncId} {v : AV} [hx : Xt P f Extern.AbiNoEscape.same] (hz : ρ z = some (.sc (.func (.func f) #[] #[]))) (h1 : ρ x = some v) :
    PPOp P { dst:=dst,op:=.call { callee:=.value z,args:=#[x],argTypes:=ts },type:=ty,pos:=pos,after:=af,guard:=gd } ρ v :=
  PPOp.val (by simp) (fun B G act w hR E=>⟨act.eval x,by
    have e0:=conc_sc (E z (by simp [Op.operands,Call.operands]) _ hz)
    have:=exec_call (P0:=P) (ty:=ty) (pos:=pos) (af:=af) (args:=[x]) (ts:=ts) (dst:=dst) (g:=gd) (fs:=[]) (cs:=[]) (w:=w) act.eval e0
    rw [show (#[x] : Array Operand) = [x].toArray from rfl,this,hx.h]
    simp only [List.map_cons,List.map_nil,List.nil_append,List.append_nil]
    rw [Lib.run_noEscape];rfl,E x (by simp [Op.operands,Call.operands]) _ h1⟩)
theorem run_eql_ptr_nil {P0 : Program} {t te : TypeId} (hu : P0.underlying t = some (.pointer te)) (a : Option Addr) (w : World) : (binOp .eql t (.pointer a) (.pointer none)).run P0 w = .ok (.bool a.isNone) w:=by
  have h : ∀ d : Nat,(Op.equalIn (d + 1) t (.pointer a) (.pointer none)).run P0 w = .ok a.isNone w:=fun d=>by
    cases a <;> simp [Op.equalIn,run_underlying hu]
  simp only [binOp]
  simp [Op.equal,Op.maxDepth,h 9999]
theorem D_peN {t te t' : TypeId} {x y : Operand} [hu : Und P t (.pointer te)] (hx : ρ x = some (.sc (.pointer none))) (hy : ρ y = some (.sc (.pointer none))) :
    PPOp P { dst:=dst,op:=.binOp .eql t x y t',type:=ty,pos:=pos,after:=af,guard:=gd } ρ (.sc (.bool true)) :=
  PPOp.val (by simp) (fun B G act w hR E=>⟨.bool true,exec_bin _ (by
    rw [conc_sc (E _ (by first|exact List.Mem.head _|exact List.Mem.tail _ (List.Mem.head _)) _ hx),conc_sc (E _ (by first|exact List.Mem.head _|exact List.Mem.tail _ (List.Mem.head _)) _ hy),Sem.run_bind,show (eqGuard .eql t x y (.pointer none) (.pointer none)).run P w = .ok () w from rfl]
    exact run_eql_ptr_nil hu.h none w),.sc _⟩)
theorem D_peB {t te t' : TypeId} {x y : Operand} {r o : Nat} [hu : Und P t (.pointer te)] (hx : ρ x = some (.bp r o)) (hy : ρ y = some (.sc (.pointer none))) :
    PPOp P { dst:=dst,op:=.binOp .eql t x y t',type:=ty,pos:=pos,after:=af,guard:=gd } ρ (.sc (.bool false)) :=
  PPOp.val (by simp) (fun B G act w hR E=>by
    obtain ⟨b,hv,hb⟩:=conc_bp (E _ (by first|exact List.Mem.head _|exact List.Mem.tail _ (List.Mem.head _)) _ hx)
    exact ⟨.bool false,exec_bin _ (by
      rw [hv,conc_sc (E _ (by first|exact List.Mem.tail _ (List.Mem.head _)|exact List.Mem.head _) _ hy),Sem.run_bind,show (eqGuard .eql t x y (.pointer (some ⟨b,o,none⟩)) (.pointer none)).run P w = .ok () w from rfl]
      exact run_eql_ptr_nil hu.h (some ⟨b,o,none⟩) w),.sc _⟩)
theorem D_pnB {t te t' k by_ : Nat} {z : Value} {x y : Operand} {r o : Nat} [hu : Und P t (.pointer te)] [hi : Inf P te k by_ z] (hx : ρ x = some (.bp r o)) (hy : ρ y = some (.bp r o)) :
    PPOp P { dst:=dst,op:=.binOp .neq t x y t',type:=ty,pos:=pos,after:=af,guard:=gd } ρ (.sc (.bool false)) :=
  PPOp.val (by simp) (fun B G act w hR E=>by
    obtain ⟨b,hv,hb⟩:=conc_bp (E _ (by first|exact List.Mem.head _|exact List.Mem.tail _ (List.Mem.head _)) _ hx)
    obtain ⟨b',hv',hb'⟩:=conc_bp (E _ (by first|exact List.Mem.tail _ (List.Mem.head _)|exact List.Mem.head _) _ hy)
    rw [hb] at hb';cases hb'
    obtain ⟨j,hj,_⟩:=hi.h
    exact ⟨.bool false,exec_bin _ (by
      rw [hv,hv',Sem.run_bind,show (eqGuard .neq t x y (.pointer (some ⟨b,o,none⟩)) (.pointer (some ⟨b,o,none⟩))).run P w = .ok () w from rfl]
      exact Lib.run_neq_ptr_same w _ hu.h hj),.sc _⟩)
class Ifc (P : Program) (t : TypeId) : Prop where
  h : ∃ ms,P.underlying t = some (.interface ms)
theorem run_neq_iface_nil {P0 : Program} {t : TypeId} (hu : ∃ ms,P0.underlying t = some (.interface ms)) {v : Value} {b : Bool} (hv : (v = .nilIface ∧ b = false) ∨ ((∃ te u,v = .iface te u) ∧ b = true)) (w : World) :
    (binOp .neq t v .nilIface).run P0 w = .ok (.bool b) w ∧ (binOp .eql t v .nilIface).run P0 w = .ok (.bool (!b)) w:=by
  obtain ⟨ms,hu⟩:=hu
  have h : ∀ d : Nat,(Op.equalIn (d + 1) t v .nilIface).run P0 w = .ok (!b) w:=fun d=>by
    rcases hv with ⟨rfl,rfl⟩ | ⟨⟨te,u,rfl⟩,rfl⟩ <;> simp [Op.equalIn,run_underlying hu]
  constructor
  · simp only [binOp]
    simp [Op.equal,Op.maxDepth,h 9999]
  · simp only [binOp]
    simp [Op.equal,Op.maxDepth,h 9999]
theorem D_inI {t t' : TypeId} {x : Operand} {v : Value} {b : Bool} [hu : Ifc P t] (hx : ρ x = some (.sc v)) (hv : (v = .nilIface ∧ b = false) ∨ ((∃ te u,v = .iface te u) ∧ b = true)) :
    PPOp P { dst:=dst,op:=.binOp .neq t x (.const .nilIface) t',type:=ty,pos:=pos,after:=af,guard:=gd } ρ (.sc (.bool b)) :=
  PPOp.val (by simp) (fun B G act w hR E=>⟨.bool b,exec_bin _ (by
    rw [conc_sc (E _ (by first|exact List.Mem.head _|exact List.Mem.tail _ (List.Mem.head _)) _ hx),show act.eval (.const .nilIface) = .nilIface from rfl,Sem.run_bind,show (eqGuard .neq t x (.const .nilIface) v .nilIface).run P w = .ok () w by rcases hv with ⟨rfl,_⟩ | ⟨⟨te,u,rfl⟩,_⟩ <;> cases x <;> rfl]
    exact (run_neq_iface_nil hu.h hv w).1),.sc _⟩)
theorem D_ieI {t t' : TypeId} {x : Operand} {v : Value} {b : Bool} [hu : Ifc P t] (hx : ρ x = some (.sc v)) (hv : (v = .nilIface ∧ b = false) ∨ ((∃ te u,v = .iface te u) ∧ b = true)) :
    PPOp P { dst:=dst,op:=.binOp .eql t x (.const .nilIface) t',type:=ty,pos:=pos,after:=af,guard:=gd } ρ (.sc (.bool (!b))) :=
  PPOp.val (by simp) (fun B G act w hR E=>⟨.bool (!b),exec_bin _ (by
    rw [conc_sc (E _ (by first|exact List.Mem.head _|exact List.Mem.tail _ (List.Mem.head _)) _ hx),show act.eval (.const .nilIface) = .nilIface from rfl,Sem.run_bind,show (eqGuard .eql t x (.const .nilIface) v .nilIface).run P w = .ok () w by rcases hv with ⟨rfl,_⟩ | ⟨⟨te,u,rfl⟩,_⟩ <;> cases x <;> rfl]
    exact (run_neq_iface_nil hu.h hv w).2),.sc _⟩)
end
section
variable {P : Program} [GlobF P]
theorem sc_args {G : Gh} {us vs : List Value} (hc : ConcL G vs (us.map .sc)) : vs = us:=by
  apply List.ext_getElem?
  intro i
  rcases Nat.lt_or_ge i us.length with hi|hi
  · have hi2 : i < vs.length:=by rw [hc.1];simpa using hi
    have:=hc.2 i vs[i] (.sc us[i]) (List.getElem?_eq_getElem hi2) (by simp [hi])
    rw [List.getElem?_eq_getElem hi2,List.getElem?_eq_getElem hi,conc_sc this]
  · rw [List.getElem?_eq_none (by rw [hc.1];simpa using hi),List.getElem?_eq_none hi]
theorem grown_imm {w w' : World} {imm : Nat → Nat → Option Value} (hg : Grown w w') (him : ∀ b o u,imm b o = some u → w.cell? ⟨b,o,none⟩ = some u) :
    ∃ imm' : Nat → Nat → Option Value,(∀ b o,b < w.heap.size → imm' b o = imm b o) ∧ ∀ b o u,imm' b o = some u → w'.cell? ⟨b,o,none⟩ = some u:=by
  refine ⟨fun b o=>if b < w.heap.size then imm b o else none,fun b o hb=>if_pos hb,fun b o u e=>?_⟩
  dsimp only at e
  by_cases hb : b < w.heap.size
  · rw [if_pos hb] at e
    have:=him b o u e
    unfold World.cell? at this ⊢
    rw [hg.out b hb];exact this
  · rw [if_neg hb] at e;cases e
theorem PC.of_grown {f : FuncId} {us : List Value} {v : Value} (he : Go.Proofs.Enters P f) (h : ∀ w : World,(∀ b o u,GlobF.f P b o = some u → w.cell? ⟨b,o,none⟩ = some u) → (∀ b x,GlobF.o P b = some x → w.heap[b]? = some x) → Calls P f us.toArray w fun e w'=>e = .returned v ∧ Grown w w') : PC P f (us.map .sc) (.sc v) :=
  ⟨he,fun w imm vs hgl him hc=>by
    rw [sc_args hc]
    exact (h w (fun b o u e=>him b o u (hgl.f b o u e)) hgl.o).mono fun e w' ⟨h1,h2⟩=>by
      obtain ⟨imm',i1,i2⟩:=grown_imm h2 him
      exact ⟨v,imm',h1,h2,i1,i2,.sc _⟩⟩
theorem AC.of_grown2 {f : FuncId} {us : List Value} {h : List AObj} {S : Value → Value → Prop} (he : Go.Proofs.Enters P f) (hk : ∀ w : World,(∀ b o u,GlobF.f P b o = some u → w.cell? ⟨b,o,none⟩ = some u) → (∀ b x,GlobF.o P b = some x → w.heap[b]? = some x) → Calls P f us.toArray w fun e w'=>∃ a b,S a b ∧ e = .returned (.tuple #[a,b]) ∧ Grown w w') :
    AC P f (us.map .sc) h (fun v h'=>h' = h ∧ ∃ a b,S a b ∧ v = .tu [.sc a,.sc b]) :=
  ⟨he,fun B G w vs hr hc=>by
    rw [sc_args hc]
    refine (hk w (fun b o u e=>hr.imm b o u (hr.glob b o u e)) hr.globW.o).mono ?_
    rintro e w' ⟨a,b,hs,rfl,hg⟩
    obtain ⟨imm',i1,i2⟩:=grown_imm hg hr.imm
    obtain ⟨hle,hr'⟩:=hr.grown hg i1 i2
    have hc2 : ConcL ⟨imm',G.blk,G.tl⟩ [a,b] [.sc a,.sc b]:=.cons (.sc _) (.cons (.sc _) (.nil _))
    exact ⟨_,_,h,_,rfl,hle,hr',.tu (cs:=[a,b]) hc2.1 hc2.2,rfl,a,b,hs,rfl⟩⟩
theorem RH.dead {B : Base P} {G : Gh} {h : List AObj} {w : World} (hr : RH B G h w) (r : Nat) : RH B G (h.set r .dead) w:=by
  have key : ∀ {q : Nat} {o : AObj},(h.set r .dead)[q]? = some o → o = .dead ∨ h[q]? = some o:=fun {q o} e=>by
    by_cases hq : q = r
    · subst hq
      by_cases hl : q < h.length
      · rw [List.getElem?_set_self hl] at e;cases e;exact .inl rfl
      · rw [List.getElem?_eq_none (by simpa using hl)] at e;cases e
    · rw [List.getElem?_set_ne (Ne.symm hq)] at e;exact .inr e
  refine ⟨hr.base,hr.tape,hr.os,hr.output,hr.drawn,hr.size,hr.out,hr.imm,hr.low,fun q o e=>?_,fun q q' o o' b h1 h2 h3 h4=>?_,fun q hq=>hr.fresh q (by simpa using hq)⟩
  · rcases key e with rfl|e
    · trivial
    · exact hr.obj q o e
  · rcases key h1 with rfl|h1
    · cases h3
    · rcases key h2 with rfl|h2
      · cases h4
      · exact hr.inj q q' o o' b h1 h2 h3 h4
end
section
variable {P : Program} [GlobF P] {fr : Option Nat} {N : Nat} {Q : Exit → AS → Prop} {ops : Array Oper} {rest : List Oper} {rg : List (Nat × AV)} {h : List AObj} {mk : Mk} {ty : TypeId} {pos : String} {af : Array Edge} {d : Nat}
theorem m_allocT {t : TypeId} {z : Value} [hz : Zer P t z] (hd : Nat.blt d N = true)
    (hk : WL P fr N ops rest Q ⟨(d,.bp h.length 0) :: rg,h ++ [.cells (z.cells.toList.map .sc) (some t)],mk⟩) :
    WL P fr N ops ({ dst:=some d,op:=.alloc t,type:=ty,pos:=pos,after:=af,guard:=none } :: rest) Q ⟨rg,h,mk⟩ :=
  WL_op (s:=⟨rg,h,mk⟩) hd (by simp) (fun B G a w hr=>by
    have hc : ConcL G z.cells.toList (z.cells.toList.map AV.sc):=⟨by simp,fun i v x hv hx=>by
      rw [List.getElem?_map,hv] at hx;simp at hx;subst hx;exact .sc v⟩
    obtain ⟨hle,hr'⟩:=hr.heap.allocBoxT z.cells.toList _ t hc 0
    refine ⟨.pointer (some ⟨w.heap.size,0,none⟩),_,_,?_,hle,hr',.bp (if_pos rfl)⟩
    have e : z.cells.toList.toArray = z.cells:=Array.toArray_toList
    rw [e]
    simp only [execOp,Instr.alloc,Sem.run_bind,Sem.run_pure,hz.h,Result.andThen_ok,run_newVar]
    rfl) hk
end
end Go.AL

namespace Go.AL
section
variable {P : Program} [GlobF P] {ty : TypeId} {pos : String} {af : Array Edge} {d : Nat} {gd : Option (Nat × Bool)} {ρ : Operand → Option AV} {h : List AObj}
theorem S_appS0 {t u e tk k n by_ : Nat} {x y : Operand} {els els' : List (List AV)} {l : List UInt8} {z : Value} [hu : Und P t (.slice e)] [hus : Und P u .string] [hi : Inf P e k by_ z] (hk1 : k = 1) (hby : by_ = 1) (hz0 : z = .int .u8 0) (hel : els' = l.map byteC) (hx : ρ x = some (.sl (some tk) k els)) (hy : ρ y = some (str l))
    (ht : h[tk]? = some (.tail n k e)) (hn : n = els.length) (hb : els.length + els'.length ≤ 140737488355328) :
    POpS P { dst:=some d,op:=.call { callee:=.builtin .append,args:=#[x,y],argTypes:=#[t,u] },type:=ty,pos:=pos,after:=af,guard:=gd } ρ h [tk] (.sl (some tk) k (els ++ els')) (some (tk,.tail (els.length + els'.length) k e)):=by
  intro fr B G a w h' hl hsl hR E
  have hk0 : 0 < k:=by omega
  have hzk' : z.cells.size = k:=by rw [hz0,hk1];rfl
  have h63 : els.length + els'.length < 4611686018427387904:=by omega
  have hll : els'.length = l.length:=by rw [hel,List.length_map]
  have hsz0 : (⟨l.toArray⟩ : ByteArray).size = l.length:=by simp [ByteArray.size]
  obtain ⟨i,i1,i2,i3,i4⟩:=hi.h
  have ex:=E x (by simp [Op.operands,Call.operands]) _ hx
  have ey:=E y (by simp [Op.operands,Call.operands]) _ hy
  have ht' : h'[tk]? = some (.tail n k e):=(hsl tk (.head _)).trans ht
  have htl : tk < h'.length:=(List.getElem?_eq_some_iff.1 ht').1
  obtain ⟨o0,o1⟩:=hR.obj tk _ ht'
  refine ⟨fun f _=>fence_fn fr f,?_⟩
  rw [Oper.semAt_eq _ _ _ (by simp)]
  have hold : ∃ base cap,a.eval x = .slice base els.length cap ∧ els.length ≤ cap ∧ G.tl tk els.length = some (.slice base els.length cap) ∧ (∀ e,e ∈ els → e.length = k) ∧
      ((base = none ∧ els = []) ∨ ∃ b o vs,base = some ⟨b,o,none⟩ ∧ vs.length = els.length * k ∧ ConcL G vs els.flatten ∧ ∀ j u,vs[j]? = some u → G.imm b (o + j) = some u):=by
    generalize a.eval x = v at ex
    cases ex with
    | @sl b o cap _ _ _ us hk hcap him hc ht =>
      obtain ⟨vs,g1,g2,g3⟩:=sl_flat us hk him hc
      exact ⟨_,cap,rfl,hcap,ht tk rfl,hk,.inr ⟨b,o,vs,rfl,g1,g2,g3⟩⟩
    | slnil ht =>
      refine ⟨none,0,rfl,Nat.le_refl _,ht tk rfl,?_,.inl ⟨rfl,rfl⟩⟩
      intro e he;cases he
  obtain ⟨base,cap,vx,hcap,htok,hkx,hbase⟩:=hold
  have vy : a.eval y = .string ⟨l.toArray⟩:=conc_sc ey
  by_cases hm : els' = []
  · -- nothing
    have hl0 : l = []:=List.length_eq_zero_iff.1 (by rw [← hll,hm];rfl)
    have hr0 : (Builtin.append_ #[t,u] ty #[.slice base els.length cap,.string ⟨l.toArray⟩]).run P w = .ok (.slice base els.length cap) w:=by
      subst hl0
      have hf:=Lib.run_firstCells_string (P:=P) w i.size ⟨#[]⟩
      have e0 : (⟨#[]⟩ : ByteArray).size = 0:=rfl
      rw [e0] at hf
      cases base <;> simp [Builtin.append_,run_underlying hu.h,run_underlying hus.h,sizeOf,typeInfo,i1,Builtin.lenOf,hcap,storeCells,e0,hf,Lib.strCells]
    rw [exec_append a (by rw [vx,vy];exact hr0)]
    refine ⟨_,G,rfl,.refl G,?_,?_⟩
    · have : appU (some (tk,.tail (els.length + els'.length) k e)) h' = h':=by
        simp only [appU,hm,List.length_nil,Nat.add_zero,← hn]
        exact heap_ext (by simp) fun r hr=>by
          by_cases e : tk = r
          · subst e;rw [List.getElem?_set_self htl,ht']
          · rw [List.getElem?_set_ne e]
      rw [this];exact hR
    · rw [hm,List.append_nil,← vx];exact ex
  obtain ⟨news,hnews⟩ : ∃ news,news = Lib.strCells ⟨l.toArray⟩:=⟨_,rfl⟩
  have hky : ∀ e,e ∈ els' → e.length = k:=fun e he=>by
    rw [hel] at he;obtain ⟨c,_,rfl⟩:=List.mem_map.1 he;rw [hk1];rfl
  have hnl1 : news.length = l.length:=by rw [hnews,Lib.strCells_length,hsz0]
  have hnl : news.length = els'.length * k:=by rw [hnl1,hk1,hll,Nat.mul_one]
  have hnc : ConcL G news els'.flatten:=by
    have e1 : els'.flatten = news.map .sc:=by
      rw [hel,hnews]
      have key : ∀ m : List UInt8,(m.map byteC).flatten = (m.map fun b=>Value.int .u8 (b.toNat : Int)).map .sc:=fun m=>by
        induction m with
        | nil=>rfl
        | cons c m ih=>rw [List.map_cons,List.flatten_cons,ih];rfl
      rw [key];simp [Lib.strCells]
    rw [e1]
    exact ⟨by simp,fun i v x hv hx=>by
      rw [List.getElem?_map,hv] at hx;simp at hx;subst hx;exact .sc v⟩
  have hmp : 0 < els'.length:=List.length_pos_iff.2 hm
  have hone' : ∀ u,u ∈ news → u.oneCell' = true:=by rw [hnews];exact Lib.strCells_oneCell _
  have hkk : ∀ e,e ∈ els ++ els' → e.length = k:=fun e he=>by
    rcases List.mem_append.1 he with h|h
    · exact hkx e h
    · exact hky e h
  have htl0 : G.tl tk (els.length + els'.length) = none:=o0 _ (by omega)
  have hleT : ∀ (imm' : Nat → Nat → Option Value) (v' : Value),(∀ b o v,G.imm b o = some v → imm' b o = some v) → G.le ⟨imm',G.blk,fun r j=>if r = tk ∧ j = els.length + els'.length then some v' else G.tl r j⟩:=fun imm' v' him =>
    ⟨him,fun _ _ e=>e,fun r j v e=>by
      show (if r = tk ∧ j = els.length + els'.length then some v' else G.tl r j) = some v
      rw [if_neg fun ⟨h1,h2⟩=>by subst h1;subst h2;rw [htl0] at e;cases e];exact e⟩
  have hset : ∀ (q : Nat) (ob x : AObj),(h'.set tk ob)[q]? = some x → (q = tk ∧ x = ob) ∨ (q ≠ tk ∧ h'[q]? = some x):=fun q ob x hx=>by
    by_cases e : q = tk
    · subst e;rw [List.getElem?_set_self htl] at hx;exact .inl ⟨rfl,(Option.some.inj hx).symm⟩
    · rw [List.getElem?_set_ne (Ne.symm e)] at hx;exact .inr ⟨e,hx⟩
  by_cases hroom : els.length + els'.length ≤ cap
  · -- in place
    rcases o1 with ⟨hn0,htl1⟩ | ⟨g,cap1,cur,q1,q2,q3,q4,q5,q6,q7⟩
    · rw [hn] at hn0
      have : els = []:=List.length_eq_zero_iff.1 hn0
      subst this
      simp only [List.length_nil] at htok
      rw [htl1] at htok;cases htok
      simp only [List.length_nil] at hroom;omega
    rw [hn,htok] at q1
    simp only [Option.some.injEq,Value.slice.injEq,true_and] at q1
    obtain ⟨rfl,rfl⟩:=q1
    obtain ⟨b0,o0',vs,hb0,hvl,hvc,hvi⟩ : ∃ b o vs,(some (⟨g,0,none⟩ : Addr)) = some ⟨b,o,none⟩ ∧ vs.length = els.length * k ∧ ConcL G vs els.flatten ∧ ∀ j u,vs[j]? = some u → G.imm b (o + j) = some u:=by
      rcases hbase with ⟨h,_⟩|h
      · cases h
      · exact h
    simp only [Option.some.injEq,Addr.mk.injEq,and_true] at hb0
    obtain ⟨rfl,rfl⟩:=hb0
    rw [hn] at q7
    have hfit : els.length * i.size + news.length ≤ cur.size:=by rw [i2,hnl,q6,← Nat.add_mul];exact Nat.mul_le_mul_right _ hroom
    rw [i2] at hfit
    have hrun : (Builtin.append_ #[t,u] ty #[.slice (some ⟨g,0,none⟩) els.length cap,.string ⟨l.toArray⟩]).run P w = .ok (.slice (some ⟨g,0,none⟩) (els.length + els'.length) cap) (w.setRow g (cur.toList.take (els.length * k) ++ news ++ cur.toList.drop (els.length * k + news.length)).toArray):=by
      have h0:=Lib.run_append_room_string (P:=P) w t u ty e i hu.h hus.h i1 (by rw [i2,hk1]) g els.length cap cur q3 ⟨l.toArray⟩ (by rw [hsz0];omega) (by rw [hsz0];rw [hk1,hnl1] at hfit;omega)
      rw [hsz0] at h0
      rw [h0,hk1,Nat.mul_one,hnl1,hll,hnews]
    rw [exec_append a (by rw [vx,vy];exact hrun)]
    let G' : Gh:=⟨fun b' o'=>if b' = g ∧ els.length * k ≤ o' ∧ o' < els.length * k + news.length then news[o' - els.length * k]? else G.imm b' o',G.blk,fun r j=>if r = tk ∧ j = els.length + els'.length then some (.slice (some ⟨g,0,none⟩) (els.length + els'.length) cap) else G.tl r j⟩
    have hle : G.le G':=hleT _ _ fun b' o' v e=>by
      show (if b' = g ∧ els.length * k ≤ o' ∧ o' < els.length * k + news.length then news[o' - els.length * k]? else G.imm b' o') = some v
      rw [if_neg fun ⟨h1,h2,_⟩=>by subst h1;rw [q7 _ h2] at e;cases e];exact e
    have hblk : ∀ b',b' ≠ g → (w.setRow g (cur.toList.take (els.length * k) ++ news ++ cur.toList.drop (els.length * k + news.length)).toArray).heap[b']? = w.heap[b']?:=fun b' hb'=>setRow_other _ _ _ _ hb'
    have hrow:=setRow_heap w g cur (cur.toList.take (els.length * k) ++ news ++ cur.toList.drop (els.length * k + news.length)).toArray e (0,0) q3
    refine ⟨_,G',rfl,hle,?_,?_⟩
    · refine hR.turn (hR.base.trans hle) rfl rfl rfl (Nat.le_refl _) (by simp) (fun b' hb'=>hblk b' (by omega)) (fun b' o' hb'=>if_neg fun h=>by omega) (fun b' o' v hv=>?_) (fun q x hx=>?_) (fun q x b' hx hb'=>?_) (fun q q' x x' b' hx hx' hb1 hb2 hlt=>?_) (fun q hq=>?_)
      · by_cases hbg : b' = g
        · subst hbg
          simp only [World.cell?,hrow]
          have hcl : (cur.toList.take (els.length * k)).length = els.length * k:=by simp;omega
          by_cases hin : els.length * k ≤ o' ∧ o' < els.length * k + news.length
          · have hv' : (if b' = b' ∧ els.length * k ≤ o' ∧ o' < els.length * k + news.length then news[o' - els.length * k]? else G.imm b' o') = some v:=hv
            rw [if_pos ⟨rfl,hin⟩] at hv'
            simp only [List.getElem?_toArray,List.append_assoc]
            rw [if_neg (by simp),List.getElem?_append_right (by omega),hcl,List.getElem?_append_left (by omega)];exact hv'
          · have hv' : (if b' = b' ∧ els.length * k ≤ o' ∧ o' < els.length * k + news.length then news[o' - els.length * k]? else G.imm b' o') = some v:=hv
            rw [if_neg fun h=>hin h.2] at hv'
            have ho : o' < els.length * k:=by
              rcases Nat.lt_or_ge o' (els.length * k) with h|h
              · exact h
              · rw [q7 _ h] at hv';cases hv'
            have hcell:=hR.imm _ _ _ hv'
            simp only [World.cell?,q3] at hcell
            simp only [List.getElem?_toArray,List.append_assoc]
            rw [if_neg (by simp),List.getElem?_append_left (by omega),List.getElem?_take,if_pos ho]
            rw [if_neg (by simp)] at hcell
            simpa using hcell
        · have hv' : (if b' = g ∧ els.length * k ≤ o' ∧ o' < els.length * k + news.length then news[o' - els.length * k]? else G.imm b' o') = some v:=hv
          rw [if_neg fun h=>hbg h.1] at hv'
          have:=hR.imm _ _ _ hv'
          simp only [World.cell?,hblk b' hbg] at this ⊢
          exact this
      · rcases hset q _ x hx with ⟨rfl,rfl⟩ | ⟨hne,hx⟩
        · refine ⟨fun j hj=>?_,.inr ⟨g,cap,(cur.toList.take (els.length * k) ++ news ++ cur.toList.drop (els.length * k + news.length)).toArray,if_pos ⟨rfl,rfl⟩,q2,hrow,hroom,q5,?_,fun j hj=>?_⟩⟩
          · show (if q = q ∧ j = els.length + els'.length then _ else G.tl q j) = none
            rw [if_neg fun h=>by omega];exact o0 j (by omega)
          · simp only [List.size_toArray,List.length_append,List.length_take,List.length_drop,Array.length_toList];omega
          · show (if g = g ∧ els.length * k ≤ j ∧ j < els.length * k + news.length then news[j - els.length * k]? else G.imm g j) = none
            rw [Nat.add_mul] at hj
            rw [if_neg fun h=>by omega];exact q7 j (by omega)
        · refine (hR.obj q x hx).keep hle rfl (fun j=>if_neg fun h=>hne h.1) fun b' hb' _=>?_
          have hne' : b' ≠ g:=fun hbg=>hne (hR.inj q tk x _ b' hx ht' hb' (by simp only [ownBlk,hn,htok,slBlock];rw [hbg]))
          exact ⟨hblk b' hne',fun j hj=>by show (if b' = g ∧ _ then _ else _) = none;rw [if_neg fun h=>hne' h.1];exact hj⟩
      · rcases hset q _ x hx with ⟨rfl,rfl⟩ | ⟨hne,hx⟩
        · simp only [ownBlk] at hb'
          have e1 : G'.tl q (els.length + els'.length) = some (.slice (some ⟨g,0,none⟩) (els.length + els'.length) cap):=if_pos ⟨rfl,rfl⟩
          rw [e1] at hb';simp only [slBlock,Option.some.injEq] at hb';subst hb'
          exact .inr ⟨_,ht',by simp only [ownBlk,hn,htok,slBlock]⟩
        · rw [ownBlk.congr (G:=G) (G':=G') rfl (fun j=>if_neg fun h=>hne h.1)] at hb';exact .inr ⟨x,hx,hb'⟩
      · exfalso
        rcases hset q _ x hx with ⟨rfl,rfl⟩ | ⟨hne,hx⟩
        · simp only [ownBlk] at hb1
          have e1 : G'.tl q (els.length + els'.length) = some (.slice (some ⟨g,0,none⟩) (els.length + els'.length) cap):=if_pos ⟨rfl,rfl⟩
          rw [e1] at hb1;simp only [slBlock,Option.some.injEq] at hb1;subst hb1
          have:=(Array.getElem?_eq_some_iff.1 q3).1;omega
        · rw [ownBlk.congr (G:=G) (G':=G') rfl (fun j=>if_neg fun h=>hne h.1)] at hb1
          exact absurd ((hR.obj q x hx).own hb1).1 (by omega)
      · have hq' : h'.length ≤ q:=by simpa [appU] using hq
        obtain ⟨k1,k2⟩:=hR.fresh q hq'
        exact ⟨k1,fun j=>by show (if q = tk ∧ _ then _ else _) = none;rw [if_neg fun h=>by omega];exact k2 j⟩
    · have:=sl_of_flat (G:=G') (b:=g) (o:=0) (cap:=cap) (k:=k) (els:=els ++ els') (vs:=vs ++ news) (tok:=some tk) hkk (by simpa using hroom) (by rw [List.flatten_append];exact (hvc.mono hle).append (hnc.mono hle))
        (fun j u hu=>by
          rcases Nat.lt_or_ge j vs.length with hj|hj
          · rw [List.getElem?_append_left hj] at hu;exact hle.imm _ _ _ (hvi j u hu)
          · rw [List.getElem?_append_right hj] at hu
            have hjl:=(List.getElem?_eq_some_iff.1 hu).1
            show (if g = g ∧ els.length * k ≤ 0 + j ∧ 0 + j < els.length * k + news.length then news[0 + j - els.length * k]? else G.imm g (0 + j)) = some u
            rw [if_pos ⟨rfl,by omega,by omega⟩,← hu];congr 1;omega) (fun t e=>by cases e;simp only [List.length_append];exact if_pos ⟨rfl,rfl⟩)
      simpa using this
  · -- in a new block
    have hrun : ∃ vs : List Value,∃ ocap,vs.length = els.length * k ∧ ConcL G vs els.flatten ∧ (Builtin.append_ #[t,u] ty #[a.eval x,a.eval y]).run P w = .ok (.slice (some ⟨w.heap.size,0,none⟩) (els.length + els'.length) (grownCap w (els.length + els'.length) ocap e))
        (w.drew.alloc (.cells (vs.toArray ++ news.toArray ++ Builtin.zeroCells z.cells (grownCap w (els.length + els'.length) ocap e - (els.length + els'.length))) e)):=by
      rcases hbase with ⟨rfl,rfl⟩ | ⟨b0,o0',vs,rfl,hvl,hvc,hvi⟩
      · rcases o1 with ⟨hn0,htl1⟩ | ⟨g,cap1,cur,q1,_⟩
        · simp only [List.length_nil] at htok
          rw [htl1] at htok;cases htok
          have hr:=run_append_nil_string (P:=P) w t u ty e i z hu.h hus.h i1 i4 ⟨l.toArray⟩ (by rw [hsz0];omega) (by rw [hsz0];omega) (by rw [hsz0,i3,hby];omega)
          rw [hsz0] at hr
          have e1 : ((⟨l.toArray⟩ : ByteArray).data.map fun b=>Value.int .u8 b.toNat) = news.toArray:=by
            rw [hnews];simp [Lib.strCells]
          rw [e1] at hr
          refine ⟨[],0,by simp,.nil _,?_⟩
          rw [vx,vy,hll];simpa using hr
        · rw [hn,htok] at q1;cases q1
      · have hr:=Lib.run_append_grow_string (P:=P) w t u ty e i z hu.h hus.h i1 i4 ⟨b0,o0',none⟩ els.length cap vs (by rw [i2];exact hvl) (fun j u hu=>by rw [add_none];exact hR.imm _ _ _ (hvi j u hu)) ⟨l.toArray⟩ (by rw [hsz0];omega) (by rw [hsz0];omega) (by rw [hsz0,i3,hby];exact growslice_fits (by omega) (by omega))
        rw [hsz0] at hr
        exact ⟨vs,cap,hvl,hvc,by rw [vx,vy,hll,hnews];exact hr⟩
    obtain ⟨vs,ocap,hvl,hvc,hrun⟩:=hrun
    have hge:=grownCap_ge w (els.length + els'.length) ocap e
    have hcm:=grownCap_le_maxLen w (els.length + els'.length) ocap e (by simp only [maxLen];omega)
    generalize hcapd : grownCap w (els.length + els'.length) ocap e = cap' at hrun hge hcm
    rw [exec_append a hrun]
    have hall : (vs ++ news).length = (els.length + els'.length) * k:=by rw [List.length_append,hvl,hnl,Nat.add_mul]
    let blkc : Array Value:=vs.toArray ++ news.toArray ++ Builtin.zeroCells z.cells (cap' - (els.length + els'.length))
    have hsz : blkc.size = cap' * k:=by
      simp only [blkc,Array.size_append,List.size_toArray,size_zeroCells,hzk',hvl,hnl,← Nat.add_mul]
      congr 1;omega
    let G' : Gh:=⟨fun b' o'=>if b' = w.heap.size then (vs ++ news)[o']? else G.imm b' o',G.blk,fun r j=>if r = tk ∧ j = els.length + els'.length then some (.slice (some ⟨w.heap.size,0,none⟩) (els.length + els'.length) cap') else G.tl r j⟩
    have hle : G.le G':=hleT _ _ fun b' o' v e=>by
      show (if b' = w.heap.size then (vs ++ news)[o']? else G.imm b' o') = some v
      rw [if_neg fun h=>by have:=hR.lt e;omega];exact e
    have hblk : ∀ b',b' < w.heap.size → (w.drew.alloc (.cells blkc e)).heap[b']? = w.heap[b']?:=fun b' hb'=>heap_alloc_old w.drew _ b' hb'
    have hnewb : (w.drew.alloc (.cells blkc e)).heap[w.heap.size]? = some (.cells blkc e (0,0)):=heap_alloc_new w.drew _
    refine ⟨_,G',rfl,hle,?_,?_⟩
    · refine hR.turn (hR.base.trans hle) rfl rfl rfl (Nat.le_succ _) (by simp) (fun b' hb'=>hblk b' (Nat.lt_of_lt_of_le hb' hR.size)) (fun b' o' hb'=>if_neg fun h=>by have:=hR.size;omega) (fun b' o' v hv=>?_) (fun q x hx=>?_) (fun q x b' hx hb'=>?_) (fun q q' x x' b' hx hx' hb1 hb2 hlt=>?_) (fun q hq=>?_)
      · have hv' : (if b' = w.heap.size then (vs ++ news)[o']? else G.imm b' o') = some v:=hv
        by_cases hbg : b' = w.heap.size
        · rw [if_pos hbg] at hv'
          subst hbg
          have hlt:=(List.getElem?_eq_some_iff.1 hv').1
          have e1 : (w.drew.alloc (.cells blkc e)).cell? ⟨w.heap.size,o',none⟩ = blkc[o']?:=by
            simp only [World.cell?];rw [hnewb];rfl
          refine e1.trans ?_
          show (vs.toArray ++ news.toArray ++ _)[o']? = some v
          rw [Array.getElem?_append_left (by simp at hlt ⊢;omega)]
          simpa using hv'
        · rw [if_neg hbg] at hv'
          have e1 : (w.drew.alloc (.cells blkc e)).cell? ⟨b',o',none⟩ = w.cell? ⟨b',o',none⟩:=by
            simp only [World.cell?];rw [hblk b' (hR.lt hv')]
          exact e1.trans (hR.imm _ _ _ hv')
      · rcases hset q _ x hx with ⟨rfl,rfl⟩ | ⟨hne,hx⟩
        · refine ⟨fun j hj=>?_,.inr ⟨w.heap.size,cap',blkc,if_pos ⟨rfl,rfl⟩,hR.size,hnewb,hge,hcm,hsz,fun j hj=>?_⟩⟩
          · show (if q = q ∧ j = els.length + els'.length then _ else G.tl q j) = none
            rw [if_neg fun h=>by omega];exact o0 j (by omega)
          · show (if w.heap.size = w.heap.size then (vs ++ news)[j]? else _) = none
            rw [if_pos rfl];exact List.getElem?_eq_none (by omega)
        · exact (hR.obj q x hx).keep hle rfl (fun j=>if_neg fun h=>hne h.1) fun b' hb' hlt=>⟨hblk b' hlt,fun j hj=>by show (if b' = w.heap.size then _ else _) = none;rw [if_neg (by omega)];exact hj⟩
      · rcases hset q _ x hx with ⟨rfl,rfl⟩ | ⟨hne,hx⟩
        · simp only [ownBlk] at hb'
          have e1 : G'.tl q (els.length + els'.length) = some (.slice (some ⟨w.heap.size,0,none⟩) (els.length + els'.length) cap'):=if_pos ⟨rfl,rfl⟩
          rw [e1] at hb';simp only [slBlock,Option.some.injEq] at hb';subst hb'
          exact .inl (Nat.le_refl _)
        · rw [ownBlk.congr (G:=G) (G':=G') rfl (fun j=>if_neg fun h=>hne h.1)] at hb';exact .inr ⟨x,hx,hb'⟩
      · have key : ∀ q x,(h'.set tk (.tail (els.length + els'.length) k e))[q]? = some x → ownBlk G' q x = some b' → q = tk:=fun q x hx hb=>by
          rcases hset q _ x hx with ⟨rfl,rfl⟩ | ⟨hne,hx⟩
          · rfl
          · rw [ownBlk.congr (G:=G) (G':=G') rfl (fun j=>if_neg fun h=>hne h.1)] at hb
            exact absurd ((hR.obj q x hx).own hb).1 (by omega)
        rw [key q x hx hb1,key q' x' hx' hb2]
      · have hq' : h'.length ≤ q:=by simpa [appU] using hq
        obtain ⟨k1,k2⟩:=hR.fresh q hq'
        exact ⟨k1,fun j=>by show (if q = tk ∧ _ then _ else _) = none;rw [if_neg fun h=>by omega];exact k2 j⟩
    · have:=sl_of_flat (G:=G') (b:=w.heap.size) (o:=0) (cap:=cap') (k:=k) (els:=els ++ els') (vs:=vs ++ news) (tok:=some tk) hkk (by simpa using hge) (by rw [List.flatten_append];exact (hvc.mono hle).append (hnc.mono hle))
        (fun j u hu=>by show (if w.heap.size = w.heap.size then (vs ++ news)[0 + j]? else _) = some u;rw [if_pos rfl,Nat.zero_add];exact hu) (fun t e=>by cases e;simp only [List.length_append];exact if_pos ⟨rfl,rfl⟩)
      simpa using this
end
section
variable {P : Program} [GlobF P] {fr : Option Nat} {N : Nat} {Q : Exit → AS → Prop} {ops : Array Oper} {rest : List Oper} {rg : List (Nat × AV)} {h : List AObj} {mk : Mk} {ty : TypeId} {pos : String} {af : Array Edge} {d : Nat}
theorem m_appS {t u e tk n : Nat} {x y : Operand} {els : List (List AV)} {l : List UInt8} [hu : Und P t (.slice e)] [hus : Und P u .string] [hi : Inf P e 1 1 (.int .u8 0)] (hx : evR rg x = some (.sl (some tk) 1 els)) (hy : evR rg y = some (str l))
    (ht : h[tk]? = some (.tail n 1 e)) (hn : n = els.length) (hb : els.length + l.length ≤ 140737488355328) (hd : Nat.blt d N = true)
    (hw : WL P fr N ops rest Q ⟨(d,.sl (some tk) 1 (els ++ l.map byteC)) :: rg,h.set tk (.tail (els.length + l.length) 1 e),mk⟩) :
    WL P fr N ops ({ dst:=some d,op:=.call { callee:=.builtin .append,args:=#[x,y],argTypes:=#[t,u] },type:=ty,pos:=pos,after:=af,guard:=none } :: rest) Q ⟨rg,h,mk⟩ :=
  pV (S_appS0 (els':=l.map byteC) rfl rfl rfl rfl hx hy ht hn (by rw [List.length_map];exact hb)) hd (by rw [List.length_map];exact hw)
end
end Go.AL
