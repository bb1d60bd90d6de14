/- Rules: a range over a function within another one's round. No condition. -/
import Derived.Test.YtjojdiefnhbglaaGreatApp4
set_option linter.all false
namespace Go.AL
theorem run_enterLoop_inner {P : Program} {w : World} {l0 : Nat} {L : Loop} (fn : FuncId) (tmps : Array Value) (ps : Array Tmp) (assign body : Code) (h : w.heap[l0]? = some (.loop L)) :
    (Instr.enterLoop fn tmps ps assign body (some l0)).run P w = .ok (w.heap.size,[]) (w.alloc (.loop { state:=.ready,pending:=none,fn,tmps,params:=ps,assign,body,defers:=L.defers })):=by
  unfold Instr.enterLoop
  simp only [Sem.run_bind,run_getLoop h,run_newObj_alloc,Result.andThen,Sem.run_pure]
section
variable {P : Program} [GlobF P] {fr : Option Nat} {N : Nat} {Q : Exit → AS → Prop} {ops : Array Oper} {rest : List Oper} {rg : List (Nat × AV)} {h : List AObj} {mk : Mk} {ty : TypeId} {pos : String} {af : Array Edge} {d : Nat}
theorem W_rangeN {l0 r0 N0 : Nat} {ps0 : Array Tmp} {as0 bd0 : Code} {rg0 : List (Nat × AV)} {st0 : LoopState} {pe0 : Option Code} {g : Operand} {ps : Array Tmp} {assign body : Code} {f : FuncId} {ys : List AV} (hr0 : h[r0]? = some (.loopr l0 N0 ps0 as0 bd0 rg0 st0 pe0)) (hg : evR rg g = some (.fn (.func f) [] ys) ∨ (evR rg g = some (.sc (.func (.func f) #[] #[])) ∧ ys = []))
    (hc : ∀ l,AC P f (.sc (.func (.yield l) #[] #[]) :: ys) (h ++ [.loopr l N ps assign body rg .ready none]) (fun _ h'=>EndR h.length l N ps assign body rg mk Q h')) :
    W P (some l0) N (.rangeFunc g ps assign body) Q ⟨rg,h,mk⟩:=by
  intro B G a w hR
  have eg:=hR.ev g
  have hgv : ∃ cs : List Value,a.eval g = .func (.func f) #[] cs.toArray ∧ ConcL G cs ys:=by
    rcases hg with hg | ⟨hg,rfl⟩
    · rw [show (⟨rg,h,mk⟩ : AS).ev g = _ from AS.evO_eq ((evR_eq rg h mk) ▸ hg)] at eg
      generalize a.eval g = v at eg
      cases eg with
      | @fn _ fs cs _ _ l1 l2 h1 h2 =>
        have : fs = []:=by simpa using l1
        subst this
        exact ⟨cs,rfl,l2,h2⟩
    · rw [show (⟨rg,h,mk⟩ : AS).ev g = _ from AS.evO_eq ((evR_eq rg h mk) ▸ hg)] at eg
      exact ⟨[],by rw [conc_sc eg],.nil _⟩
  obtain ⟨cs,hgv,hcs⟩:=hgv
  have hh:=hR.heap
  obtain ⟨R0,i1,_⟩:=hh.setLoop (st':=.ready) (pe':=none) hr0
  refine wpIn_rangeFunc fun fn _=>?_
  let L : Loop:={ state:=.ready,pending:=none,fn,tmps:=a.tmps,params:=ps,assign,body,defers:=R0.defers }
  let w1 : World:=w.alloc (.loop L)
  have hen : (Instr.enterLoop fn a.tmps ps assign body (fence (some l0)).round).run P w = .ok (w.heap.size,[]) w1:=run_enterLoop_inner fn a.tmps ps assign body i1
  have nimm : ∀ o,G.imm w.heap.size o = none:=fun o=>by
    cases hi : G.imm w.heap.size o with
    | none=>rfl
    | some v=>exact absurd (hh.lt hi) (by omega)
  have cellk : ∀ (v : World) (o : Obj) (b i : Nat) (u : Value),b < v.heap.size → v.cell? ⟨b,i,none⟩ = some u → (v.alloc o).cell? ⟨b,i,none⟩ = some u:=fun v o b i u hb hu=>by
    have : (v.alloc o).cell? ⟨b,i,none⟩ = v.cell? ⟨b,i,none⟩:=by
      simp only [World.cell?];rw [heap_alloc_old v o b hb]
    rw [this];exact hu
  let G1 : Gh:=⟨G.imm,fun r=>if r = h.length then some w.heap.size else G.blk r,G.tl⟩
  have hle1 : G.le G1:=⟨fun _ _ _ e=>e,fun r b e=>by
    show (if r = h.length then some w.heap.size else G.blk r) = some b
    by_cases hrl : r = h.length
    · have:=(hh.fresh r (by show h.length ≤ r;omega)).1;rw [this] at e;cases e
    · rw [if_neg hrl];exact e,fun _ _ _ e=>e⟩
  have hr1 : RH B G1 (h ++ [.loopr w.heap.size N ps assign body rg .ready none]) w1:=by
    refine hh.allocObj _ hle1 rfl rfl rfl (Nat.le_refl _) (by simp [w1]) (fun b hb=>heap_alloc_old w _ b hb) (fun _ _ _=>rfl) (fun b o v hv=>cellk w _ b o v (hh.lt hv) (hh.imm b o v hv)) (fun r hne=>⟨if_neg hne,fun _=>rfl⟩) ?_ (fun b hb=>?_)
    · exact ⟨if_pos rfl,hh.size,nimm,fn,a.tmps,R0.defers,heap_alloc_new w (.loop L),hR.size,fun t=>(hR.regs t).mono hle1⟩
    · have e1 : G1.blk h.length = some w.heap.size:=if_pos rfl
      simp only [ownBlk,e1] at hb;cases hb;exact Nat.le_refl _
  have hac:=hc w.heap.size
  let args : List Value:=.func (.yield w.heap.size) #[] #[] :: cs
  have hargs : ConcL G1 args (.sc (.func (.yield w.heap.size) #[] #[]) :: ys):=.cons (.sc _) (hcs.mono hle1)
  refine ⟨w.heap.size,[],w1,{ target:=.fn (.func f) cs.toArray,args:=#[.func (.yield w.heap.size) #[] #[]] },w1,f,args.toArray,w1,hen,?_,fun _ _=>trivial,?_,fun hs=>(by rw [fence_depth] at hs;cases hs),?_⟩
  · simp only [resolve,hgv,Deferred.ofValue,Sem.run_pure]
    simp [Act.eval]
  · simp only [invoke]
    rw [show (#[Value.func (.yield w.heap.size) #[] #[]] ++ cs.toArray : Array Value) = args.toArray by simp [args]]
    exact hac.1 args.toArray w1
  · have hcall:=callsIn_wide (n:=0 - 1).2 (hac.2 B G1 w1 args hr1 hargs)
    have hcall' : CallsIn (fence (some l0)) (0 - 1) P f args.toArray w1 _:=hcall
    refine CallsIn.mono (F:=fence (some l0)) hcall' ?_
    rintro e w3 ⟨r,G3,h3,v,rfl,hg3,hh3,-,st,pe,ho,hst,hq⟩
    obtain ⟨R3,j1,j2,j3,_,_,_,_,_,_,j9⟩:=hh3.setLoop (st':=.exhausted) (pe':=pe) ho
    have hend:=run_endLoop (P:=P) j1 (by rw [j2];exact hst)
    have e1 : ({ R3 with state:=.exhausted } : Loop) = { R3 with state:=.exhausted,pending:=pe }:=by rw [← j3]
    rw [e1,j3] at hend
    have hRn : R B N G3 ⟨rg,h3.set h.length .dead,mk⟩ { a with defers:=[] ++ a.defers } (w3.putObj w.heap.size (.loop { R3 with state:=.exhausted,pending:=pe })):=by
      refine ⟨j9,hR.size,fun t=>((hR.regs t).mono hle1).mono hg3,⟨hR.defers.1,fun i dd r hd hr=>?_⟩,hR.own⟩
      obtain ⟨b,e1,e2⟩:=hR.defers.2 i dd r (by simpa using hd) hr
      exact ⟨b,hg3.blk _ _ (hle1.blk _ _ e1),e2⟩
    refine ⟨pe,_,hend,?_⟩
    cases pe with
    | none=>exact ⟨G3,_,hRn,hq⟩
    | some c =>
      cases c with
      | ret=>exact wpIn_ret ⟨G3,_,hRn,hq⟩
      | exit i=>exact wpIn_exit ⟨G3,_,hRn,hq⟩
      | _=>exact hq.elim
theorem W_rangeX {g : Operand} {ps : Array Tmp} {assign body : Code} {f : FuncId} {ys : List AV} (hg : evR rg g = some (.fn (.func f) [] ys) ∨ (evR rg g = some (.sc (.func (.func f) #[] #[])) ∧ ys = []))
    (hc : ∀ l (X : LoopState → Option Code → AObj),(∀ st pe,X st pe = .loopr l N ps assign body rg st pe) → AC P f (.sc (.func (.yield l) #[] #[]) :: ys) (h ++ [.raw (.deferred (some []))] ++ [X .ready none]) (fun _ h'=>EndR (h.length + 1) l N ps assign body rg ⟨h.length :: mk.l,mk.n0⟩ Q h')) :
    W P none N (.rangeFunc g ps assign body) Q ⟨rg,h,mk⟩:=W_range hg fun l=>hc l (fun st pe=>.loopr l N ps assign body rg st pe) fun _ _=>rfl
theorem W_rangeNX {l0 r0 N0 : Nat} {ps0 : Array Tmp} {as0 bd0 : Code} {rg0 : List (Nat × AV)} {st0 : LoopState} {pe0 : Option Code} {g : Operand} {ps : Array Tmp} {assign body : Code} {f : FuncId} {ys : List AV} (hr0 : h[r0]? = some (.loopr l0 N0 ps0 as0 bd0 rg0 st0 pe0)) (hg : evR rg g = some (.fn (.func f) [] ys) ∨ (evR rg g = some (.sc (.func (.func f) #[] #[])) ∧ ys = []))
    (hc : ∀ l (X : LoopState → Option Code → AObj),(∀ st pe,X st pe = .loopr l N ps assign body rg st pe) → AC P f (.sc (.func (.yield l) #[] #[]) :: ys) (h ++ [X .ready none]) (fun _ h'=>EndR h.length l N ps assign body rg mk Q h')) :
    W P (some l0) N (.rangeFunc g ps assign body) Q ⟨rg,h,mk⟩:=W_rangeN hr0 hg fun l=>hc l (fun st pe=>.loopr l N ps assign body rg st pe) fun _ _=>rfl
theorem W_hq {c : Code} {h' : List AObj} (e : h = h') (hk : W P fr N c Q ⟨rg,h',mk⟩) : W P fr N c Q ⟨rg,h,mk⟩:=e ▸ hk
theorem WL_hq {l : List Oper} {h' : List AObj} (e : h = h') (hk : WL P fr N ops l Q ⟨rg,h',mk⟩) : WL P fr N ops l Q ⟨rg,h,mk⟩:=e ▸ hk
end
end Go.AL
