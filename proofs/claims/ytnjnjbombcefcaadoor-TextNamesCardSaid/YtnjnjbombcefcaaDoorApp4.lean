/- The rules of the abstract logic, twelfth part: ranges over functions. No condition. -/
import Derived.Test.YtnjnjbombcefcaaDoorApp3
import Derived.RangeFuncIn
import Derived.RangeFuncRecord
set_option linter.all false
namespace Go.AL
def zipR : List Nat → List AV → List (Nat × AV) → List (Nat × AV)
  | p :: ps,u :: us,rg=>zipR ps us ((p,u) :: rg)
  | _,_,rg=>rg
section
variable {P : Program} [GlobF P]
def YW (P : Program) [GlobF P] (l : Nat) (us : List AV) (h : List AObj) (K : Bool → List AObj → Prop) : Prop :=
  ∀ (B : Base P) (G : Gh) (w : World) (vs : List Value),RH B G h w → ConcL G vs us →
    ∃ f tmps assign body,(Instr.yield l vs.toArray).run P w = .ok (.round l f tmps assign body) w ∧
      RoundIn Fence.wide 0 P l f tmps assign body w (fun e w'=>∃ b G' h',e = .returned (.bool b) ∧ G.le G' ∧ RH B G' h' w' ∧ K b h')
theorem YW.mono {l : Nat} {us : List AV} {h : List AObj} {K K' : Bool → List AObj → Prop} (hy : YW P l us h K) (hk : ∀ b h',K b h' → K' b h') : YW P l us h K':=fun B G w vs hr hc=>by
  obtain ⟨f,tmps,assign,body,h1,h2⟩:=hy B G w vs hr hc
  exact ⟨f,tmps,assign,body,h1,h2.mono fun e w' ⟨b,G',h',a,b',c,d⟩=>⟨b,G',h',a,b',c,hk _ _ d⟩⟩
theorem zip_look {G : Gh} {N : Nat} : ∀ {ps : List Nat} {us : List AV} {vs : List Value} {tm : Array Value} {rg : List (Nat × AV)},ps.length = us.length → ConcL G vs us → (∀ p,p ∈ ps → p < N) → tm.size = N → (∀ t,Conc G (tm.getD t undef) (look rg t)) →
    ((ps.zip vs).foldl (fun tmps (t,a)=>tmps.setIfInBounds t a) tm).size = N ∧ ∀ t,Conc G (((ps.zip vs).foldl (fun tmps (t,a)=>tmps.setIfInBounds t a) tm).getD t undef) (look (zipR ps us rg) t)
  | [],us,vs,tm,rg,hl,hc,_,hs,h=>by
    have : us = []:=List.length_eq_zero_iff.1 hl.symm
    subst this;rw [hc.inv_nil];exact ⟨hs,h⟩
  | p :: ps,[],vs,tm,rg,hl,hc,_,hs,h=>by simp at hl
  | p :: ps,u :: us,vs,tm,rg,hl,hc,hp,hs,h=>by
    obtain ⟨v,vs',rfl,h1,h2⟩:=hc.inv_cons
    simp only [List.zip_cons_cons,List.foldl_cons,zipR]
    refine zip_look (by simpa using hl) h2 (fun q hq=>hp q (.tail _ hq)) (by simpa using hs) fun t=>?_
    simp only [look]
    cases hb : Nat.beq p t with
    | true =>
      have : p = t:=Nat.eq_of_beq_eq_true hb
      subst this
      have:=hp p (.head _)
      simp [Array.getD_eq_getD_getElem?,hs,this,h1]
    | false =>
      have hne : p ≠ t:=fun e=>by subst e;simp at hb
      have:=h t
      simp only [Array.getD_eq_getD_getElem?,Array.getElem?_setIfInBounds_ne hne] at this ⊢
      exact this
def RoundQ (r l N : Nat) (ps : Array Tmp) (assign body : Code) (rg : List (Nat × AV)) (K : Bool → List AObj → Prop) : Exit → AS → Prop
  | .normal,s=>(∃ st pe,s.heap[r]? = some (.loopr l N ps assign body rg st pe)) ∧ K true (s.heap.set r (.loopr l N ps assign body rg .ready none))
  | .ret,s=>(∃ st pe,s.heap[r]? = some (.loopr l N ps assign body rg st pe)) ∧ K false (s.heap.set r (.loopr l N ps assign body rg .done (some .ret)))
  | .exit i,s=>(∃ st pe,s.heap[r]? = some (.loopr l N ps assign body rg st pe)) ∧ K false (s.heap.set r (.loopr l N ps assign body rg .done (some (.exit i))))
  | _,_=>False
theorem RH.setLoop {B : Base P} {G : Gh} {h : List AObj} {w : World} (hr : RH B G h w) {r l N : Nat} {ps : Array Tmp} {assign body : Code} {rg : List (Nat × AV)} {st st' : LoopState} {pe pe' : Option Code}
    (ho : h[r]? = some (.loopr l N ps assign body rg st pe)) : ∃ R : Loop,w.heap[l]? = some (.loop R) ∧ R.state = st ∧ R.pending = pe ∧ R.params = ps ∧ R.assign = assign ∧ R.body = body ∧ R.tmps.size = N ∧ (∀ t,Conc G (R.tmps.getD t undef) (look rg t)) ∧
      RH B G (h.set r (.loopr l N ps assign body rg st' pe')) (w.putObj l (.loop { R with state:=st',pending:=pe' })) ∧ RH B G (h.set r .dead) (w.putObj l (.loop { R with state:=st',pending:=pe' })):=by
  obtain ⟨g1,g2,g3,fn,tm,db,g4,g5,g6⟩:=hr.obj r _ ho
  have hlt : l < w.heap.size:=(Array.getElem?_eq_some_iff.1 g4).1
  refine ⟨_,g4,rfl,rfl,rfl,rfl,rfl,g5,g6,?_,?_⟩
  · refine hr.set (w':=w.putObj l (.loop { state:=st',pending:=pe',fn:=fn,tmps:=tm,params:=ps,assign:=assign,body:=body,defers:=db })) (o':=.loopr l N ps assign body rg st' pe') (b:=l) ho g1 g2 rfl rfl rfl (Nat.le_refl _) World.putObj_size (fun c hc=>World.putObj_heap_other hc) (fun i v hi=>by rw [g3 i] at hi;cases hi) ?_ (fun c hc=>?_)
    · exact ⟨g1,g2,g3,fn,tm,db,World.putObj_heap_same hlt,g5,g6⟩
    · simp only [ownBlk,g1] at hc;cases hc;rfl
  · exact hr.set (w':=w.putObj l (.loop { state:=st',pending:=pe',fn:=fn,tmps:=tm,params:=ps,assign:=assign,body:=body,defers:=db })) (o':=.dead) (b:=l) ho g1 g2 rfl rfl rfl (Nat.le_refl _) World.putObj_size (fun c hc=>World.putObj_heap_other hc) (fun i v hi=>by rw [g3 i] at hi;cases hi) trivial (fun c hc=>by cases hc)
theorem YW.round {r l N : Nat} {ps : List Nat} {assign body : Code} {rg : List (Nat × AV)} {us : List AV} {h : List AObj} {K : Bool → List AObj → Prop}
    (hr : h[r]? = some (.loopr l N ps.toArray assign body rg .ready none)) (hl : Nat.beq ps.length us.length = true) (hN : ps.all (fun p=>Nat.blt p N) = true)
    (hW : W P (some l) N assign (fun e s1=>e = .normal ∧ s1.heap[r]? = some (.loopr l N ps.toArray assign body rg .ready none) ∧
      W P (some l) N body (fun e s=>s.marks.l = [] ∧ RoundQ r l N ps.toArray assign body rg K e s) ⟨s1.regs,s1.heap.set r (.loopr l N ps.toArray assign body rg .busy none),s1.marks⟩) ⟨zipR ps us rg,h,⟨[],h.length⟩⟩) : YW P l us h K:=by
  intro B G w vs hR hc
  have hl' : ps.length = us.length:=Nat.eq_of_beq_eq_true hl
  have hN' : ∀ p,p ∈ ps → p < N:=fun p hp=>by have:=List.all_eq_true.1 hN p hp;simpa [Nat.blt_eq] using this
  obtain ⟨R,q1,q2,q3,q4,q5,q6,q7,q8,_⟩:=hR.setLoop (st':=.ready) (pe':=none) hr
  have hy:=run_yield (P:=P) (args:=vs.toArray) q1 (by rw [q4];simp [hc.1,hl'])
  rw [q4,q5,q6] at hy
  have ez : (ps.toArray.zip vs.toArray).foldl (fun tmps (t,a)=>tmps.setIfInBounds t a) R.tmps = (ps.zip vs).foldl (fun tmps (t,a)=>tmps.setIfInBounds t a) R.tmps:=by
    simp
  rw [ez] at hy
  refine ⟨_,_,_,_,hy,roundIn_of_wpIn trivial ?_⟩
  obtain ⟨z1,z2⟩:=zip_look (tm:=R.tmps) hl' hc hN' q7 q8
  have into : ∀ {G' : Gh} {h' : List AObj} {w' : World},RH { B with g0:=G } G' h' w' → RH B G' h' w':=fun hh =>
    ⟨hR.base.trans hh.base,hh.tape,hh.os,hh.output,hh.drawn,hh.size,hh.out,hh.imm,hh.low,fun r o ho=>by
      have:=hh.obj r o ho
      cases o <;> exact this,hh.inj,hh.fresh⟩
  have hr0 : RH { B with g0:=G } G h w:=⟨.refl G,hR.tape,hR.os,hR.output,hR.drawn,hR.size,hR.out,hR.imm,hR.low,fun r o ho=>by
      have:=hR.obj r o ho
      cases o <;> exact this,hR.inj,hR.fresh⟩
  have hw:=hW { B with g0:=G } G { tmps:=(ps.zip vs).foldl (fun tmps (t,a)=>tmps.setIfInBounds t a) R.tmps,defers:=[] } w ⟨hr0,z1,z2,⟨rfl,fun i d r hd=>by simp at hd⟩,fun r hr=>hR.fresh r hr⟩
  refine wpIn_mono (F:=Fence.wide.inRound l) hw ?_
  rintro e a1 w1 ⟨G1,s1,hr1,rfl,hl1,hW2⟩
  obtain ⟨R1,k1,k2,k3,_,_,_,_,_,k8,_⟩:=hr1.heap.setLoop (st':=.busy) (pe':=none) hl1
  have hb:=run_beginRound (P:=P) k1 k2
  have e1 : ({ R1 with state:=.busy } : Loop) = { R1 with state:=.busy,pending:=none }:=by rw [← k3]
  rw [e1] at hb
  refine ⟨_,hb,wpIn_mono (hW2 { B with g0:=G } G1 a1 _ ⟨k8,hr1.size,hr1.regs,hr1.defers,hr1.own⟩) ?_⟩
  rintro e a2 w2 ⟨G2,s2,hr2,hm,hq⟩
  cases e with
  | normal =>
    obtain ⟨⟨st,pe,ho⟩,hK⟩:=hq
    obtain ⟨R2,j1,_,_,_,_,_,_,_,j8,_⟩:=hr2.heap.setLoop (st':=.ready) (pe':=none) ho
    have he:=run_endRound (P:=P) none j1
    exact ⟨_,_,he,true,G2,_,rfl,hr2.heap.base,into j8,hK⟩
  | ret =>
    obtain ⟨⟨st,pe,ho⟩,hK⟩:=hq
    obtain ⟨R2,j1,_,_,_,_,_,_,_,j8,_⟩:=hr2.heap.setLoop (st':=.done) (pe':=some .ret) ho
    have he:=run_endRound (P:=P) (some .ret) j1
    exact ⟨_,_,he,false,G2,_,rfl,hr2.heap.base,into j8,hK⟩
  | exit i =>
    obtain ⟨⟨st,pe,ho⟩,hK⟩:=hq
    obtain ⟨R2,j1,_,_,_,_,_,_,_,j8,_⟩:=hr2.heap.setLoop (st':=.done) (pe':=some (.exit i)) ho
    have he:=run_endRound (P:=P) (some (.exit i)) j1
    exact ⟨_,_,he,false,G2,_,rfl,hr2.heap.base,into j8,hK⟩
  | goto t=>exact hq.elim
  | panic c=>exact hq.elim
  | outgrown=>exact hq.elim
end
section
variable {P : Program} [GlobF P] {fr : Option Nat} {N : Nat} {Q : Exit → AS → Prop} {ops : Array Oper} {rest : List Oper} {rg : List (Nat × AV)} {h : List AObj} {mk : Mk} {ty : TypeId} {pos : String} {af : Array Edge} {d : Nat}
theorem m_yield {y : Operand} {args : List Operand} {ts : Array TypeId} {l : Nat} {us : List AV} {K : Bool → List AObj → Prop} (hy : evR rg y = some (.sc (.func (.yield l) #[] #[]))) (ha : opsO (evR rg) args = some us) (hd : Nat.blt d N = true)
    (hyw : YW P l us h K) (hk : ∀ b h',K b h' → WL P fr N ops rest Q ⟨(d,.sc (.bool b)) :: rg,h',mk⟩) :
    WL P fr N ops ({ dst:=some d,op:=.call { callee:=.value y,args:=args.toArray,argTypes:=ts },type:=ty,pos:=pos,after:=af,guard:=none } :: rest) Q ⟨rg,h,mk⟩:=by
  intro B G a w hR
  refine wpListIn_plain rfl fun K' hK'=>?_
  have ey:=hR.ev y
  rw [show (⟨rg,h,mk⟩ : AS).ev y = .sc (.func (.yield l) #[] #[]) from AS.evO_eq ((evR_eq rg h mk) ▸ hy)] at ey
  have hy':=conc_sc ey
  have hc : ConcL G (args.map a.eval) us:=opsO_conc ha fun x _ u hu=>by
    have:=hR.ev x
    rwa [show (⟨rg,h,mk⟩ : AS).ev x = u from AS.evO_eq ((evR_eq rg h mk) ▸ hu)] at this
  obtain ⟨f,tmps,assign,body,h1,h2⟩:=hyw B G w _ hR.heap hc
  refine ⟨fun f _=>fence_fn fr f,?_⟩
  have hex : (execOp a.eval { dst:=some d,op:=.call { callee:=.value y,args:=args.toArray,argTypes:=ts },type:=ty,pos:=pos,after:=af,guard:=none }).run P w = .ok (.round l f tmps assign body) w:=by
    simp only [execOp,resolve,hy',Deferred.ofValue,Sem.run_bind,Sem.run_pure,Result.andThen_ok,List.map_toArray]
    simpa [invoke] using h1
  rw [Oper.semAt_eq _ _ _ (by simp),hex]
  refine ⟨fun hs=>(by rw [fence_depth] at hs;cases hs),?_⟩
  have h2' : RoundIn (fence fr) (0 - 1) P l f tmps assign body w (fun e w'=>∃ b G' h',e = .returned (.bool b) ∧ G.le G' ∧ RH B G' h' w' ∧ K b h'):=by cases fr <;> exact h2
  refine h2'.mono ?_
  rintro e w' ⟨b,G',h',rfl,hg,hh,hkb⟩
  exact hK' _ _ (hk b h' hkb B G' _ w' ((hR.step hg hh).put (by simpa [Nat.blt_eq] using hd) (.sc _)))
def EndR (r l N : Nat) (ps : Array Tmp) (assign body : Code) (rg : List (Nat × AV)) (mk : Mk) (Q : Exit → AS → Prop) (h' : List AObj) : Prop :=
  ∃ st pe,h'[r]? = some (.loopr l N ps assign body rg st pe) ∧ st ≠ .busy ∧ (match pe with
    | none=>Q .normal ⟨rg,h'.set r .dead,mk⟩
    | some .ret=>Q .ret ⟨rg,h'.set r .dead,mk⟩
    | some (.exit i)=>Q (.exit i) ⟨rg,h'.set r .dead,mk⟩
    | _=>False)
theorem W_range {g : Operand} {ps : Array Tmp} {assign body : Code} {f : FuncId} {ys : List AV} (hg : evR rg g = some (.fn (.func f) [] ys) ∨ (evR rg g = some (.sc (.func (.func f) #[] #[])) ∧ ys = []))
    (hc : ∀ l,AC P f (.sc (.func (.yield l) #[] #[]) :: ys) (h ++ [.raw (.deferred (some []))] ++ [.loopr l N ps assign body rg .ready none]) (fun _ h'=>EndR (h.length + 1) l N ps assign body rg ⟨h.length :: mk.l,mk.n0⟩ Q h')) :
    W P none N (.rangeFunc g ps assign body) Q ⟨rg,h,mk⟩:=by
  intro B G a w hR
  have eg:=hR.ev g
  have hgv : ∃ cs : List Value,a.eval g = .func (.func f) #[] cs.toArray ∧ ConcL G cs ys:=by
    rcases hg with hg | ⟨hg,rfl⟩
    · rw [show (⟨rg,h,mk⟩ : AS).ev g = _ from AS.evO_eq ((evR_eq rg h mk) ▸ hg)] at eg
      generalize a.eval g = v at eg
      cases eg with
      | @fn _ fs cs _ _ l1 l2 h1 h2 =>
        have : fs = []:=by simpa using l1
        subst this
        exact ⟨cs,rfl,l2,h2⟩
    · rw [show (⟨rg,h,mk⟩ : AS).ev g = _ from AS.evO_eq ((evR_eq rg h mk) ▸ hg)] at eg
      exact ⟨[],by rw [conc_sc eg],.nil _⟩
  obtain ⟨cs,hgv,hcs⟩:=hgv
  refine wpIn_rangeFunc fun fn _=>?_
  let L : Loop:={ state:=.ready,pending:=none,fn,tmps:=a.tmps,params:=ps,assign,body,defers:=w.heap.size }
  let w1 : World:=w.alloc (.deferred (some []))
  let w2 : World:=w1.alloc (.loop L)
  have hen : (Instr.enterLoop fn a.tmps ps assign body (fence none).round).run P w = .ok (w.heap.size + 1,[{ target:=.collected w.heap.size,args:=#[] }]) w2:=run_enterLoop_outer fn a.tmps ps assign body
  have hh:=hR.heap
  let G1 : Gh:=⟨G.imm,fun r=>if r = h.length then some w.heap.size else G.blk r,G.tl⟩
  have hle1 : G.le G1:=⟨fun _ _ _ e=>e,fun r b e=>by
    show (if r = h.length then some w.heap.size else G.blk r) = some b
    by_cases hrl : r = h.length
    · have:=(hh.fresh r (by show h.length ≤ r;omega)).1;rw [this] at e;cases e
    · rw [if_neg hrl];exact e,fun _ _ _ e=>e⟩
  have nimm : ∀ o,G.imm w.heap.size o = none:=fun o=>by
    cases hi : G.imm w.heap.size o with
    | none=>rfl
    | some v=>exact absurd (hh.lt hi) (by omega)
  have nimm1 : ∀ o,G.imm (w.heap.size + 1) o = none:=fun o=>by
    cases hi : G.imm (w.heap.size + 1) o with
    | none=>rfl
    | some v=>exact absurd (hh.lt hi) (by omega)
  have cellk : ∀ (v : World) (o : Obj) (b i : Nat) (u : Value),b < v.heap.size → v.cell? ⟨b,i,none⟩ = some u → (v.alloc o).cell? ⟨b,i,none⟩ = some u:=fun v o b i u hb hu=>by
    have : (v.alloc o).cell? ⟨b,i,none⟩ = v.cell? ⟨b,i,none⟩:=by
      simp only [World.cell?];rw [heap_alloc_old v o b hb]
    rw [this];exact hu
  have hr1 : RH B G1 (h ++ [.raw (.deferred (some []))]) w1:=by
    refine hh.allocObj _ hle1 rfl rfl rfl (Nat.le_refl _) (by simp [w1]) (fun b hb=>heap_alloc_old w _ b hb) (fun _ _ _=>rfl) (fun b o v hv=>cellk w _ b o v (hh.lt hv) (hh.imm b o v hv)) (fun r hne=>⟨if_neg hne,fun _=>rfl⟩) ?_ (fun b hb=>?_)
    · exact ⟨w.heap.size,if_pos rfl,hh.size,heap_alloc_new w _,nimm⟩
    · have e1 : G1.blk h.length = some w.heap.size:=if_pos rfl
      simp only [ownBlk,e1] at hb;cases hb;exact Nat.le_refl _
  have hlen1 : (h ++ [AObj.raw (.deferred (some []))]).length = h.length + 1:=by simp
  have hsz1 : w1.heap.size = w.heap.size + 1:=by simp [w1]
  let G2 : Gh:=⟨G.imm,fun r=>if r = h.length + 1 then some (w.heap.size + 1) else G1.blk r,G.tl⟩
  have hle2 : G1.le G2:=⟨fun _ _ _ e=>e,fun r b e=>by
    show (if r = h.length + 1 then some (w.heap.size + 1) else G1.blk r) = some b
    by_cases hrl : r = h.length + 1
    · have:=(hr1.fresh r (by omega)).1;rw [this] at e;cases e
    · rw [if_neg hrl];exact e,fun _ _ _ e=>e⟩
  have hr2 : RH B G2 (h ++ [.raw (.deferred (some []))] ++ [.loopr (w.heap.size + 1) N ps assign body rg .ready none]) w2:=by
    refine hr1.allocObj _ hle2 rfl rfl rfl (Nat.le_refl _) (by simp [w2]) (fun b hb=>heap_alloc_old w1 _ b hb) (fun _ _ _=>rfl) (fun b o v hv=>cellk w1 _ b o v (hr1.lt hv) (hr1.imm b o v hv)) (fun r hne=>⟨if_neg (by rw [hlen1] at hne;exact hne),fun _=>rfl⟩) ?_ (fun b hb=>?_)
    · rw [hlen1]
      refine ⟨if_pos rfl,by have:=hh.size;omega,nimm1,fn,a.tmps,w.heap.size,?_,hR.size,fun t=>((hR.regs t).mono hle1).mono hle2⟩
      have:=heap_alloc_new w1 (.loop L)
      rw [hsz1] at this
      exact this
    · rw [hlen1] at hb
      have e1 : G2.blk (h.length + 1) = some (w.heap.size + 1):=if_pos rfl
      simp only [ownBlk,e1] at hb;cases hb;omega
  have hac:=hc (w.heap.size + 1)
  let args : List Value:=.func (.yield (w.heap.size + 1)) #[] #[] :: cs
  have hargs : ConcL G2 args (.sc (.func (.yield (w.heap.size + 1)) #[] #[]) :: ys):=.cons (.sc _) ((hcs.mono hle1).mono hle2)
  refine ⟨w.heap.size + 1,[{ target:=.collected w.heap.size,args:=#[] }],w2,{ target:=.fn (.func f) cs.toArray,args:=#[.func (.yield (w.heap.size + 1)) #[] #[]] },w2,f,args.toArray,w2,hen,?_,fun _ _=>trivial,?_,fun hs=>(by rw [fence_depth] at hs;cases hs),?_⟩
  · simp only [resolve,hgv,Deferred.ofValue,Sem.run_pure]
    simp [Act.eval]
  · simp only [invoke]
    rw [show (#[Value.func (.yield (w.heap.size + 1)) #[] #[]] ++ cs.toArray : Array Value) = args.toArray by simp [args]]
    exact hac.1 args.toArray w2
  · have hcall:=callsIn_wide (n:=0 - 1).2 (hac.2 B G2 w2 args hr2 hargs)
    refine CallsIn.mono (F:=fence none) hcall ?_
    rintro e w3 ⟨r,G3,h3,v,rfl,hg3,hh3,-,st,pe,ho,hst,hq⟩
    obtain ⟨R3,j1,j2,j3,_,_,_,_,_,_,j9⟩:=hh3.setLoop (st':=.exhausted) (pe':=pe) ho
    have hend:=run_endLoop (P:=P) j1 (by rw [j2];exact hst)
    have e1 : ({ R3 with state:=.exhausted } : Loop) = { R3 with state:=.exhausted,pending:=pe }:=by rw [← j3]
    rw [e1,j3] at hend
    have hRn : R B N G3 ⟨rg,h3.set (h.length + 1) .dead,⟨h.length :: mk.l,mk.n0⟩⟩ { a with defers:=[{ target:=.collected w.heap.size,args:=#[] }] ++ a.defers } (w3.putObj (w.heap.size + 1) (.loop { R3 with state:=.exhausted,pending:=pe })):=by
      refine ⟨j9,hR.size,fun t=>(((hR.regs t).mono hle1).mono hle2).mono hg3,⟨?_,fun i dd r hd hr=>?_⟩,hR.own⟩
      · have:=hR.defers.1;simp at this ⊢;exact this
      · cases i with
        | zero=>simp at hd hr;subst hd;subst hr;exact ⟨w.heap.size,hg3.blk _ _ (hle2.blk _ _ (if_pos rfl)),rfl⟩
        | succ i=>obtain ⟨b,e1,e2⟩:=hR.defers.2 i dd r (by simpa using hd) (by simpa using hr);exact ⟨b,hg3.blk _ _ (hle2.blk _ _ (hle1.blk _ _ e1)),e2⟩
    refine ⟨pe,_,hend,?_⟩
    cases pe with
    | none=>exact ⟨G3,_,hRn,hq⟩
    | some c =>
      cases c with
      | ret=>exact wpIn_ret ⟨G3,_,hRn,hq⟩
      | exit i=>exact wpIn_exit ⟨G3,_,hRn,hq⟩
      | _=>exact hq.elim
end
end Go.AL
namespace Go.AL
section
variable {P : Program} [GlobF P] {fr : Option Nat} {N : Nat} {Q : Exit → AS → Prop} {rg : List (Nat × AV)} {hp : List AObj} {mk : Mk}
theorem W_draw0 [Mix P] {id : Nat} {l : List Oper} (h0 : Nat.beq (laysN l) 0 = true) (h : WD P N l.toArray l [] (fun s'=>Q .normal s') ⟨rg,hp,mk⟩) : W P fr N (.region id l.toArray true) Q ⟨rg,hp,mk⟩ :=
  W_draw (by rw [Nat.eq_of_beq_eq_true h0];exact h)
end
section
variable {P : Program} [GlobF P]
theorem ResL.nil {P0 : Program} {rg : List (Nat × AV)} {h : List AObj} : ResL P0 rg h [] []:=trivial
theorem ResL.cons {P0 : Program} {rg : List (Nat × AV)} {h : List AObj} {r : ResultVar} {rs : List ResultVar} {v : AV} {vs : List AV} (h1 : ResO P0 rg h r v) (h2 : ResL P0 rg h rs vs) : ResL P0 rg h (r :: rs) (v :: vs):=⟨h1,h2⟩
variable {fn : Func} {s : AS} {r1 r2 r3 r4 : ResultVar} {v1 v2 v3 v4 u1 u2 u3 u4 : AV}
theorem rL2 (hf : fn.results = #[r1,r2]) (hm : MarksOK s.marks.l s.heap) (h1 : ResO P s.regs (kill s.marks.l s.heap) r1 v1) (h2 : ResO P s.regs (kill s.marks.l s.heap) r2 v2) (e1 : Le v1 u1) (e2 : Le v2 u2) : Ret P fn (fun v' _=>Le v' (.tu [u1,u2])) .ret s :=
  retL (vs:=[v1,v2]) (us:=[u1,u2]) (.inl rfl) (rs:=[r1,r2]) hf hm ⟨h1,h2,trivial⟩ ⟨e1,e2,trivial⟩
theorem rL4 (hf : fn.results = #[r1,r2,r3,r4]) (hm : MarksOK s.marks.l s.heap) (h1 : ResO P s.regs (kill s.marks.l s.heap) r1 v1) (h2 : ResO P s.regs (kill s.marks.l s.heap) r2 v2) (h3 : ResO P s.regs (kill s.marks.l s.heap) r3 v3) (h4 : ResO P s.regs (kill s.marks.l s.heap) r4 v4) (e1 : Le v1 u1) (e2 : Le v2 u2) (e3 : Le v3 u3) (e4 : Le v4 u4) : Ret P fn (fun v' _=>Le v' (.tu [u1,u2,u3,u4])) .ret s :=
  retL (vs:=[v1,v2,v3,v4]) (us:=[u1,u2,u3,u4]) (.inl rfl) (rs:=[r1,r2,r3,r4]) hf hm ⟨h1,h2,h3,h4,trivial⟩ ⟨e1,e2,e3,e4,trivial⟩
theorem PC.of_calls {f : FuncId} {us : List Value} {v : Value} (he : Go.Proofs.Enters P f) (h : ∀ w : World,(∀ b o u,GlobF.f P b o = some u → w.cell? ⟨b,o,none⟩ = some u) → Calls P f us.toArray w fun e w'=>e = .returned v ∧ w' = w) : PC P f (us.map .sc) (.sc v) :=
  ⟨he,fun w imm vs hgl him hc=>by
    have hvs : vs = us:=by
      apply List.ext_getElem?
      intro i
      rcases Nat.lt_or_ge i us.length with hi|hi
      · have hi2 : i < vs.length:=by rw [hc.1];simpa using hi
        have:=hc.2 i vs[i] (.sc us[i]) (List.getElem?_eq_getElem hi2) (by simp [hi])
        rw [List.getElem?_eq_getElem hi2,List.getElem?_eq_getElem hi,conc_sc this]
      · rw [List.getElem?_eq_none (by rw [hc.1];simpa using hi),List.getElem?_eq_none hi]
    subst hvs
    exact (h w fun b o u e=>him b o u (hgl.f b o u e)).mono fun e w' ⟨h1,h2⟩=>by
      subst h2
      exact ⟨v,imm,h1,⟨rfl,rfl,rfl,Nat.le_refl _,Nat.le_refl _,fun _ _=>rfl⟩,fun _ _ _=>rfl,him,.sc _⟩⟩
end
end Go.AL
namespace Go.AL
section
variable {P : Program} [GlobF P] {fr : Option Nat} {N : Nat} {Q : Exit → AS → Prop} {s : AS} {ops : Array Oper} {rest : List Oper} {op : Op} {ty : TypeId} {pos : String} {af : Array Edge} {dst : Option Nat} {K : AS → Prop} {acc : List Sl}
theorem idG {g : Nat × Bool} (h : WL P fr N ops ({ dst:=dst,op:=op,type:=ty,pos:=pos,after:=af,guard:=some g } :: rest) Q s) : WL P fr N ops ({ dst:=dst,op:=op,type:=ty,pos:=pos,after:=af,guard:=some g } :: rest) Q s:=h
theorem idA {t : TypeId} {g : Option (Nat × Bool)} (h : WL P fr N ops ({ dst:=dst,op:=.alloc t,type:=ty,pos:=pos,after:=af,guard:=g } :: rest) Q s) : WL P fr N ops ({ dst:=dst,op:=.alloc t,type:=ty,pos:=pos,after:=af,guard:=g } :: rest) Q s:=h
theorem idS {t : TypeId} {x y : Operand} {g : Option (Nat × Bool)} (h : WL P fr N ops ({ dst:=dst,op:=.store t x y,type:=ty,pos:=pos,after:=af,guard:=g } :: rest) Q s) : WL P fr N ops ({ dst:=dst,op:=.store t x y,type:=ty,pos:=pos,after:=af,guard:=g } :: rest) Q s:=h
theorem idLd {t : TypeId} {x : Operand} {g : Option (Nat × Bool)} (h : WL P fr N ops ({ dst:=dst,op:=.load t x,type:=ty,pos:=pos,after:=af,guard:=g } :: rest) Q s) : WL P fr N ops ({ dst:=dst,op:=.load t x,type:=ty,pos:=pos,after:=af,guard:=g } :: rest) Q s:=h
theorem idC {c : Operand} {x y : Code} (h : W P fr N (.cond c x y) Q s) : W P fr N (.cond c x y) Q s:=h
theorem idW {id : Nat} {l : Array Oper} (h : W P fr N (.region id l true) Q s) : W P fr N (.region id l true) Q s:=h
theorem idB {i j : Nat} (h : inBlk i Q (.exit j) s) : inBlk i Q (.exit j) s:=h
theorem idR {fn : Func} {K : AV → List AObj → Prop} {e : Exit} (h : Ret P fn K e s) : Ret P fn K e s:=h
theorem idDn (h : WD P N ops ({ dst:=dst,op:=op,type:=ty,pos:=pos,after:=af,guard:=none } :: rest) acc K s) : WD P N ops ({ dst:=dst,op:=op,type:=ty,pos:=pos,after:=af,guard:=none } :: rest) acc K s:=h
end
end Go.AL
