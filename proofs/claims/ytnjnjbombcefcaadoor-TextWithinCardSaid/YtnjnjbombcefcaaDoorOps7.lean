/- The rules of the abstract logic, fifteenth part: scopes; boxes of values; opaque heaps; objects let go where a call ends. No condition. -/
import Derived.Test.YtnjnjbombcefcaaDoorOps5
import Derived.Deep.OwnRows
set_option linter.all false
namespace Go.AL
theorem stepR_scope {P : Program} {b : Frame} {a : Act} {k : List Item} {cs : List Frame} {w : World} {c : Code} : step P (lone (b.atR a (.code (.scope c) :: k)) cs w) = .next (lone (b.atR a (.code c :: .inScope c :: k)) cs w) :=
  step_lone_go (by simp [stepG,stepG.exec,Frame.atR])
theorem stepR_inScope {P : Program} {b : Frame} {a : Act} {k : List Item} {cs : List Frame} {w : World} {c : Code} : step P (lone (b.atR a (.inScope c :: k)) cs w) = .next (lone (b.atR a k) cs w) :=
  step_lone_go (by simp [stepG,stepG.exec,Frame.atR])
def scp (Q : Exit → AS → Prop) : Exit → AS → Prop
  | .goto _,_=>False
  | e,s=>Q e s
def Exit.noJump (Q : Exit → Act → World → Prop) : Exit → Act → World → Prop
  | .goto _,_,_=>False
  | e,a,w=>Q e a w
theorem wpIn_scope {F : Fence} {n : Nat} {P : Program} {Q : Exit → Act → World → Prop} {a : Act} {w : World} {c : Code} (h : c.wpIn F n P (Exit.noJump Q) a w) : (Code.scope c).wpIn F n P Q a w:=by
  intro b k cs hro hb hr
  have h0 : (lone (b.atR a (.code (.scope c) :: k)) cs w).fenced P F:=fenced_calm hb hr rfl
  obtain ⟨e,a₁,w₁,hq,harr⟩:=h b (.inScope c :: k) cs hro hb hr
  cases e with
  | normal=>exact ⟨.normal,a₁,w₁,hq,.head h0 stepR_scope (StepsIn.trans harr (.one (fenced_calm hb hr rfl) stepR_inScope))⟩
  | exit id =>
    have hx : exitTo id (.inScope c :: k) = exitTo id k:=by simp [exitTo]
    exact ⟨.exit id,a₁,w₁,hq,fun k' hk=>.head h0 stepR_scope (harr.1 k' (by rw [hx];exact hk)),
      fun hr' hk=>let ⟨k₁,h1,h2⟩:=harr.2 hr' (by rw [hx];exact hk);⟨k₁,h1,.head h0 stepR_scope h2⟩⟩
  | goto l=>exact hq.elim
  | ret=>exact ⟨_,a₁,w₁,hq,.of_steps (.one h0 stepR_scope) harr⟩
  | panic ch=>exact ⟨_,a₁,w₁,hq,.of_steps (.one h0 stepR_scope) harr⟩
  | outgrown=>exact ⟨_,a₁,w₁,hq,.of_steps (.one h0 stepR_scope) harr⟩
section
variable {P : Program} [GlobF P] {fr : Option Nat} {N : Nat} {Q : Exit → AS → Prop} {s : AS}
theorem W_scope {c : Code} (h : W P fr N c (scp Q) s) : W P fr N (.scope c) Q s:=by
  intro B G a w hr
  refine wpIn_scope (wpIn_mono (h B G a w hr) ?_)
  rintro e a' w' ⟨G',s',hr',hq⟩
  cases e with
  | goto l=>exact hq.elim
  | normal=>exact ⟨G',s',hr',hq⟩
  | exit i=>exact ⟨G',s',hr',hq⟩
  | ret=>exact ⟨G',s',hr',hq⟩
  | panic c=>exact ⟨G',s',hr',hq⟩
  | outgrown=>exact ⟨G',s',hr',hq⟩
end
section
variable {Q : Exit → AS → Prop} {s : AS}
theorem sn (h : Q .normal s) : scp Q .normal s:=h
theorem sr (h : Q .ret s) : scp Q .ret s:=h
end
section
variable {P : Program} [GlobF P] {fr : Option Nat} {N : Nat} {Q : Exit → AS → Prop} {ops : Array Oper} {rest : List Oper} {rg : List (Nat × AV)} {h : List AObj} {mk : Mk} {ty : TypeId} {pos : String} {af : Array Edge} {d : Nat}
theorem m_box {t : TypeId} {x : Operand} {u : AV} {cs : List AV} (hx : evR rg x = some u) (hu : cellsO u = some cs) (hd : Nat.blt d N = true)
    (hk : WL P fr N ops rest Q ⟨(d,.bp h.length 0) :: rg,h ++ [.cells cs],mk⟩) :
    WL P fr N ops ({ dst:=some d,op:=.box t x,type:=ty,pos:=pos,after:=af,guard:=none } :: rest) Q ⟨rg,h,mk⟩ :=
  WL_op (s:=⟨rg,h,mk⟩) hd (by simp) (fun B G a w hr=>by
    have ex:=hr.ev x
    rw [show (⟨rg,h,mk⟩ : AS).ev x = _ from AS.evO_eq ((evR_eq rg h mk) ▸ hx)] at ex
    have hcs:=cellsO_conc ex hu
    obtain ⟨hle,hr'⟩:=hr.heap.allocBox (a.eval x).cells.toList cs t hcs 0
    have e : (a.eval x).cells.toList.toArray = (a.eval x).cells:=Array.toArray_toList
    rw [e] at hr'
    exact ⟨.pointer (some ⟨w.heap.size,0,none⟩),_,_,rfl,hle,hr',.bp (if_pos rfl)⟩) hk
end
section
variable {P : Program} [GlobF P] {ty : TypeId} {pos : String} {af : Array Edge} {dst : Option Nat} {gd : Option (Nat × Bool)} {ρ : Operand → Option AV}
theorem D_nilB {x : Operand} {r o : Nat} (hx : ρ x = some (.bp r o)) : PPOp P { dst:=dst,op:=.nilCheck x,type:=ty,pos:=pos,after:=af,guard:=gd } ρ (.bp r o) :=
  PPOp.val (by simp) (fun B G a w hR E=>by
    obtain ⟨b,hv,hb⟩:=conc_bp (E _ (by first|exact List.Mem.head _|exact List.Mem.tail _ (List.Mem.head _)) _ hx)
    exact ⟨.pointer (some ⟨b,o,none⟩),by simp [execOp,hv],.bp hb⟩)
end
end Go.AL

namespace Go.AL
inductive BdA (n : Nat) : AV → Prop
  | any : BdA n .any
  | sc (v : Value) : BdA n (.sc v)
  | sl {tok : Option Nat} {k : Nat} {els : List (List AV)} (ht : ∀ t,tok = some t → t < n) (h : ∀ e,e ∈ els → ∀ x,x ∈ e → BdA n x) : BdA n (.sl tok k els)
  | ep {cells : List AV} (h : ∀ x,x ∈ cells → BdA n x) : BdA n (.ep cells)
  | bp {r off : Nat} (h : r < n) : BdA n (.bp r off)
  | mr {r o m : Nat} (h : r < n) : BdA n (.mr r o m)
  | mc {r m c : Nat} (h : r < n) : BdA n (.mc r m c)
  | fn {f : Fn} {xs ys : List AV} (h1 : ∀ x,x ∈ xs → BdA n x) (h2 : ∀ x,x ∈ ys → BdA n x) : BdA n (.fn f xs ys)
  | ag {cells : List AV} (h : ∀ x,x ∈ cells → BdA n x) : BdA n (.ag cells)
  | tu {vs : List AV} (h : ∀ x,x ∈ vs → BdA n x) : BdA n (.tu vs)
def BdO (n : Nat) : AObj → Prop
  | .cells xs _=>∀ x,x ∈ xs → BdA n x
  | .row _ _ els=>∀ e,e ∈ els → ∀ x,x ∈ e → BdA n x
  | .loopr _ _ _ _ _ rg _ _=>∀ t,BdA n (look rg t)
  | _=>True
def BdH (h : List AObj) : Prop:=∀ o,o ∈ h → BdO h.length o
theorem BdA.mono {n m : Nat} (hnm : n ≤ m) {x : AV} (h : BdA n x) : BdA m x:=by
  induction h with
  | any=>exact .any
  | sc v=>exact .sc v
  | sl ht h ih=>exact .sl (fun t e=>Nat.lt_of_lt_of_le (ht t e) hnm) ih
  | ep h ih=>exact .ep ih
  | bp h=>exact .bp (Nat.lt_of_lt_of_le h hnm)
  | mr h=>exact .mr (Nat.lt_of_lt_of_le h hnm)
  | mc h=>exact .mc (Nat.lt_of_lt_of_le h hnm)
  | fn h1 h2 i1 i2=>exact .fn i1 i2
  | ag h ih=>exact .ag ih
  | tu h ih=>exact .tu ih
theorem BdO.mono {n m : Nat} (hnm : n ≤ m) {o : AObj} (h : BdO n o) : BdO m o:=by
  cases o with
  | cells xs=>exact fun x hx=>(h x hx).mono hnm
  | row k e els=>exact fun e he x hx=>(h e he x hx).mono hnm
  | loopr l N ps assign body rg st pend=>exact fun t=>(h t).mono hnm
  | _=>trivial
def NoAbove (G : Gh) (n : Nat) : Prop:=∀ r,n ≤ r → G.blk r = none ∧ ∀ j,G.tl r j = none
theorem Conc.bd {G : Gh} {n : Nat} (hn : NoAbove G n) {v : Value} {x : AV} (h : Conc G v x) : BdA n x:=by
  have hl : ∀ {r : Nat} {b : Nat},G.blk r = some b → r < n:=fun {r b} e=>by
    rcases Nat.lt_or_ge r n with h|h
    · exact h
    · rw [(hn r h).1] at e;cases e
  have ht' : ∀ {r j : Nat} {u : Value},G.tl r j = some u → r < n:=fun {r j u} e=>by
    rcases Nat.lt_or_ge r n with h|h
    · exact h
    · rw [(hn r h).2 j] at e;cases e
  have pw : ∀ {cs : List Value} {xs : List AV},cs.length = xs.length → (∀ (i : Nat) (v : Value) (x : AV),cs[i]? = some v → xs[i]? = some x → BdA n x) → ∀ x,x ∈ xs → BdA n x:=fun {cs xs} l ih x hx=>by
    obtain ⟨i,hi,rfl⟩:=List.getElem_of_mem hx
    exact ih i cs[i] _ (List.getElem?_eq_getElem (l ▸ hi)) (List.getElem?_eq_getElem hi)
  induction h with
  | any v=>exact .any
  | sc v=>exact .sc v
  | sl us hk hcap him hc ht ih =>
    refine .sl (fun t e=>ht' (ht t e)) fun e he x hx=>?_
    obtain ⟨i,hi,rfl⟩:=List.getElem_of_mem he
    obtain ⟨j,hj,rfl⟩:=List.getElem_of_mem hx
    exact ih i _ j _ (List.getElem?_eq_getElem hi) (List.getElem?_eq_getElem hj)
  | slnil ht=>exact .sl (fun t e=>ht' (ht t e)) fun e he=>by cases he
  | slz=>exact .sl (fun t e=>by cases e) fun e he=>by cases he
  | ep us him hc ih =>
    refine .ep fun x hx=>?_
    obtain ⟨j,hj,rfl⟩:=List.getElem_of_mem hx
    exact ih j _ (List.getElem?_eq_getElem hj)
  | bp h=>exact .bp (hl h)
  | mr h hc ho=>exact .mr (hl h)
  | mc h hc=>exact .mc (hl h)
  | fn l1 l2 h1 h2 ih1 ih2=>exact .fn (pw l1 ih1) (pw l2 ih2)
  | ag l h ih=>exact .ag (pw l ih)
  | tu l h ih=>exact .tu (pw l ih)
def cutN (G : Gh) (n : Nat) : Gh:=⟨G.imm,fun r=>if r < n then G.blk r else none,fun r j=>if r < n then G.tl r j else none⟩
theorem cutN_le {G G' : Gh} {n : Nat} (hn : NoAbove G n) (h : G.le G') : G.le (cutN G' n):=by
  refine ⟨h.imm,fun r b e=>?_,fun r j v e=>?_⟩
  · show (if r < n then G'.blk r else none) = some b
    rcases Nat.lt_or_ge r n with hr|hr
    · rw [if_pos hr];exact h.blk r b e
    · rw [(hn r hr).1] at e;cases e
  · show (if r < n then G'.tl r j else none) = some v
    rcases Nat.lt_or_ge r n with hr|hr
    · rw [if_pos hr];exact h.tl r j v e
    · rw [(hn r hr).2] at e;cases e
theorem Conc.cutN {G : Gh} {n : Nat} {v : Value} {x : AV} (h : Conc G v x) : BdA n x → Conc (cutN G n) v x:=by
  have ht' : ∀ {r j : Nat} {u : Value},r < n → G.tl r j = some u → (Go.AL.cutN G n).tl r j = some u:=fun {r j u} hr e=>by
    show (if r < n then G.tl r j else none) = some u
    rw [if_pos hr];exact e
  induction h with
  | any v=>exact fun _=>.any v
  | sc v=>exact fun _=>.sc v
  | sl us hk hcap him hc ht ih =>
    intro hb
    cases hb with
    | sl bt bh=>exact .sl us hk hcap him (fun i e j x he hx=>ih i e j x he hx (bh e (List.mem_of_getElem? he) x (List.mem_of_getElem? hx))) (fun t e=>ht' (bt t e) (ht t e))
  | slnil ht =>
    intro hb
    cases hb with
    | sl bt bh=>exact .slnil fun t e=>ht' (bt t e) (ht t e)
  | slz=>exact fun _=>.slz
  | ep us him hc ih =>
    intro hb
    cases hb with
    | ep bh=>exact .ep us him fun j x hx=>ih j x hx (bh x (List.mem_of_getElem? hx))
  | @bp r off b h =>
    intro hb
    cases hb with
    | bp hr=>exact .bp (show (if r < n then G.blk r else none) = some b by rw [if_pos hr];exact h)
  | @mr r o n cap b o' h hc ho =>
    intro hb
    cases hb with
    | mr hr=>exact .mr (show (if r < _ then G.blk r else none) = some b by rw [if_pos hr];exact h) hc ho
  | @mc r n cap b h hc =>
    intro hb
    cases hb with
    | mc hr=>exact .mc (show (if r < _ then G.blk r else none) = some b by rw [if_pos hr];exact h) hc
  | fn l1 l2 h1 h2 ih1 ih2 =>
    intro hb
    cases hb with
    | fn b1 b2=>exact .fn l1 l2 (fun i v x hv hx=>ih1 i v x hv hx (b1 x (List.mem_of_getElem? hx))) (fun i v x hv hx=>ih2 i v x hv hx (b2 x (List.mem_of_getElem? hx)))
  | ag l h ih =>
    intro hb
    cases hb with
    | ag bh=>exact .ag l fun i v x hv hx=>ih i v x hv hx (bh x (List.mem_of_getElem? hx))
  | tu l h ih =>
    intro hb
    cases hb with
    | tu bh=>exact .tu l fun i v x hv hx=>ih i v x hv hx (bh x (List.mem_of_getElem? hx))
theorem ConcL.cutN {G : Gh} {n : Nat} {vs : List Value} {xs : List AV} (h : ConcL G vs xs) (hb : ∀ x,x ∈ xs → BdA n x) : ConcL (cutN G n) vs xs:=⟨h.1,fun i v x hv hx=>(h.2 i v x hv hx).cutN (hb x (List.mem_of_getElem? hx))⟩
theorem ConcL.bd {G : Gh} {n : Nat} (hn : NoAbove G n) {vs : List Value} {xs : List AV} (h : ConcL G vs xs) : ∀ x,x ∈ xs → BdA n x:=fun x hx=>by
  obtain ⟨i,hi,rfl⟩:=List.getElem_of_mem hx
  exact (h.2 i (vs[i]'(h.1 ▸ hi)) _ (List.getElem?_eq_getElem (h.1 ▸ hi)) (List.getElem?_eq_getElem hi)).bd hn
section
variable {P : Program} [GlobF P]
theorem RH.bd {B : Base P} {G : Gh} {h : List AObj} {w : World} (hr : RH B G h w) : BdH h:=fun o ho=>by
  have hn : NoAbove G h.length:=hr.fresh
  obtain ⟨r,hlt,rfl⟩:=List.getElem_of_mem ho
  have hok:=hr.obj r _ (List.getElem?_eq_getElem hlt)
  generalize h[r] = o at hok
  cases o with
  | cells xs=>obtain ⟨b,c,ty,g1,g2,g3,g4,g5⟩:=hok;exact g4.bd hn
  | loopr l N ps assign body rg st pend=>obtain ⟨g1,g2,g3,fn,tm,db,g4,g5,g6⟩:=hok;exact fun t=>(g6 t).bd hn
  | row k e els =>
    obtain ⟨o0,hk,h1⟩:=hok
    rcases h1 with ⟨rfl,_⟩ | ⟨g,cap,c,q1,q2,q3,q4,q5,q6,q7,q8⟩
    · exact fun e he=>by cases he
    · exact fun e he x hx=>q7.bd hn x (List.mem_flatten.2 ⟨e,he,hx⟩)
  | _=>trivial
theorem RH.cutN {B : Base P} {G : Gh} {h ex : List AObj} {w : World} (hr : RH B G (h ++ ex) w) (hb : BdH h) (h0 : NoAbove B.g0 h.length) : RH B (cutN G h.length) h w:=by
  have hlt : ∀ {r : Nat} {o : AObj},h[r]? = some o → r < h.length:=fun e=>(List.getElem?_eq_some_iff.1 e).1
  have hget : ∀ {r : Nat} {o : AObj},h[r]? = some o → (h ++ ex)[r]? = some o:=fun e=>by rw [List.getElem?_append_left (hlt e)];exact e
  have eb : ∀ {r : Nat},r < h.length → (Go.AL.cutN G h.length).blk r = G.blk r:=fun hr=>if_pos hr
  have et : ∀ {r : Nat} (j : Nat),r < h.length → (Go.AL.cutN G h.length).tl r j = G.tl r j:=fun j hr=>if_pos hr
  refine ⟨cutN_le h0 hr.base,hr.tape,hr.os,hr.output,hr.drawn,hr.size,hr.out,hr.imm,hr.low,fun r o ho=>?_,fun r r' o o' b h1 h2 h3 h4=>?_,fun r hr'=>⟨if_neg (by omega),fun n=>if_neg (by omega)⟩⟩
  · have hok:=hr.obj r o (hget ho)
    have hro:=hlt ho
    have hbo:=hb o (List.mem_of_getElem? ho)
    cases o with
    | dead=>trivial
    | free=>exact ⟨(eb hro).trans hok.1,fun n=>(et n hro).trans (hok.2 n)⟩
    | cells xs=>obtain ⟨b,c,ty,g1,g2,g3,g4,g5⟩:=hok;exact ⟨b,c,ty,(eb hro).trans g1,g2,g3,g4.cutN hbo,g5⟩
    | raw ob=>obtain ⟨b,g1,g2,g3,g4⟩:=hok;exact ⟨b,(eb hro).trans g1,g2,g3,g4⟩
    | mapo b es=>obtain ⟨g1,g2,g3,g4⟩:=hok;exact ⟨(eb hro).trans g1,g2,g3,g4⟩
    | loopr l N ps assign body rg st pend=>obtain ⟨g1,g2,g3,fn,tm,db,g4,g5,g6⟩:=hok;exact ⟨(eb hro).trans g1,g2,g3,fn,tm,db,g4,g5,fun t=>(g6 t).cutN (hbo t)⟩
    | tail n k e =>
      obtain ⟨o0,h1⟩:=hok
      refine ⟨fun j hj=>(et j hro).trans (o0 j hj),?_⟩
      rcases h1 with ⟨h1,h2⟩ | ⟨g,cap,c,q1,q2⟩
      · exact .inl ⟨h1,(et 0 hro).trans h2⟩
      · exact .inr ⟨g,cap,c,(et n hro).trans q1,q2⟩
    | row k e els =>
      obtain ⟨o0,hk,h1⟩:=hok
      refine ⟨fun j hj=>(et j hro).trans (o0 j hj),hk,?_⟩
      rcases h1 with ⟨h1,h2⟩ | ⟨g,cap,c,q1,q2,q3,q4,q5,q6,q7,q8⟩
      · exact .inl ⟨h1,(et 0 hro).trans h2⟩
      · refine .inr ⟨g,cap,c,(et els.length hro).trans q1,q2,q3,q4,q5,q6,q7.cutN fun x hx=>?_,q8.1,(eb hro).trans q8.2⟩
        obtain ⟨e',he',hx'⟩:=List.mem_flatten.1 hx
        exact hbo e' he' x hx'
  · have c1 : ∀ {r : Nat} {o : AObj},h[r]? = some o → ownBlk (Go.AL.cutN G h.length) r o = ownBlk G r o:=fun e=>ownBlk.congr (eb (hlt e)) (fun n=>et n (hlt e)) _
    rw [c1 h1] at h3;rw [c1 h2] at h4
    exact hr.inj r r' o o' b (hget h1) (hget h2) h3 h4
theorem AC.cut {f : FuncId} {xs : List AV} {h : List AObj} {K K' : AV → List AObj → Prop} (ha : AC P f xs h K)
    (hk : BdH h → ∀ v h',K v h' → ∃ h'' ex,h' = h'' ++ ex ∧ h.length ≤ h''.length ∧ BdH h'' ∧ BdA h''.length v ∧ K' v h'') : AC P f xs h K':=by
  refine ⟨ha.1,fun B G w vs hr hc=>?_⟩
  refine (ha.2 B G w vs hr hc).mono ?_
  rintro e w' ⟨r,G',h',v,rfl,hg,hh,hv,hkv⟩
  obtain ⟨h'',ex,rfl,hl,hb,hbv,hk'⟩:=hk hr.bd v h' hkv
  have hn : NoAbove G h''.length:=fun q hq=>hr.fresh q (Nat.le_trans hl hq)
  have hn0 : NoAbove B.g0 h''.length:=fun q hq=>by
    obtain ⟨k1,k2⟩:=hn q hq
    refine ⟨?_,fun j=>?_⟩
    · cases e : B.g0.blk q with
      | none=>rfl
      | some b=>have:=hr.base.blk _ _ e;rw [k1] at this;cases this
    · cases e : B.g0.tl q j with
      | none=>rfl
      | some b=>have:=hr.base.tl _ _ _ e;rw [k2] at this;cases this
  exact ⟨r,cutN G' h''.length,h'',v,rfl,cutN_le hn hg,hh.cutN hb hn0,hv.cutN hbv,hk'⟩
theorem AC.bd {f : FuncId} {xs : List AV} {h : List AObj} {K : AV → List AObj → Prop} (he : Go.Proofs.Enters P f) (ha : BdH h → AC P f xs h K) : AC P f xs h K :=
  ⟨he,fun B G w vs hr hc=>(ha hr.bd).2 B G w vs hr hc⟩
end
theorem get_last {α : Type} {h : List α} {x : α} : (h ++ [x])[h.length]? = some x:=by simp
theorem get_app {α : Type} {h l : List α} {i : Nat} {x : α} (hi : h[i]? = some x) : (h ++ l)[i]? = some x:=by rw [List.getElem?_append_left (List.getElem?_eq_some_iff.1 hi).1];exact hi
theorem get_ne {α : Type} {h : List α} {i j : Nat} {x y : α} (hne : j ≠ i) (hi : h[i]? = some x) : (h.set j y)[i]? = some x:=by rw [List.getElem?_set_ne hne];exact hi
theorem get_lt {α : Type} {h : List α} {i : Nat} {x : α} (hi : h[i]? = some x) : i < h.length:=(List.getElem?_eq_some_iff.1 hi).1
end Go.AL

namespace Go.AL
theorem get_last2 {α : Type} {h : List α} {x : α} {i : Nat} (hi : h.length = i) : (h ++ [x])[i]? = some x:=by subst hi;simp
section
variable {P : Program} [GlobF P] {ty : TypeId} {pos : String} {af : Array Edge} {dst : Option Nat} {gd : Option (Nat × Bool)} {ρ : Operand → Option AV}
end
end Go.AL

namespace Go.AL
inductive LK where
  | b
  | i (k : IntKind)
  | s
def LK.ok : LK → Value → Bool
  | .b,.bool _=>true
  | .i k,.int k' _=>decide (k = k')
  | .s,.string _=>true
  | _,_=>false
def lksB : List LK → List Value → Bool
  | [],[]=>true
  | l :: ls,v :: vs=>l.ok v && lksB ls vs
  | _,_=>false
open Classical in
noncomputable def lEq (a b : List Value) : Bool:=decide (a = b)
theorem lEq_t (a b : List Value) : (lEq a b = true) = (a = b):=by unfold lEq;simp
theorem lEq_f (a b : List Value) : (lEq a b = false) = (a ≠ b):=by unfold lEq;simp
attribute [irreducible] lEq
theorem lEq_iff {x : Bool} {a b : List Value} (h : x = true ↔ a = b) : x = lEq a b:=by
  cases hx : lEq a b
  · rw [lEq_f] at hx;cases x
    · rfl
    · exact absurd (h.1 rfl) hx
  · rw [lEq_t] at hx;exact h.2 hx
theorem lksB_len : ∀ {L : List LK} {vs : List Value},lksB L vs = true → vs.length = L.length
  | [],[],_=>rfl
  | l :: ls,v :: vs,h=>by simp only [lksB,Bool.and_eq_true] at h;simp [lksB_len h.2]
  | [],_ :: _,h=>by simp [lksB] at h
  | _ :: _,[],h=>by simp [lksB] at h
theorem lksB_app : ∀ {L M : List LK} {vs : List Value},lksB (L ++ M) vs = true → lksB L (vs.take L.length) = true ∧ lksB M (vs.drop L.length) = true
  | [],M,vs,h=>by simpa [lksB] using h
  | l :: ls,M,[],h=>by simp [lksB] at h
  | l :: ls,M,v :: vs,h=>by
    simp only [List.cons_append,lksB,Bool.and_eq_true] at h
    have:=lksB_app h.2
    simp only [List.length_cons,List.take_succ_cons,List.drop_succ_cons,lksB,Bool.and_eq_true]
    exact ⟨⟨h.1,this.1⟩,this.2⟩
section
variable {P : Program}
class EqF (P : Program) (t : TypeId) (L : outParam (List LK)) (m : outParam Nat) : Prop where
  h : ∀ (w : World) (xs ys : List Value) (off : Nat),lksB L ((xs.drop off).take L.length) = true → lksB L ((ys.drop off).take L.length) = true →
    ∃ a b,(part t xs.toArray off).run P w = .ok a w ∧ (part t ys.toArray off).run P w = .ok b w ∧ ∀ d,m ≤ d → (Op.equalIn d t a b).run P w = .ok (lEq ((xs.drop off).take L.length) ((ys.drop off).take L.length)) w
theorem take1_inv {α : Type} {xs : List α} {off : Nat} {P : List α → Prop} (h : P ((xs.drop off).take 1)) (h0 : ¬ P []) : ∃ v,xs[off]? = some v ∧ (xs.drop off).take 1 = [v]:=by
  cases hx : xs.drop off with
  | nil=>rw [hx] at h;exact absurd h h0
  | cons v l =>
    refine ⟨v,?_,rfl⟩
    have:=congrArg (·[0]?) hx
    simpa using this
theorem eqf_leaf {t : TypeId} {l : LK} (hag : ∀ w,(isAgg t).run P w = .ok false w) (he : ∀ (d : Nat) (w : World) (a b : Value),l.ok a = true → l.ok b = true → ∃ r,(Op.equalIn (d + 1) t a b).run P w = .ok r w ∧ (r = true ↔ a = b)) : EqF P t [l] 1:=⟨fun w xs ys off hx hy=>by
  obtain ⟨a,ha,ea⟩:=take1_inv (P:=fun l'=>lksB [l] l' = true) hx (by simp [lksB])
  obtain ⟨b,hb,eb⟩:=take1_inv (P:=fun l'=>lksB [l] l' = true) hy (by simp [lksB])
  simp only [List.length_singleton] at *
  rw [ea] at hx ⊢;rw [eb] at hy ⊢
  simp only [lksB,Bool.and_true] at hx hy
  refine ⟨a,b,by simp [part,hag w,ha],by simp [part,hag w,hb],fun d hd=>?_⟩
  obtain ⟨d,rfl⟩ : ∃ d',d = d' + 1:=⟨d - 1,by omega⟩
  obtain ⟨r,hr,hiff⟩:=he d w a b hx hy
  rw [hr,lEq_iff (x:=r) (a:=[a]) (b:=[b]) (by rw [hiff];simp)]⟩
theorem eqf_int {t : TypeId} {k : IntKind} (hu : P.underlying t = some (.int k)) (hag : ∀ w,(isAgg t).run P w = .ok false w) : EqF P t [.i k] 1:=eqf_leaf hag fun d w a b ha hb=>by
  cases a <;> simp only [LK.ok,Bool.false_eq_true,decide_eq_true_eq] at ha
  cases b <;> simp only [LK.ok,Bool.false_eq_true,decide_eq_true_eq] at hb
  subst ha;subst hb
  exact ⟨_,run_equalIn_int w d t _ _ _ _ hu,by simp⟩
theorem eqf_str {t : TypeId} (hu : P.underlying t = some .string) (hag : ∀ w,(isAgg t).run P w = .ok false w) : EqF P t [.s] 1:=eqf_leaf hag fun d w a b ha hb=>by
  cases a <;> simp only [LK.ok,Bool.false_eq_true] at ha
  cases b <;> simp only [LK.ok,Bool.false_eq_true] at hb
  rename_i a b
  refine ⟨_,run_equalIn_string w d t _ _ hu,?_⟩
  rw [beq_iff_eq,ByteArray.toList_eq,ByteArray.toList_eq]
  obtain ⟨⟨a⟩⟩:=a
  obtain ⟨⟨b⟩⟩:=b
  simp
inductive FldEq (P : Program) (m : Nat) : List Field → Nat → List LK → Prop
  | nil (off : Nat) : FldEq P m [] off []
  | cons {f : Field} {fs : List Field} {off m' : Nat} {L M : List LK} (hn : f.name ≠ "_") (ho : f.offset = off) (he : EqF P f.type L m') (hm : m' ≤ m) (h : FldEq P m fs (off + L.length) M) : FldEq P m (f :: fs) off (L ++ M)
theorem FldEq.cons3 {m : Nat} {f : Field} {fs : List Field} {off m' : Nat} {L K : List LK} (hn : f.name ≠ "_") (ho : f.offset = off) [he : EqF P f.type L m'] (hm : m' ≤ m) (hL : K.take L.length = L) (h : FldEq P m fs (off + L.length) (K.drop L.length)) : FldEq P m (f :: fs) off K := by
  have:=FldEq.cons hn ho he hm h
  have e : L ++ K.drop L.length = K:=by
    have:=List.take_append_drop L.length K
    rwa [hL] at this
  rwa [e] at this
theorem FldEq.run {m : Nat} : ∀ {fs : List Field} {off : Nat} {L : List LK},FldEq P m fs off L → ∀ (w : World) (xs ys : List Value),lksB L (xs.drop off) = true → lksB L (ys.drop off) = true → ∀ d,m ≤ d →
    (Op.eqFields d xs.toArray ys.toArray fs).run P w = .ok (lEq (xs.drop off) (ys.drop off)) w:=by
  intro fs off L h
  induction h with
  | nil off =>
    intro w xs ys hx hy d hd
    have e : ∀ {l : List Value},lksB [] l = true → l = []:=fun {l} h=>by cases l <;> simp [lksB] at h ⊢
    rw [e hx,e hy]
    have : lEq [] [] = true:=by rw [lEq_t]
    rw [this];rfl
  | @cons f fs off m' L M hn ho he hm h ih =>
    intro w xs ys hx hy d hd
    obtain ⟨x1,x2⟩:=lksB_app hx
    obtain ⟨y1,y2⟩:=lksB_app hy
    obtain ⟨a,b,p1,p2,p3⟩:=he.h w xs ys off x1 y1
    have p3':=p3 d (Nat.le_trans hm hd)
    rw [List.drop_drop] at x2 y2
    have ih':=ih w xs ys x2 y2 d hd
    have split : ∀ (l : List Value),l.drop off = (l.drop off).take L.length ++ l.drop (off + L.length):=fun l=>by
      rw [← List.drop_drop,List.take_append_drop]
    have hl : ((xs.drop off).take L.length).length = ((ys.drop off).take L.length).length:=by rw [lksB_len x1,lksB_len y1]
    have key : lEq (xs.drop off) (ys.drop off) = (lEq ((xs.drop off).take L.length) ((ys.drop off).take L.length) && lEq (xs.drop (off + L.length)) (ys.drop (off + L.length))):=by
      refine (lEq_iff ?_).symm
      rw [Bool.and_eq_true,lEq_t,lEq_t]
      constructor
      · rintro ⟨h1,h2⟩;rw [split xs,split ys,h1,h2]
      · intro h
        rw [split xs,split ys] at h
        exact List.append_inj h hl
    rw [key]
    simp only [Op.eqFields,hn,ho,ne_eq,not_false_eq_true,if_true,Sem.run_bind,p1,p2,p3',Result.andThen_ok]
    cases lEq ((xs.drop off).take L.length) ((ys.drop off).take L.length)
    · simp
    · simpa using ih'
theorem eqf_struct {t : TypeId} {fs : Array Field} {L : List LK} {m n : Nat} (hu : P.underlying t = some (.struct fs)) (hp : P.stoodInHeld t = false) (hag : ∀ w,(isAgg t).run P w = .ok true w) (hs : ∀ w,(sizeOf t).run P w = .ok n w) (hn : n = L.length)
    (hf : FldEq P m fs.toList 0 L) : EqF P t L (m + 1):=⟨fun w xs ys off hx hy=>by
  subst hn
  have ex : ∀ (l : List Value),l.toArray.extract off (off + L.length) = ((l.drop off).take L.length).toArray:=fun l=>by
    apply Array.ext'
    rw [Array.toList_extract]
    simp [List.extract]
  refine ⟨.agg ((xs.drop off).take L.length).toArray,.agg ((ys.drop off).take L.length).toArray,by simp [part,hag w,hs w],by simp [part,hag w,hs w],fun d hd=>?_⟩
  obtain ⟨d,rfl⟩ : ∃ d',d = d' + 1:=⟨d - 1,by omega⟩
  have e : P.fieldsOf t = fs:=by simp [Program.fieldsOf,hu]
  rw [run_equalIn_struct w d t _ _ (by rw [e];exact hu) hp,e]
  have:=hf.run w ((xs.drop off).take L.length) ((ys.drop off).take L.length) (by simpa using hx) (by simpa using hy) d (by omega)
  simpa using this⟩
def scO : List AV → Option (List Value)
  | []=>some []
  | .sc v :: xs=>match scO xs with
    | some vs=>some (v :: vs)
    | none=>none
  | _=>none
theorem scO_conc {G : Gh} : ∀ {xs : List AV} {us vs : List Value},scO xs = some us → ConcL G vs xs → vs = us
  | [],us,vs,h,hc=>by simp [scO] at h;subst h;exact hc.inv_nil
  | x :: xs,us,vs,h,hc=>by
    obtain ⟨v,vs',rfl,h1,h2⟩:=hc.inv_cons
    cases x with
    | sc u =>
      simp only [scO] at h
      split at h
      · rename_i ws hw
        cases h
        rw [conc_sc h1,scO_conc hw h2]
      · cases h
    | _=>simp [scO] at h
end
class EqG (P : Program) (t : TypeId) : Prop where
  h : P.eqGuardType P.depth t = false
theorem lks_drop0 {L : List LK} {vs : List Value} (h : lksB L vs = true) : lksB L ((vs.drop 0).take L.length) = true:=by
  rw [List.drop_zero,List.take_of_length_le (Nat.le_of_eq (lksB_len h))];exact h
theorem exec_eqS {P0 : Program} {t : TypeId} {L : List LK} {m : Nat} [he : EqF P0 t L m] [hg : EqG P0 t] [ha : Agg P0 t true] [hs : Siz P0 t L.length] (hm : m ≤ 10000) {us vs : List Value} (hu : lksB L us = true) (hv : lksB L vs = true) (w : World) {x y : Operand} :
    (do eqGuard .eql t x y (.agg us.toArray) (.agg vs.toArray);binOp .eql t (.agg us.toArray) (.agg vs.toArray) : Sem Value).run P0 w = .ok (.bool (lEq us vs)) w ∧
    (do eqGuard .neq t x y (.agg us.toArray) (.agg vs.toArray);binOp .neq t (.agg us.toArray) (.agg vs.toArray) : Sem Value).run P0 w = .ok (.bool (bNot (lEq us vs))) w:=by
  obtain ⟨a,b,p1,p2,p3⟩:=he.h w us vs 0 (lks_drop0 hu) (lks_drop0 hv)
  have ex : ∀ {l : List Value},lksB L l = true → l.toArray.extract 0 (0 + L.length) = l.toArray:=fun {l} h=>by
    apply Array.ext'
    rw [Array.toList_extract]
    simp [List.extract,← lksB_len h]
  have ea : a = .agg us.toArray:=by
    have : (part t us.toArray 0).run P0 w = .ok (.agg us.toArray) w:=by
      simp only [part,Sem.run_bind,ha.h w,Result.andThen_ok,if_true,hs.h w,Sem.run_pure,ex hu]
    rw [this] at p1;cases p1;rfl
  have eb : b = .agg vs.toArray:=by
    have : (part t vs.toArray 0).run P0 w = .ok (.agg vs.toArray) w:=by
      simp only [part,Sem.run_bind,ha.h w,Result.andThen_ok,if_true,hs.h w,Sem.run_pure,ex hv]
    rw [this] at p2;cases p2;rfl
  have p4:=p3 10000 hm
  rw [ea,eb,List.drop_zero,List.drop_zero,List.take_of_length_le (Nat.le_of_eq (lksB_len hu)),List.take_of_length_le (Nat.le_of_eq (lksB_len hv))] at p4
  constructor
  · rw [Sem.run_bind,run_eqGuard_agg w _ t x y _ _ hg.h,Result.andThen_ok,run_eql_struct,p4];rfl
  · rw [Sem.run_bind,run_eqGuard_agg w _ t x y _ _ hg.h,Result.andThen_ok,run_neq_struct,p4]
    unfold bNot;rfl
theorem ag_inv {G : Gh} {v : Value} {xs : List AV} {us : List Value} (h : Conc G v (.ag xs)) (hu : scO xs = some us) : v = .agg us.toArray:=by
  cases h with
  | @ag cs _ l h=>rw [scO_conc hu ⟨l,h⟩]
section
variable {P : Program} [GlobF P] {ty : TypeId} {pos : String} {af : Array Edge} {dst : Option Nat} {gd : Option (Nat × Bool)} {ρ : Operand → Option AV}
theorem D_eqA {t t' : TypeId} {L : List LK} {m : Nat} {x y : Operand} {xs ys : List AV} {us vs : List Value} [he : EqF P t L m] [hg : EqG P t] [ha : Agg P t true] [hs : Siz P t L.length] (hx : ρ x = some (.ag xs)) (hy : ρ y = some (.ag ys))
    (hus : scO xs = some us) (hvs : scO ys = some vs) (hu : lksB L us = true) (hv : lksB L vs = true) (hm : Nat.ble m 10000 = true) :
    PPOp P { dst:=dst,op:=.binOp .eql t x y t',type:=ty,pos:=pos,after:=af,guard:=gd } ρ (.sc (.bool (lEq us vs))) :=
  PPOp.val (by simp) (fun B G act w hR E=>by
    have ex:=ag_inv (E x (by first|exact List.Mem.head _) _ hx) hus
    have ey:=ag_inv (E y (by first|exact List.Mem.tail _ (List.Mem.head _)) _ hy) hvs
    exact ⟨.bool (lEq us vs),exec_bin _ (by rw [ex,ey];exact (exec_eqS (by simpa using hm) hu hv w).1),.sc _⟩)
theorem D_neA {t t' : TypeId} {L : List LK} {m : Nat} {x y : Operand} {xs ys : List AV} {us vs : List Value} [he : EqF P t L m] [hg : EqG P t] [ha : Agg P t true] [hs : Siz P t L.length] (hx : ρ x = some (.ag xs)) (hy : ρ y = some (.ag ys))
    (hus : scO xs = some us) (hvs : scO ys = some vs) (hu : lksB L us = true) (hv : lksB L vs = true) (hm : Nat.ble m 10000 = true) :
    PPOp P { dst:=dst,op:=.binOp .neq t x y t',type:=ty,pos:=pos,after:=af,guard:=gd } ρ (.sc (.bool (bNot (lEq us vs)))) :=
  PPOp.val (by simp) (fun B G act w hR E=>by
    have ex:=ag_inv (E x (by first|exact List.Mem.head _) _ hx) hus
    have ey:=ag_inv (E y (by first|exact List.Mem.tail _ (List.Mem.head _)) _ hy) hvs
    exact ⟨.bool (bNot (lEq us vs)),exec_bin _ (by rw [ex,ey];exact (exec_eqS (by simpa using hm) hu hv w).2),.sc _⟩)
end
instance (a b : List Value) : BP (lEq a b) (a = b) (a ≠ b):=⟨fun h=>by rwa [lEq_t] at h,fun h=>by rwa [lEq_f] at h⟩
end Go.AL
