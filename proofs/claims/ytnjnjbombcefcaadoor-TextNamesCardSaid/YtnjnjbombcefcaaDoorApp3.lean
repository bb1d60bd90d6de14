/- The rules of the abstract logic, eleventh part: tails adopted; literals of one's own; ghosts renamed; results. No condition. -/
import Derived.Test.YtnjnjbombcefcaaDoorApp2
set_option linter.all false
namespace Go.AL
section
variable {P : Program} [GlobF P] {fr : Option Nat} {N : Nat} {Q : Exit → AS → Prop} {ops : Array Oper} {rest : List Oper} {rg : List (Nat × AV)} {h : List AObj} {mk : Mk} {ty : TypeId} {pos : String} {af : Array Edge} {d : Nat}
theorem WL_resv {l : List Oper} (n : Nat) (hk : WL P fr N ops l Q ⟨rg,resv n h,mk⟩) : WL P fr N ops l Q ⟨rg,h,mk⟩:=fun B G a w hR=>hk B G a w (R.resv n h hR)
theorem W_resv {c : Code} (n : Nat) (hk : W P fr N c Q ⟨rg,resv n h,mk⟩) : W P fr N c Q ⟨rg,h,mk⟩:=fun B G a w hR=>hk B G a w (R.resv n h hR)
end
def cutG (G : Gh) (ss : List Nat) : Gh :=
  ⟨G.imm,fun r=>(ss[r]?).bind G.blk,fun r j=>(ss[r]?).bind fun q=>G.tl q j⟩
def Mv (ss : List Nat) (x y : AV) : Prop:=∀ (G : Gh) (v : Value),Conc G v x → Conc (cutG G ss) v y
theorem of_le_cut (G : Gh) (ss : List Nat) : (Gh.of G.imm).le (cutG G ss):=⟨fun _ _ _ e=>e,fun _ _ e=>(by cases e),fun _ _ _ e=>(by cases e)⟩
theorem Mv.sl {ss : List Nat} {r q k : Nat} {els : List (List AV)} [hs : PurLL els] (hr : ss[r]? = some q) : Mv ss (.sl (some q) k els) (.sl (some r) k els):=fun G v h=>by
  have hp : ∀ {x : AV} {e : List AV} {v : Value},e ∈ els → x ∈ e → Conc G v x → Conc (cutG G ss) v x:=fun he hx h=>((hs.h _ he).h _ hx G _ h).mono (of_le_cut G ss)
  have ht : ∀ j v,G.tl q j = some v → (cutG G ss).tl r j = some v:=fun j v e=>by simp only [cutG,hr];exact e
  cases h with
  | sl us hk hcap him hc htk=>exact .sl us hk hcap him (fun i e j x he hx=>hp (List.mem_of_getElem? he) (List.mem_of_getElem? hx) (hc i e j x he hx)) (fun t e=>by cases e;exact ht _ _ (htk q rfl))
  | slnil htk=>exact .slnil (fun t e=>by cases e;exact ht _ _ (htk q rfl))
theorem Mv.bp {ss : List Nat} {r q o : Nat} (hr : ss[r]? = some q) : Mv ss (.bp q o) (.bp r o):=fun G v h=>by
  cases h with
  | bp hb=>exact .bp (by simp only [cutG,hr];exact hb)
theorem Mv.mr {ss : List Nat} {r q o n : Nat} (hr : ss[r]? = some q) : Mv ss (.mr q o n) (.mr r o n):=fun G v h=>by
  cases h with
  | mr hb hn ho=>exact .mr (by simp only [cutG,hr];exact hb) hn ho
theorem Mv.mc {ss : List Nat} {r q n c : Nat} (hr : ss[r]? = some q) : Mv ss (.mc q n c) (.mc r n c):=fun G v h=>by
  cases h with
  | mc hb hn=>exact .mc (by simp only [cutG,hr];exact hb) hn
theorem Mv.any {ss : List Nat} {x : AV} : Mv ss x .any:=fun _ v _=>.any v
def RenL (ss : List Nat) (rg : List (Nat × AV)) : List (Nat × AV) → Prop
  | []=>True
  | (t,y) :: l=>(∃ x,lookO rg t = some x ∧ Mv ss x y) ∧ RenL ss rg l
def MvL (ss : List Nat) : List AV → List AV → Prop
  | [],[]=>True
  | x :: xs,y :: ys=>Mv ss x y ∧ MvL ss xs ys
  | _,_=>False
inductive MvO (ss : List Nat) : AObj → AObj → Prop
  | dead (o : AObj) : MvO ss o .dead
  | free : MvO ss .free .free
  | tail (n k e : Nat) : MvO ss (.tail n k e) (.tail n k e)
  | cells (xs ys : List AV) (h : MvL ss xs ys) {tp : Option TypeId} : MvO ss (.cells xs tp) (.cells ys tp)
  | raw (o : Obj) : MvO ss (.raw o) (.raw o)
  | mapo (b : Nat) (es : List (Value × Value)) : MvO ss (.mapo b es) (.mapo b es)
  | row (k e : Nat) (els : List (List AV)) [hs : PurLL els] : MvO ss (.row k e els) (.row k e els)
def RenH (ss : List Nat) (h : List AObj) : List Nat → List AObj → Prop
  | [],[]=>True
  | q :: qs,o :: os=>(∃ x,h[q]? = some x ∧ MvO ss x o) ∧ RenH ss h qs os
  | _,_=>False
structure Ren (mk : Mk) (ss : List Nat) (rg : List (Nat × AV)) (h : List AObj) (rg' : List (Nat × AV)) (h' : List AObj) : Prop where
  nodup : ss.Nodup
  own : ∀ r,r < mk.n0 → ss[r]? = some r
  marks : ∀ r,r ∈ mk.l → ss[r]? = some r
  regs : RenL ss rg rg'
  heap : RenH ss h ss h'
theorem RenL.look {ss : List Nat} {rg : List (Nat × AV)} : ∀ {rg' : List (Nat × AV)},RenL ss rg rg' → ∀ t,look rg' t = .any ∨ ∃ x,look rg t = x ∧ Mv ss x (look rg' t)
  | [],_,t=>.inl rfl
  | (u,y) :: l,h,t=>by
    simp only [Go.AL.look]
    cases hq : Nat.beq u t with
    | true =>
      have : u = t:=Nat.eq_of_beq_eq_true hq
      subst this
      obtain ⟨⟨x,h1,h2⟩,_⟩:=h
      exact .inr ⟨x,lookO_eq h1,h2⟩
    | false=>exact RenL.look h.2 t
theorem MvL.conc {ss : List Nat} {G : Gh} : ∀ {xs ys : List AV} {vs : List Value},MvL ss xs ys → ConcL G vs xs → ConcL (cutG G ss) vs ys
  | [],[],vs,_,h=>by rw [h.inv_nil];exact .nil _
  | x :: xs,y :: ys,vs,hl,h=>by
    obtain ⟨v,vs',rfl,h1,h2⟩:=h.inv_cons
    exact .cons (hl.1 _ _ h1) (MvL.conc hl.2 h2)
  | [],_ :: _,_,hl,_=>hl.elim
  | _ :: _,[],_,hl,_=>hl.elim
section
variable {P : Program} [GlobF P] {fr : Option Nat} {N : Nat} {Q : Exit → AS → Prop} {s : AS}
end
inductive ResO (P : Program) (rg : List (Nat × AV)) (h : List AObj) : ResultVar → AV → Prop
  | tmp {t : Nat} {v : AV} (hv : lookO rg t = some v) : ResO P rg h (.tmp t) v
  | cellB1 {a t r off : Nat} {xs : List AV} {c : AV} [ha : Agg P t false] (hv : lookO rg a = some (.bp r off)) {tp : Option TypeId} (hr : h[r]? = some (.cells xs tp)) (hc : xs[off]? = some c) : ResO P rg h (.cell a t) c
  | cellBA {a t r off n : Nat} {xs : List AV} [ha : Agg P t true] [hs : Siz P t n] (hv : lookO rg a = some (.bp r off)) {tp : Option TypeId} (hr : h[r]? = some (.cells xs tp)) (hn : Nat.ble (off + n) xs.length = true) : ResO P rg h (.cell a t) (.ag ((xs.drop off).take n))
  | cellE1 {a t : Nat} {c : AV} {cs : List AV} [ha : Agg P t false] (hv : lookO rg a = some (.ep (c :: cs))) : ResO P rg h (.cell a t) c
  | cellEA {a t n : Nat} {cs : List AV} [ha : Agg P t true] [hs : Siz P t n] (hv : lookO rg a = some (.ep cs)) (hn : Nat.ble n cs.length = true) : ResO P rg h (.cell a t) (.ag (cs.take n))
def ResL (P : Program) (rg : List (Nat × AV)) (h : List AObj) : List ResultVar → List AV → Prop
  | [],[]=>True
  | r :: rs,v :: vs=>ResO P rg h r v ∧ ResL P rg h rs vs
  | _,_=>False
def tupAV : List AV → AV
  | [v]=>v
  | vs=>.tu vs
section
variable {P : Program} [GlobF P]
def resV (tmps : Array Value) : ResultVar → Sem Value
  | .tmp t=>pure (tmps.getD t undef)
  | .cell x t=>do loadVar t (← asAddr (tmps.getD x undef))
theorem ResO.run {B : Base P} {N : Nat} {G : Gh} {s : AS} {a : Act} {w : World} (hR : R B N G s a w) {r : ResultVar} {v : AV} (h : ResO P s.regs s.heap r v) :
    ∃ u,(resV a.tmps r).run P w = .ok u w ∧ Conc G u v:=by
  cases h with
  | @tmp t v hv=>exact ⟨_,rfl,(lookO_eq hv) ▸ hR.regs t⟩
  | @cellB1 x t r off xs c ha hv tp hr hc =>
    have h1:=hR.regs x
    rw [show look s.regs x = _ from lookO_eq hv] at h1
    obtain ⟨b,cs,h2,h3,h4⟩:=box_inv hR.heap hr h1
    have hlt : off < cs.length:=by rw [h3.1];exact (List.getElem?_eq_some_iff.1 hc).1
    have hcell:=h4 off cs[off] (List.getElem?_eq_getElem hlt)
    exact ⟨cs[off],by simp [resV,h2,asAddr,loadVar,ha.h,load,Sem.run,hcell],h3.2 off _ _ (List.getElem?_eq_getElem hlt) hc⟩
  | @cellBA x t r off n xs ha hs hv tp hr hn =>
    have h1:=hR.regs x
    rw [show look s.regs x = _ from lookO_eq hv] at h1
    obtain ⟨b,cs,h2,h3,h4⟩:=box_inv hR.heap hr h1
    have hn' : off + n ≤ cs.length:=by rw [h3.1];simpa using hn
    have hl:=run_loadCells_list (P:=P) w ⟨b,off,none⟩ ((cs.drop off).take n) (fun j v hj=>by
      rw [add_none]
      rw [List.getElem?_take] at hj
      split at hj
      · rw [List.getElem?_drop] at hj;exact h4 _ v hj
      · cases hj)
    have hlen : ((cs.drop off).take n).length = n:=by simp;omega
    rw [hlen] at hl
    have hc:=(h3.drop off).take n
    exact ⟨.agg ((cs.drop off).take n).toArray,by simp [resV,h2,asAddr,loadVar,ha.h,hs.h,hl],.ag hc.1 hc.2⟩
  | @cellE1 x t c cs ha hv =>
    have h1:=hR.regs x
    rw [show look s.regs x = _ from lookO_eq hv] at h1
    obtain ⟨b,o,vs,h2,h3,h4⟩:=ep_inv h1
    obtain ⟨v,vs',rfl,k1,_⟩:=h3.inv_cons
    have hcell:=hR.heap.imm _ _ _ (h4 0 v rfl)
    exact ⟨v,by simp [resV,h2,asAddr,loadVar,ha.h,load,Sem.run,hcell] at hcell ⊢,k1⟩
  | @cellEA x t n cs ha hs hv hn =>
    have h1:=hR.regs x
    rw [show look s.regs x = _ from lookO_eq hv] at h1
    obtain ⟨b,o,vs,h2,h3,h4⟩:=ep_inv h1
    have hn' : n ≤ vs.length:=by rw [h3.1];simpa using hn
    have hl:=loadCells_of (P:=P) hR.heap (vs.take n) (b:=b) (o:=o) (fun j v hj=>h4 j v (by
      rw [List.getElem?_take] at hj;split at hj
      · exact hj
      · cases hj))
    rw [List.length_take,Nat.min_eq_left hn'] at hl
    exact ⟨.agg (vs.take n).toArray,by simp [resV,h2,asAddr,loadVar,ha.h,hs.h,hl],.ag (h3.take n).1 (h3.take n).2⟩
theorem ResL.run {B : Base P} {N : Nat} {G : Gh} {s : AS} {a : Act} {w : World} (hR : R B N G s a w) : ∀ {rs : List ResultVar} {vs : List AV},ResL P s.regs s.heap rs vs →
    ∃ us,(rs.mapM (resV a.tmps)).run P w = .ok us w ∧ ConcL G us vs
  | [],[],_=>⟨[],by simp,.nil _⟩
  | r :: rs,v :: vs,h=>by
    obtain ⟨u,h1,h2⟩:=h.1.run hR
    obtain ⟨us,h3,h4⟩:=ResL.run hR h.2
    refine ⟨u :: us,?_,.cons h2 h4⟩
    simp only [List.mapM_cons,Sem.run_bind,h1,Result.andThen_ok,h3,Sem.run_pure]
  | [],_ :: _,h=>h.elim
  | _ :: _,[],h=>h.elim
theorem resOf {fn : Func} {s : AS} {rs : List ResultVar} {vs : List AV} (hf : fn.results = rs.toArray) (h : ResL P s.regs s.heap rs vs) : ResOf P fn s (tupAV vs):=by
  intro B N G a w hR
  obtain ⟨us,h1,h2⟩:=ResL.run hR h
  have hrun : (results fn a.tmps).run P w = .ok (if h : us.toArray.size = 1 then us.toArray[0] else .tuple us.toArray) w:=by
    have e : Go.results fn a.tmps = (do let vs ← fn.results.mapM (resV a.tmps);pure (if h : vs.size = 1 then vs[0] else .tuple vs)):=by
      unfold Go.results
      congr 1
    rw [e,hf]
    simp only [List.mapM_toArray,Sem.run_bind,Sem.run_map,h1,Result.andThen_ok,Sem.run_pure]
  refine ⟨_,hrun,?_⟩
  match vs,us,h2 with
  | [],us,h2=>rw [h2.inv_nil];exact .tu (cs:=[]) rfl (fun _ _ _ h=>by simp at h)
  | [v],us,h2 =>
    obtain ⟨u,us',rfl,k1,k2⟩:=h2.inv_cons
    rw [k2.inv_nil];exact k1
  | v :: v' :: vs,us,h2 =>
    obtain ⟨u,us',rfl,k1,k2⟩:=h2.inv_cons
    obtain ⟨u',us'',rfl,k3,k4⟩:=k2.inv_cons
    have:=Conc.tu h2.1 h2.2
    show Conc G _ (.tu (v :: v' :: vs))
    simpa using this
theorem tup_le {vs us : List AV} (h : LeL vs us) : Le (tupAV vs) (tupAV us):=fun G v hv=>by
  match vs,us,h with
  | [],[],_=>cases hv with|tu l hc=>exact .tu l (fun i v x a b=>by simp at b)
  | [x],[y],h=>exact h.1 G v hv
  | x :: x' :: xs,y :: y' :: ys,h =>
    have hv' : Conc G v (.tu (x :: x' :: xs)):=hv
    show Conc _ v (.tu (y :: y' :: ys))
    cases hv' with
    | tu l hc=>have:=LeL.conc h (⟨l,hc⟩ : ConcL G _ _);exact .tu this.1 this.2
  | [x],y :: y' :: ys,h=>exact h.2.elim
  | x :: x' :: xs,[y],h=>exact h.2.elim
theorem retL {fn : Func} {s : AS} {rs : List ResultVar} {vs us : List AV} {e : Exit} (he : e = .ret ∨ e = .normal) (hf : fn.results = rs.toArray) (hm : MarksOK s.marks.l s.heap) (hr : ResL P s.regs (kill s.marks.l s.heap) rs vs) (hle : LeL vs us) : Ret P fn (fun v' _=>Le v' (tupAV us)) e s:=by
  rcases he with rfl|rfl
  · exact ⟨hm,tupAV vs,resOf (s:={ s with heap:=kill s.marks.l s.heap,marks:=⟨[],s.marks.n0⟩ }) hf hr,tup_le hle⟩
  · exact ⟨hm,tupAV vs,resOf (s:={ s with heap:=kill s.marks.l s.heap,marks:=⟨[],s.marks.n0⟩ }) hf hr,tup_le hle⟩
theorem retK {fn : Func} {s : AS} {rs : List ResultVar} {vs : List AV} {K : AV → List AObj → Prop} {e : Exit} (he : e = .ret ∨ e = .normal) (hf : fn.results = rs.toArray) (hm : MarksOK s.marks.l s.heap) (hr : ResL P s.regs (kill s.marks.l s.heap) rs vs) (hk : K (tupAV vs) (kill s.marks.l s.heap)) : Ret P fn K e s:=by
  rcases he with rfl|rfl
  · exact ⟨hm,tupAV vs,resOf (s:={ s with heap:=kill s.marks.l s.heap,marks:=⟨[],s.marks.n0⟩ }) hf hr,hk⟩
  · exact ⟨hm,tupAV vs,resOf (s:={ s with heap:=kill s.marks.l s.heap,marks:=⟨[],s.marks.n0⟩ }) hf hr,hk⟩
end
end Go.AL
