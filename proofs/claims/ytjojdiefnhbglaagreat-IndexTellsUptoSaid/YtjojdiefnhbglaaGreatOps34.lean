/- Rules of the abstract logic: a nil slice in a box begins a row of one's own. No condition. -/
import Derived.Test.YtjojdiefnhbglaaGreatOps21
set_option linter.all false
namespace Go.AL
section
variable {P : Program} [GlobF P] {fr : Option Nat} {N : Nat} {Q : Exit → AS → Prop} {ops : Array Oper} {rg : List (Nat × AV)} {h : List AObj} {mk : Mk}
theorem R.adoptCG {B : Base P} {G : Gh} {a : Act} {w : World} {r j k e : Nat} {xs : List AV} {tp : Option TypeId} (hR : R B N G ⟨rg,h,mk⟩ a w) (hr0 : h[r]? = some (.cells xs tp)) (hj : xs[j]? = some (.sc (.slice none 0 0))) :
    ∃ G',R B N G' ⟨rg,(h ++ [AObj.row k e []]).set r (.cells (xs.set j (rowA h.length 0)) tp),mk⟩ a w:=by
  have hr:=hR.heap
  obtain ⟨f1,f2⟩:=hr.fresh h.length (Nat.le_refl _)
  let G' : Gh:=⟨G.imm,G.blk,fun r j=>if r = h.length ∧ j = 0 then some (.slice none 0 0) else G.tl r j⟩
  have hle : G.le G':=⟨fun _ _ _ e=>e,fun _ _ e=>e,fun r j v e=>by
    show (if r = h.length ∧ j = 0 then _ else G.tl r j) = some v
    rw [if_neg fun h=>by obtain ⟨rfl,rfl⟩:=h;rw [f2] at e;cases e];exact e⟩
  have hh : RH B G' (h ++ [AObj.row k e []]) w:=by
    refine hr.allocObj _ hle rfl rfl rfl (Nat.le_refl _) (Nat.le_refl _) (fun _ _=>rfl) (fun _ _ _=>rfl) hr.imm (fun r hne=>⟨rfl,fun n=>if_neg fun h=>hne h.1⟩) ?_ (fun b hb=>?_)
    · exact ⟨fun j hj=>by show (if h.length = h.length ∧ j = 0 then _ else _) = none;rw [if_neg fun h=>by simp at hj;omega];exact f2 j,fun x hx=>by simp at hx,.inl ⟨rfl,if_pos ⟨rfl,rfl⟩⟩⟩
    · simp only [ownBlk,List.length_nil] at hb
      have e1 : G'.tl h.length 0 = some (.slice none 0 0):=if_pos ⟨rfl,rfl⟩
      rw [e1] at hb;cases hb
  have hlt : r < h.length:=(List.getElem?_eq_some_iff.1 hr0).1
  have hr1 : (h ++ [AObj.row k e []])[r]? = some (.cells xs tp):=by rw [List.getElem?_append_left hlt];exact hr0
  obtain ⟨b,c,ty,g1,g2,g3,g4,g5⟩:=hh.obj r _ hr1
  have hc : ConcL G' c (xs.set j (rowA h.length 0)):=⟨by simp [g4.1],fun i v x hv hx=>by
    by_cases e : j = i
    · subst e
      have hjl : j < xs.length:=(List.getElem?_eq_some_iff.1 hj).1
      rw [List.getElem?_set_self hjl] at hx
      cases hx
      have:=g4.2 j v _ hv hj
      rw [conc_sc this]
      exact .slnil fun t e=>by cases e;exact if_pos ⟨rfl,rfl⟩
    · rw [List.getElem?_set_ne e] at hx
      exact g4.2 i v x hv hx⟩
  have hh2:=hh.set (w':=w) (b:=b) (o':=.cells (xs.set j (rowA h.length 0)) tp) hr1 g1 g2 rfl rfl rfl (Nat.le_refl _) rfl (fun _ _=>rfl) (fun i v hv=>by rw [g5 i] at hv;cases hv) ⟨b,c,ty,g1,g2,g3,hc,g5⟩ (fun c hc=>by
    simp only [ownBlk] at hc;rw [g1] at hc;exact (Option.some.inj hc).symm)
  exact ⟨G',hR.step hle hh2⟩
theorem WL_adoptCG {l : List Oper} (r j k e : Nat) {xs : List AV} {tp : Option TypeId} (hr0 : h[r]? = some (.cells xs tp)) (hj : xs[j]? = some (.sc (.slice none 0 0)))
    (hk : WL P fr N ops l Q ⟨rg,(h ++ [AObj.row k e []]).set r (.cells (xs.set j (rowA h.length 0)) tp),mk⟩) : WL P fr N ops l Q ⟨rg,h,mk⟩:=by
  intro B G a w hR
  obtain ⟨G',hR'⟩:=hR.adoptCG (k:=k) (e:=e) hr0 hj
  exact hk B G' a w hR'
end
end Go.AL

namespace Go.AL
open Go.Proofs (Enters)
section
variable {P : Program} [GlobF P]
theorem RH.into {B : Base P} {G : Gh} {h : List AObj} {w : World} (hr : RH B G h w) : ∃ B' : Base P,B'.w = w ∧ B'.imm = G.imm ∧ RH B' (Gh.of G.imm) [] w :=
  ⟨⟨w,G.imm,Gh.of G.imm,fun b o v e=>⟨hr.globW.f b o v e,hr.lt (hr.globW.f b o v e)⟩,hr.globW.o⟩,rfl,rfl,
    .refl _,rfl,rfl,rfl,Nat.le_refl _,Nat.le_refl _,fun _ _=>rfl,hr.imm,fun _ _ _=>rfl,fun r o h=>by simp at h,fun r _ o _ _ h=>by simp at h,fun _ _=>⟨rfl,fun _=>rfl⟩⟩
theorem PurL.conc {xs : List AV} (hp : PurL xs) {G : Gh} {vs : List Value} (h : ConcL G vs xs) : ConcL (Gh.of G.imm) vs xs :=
  ⟨h.1,fun i v x hv hx=>hp.h x (List.mem_of_getElem? hx) G v (h.2 i v x hv hx)⟩
theorem PurLL.flat {els : List (List AV)} (hp : PurLL els) : PurL els.flatten:=⟨fun x hx=>by
  obtain ⟨e,he,hx'⟩:=List.mem_flatten.1 hx
  exact (hp.h e he).h x hx'⟩
theorem AC.rowF {f : FuncId} {xs : List AV} [hx : PurL xs] {k e n : Nat} {els : List (List AV)} [he : PurLL els] {u : Value} (hn : n = els.length)
    (ha : AC P f xs [] (fun v h'=>∃ q,v = .tu [rowA q n,.sc u] ∧ h'[q]? = some (.row k e els))) (h : List AObj) :
    AC P f xs h (fun v h''=>v = .tu [rowA h.length n,.sc u] ∧ h'' = h ++ [.row k e els]):=by
  subst hn
  refine ⟨ha.1,fun B G w vs hr hc=>?_⟩
  obtain ⟨B',eB,ei,hr0⟩:=hr.into
  refine (ha.2 B' _ w vs hr0 (hx.conc hc)).mono ?_
  rintro ex w' ⟨r,G',h',v,rfl,hg,hh,hv,q,rfl,hq⟩
  obtain ⟨f1,f2⟩:=hr.fresh h.length (Nat.le_refl _)
  let G2 : Gh:=⟨G'.imm,fun r=>if r = h.length then G'.blk q else G.blk r,fun r j=>if r = h.length then G'.tl q j else G.tl r j⟩
  have hlow : ∀ b o,b < w.heap.size → G'.imm b o = G.imm b o:=fun b o hb=>by rw [hh.low b o (eB ▸ hb),ei]
  have hle : G.le G2:=⟨fun b o v e=>by show G'.imm b o = some v;rw [hlow b o (hr.lt e)];exact e,fun r b e=>by
      show (if r = h.length then _ else _) = _
      rw [if_neg fun e2=>by subst e2;rw [f1] at e;cases e];exact e,fun r j v e=>by
      show (if r = h.length then _ else _) = _
      rw [if_neg fun e2=>by subst e2;rw [f2] at e;cases e];exact e⟩
  have hsz : w.heap.size ≤ w'.heap.size:=eB ▸ hh.size
  have hout : ∀ b,b < w.heap.size → w'.heap[b]? = w.heap[b]?:=fun b hb=>by
    have:=hh.out b (eB ▸ hb)
    rw [eB] at this;exact this
  have hpE:=he.flat
  have hto : ∀ {v : Value} {x : AV},Conc (Gh.of G'.imm) v x → Conc G2 v x:=fun h=>h.mono (Gh.of_le G2)
  have hrow:=hh.obj q _ hq
  have hok : ObjOK B G2 w' h.length (.row k e els):=by
    obtain ⟨o0,hk,ho⟩:=hrow
    refine ⟨fun j hj=>by show (if h.length = h.length then _ else _) = none;rw [if_pos rfl];exact o0 j hj,hk,?_⟩
    rcases ho with ⟨h1,h2⟩ | ⟨g,cap,c,q1,q2,q3,q4,q5,q6,q7,q8,q9⟩
    · exact .inl ⟨h1,by show (if h.length = h.length then _ else _) = _;rw [if_pos rfl];exact h2⟩
    · refine .inr ⟨g,cap,c,by show (if h.length = h.length then _ else _) = _;rw [if_pos rfl];exact q1,Nat.le_trans hr.size (eB ▸ q2),q3,q4,q5,q6,?_,q8,by show (if h.length = h.length then _ else _) = _;rw [if_pos rfl];exact q9⟩
      have:=hpE.conc q7
      exact ⟨this.1,fun i v x hv hx=>hto (this.2 i v x hv hx)⟩
  have hh2 : RH B G2 (h ++ [.row k e els]) w':=by
    refine hr.allocObj _ hle (by rw [hh.tape,eB]) (by rw [hh.os,eB]) (by rw [hh.output,eB]) (eB ▸ hh.drawn) hsz hout hlow hh.imm (fun r hne=>⟨if_neg hne,fun n=>if_neg hne⟩) hok (fun b hb=>?_)
    have e1 : ∀ n,G2.tl h.length n = G'.tl q n:=fun n=>if_pos rfl
    have hb' : ownBlk G' q (.row k e els) = some b:=by
      simp only [ownBlk] at hb ⊢
      rw [← e1];exact hb
    exact eB ▸ (hrow.own hb').2
  refine ⟨r,G2,_,_,rfl,hle,hh2,?_,rfl,rfl⟩
  cases hv with
  | @tu cs _ l hcs =>
    refine .tu l fun i v x hv hx=>?_
    match i,hx with
    | 0,hx =>
      simp at hx;subst hx
      have h0:=hcs 0 v _ hv rfl
      obtain ⟨t1,t2⟩:=rowA_inv h0
      have e1 : G2.tl h.length els.length = some v:=by show (if h.length = h.length then _ else _) = _;rw [if_pos rfl];exact t1
      rcases t2 with ⟨n0,rfl⟩ | ⟨b,o,cap,rfl,hcap⟩
      · rw [n0] at e1 ⊢
        exact .slnil fun t e=>by cases e;exact e1
      · exact rowA_mk e1 hcap
    | 1,hx =>
      simp at hx;subst hx
      have h1:=hcs 1 v _ hv rfl
      cases h1;exact .sc _
end
end Go.AL
