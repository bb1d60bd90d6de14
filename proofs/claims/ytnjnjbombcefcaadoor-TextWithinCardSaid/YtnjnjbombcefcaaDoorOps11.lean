/- The rules of the abstract logic, nineteenth part: slices that may be written. No condition. -/
import Derived.Test.YtnjnjbombcefcaaDoorOps7
import Derived.LoopNIn
import Derived.Laws.Cover3
set_option linter.all false
namespace Go.AL
theorem mr_inv {G : Gh} {v : Value} {r o n : Nat} (h : Conc G v (.mr r o n)) : ∃ b o' cap,v = .slice (some ⟨b,o',none⟩) n cap ∧ G.blk r = some b ∧ n ≤ cap ∧ (0 < n → o' = o):=by
  cases h with
  | mr h hc ho=>exact ⟨_,_,_,rfl,h,hc,ho⟩
section
variable {P : Program} [GlobF P] {ty : TypeId} {pos : String} {af : Array Edge} {dst : Option Nat} {gd : Option (Nat × Bool)} {ρ : Operand → Option AV}
end
section
variable {P : Program} [GlobF P] {fr : Option Nat} {N : Nat} {Q : Exit → AS → Prop} {ops : Array Oper} {rest : List Oper} {rg : List (Nat × AV)} {h : List AObj} {mk : Mk} {ty : TypeId} {pos : String} {af : Array Edge} {d : Nat}
theorem R.freezeF {B : Base P} {G : Gh} {a : Act} {w : World} {r : Nat} {xs : List AV} (hR : R B N G ⟨rg,h,mk⟩ a w) (hr : h[r]? = some (.cells xs)) (f : AV → AV) (hf0 : f .any = .any)
    (hf : ∀ (G : Gh) (b : Nat) (c : List Value),G.blk r = some b → ConcL G c xs → (∀ j u,c[j]? = some u → G.imm b j = some u) → ∀ v x,Conc G v x → Conc G v (f x)) :
    ∃ G',G.le G' ∧ R B N G' ⟨rg.map fun p=>(p.1,f p.2),h.set r .dead,mk⟩ a w:=by
  obtain ⟨b,c,ty',g1,g2,g3,g4,g5⟩:=hR.heap.obj r _ hr
  have hrl : r < h.length:=(List.getElem?_eq_some_iff.1 hr).1
  have hne : ∀ b' o v,G.imm b' o = some v → b' ≠ b:=fun b' o v e eb=>by subst eb;rw [g5 o] at e;cases e
  have hle : G.le ⟨fun b' o=>if b' = b then c[o]? else G.imm b' o,G.blk,G.tl⟩:=⟨fun b' o v e=>by
    show (if b' = b then c[o]? else G.imm b' o) = some v
    rw [if_neg (hne b' o v e)];exact e,fun _ _ e=>e,fun _ _ _ e=>e⟩
  have hh:=hR.heap
  refine ⟨_,hle,?_,hR.size,fun t=>?_,hR.defers,hR.own⟩
  · refine hh.turn (hh.base.trans hle) rfl rfl rfl (Nat.le_refl _) (Nat.le_refl _) (fun _ _=>rfl) (fun b' o hb'=>if_neg (by omega)) (fun b' o v hv=>?_) ?_ ?_ ?_ (fun r' hr'=>hh.fresh r' (by simpa using hr'))
    · by_cases e : b' = b
      · subst e
        have hv' : (if b' = b' then c[o]? else G.imm b' o) = some v:=hv
        rw [if_pos rfl] at hv'
        simp [World.cell?,g3,hv']
      · have hv' : (if b' = b then c[o]? else G.imm b' o) = some v:=hv
        rw [if_neg e] at hv'
        exact hh.imm _ _ _ hv'
    · intro r' o' ho'
      by_cases e : r' = r
      · subst e
        rw [List.getElem?_set_self hrl] at ho'
        cases ho';trivial
      · rw [List.getElem?_set_ne (Ne.symm e)] at ho'
        refine (hh.obj r' o' ho').keep hle rfl (fun _=>rfl) fun b1 hb1 _=>⟨rfl,fun i hi=>?_⟩
        show (if b1 = b then c[i]? else G.imm b1 i) = none
        rw [if_neg fun eb : b1 = b=>e (hh.inj r' r o' _ b ho' hr (eb ▸ hb1) g1)];exact hi
    · intro r1 o1 b' h1 h3
      by_cases e : r1 = r
      · subst e
        rw [List.getElem?_set_self hrl] at h1
        cases h1;cases h3
      · rw [List.getElem?_set_ne (Ne.symm e)] at h1
        exact .inr ⟨o1,h1,by rw [← h3];exact (ownBlk.congr rfl (fun _=>rfl) o1).symm⟩
    · intro r1 r2 o1 o2 b' h1 h2 h3 h4 hlt
      exfalso
      by_cases e : r1 = r
      · subst e
        rw [List.getElem?_set_self hrl] at h1
        cases h1;cases h3
      · rw [List.getElem?_set_ne (Ne.symm e)] at h1
        rw [ownBlk.congr (G:=G) (G':=⟨fun b' o=>if b' = b then c[o]? else G.imm b' o,G.blk,G.tl⟩) rfl (fun _=>rfl) o1] at h3
        exact absurd ((hh.obj r1 o1 h1).own h3).1 (by omega)
  · show Conc _ (a.tmps.getD t undef) (look (rg.map fun p=>(p.1,f p.2)) t)
    rw [look_map f hf0]
    refine hf _ b c ?_ (g4.mono hle) (fun j u hu=>?_) _ _ ((hR.regs t).mono hle)
    · exact g1
    show (if b = b then c[j]? else G.imm b j) = some u
    rw [if_pos rfl];exact hu
def frzR (r k : Nat) (els : List (List AV)) : AV → AV
  | .mr r' o n=>match Nat.beq r' r,Nat.beq o 0,Nat.ble n els.length with
    | true,true,true=>.sl none k (els.take n)
    | _,_,_=>.mr r' o n
  | x=>x
theorem frzR_ok {G : Gh} {r b k : Nat} {c : List Value} {els : List (List AV)} {sp : List AV} (hk : ∀ e,e ∈ els → e.length = k) (hb : G.blk r = some b) (hc : ConcL G c (els.flatten ++ sp)) (him : ∀ j u,c[j]? = some u → G.imm b j = some u) {v : Value} {x : AV} (h : Conc G v x) : Conc G v (frzR r k els x):=by
  cases x with
  | mr r' o n =>
    simp only [frzR]
    split
    · rename_i e1 e2 e3
      have e1' : r' = r:=Nat.eq_of_beq_eq_true e1
      have e2' : o = 0:=Nat.eq_of_beq_eq_true e2
      have e3' : n ≤ els.length:=by simpa using e3
      subst e1';subst e2'
      obtain ⟨b',o',cap,rfl,q1,q2,q3⟩:=mr_inv h
      rw [hb] at q1;cases q1
      rcases Nat.eq_zero_or_pos n with hn|hn
      · subst hn
        exact .sl (els:=[]) (fun _ _=>undef) (fun e he=>by cases he) (Nat.zero_le _) (fun i j hi=>by simp at hi) (fun i e j x he=>by simp at he) (fun t e=>by cases e)
      · have ho:=q3 hn
        subst ho
        have hkt : ∀ e,e ∈ els.take n → e.length = k:=fun e he=>hk e (List.mem_of_mem_take he)
        have hfl : (els.take n).flatten = (els.flatten ++ sp).take (n * k):=by
          have h1:=flat_len hkt
          rw [List.length_take,Nat.min_eq_left e3'] at h1
          conv=>rhs;rw [← List.take_append_drop n els,List.flatten_append,List.append_assoc]
          rw [← h1,List.take_left]
        have:=sl_of_flat (G:=G) (b:=b) (o:=0) (cap:=cap) (k:=k) (els:=els.take n) (vs:=c.take (n * k)) (tok:=none) hkt (by rw [List.length_take];omega) (by rw [hfl];exact hc.take _)
          (fun j u hu=>by
            rw [Nat.zero_add]
            rw [List.getElem?_take] at hu
            split at hu
            · exact him _ _ hu
            · cases hu) (fun t e=>by cases e)
        rw [List.length_take,Nat.min_eq_left e3'] at this
        exact this
    · exact h
  | _=>exact h
end
end Go.AL

namespace Go.AL
section
variable {P : Program} [GlobF P] {fr : Option Nat} {N : Nat} {Q : Exit → AS → Prop} {ops : Array Oper} {rest : List Oper} {rg : List (Nat × AV)} {h : List AObj} {mk : Mk} {ty : TypeId} {pos : String} {af : Array Edge} {d : Nat}
end
section
variable {P : Program} [GlobF P] {ty : TypeId} {pos : String} {af : Array Edge} {gd : Option (Nat × Bool)} {ρ : Operand → Option AV} {h : List AObj}
end
section
variable {P : Program} [GlobF P] {fr : Option Nat} {N : Nat}
def WR (P : Program) [GlobF P] (fr : Option Nat) (N : Nat) (c : Code) (Q : Exit → AS → Prop) : Nat → AS → Prop
  | 0,_=>False
  | m + 1,s=>W P fr N c (thn (WR P fr N c Q m) Q) s
theorem W_rounds {c : Code} {Q : Exit → AS → Prop} (m : Nat) {s : AS} (h : WR P fr N c Q m s) : W P fr N (.loop c) Q s:=by
  intro B G a w hr
  refine wpIn_loop_rounds m ?_
  induction m generalizing s G a w with
  | zero=>exact h.elim
  | succ m ih =>
    rw [roundsIn_succ]
    refine wpIn_mono (h B G a w hr) ?_
    rintro e a' w' ⟨G',s',hr',hq⟩
    cases e with
    | normal=>exact ih hq G' a' w' hr'
    | exit i=>exact ⟨G',s',hr',hq⟩
    | goto l=>exact ⟨G',s',hr',hq⟩
    | ret=>exact ⟨G',s',hr',hq⟩
    | panic c=>exact ⟨G',s',hr',hq⟩
    | outgrown=>exact ⟨G',s',hr',hq⟩
end
section
variable {P : Program} [GlobF P] {ty : TypeId} {pos : String} {af : Array Edge} {dst : Option Nat} {gd : Option (Nat × Bool)} {ρ : Operand → Option AV}
end
end Go.AL

namespace Go.AL
section
variable {P : Program} [GlobF P] {ty : TypeId} {pos : String} {af : Array Edge} {dst : Option Nat} {gd : Option (Nat × Bool)} {ρ : Operand → Option AV} {hp : List AObj}
end
section
variable {P : Program} [GlobF P] {fr : Option Nat} {N : Nat} {Q : Exit → AS → Prop} {ops : Array Oper} {rest : List Oper} {rg : List (Nat × AV)} {h : List AObj} {mk : Mk} {ty : TypeId} {pos : String} {af : Array Edge} {d : Nat}
theorem R.frz1 {B : Base P} {G : Gh} {a : Act} {w : World} {t r k n : Nat} {els : List (List AV)} {sp : List AV} (hR : R B N G ⟨rg,h,mk⟩ a w) (hr : h[r]? = some (.cells (els.flatten ++ sp))) (ht : lookO rg t = some (.mr r 0 n)) (hn : n ≤ els.length) (hk : ∀ e,e ∈ els → e.length = k) :
    ∃ G',R B N G' ⟨(t,.sl none k (els.take n)) :: rg,h.set r .dead,mk⟩ a w:=by
  classical
  obtain ⟨G',hle,hR'⟩:=hR.freezeF hr (fun x=>if x = .mr r 0 n then .sl none k (els.take n) else x) (by rw [if_neg (fun e=>by cases e)]) (fun G b c hb hc him v x hv=>by
    split
    · rename_i e
      subst e
      have:=frzR_ok hk hb hc him hv
      have e1 : frzR r k els (.mr r 0 n) = .sl none k (els.take n):=by
        simp only [frzR]
        have h1 : Nat.beq r r = true:=Nat.beq_refl r
        have h2 : Nat.ble n els.length = true:=by simpa using hn
        rw [h1,h2]
      rwa [e1] at this
    · exact hv)
  refine ⟨G',hR'.heap,hR'.size,fun u=>?_,hR'.defers,hR'.own⟩
  simp only [look]
  cases hb : Nat.beq t u with
  | true =>
    have e : t = u:=Nat.eq_of_beq_eq_true hb
    subst e
    have h1 : Conc G' (a.tmps.getD t undef) (look (rg.map fun p=>(p.1,(fun x=>if x = .mr r 0 n then .sl none k (els.take n) else x) p.2)) t):=hR'.regs t
    rw [look_map (fun x=>if x = .mr r 0 n then AV.sl none k (els.take n) else x) (by rw [if_neg (fun e=>by cases e)]),lookO_eq ht,if_pos rfl] at h1
    exact h1
  | false=>exact (hR.regs u).mono hle
theorem WL_frz {l : List Oper} (t r k : Nat) {n : Nat} {els : List (List AV)} {sp : List AV} (hr : h[r]? = some (.cells (els.flatten ++ sp))) (ht : lookO rg t = some (.mr r 0 n)) (hn : n ≤ els.length) (hk : ∀ e,e ∈ els → e.length = k)
    (hw : WL P fr N ops l Q ⟨(t,.sl none k (els.take n)) :: rg,h.set r .dead,mk⟩) : WL P fr N ops l Q ⟨rg,h,mk⟩:=by
  intro B G a w hR
  obtain ⟨G',hR'⟩:=hR.frz1 hr ht hn hk
  exact hw B G' a w hR'
end
end Go.AL

namespace Go.AL
section
variable {P : Program} [GlobF P] {ty : TypeId} {pos : String} {af : Array Edge} {dst : Option Nat} {gd : Option (Nat × Bool)} {ρ : Operand → Option AV}
def Wkn (x y : AV) : Prop:=∀ (G : Gh) (v : Value),Conc G v x → Conc G v y
theorem Wkn.refl (x : AV) : Wkn x x:=fun _ _ h=>h
theorem Wkn.nil {k : Nat} : Wkn (.sc (.slice none 0 0)) (.sl none k []):=fun _ v hv=>by cases hv;exact .slnil (fun t e=>by cases e)
def WknL : List AV → List AV → Prop
  | [],[]=>True
  | x :: xs,y :: ys=>Wkn x y ∧ WknL xs ys
  | _,_=>False
theorem WknL.conc {G : Gh} : ∀ {xs ys : List AV} {vs : List Value},WknL xs ys → ConcL G vs xs → ConcL G vs ys
  | [],[],_,_,h=>h
  | x :: xs,y :: ys,vs,⟨h1,h2⟩,h=>by
    obtain ⟨v,vs',rfl,g1,g2⟩:=h.inv_cons
    exact .cons (h1 _ _ g1) (h2.conc g2)
  | [],_ :: _,_,h,_=>h.elim
  | _ :: _,[],_,h,_=>h.elim
theorem Wkn.ag {xs ys : List AV} (h : WknL xs ys) : Wkn (.ag xs) (.ag ys):=fun G v hv=>by
  cases hv with
  | ag l hh =>
    have:=h.conc ⟨l,hh⟩
    exact .ag this.1 this.2
theorem PPOp.wk {o : Oper} {v v' : AV} (h : PPOp P o ρ v) (hw : Wkn v v') : PPOp P o ρ v':=fun hp fr B G a w hr hE=>by
  refine wpIn_false ?_ (h hp fr B G a w hr hE)
  rintro a' w' ⟨r,G',h1,h2,h3,h4⟩
  exact ⟨r,G',h1,h2,h3,hw _ _ h4⟩
theorem Le.ag {xs ys : List AV} (h : LeL xs ys) : Le (.ag xs) (.ag ys):=fun G v hv=>by
  cases hv with
  | ag l hh =>
    have:=h.conc ⟨l,hh⟩
    exact .ag this.1 this.2
theorem D_idxE {t e : TypeId} {x ix : Operand} {tok : Option Nat} {k : Nat} {els : List (List AV)} {c : List AV} {kk : IntKind} {i : Int} [hu : Und P t (.slice e)] [hs : Siz P e k] (hx : ρ x = some (.sl tok k els)) (hi : ρ ix = some (.sc (.int kk i))) (h0 : 0 ≤ i) (he : els[i.toNat]? = some c) :
    PPOp P { dst:=dst,op:=.indexAddr t x ix,type:=ty,pos:=pos,after:=af,guard:=gd } ρ (.ep c):=by
  obtain ⟨h1,rfl⟩:=List.getElem?_eq_some_iff.1 he
  exact D_idxA0 hx hi h0 h1
end
end Go.AL
