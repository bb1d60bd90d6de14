/- The rules of the abstract logic, nineteenth part: slices that may be written. No condition. -/
import Derived.Test.YtjojdiefnhbglaaOps7
import Derived.LoopNIn
import Derived.Laws.Cover3
set_option linter.all false
namespace Go.AL
theorem mr_inv {G : Gh} {v : Value} {r o n : Nat} (h : Conc G v (.mr r o n)) : ∃ b o' cap,v = .slice (some ⟨b,o',none⟩) n cap ∧ G.blk r = some b ∧ n ≤ cap ∧ (0 < n → o' = o):=by
  cases h with
  | mr h hc ho=>exact ⟨_,_,_,rfl,h,hc,ho⟩
section
variable {P : Program} [GlobF P] {ty : TypeId} {pos : String} {af : Array Edge} {dst : Option Nat} {gd : Option (Nat × Bool)} {ρ : Operand → Option AV}
theorem D_lenR {t e : TypeId} {x : Operand} {r o n : Nat} [hu : Und P t (.slice e)] (hx : ρ x = some (.mr r o n)) : PPOp P { dst:=dst,op:=.call { callee:=.builtin .len,args:=#[x],argTypes:=#[t] },type:=ty,pos:=pos,after:=af,guard:=gd } ρ (.sc (.int .i64 (n : Int))) :=
  PPOp.val (by simp) (fun B G act w hR E=>⟨.int .i64 n,exec_len _ (by
    obtain ⟨b,o',cap,hv,_⟩:=mr_inv (E x (by first|exact List.Mem.head _|exact List.Mem.tail _ (List.Mem.head _)) _ hx)
    rw [hv];exact run_len_sl hu.h),.sc _⟩)
theorem D_ixR {t e : TypeId} {x ix : Operand} {r o n k : Nat} {kk : IntKind} {i : Int} [hu : Und P t (.slice e)] [hs : Siz P e k] (hx : ρ x = some (.mr r o n)) (hi : ρ ix = some (.sc (.int kk i))) (h0 : 0 ≤ i) (h1 : i < n) :
    PPOp P { dst:=dst,op:=.indexAddr t x ix,type:=ty,pos:=pos,after:=af,guard:=gd } ρ (.bp r (o + i.toNat * k)) :=
  PPOp.val (by simp) (fun B G a w hR E=>by
    obtain ⟨b,o',cap,hv,hb,hc,ho⟩:=mr_inv (E x (by first|exact List.Mem.head _|exact List.Mem.tail _ (List.Mem.head _)) _ hx)
    have ho':=ho (by omega)
    subst ho'
    exact ⟨.pointer (some ⟨b,o' + i.toNat * k,none⟩),by simp [execOp,Instr.indexAt,hv,conc_sc (E ix (by first|exact List.Mem.head _|exact List.Mem.tail _ (List.Mem.head _)) _ hi),asIntOf,run_underlying hu.h,hs.h,h0,h1,add_none],.bp hb⟩)
theorem D_ixRn {t e : TypeId} {x ix : Operand} {r o n k : Nat} {kk : IntKind} {j : Nat} [hu : Und P t (.slice e)] [hs : Siz P e k] (hx : ρ x = some (.mr r o n)) (hi : ρ ix = some (.sc (.int kk (j : Int)))) (h1 : j < n) :
    PPOp P { dst:=dst,op:=.indexAddr t x ix,type:=ty,pos:=pos,after:=af,guard:=gd } ρ (.bp r (o + j * k)):=D_ixR hx hi (Int.natCast_nonneg j) (by omega)
theorem D_slRg {t e k i j : Nat} {x : Operand} {lo hi : Option Operand} {r o n : Nat} [hu : Und P t (.slice e)] [hs : Siz P e k] (hx : ρ x = some (.mr r o n)) (hij : i ≤ j) (hj : j ≤ n)
    (hb : ∀ (G : Gh) (a : Act) (w : World) (cap : Nat),n ≤ cap → (∀ y,y ∈ lo.toList ++ hi.toList → ∀ u,ρ y = some u → Conc G (a.eval y) u) → (Instr.sliceBounds true n cap (lo.map a.eval) (hi.map a.eval) none).run P w = .ok (i,j,cap) w) :
    PPOp P { dst:=dst,op:=.slice t x lo hi none,type:=ty,pos:=pos,after:=af,guard:=gd } ρ (.mr r (o + i * k) (j - i)) :=
  PPOp.val (by simp) (fun B G a w hR E=>by
    have ex:=E x (by simp [Op.operands]) _ hx
    have hbb : ∀ cap,n ≤ cap → (Instr.sliceBounds true n cap (lo.map a.eval) (hi.map a.eval) none).run P w = .ok (i,j,cap) w:=fun cap hcap=>hb G a w cap hcap fun y hy u hu=>E y (by
      cases lo <;> cases hi <;> simp [Op.operands] at hy ⊢ <;> first|exact .inr hy|(rcases hy with h|h;exact .inr (.inl h);exact .inr (.inr h))|exact .inr hy.symm) u hu
    obtain ⟨b,o',cap,hv,hbk,hc,ho⟩:=mr_inv ex
    have key : (execOp a.eval { dst:=dst,op:=.slice t x lo hi none,type:=ty,pos:=pos,after:=af,guard:=gd }).run P w = ((Instr.slice t (.slice (some ⟨b,o',none⟩) n cap) (lo.map a.eval) (hi.map a.eval) none).run P w).andThen fun v w'=>.ok (.value v) w':=by
      simp only [execOp,hv,Sem.run_bind,Option.map_none,Instr.sliceAt,run_underlying hu.h,Result.andThen_ok]
      rfl
    rw [key]
    by_cases e : cap = i
    · refine ⟨.slice (some ⟨b,o',none⟩) (j - i) (cap - i),?_,.mr hbk (by omega) (fun h=>by omega)⟩
      simp only [Instr.slice,Sem.run_bind,run_underlying hu.h,hbb cap hc,hs.h,Result.andThen_ok,Sem.run_pure,Option.map_some,add_none]
      simp [e]
    · refine ⟨.slice (some ⟨b,o' + i * k,none⟩) (j - i) (cap - i),?_,.mr hbk (by omega) (fun h=>by rw [ho (by omega)])⟩
      simp only [Instr.slice,Sem.run_bind,run_underlying hu.h,hbb cap hc,hs.h,Result.andThen_ok,Sem.run_pure,Option.map_some,add_none]
      simp [e])
theorem D_slRh {t e k : Nat} {x z : Operand} {kk' : IntKind} {r o n : Nat} {j : Int} [hu : Und P t (.slice e)] [hs : Siz P e k] (hx : ρ x = some (.mr r o n)) (hz : ρ z = some (.sc (.int kk' j)))
    (h1 : 0 ≤ j) (h2 : j ≤ n) : PPOp P { dst:=dst,op:=.slice t x none (some z) none,type:=ty,pos:=pos,after:=af,guard:=gd } ρ (.mr r o j.toNat):=by
  have:=D_slRg (P:=P) (ty:=ty) (pos:=pos) (af:=af) (dst:=dst) (gd:=gd) (t:=t) (lo:=none) (hi:=some z) (i:=0) (j:=j.toNat) hx (by omega) (by omega) fun G a w cap hcap E=>by
    have e2:=conc_sc (E z (by simp) _ hz)
    simp [Instr.sliceBounds,e2,run_sliceBound w kk' j cap _ (by omega) (by omega)]
  simpa using this
theorem D_slRl {t e k : Nat} {x y : Operand} {kk : IntKind} {r o n : Nat} {i : Int} [hu : Und P t (.slice e)] [hs : Siz P e k] (hx : ρ x = some (.mr r o n)) (hy : ρ y = some (.sc (.int kk i)))
    (h0 : 0 ≤ i) (h2 : i ≤ n) : PPOp P { dst:=dst,op:=.slice t x (some y) none none,type:=ty,pos:=pos,after:=af,guard:=gd } ρ (.mr r (o + i.toNat * k) (n - i.toNat)) :=
  D_slRg (P:=P) (ty:=ty) (pos:=pos) (af:=af) (dst:=dst) (gd:=gd) (t:=t) (lo:=some y) (hi:=none) (i:=i.toNat) (j:=n) hx (by omega) (Nat.le_refl _) fun G a w cap hcap E=>by
    have e1:=conc_sc (E y (by simp) _ hy)
    simp [Instr.sliceBounds,e1,run_sliceBound w kk i n _ h0 (by omega)]
end
section
variable {P : Program} [GlobF P] {fr : Option Nat} {N : Nat} {Q : Exit → AS → Prop} {ops : Array Oper} {rest : List Oper} {rg : List (Nat × AV)} {h : List AObj} {mk : Mk} {ty : TypeId} {pos : String} {af : Array Edge} {d : Nat}
theorem R.freezeF {B : Base P} {G : Gh} {a : Act} {w : World} {r : Nat} {xs : List AV} (hR : R B N G ⟨rg,h,mk⟩ a w) (hr : h[r]? = some (.cells xs)) (f : AV → AV) (hf0 : f .any = .any)
    (hf : ∀ (G : Gh) (b : Nat) (c : List Value),G.blk r = some b → ConcL G c xs → (∀ j u,c[j]? = some u → G.imm b j = some u) → ∀ v x,Conc G v x → Conc G v (f x)) :
    ∃ G',G.le G' ∧ R B N G' ⟨rg.map fun p=>(p.1,f p.2),h.set r .dead,mk⟩ a w:=by
  obtain ⟨b,c,ty',g1,g2,g3,g4,g5⟩:=hR.heap.obj r _ hr
  have hrl : r < h.length:=(List.getElem?_eq_some_iff.1 hr).1
  have hne : ∀ b' o v,G.imm b' o = some v → b' ≠ b:=fun b' o v e eb=>by subst eb;rw [g5 o] at e;cases e
  have hle : G.le ⟨fun b' o=>if b' = b then c[o]? else G.imm b' o,G.blk,G.tl⟩:=⟨fun b' o v e=>by
    show (if b' = b then c[o]? else G.imm b' o) = some v
    rw [if_neg (hne b' o v e)];exact e,fun _ _ e=>e,fun _ _ _ e=>e⟩
  have hh:=hR.heap
  refine ⟨_,hle,?_,hR.size,fun t=>?_,hR.defers,hR.own⟩
  · refine hh.turn (hh.base.trans hle) rfl rfl rfl (Nat.le_refl _) (Nat.le_refl _) (fun _ _=>rfl) (fun b' o hb'=>if_neg (by omega)) (fun b' o v hv=>?_) ?_ ?_ ?_ (fun r' hr'=>hh.fresh r' (by simpa using hr'))
    · by_cases e : b' = b
      · subst e
        have hv' : (if b' = b' then c[o]? else G.imm b' o) = some v:=hv
        rw [if_pos rfl] at hv'
        simp [World.cell?,g3,hv']
      · have hv' : (if b' = b then c[o]? else G.imm b' o) = some v:=hv
        rw [if_neg e] at hv'
        exact hh.imm _ _ _ hv'
    · intro r' o' ho'
      by_cases e : r' = r
      · subst e
        rw [List.getElem?_set_self hrl] at ho'
        cases ho';trivial
      · rw [List.getElem?_set_ne (Ne.symm e)] at ho'
        refine (hh.obj r' o' ho').keep hle rfl (fun _=>rfl) fun b1 hb1 _=>⟨rfl,fun i hi=>?_⟩
        show (if b1 = b then c[i]? else G.imm b1 i) = none
        rw [if_neg fun eb : b1 = b=>e (hh.inj r' r o' _ b ho' hr (eb ▸ hb1) g1)];exact hi
    · intro r1 o1 b' h1 h3
      by_cases e : r1 = r
      · subst e
        rw [List.getElem?_set_self hrl] at h1
        cases h1;cases h3
      · rw [List.getElem?_set_ne (Ne.symm e)] at h1
        exact .inr ⟨o1,h1,by rw [← h3];exact (ownBlk.congr rfl (fun _=>rfl) o1).symm⟩
    · intro r1 r2 o1 o2 b' h1 h2 h3 h4 hlt
      exfalso
      by_cases e : r1 = r
      · subst e
        rw [List.getElem?_set_self hrl] at h1
        cases h1;cases h3
      · rw [List.getElem?_set_ne (Ne.symm e)] at h1
        rw [ownBlk.congr (G:=G) (G':=⟨fun b' o=>if b' = b then c[o]? else G.imm b' o,G.blk,G.tl⟩) rfl (fun _=>rfl) o1] at h3
        exact absurd ((hh.obj r1 o1 h1).own h3).1 (by omega)
  · show Conc _ (a.tmps.getD t undef) (look (rg.map fun p=>(p.1,f p.2)) t)
    rw [look_map f hf0]
    refine hf _ b c ?_ (g4.mono hle) (fun j u hu=>?_) _ _ ((hR.regs t).mono hle)
    · exact g1
    show (if b = b then c[j]? else G.imm b j) = some u
    rw [if_pos rfl];exact hu
def frzR (r k : Nat) (els : List (List AV)) : AV → AV
  | .mr r' o n=>match Nat.beq r' r,Nat.beq o 0,Nat.ble n els.length with
    | true,true,true=>.sl none k (els.take n)
    | _,_,_=>.mr r' o n
  | x=>x
theorem frzR_ok {G : Gh} {r b k : Nat} {c : List Value} {els : List (List AV)} {sp : List AV} (hk : ∀ e,e ∈ els → e.length = k) (hb : G.blk r = some b) (hc : ConcL G c (els.flatten ++ sp)) (him : ∀ j u,c[j]? = some u → G.imm b j = some u) {v : Value} {x : AV} (h : Conc G v x) : Conc G v (frzR r k els x):=by
  cases x with
  | mr r' o n =>
    simp only [frzR]
    split
    · rename_i e1 e2 e3
      have e1' : r' = r:=Nat.eq_of_beq_eq_true e1
      have e2' : o = 0:=Nat.eq_of_beq_eq_true e2
      have e3' : n ≤ els.length:=by simpa using e3
      subst e1';subst e2'
      obtain ⟨b',o',cap,rfl,q1,q2,q3⟩:=mr_inv h
      rw [hb] at q1;cases q1
      rcases Nat.eq_zero_or_pos n with hn|hn
      · subst hn
        exact .sl (els:=[]) (fun _ _=>undef) (fun e he=>by cases he) (Nat.zero_le _) (fun i j hi=>by simp at hi) (fun i e j x he=>by simp at he) (fun t e=>by cases e)
      · have ho:=q3 hn
        subst ho
        have hkt : ∀ e,e ∈ els.take n → e.length = k:=fun e he=>hk e (List.mem_of_mem_take he)
        have hfl : (els.take n).flatten = (els.flatten ++ sp).take (n * k):=by
          have h1:=flat_len hkt
          rw [List.length_take,Nat.min_eq_left e3'] at h1
          conv=>rhs;rw [← List.take_append_drop n els,List.flatten_append,List.append_assoc]
          rw [← h1,List.take_left]
        have:=sl_of_flat (G:=G) (b:=b) (o:=0) (cap:=cap) (k:=k) (els:=els.take n) (vs:=c.take (n * k)) (tok:=none) hkt (by rw [List.length_take];omega) (by rw [hfl];exact hc.take _)
          (fun j u hu=>by
            rw [Nat.zero_add]
            rw [List.getElem?_take] at hu
            split at hu
            · exact him _ _ hu
            · cases hu) (fun t e=>by cases e)
        rw [List.length_take,Nat.min_eq_left e3'] at this
        exact this
    · exact h
  | _=>exact h
end
theorem row_get {α : Type} {k : Nat} {l : List α} {f : α → List AV} (hk : ∀ a,(f a).length = k) (sp : List AV) (i : Nat) (hi : i < l.length) : (((l.map f).flatten ++ sp).drop (i * k)).take k = f l[i]:=by
  have hall : ∀ e,e ∈ l.map f → e.length = k:=fun e he=>by obtain ⟨a,_,rfl⟩:=List.mem_map.1 he;exact hk a
  have h1:=flat_len (els:=(l.map f).take i) fun e he=>hall e (List.mem_of_mem_take he)
  rw [List.length_take,List.length_map,Nat.min_eq_left (by omega)] at h1
  conv=>lhs;rw [← List.take_append_drop i (l.map f),List.flatten_append,List.append_assoc]
  rw [← h1,List.drop_left]
  have hd : (l.map f).drop i = f l[i] :: (l.map f).drop (i + 1):=by
    rw [List.drop_eq_getElem_cons (by simpa using hi),List.getElem_map]
  rw [hd,List.flatten_cons,List.append_assoc,← hk l[i],List.take_left]
theorem row_set {α : Type} {k : Nat} {l : List α} {f : α → List AV} (hk : ∀ a,(f a).length = k) (sp : List AV) (i : Nat) (hi : i < l.length) (a : α) : ((l.map f).flatten ++ sp).take (i * k) ++ f a ++ ((l.map f).flatten ++ sp).drop (i * k + k) = ((l.set i a).map f).flatten ++ sp:=by
  have hall : ∀ e,e ∈ l.map f → e.length = k:=fun e he=>by obtain ⟨a,_,rfl⟩:=List.mem_map.1 he;exact hk a
  have h1:=flat_len (els:=(l.map f).take i) fun e he=>hall e (List.mem_of_mem_take he)
  rw [List.length_take,List.length_map,Nat.min_eq_left (by omega)] at h1
  have hd : (l.map f).drop i = f l[i] :: (l.map f).drop (i + 1):=by
    rw [List.drop_eq_getElem_cons (by simpa using hi),List.getElem_map]
  have hs : (l.map f).flatten ++ sp = ((l.map f).take i).flatten ++ (f l[i] ++ (((l.map f).drop (i + 1)).flatten ++ sp)):=by
    conv=>lhs;rw [← List.take_append_drop i (l.map f),List.flatten_append,List.append_assoc,hd,List.flatten_cons,List.append_assoc]
  have e1 : ((l.map f).flatten ++ sp).take (i * k) = ((l.map f).take i).flatten:=by rw [hs,← h1,List.take_left]
  have e2 : ((l.map f).flatten ++ sp).drop (i * k + k) = ((l.map f).drop (i + 1)).flatten ++ sp:=by
    rw [hs,← h1,← List.drop_drop,List.drop_left,← hk l[i],List.drop_left]
  rw [e1,e2,List.set_eq_take_append_cons_drop,if_pos hi]
  simp [List.map_take,List.map_drop]
theorem row_len {α : Type} {k : Nat} {l : List α} {f : α → List AV} (hk : ∀ a,(f a).length = k) (sp : List AV) : ((l.map f).flatten ++ sp).length = l.length * k + sp.length:=by
  rw [List.length_append,flat_len fun e he=>by obtain ⟨a,_,rfl⟩:=List.mem_map.1 he;exact hk a,List.length_map]
end Go.AL

namespace Go.AL
section
variable {P : Program} [GlobF P] {fr : Option Nat} {N : Nat} {Q : Exit → AS → Prop} {ops : Array Oper} {rest : List Oper} {rg : List (Nat × AV)} {h : List AObj} {mk : Mk} {ty : TypeId} {pos : String} {af : Array Edge} {d : Nat}
theorem dead_keep {h : List AObj} {r q : Nat} {x o : AObj} (hr : r < h.length) (hx : (h.set r .dead ++ [o])[q]? = some x) : (q = r ∧ x = .dead) ∨ (q ≠ r ∧ h[q]? = some x) ∨ (q = h.length ∧ x = o):=by
  rcases Nat.lt_or_ge q h.length with hq|hq
  · rw [List.getElem?_append_left (by simpa using hq)] at hx
    by_cases e : q = r
    · subst e;rw [List.getElem?_set_self hr] at hx;exact .inl ⟨rfl,(Option.some.inj hx).symm⟩
    · rw [List.getElem?_set_ne (Ne.symm e)] at hx;exact .inr (.inl ⟨e,hx⟩)
  · rw [List.getElem?_append_right (by simpa using hq)] at hx
    have hlt:=(List.getElem?_eq_some_iff.1 hx).1
    have e : q = h.length:=by simp at hlt;omega
    subst e
    simp at hx
    exact .inr (.inr ⟨rfl,hx.symm⟩)
theorem m_appRB {t e tk k by_ : Nat} {x y : Operand} {els' : List (List AV)} {tok' : Option Nat} {z : Value} [hu : Und P t (.slice e)] [hi : Inf P e k by_ z] [hone : OneLL els'] (hx : evR rg x = some (.sl (some tk) k [])) (hy : evR rg y = some (.sl tok' k els'))
    (ht : h[tk]? = some (.tail 0 k e)) (hm : els' ≠ []) (hzk : Nat.beq z.cells.size k = true) (hb : GB els'.length by_) (h63 : els'.length < 4611686018427387904) (hd : Nat.blt d N = true)
    (hk : ∀ sp,WL P fr N ops rest Q ⟨(d,.mr h.length 0 els'.length) :: rg,h.set tk .dead ++ [.cells (els'.flatten ++ sp)],mk⟩) :
    WL P fr N ops ({ dst:=some d,op:=.call { callee:=.builtin .append,args:=#[x,y],argTypes:=#[t,t] },type:=ty,pos:=pos,after:=af,guard:=none } :: rest) Q ⟨rg,h,mk⟩:=by
  intro B G a w hRR
  have hR:=hRR.heap
  refine wpListIn_plain rfl fun K' hK'=>?_
  have ex:=hRR.ev x
  rw [show (⟨rg,h,mk⟩ : AS).ev x = _ from AS.evO_eq ((evR_eq rg h mk) ▸ hx)] at ex
  have ey:=hRR.ev y
  rw [show (⟨rg,h,mk⟩ : AS).ev y = _ from AS.evO_eq ((evR_eq rg h mk) ▸ hy)] at ey
  have hzk' : z.cells.size = k:=Nat.eq_of_beq_eq_true hzk
  obtain ⟨i,i1,i2,i3,i4⟩:=hi.h
  have htl : tk < h.length:=(List.getElem?_eq_some_iff.1 ht).1
  obtain ⟨o0,o1⟩:=hR.obj tk _ ht
  obtain ⟨f1,f2⟩:=hR.fresh h.length (Nat.le_refl _)
  have hmp : 0 < els'.length:=List.length_pos_iff.2 hm
  refine ⟨fun f _=>fence_fn fr f,?_⟩
  rw [Oper.semAt_eq _ _ _ (by simp)]
  have htok : ∃ base cap,a.eval x = .slice base 0 cap ∧ G.tl tk 0 = some (.slice base 0 cap) ∧ (base = none ∧ cap = 0 ∨ ∃ b o,base = some ⟨b,o,none⟩):=by
    generalize a.eval x = v at ex
    cases ex with
    | @sl b o cap _ _ _ us hk hcap him hc ht=>exact ⟨_,cap,rfl,ht tk rfl,.inr ⟨b,o,rfl⟩⟩
    | slnil ht=>exact ⟨none,0,rfl,ht tk rfl,.inl ⟨rfl,rfl⟩⟩
  obtain ⟨base,cap,vx,htok,hbase⟩:=htok
  have hnew : ∃ b o c news,a.eval y = .slice (some ⟨b,o,none⟩) els'.length c ∧ (∀ e,e ∈ els' → e.length = k) ∧ news.length = els'.length * k ∧ ConcL G news els'.flatten ∧ ∀ j u,news[j]? = some u → G.imm b (o + j) = some u:=by
    generalize a.eval y = v at ey
    cases ey with
    | @sl b o cap _ _ _ us hk hcap him hc ht =>
      obtain ⟨vs,g1,g2,g3⟩:=sl_flat us hk him hc
      exact ⟨b,o,cap,vs,rfl,hk,g1,g2,g3⟩
    | slnil ht=>exact absurd rfl hm
    | slz=>exact absurd rfl hm
  obtain ⟨b,o,c,news,vy,hky,hnl,hnc,hni⟩:=hnew
  have hone':=OneLL.flat hnc
  have hnw : ∀ j u,news[j]? = some u → w.cell? ((⟨b,o,none⟩ : Addr).add j) = some u:=fun j u hu=>by rw [add_none];exact hR.imm _ _ _ (hni j u hu)
  have hleB : ∀ g : Nat,G.le ⟨G.imm,fun q=>if q = h.length then some g else G.blk q,G.tl⟩:=fun g=>⟨fun _ _ _ e=>e,fun q b e=>by
    show (if q = h.length then some g else G.blk q) = some b
    by_cases hrl : q = h.length
    · subst hrl;rw [f1] at e;cases e
    · rw [if_neg hrl];exact e,fun _ _ _ e=>e⟩
  have hne : ∀ (g q : Nat),q ≠ h.length → (if q = h.length then some g else G.blk q) = G.blk q:=fun g q hq=>if_neg hq
  have scl : ∀ (l : List Value) (G' : Gh),ConcL G' l (l.map AV.sc):=fun l G'=>⟨(List.length_map (f:=AV.sc)).symm,fun i v x hv hx=>by
    rw [List.getElem?_map,hv] at hx;simp at hx;subst hx;exact .sc _⟩
  by_cases hroom : els'.length ≤ cap
  · -- in place
    rcases o1 with ⟨_,htl1⟩ | ⟨g,cap1,cur,q1,q2,q3,q4,q5,q6,q7⟩
    · rw [htl1] at htok;cases htok;omega
    rw [htok] at q1
    simp only [Option.some.injEq,Value.slice.injEq,true_and] at q1
    obtain ⟨rfl,rfl⟩:=q1
    have hfit : 0 * i.size + news.length ≤ cur.size:=by rw [hnl,q6,Nat.zero_mul,Nat.zero_add];exact Nat.mul_le_mul_right _ hroom
    have hrun:=run_append_room (P:=P) w t ty e i hu.h i1 g 0 cap cur q3 ⟨b,o,none⟩ els'.length c news (by rw [i2];exact hnl) hnw hone' (by omega) hfit
    rw [i2] at hrun
    simp only [Nat.zero_mul,Nat.zero_add,List.take_zero,List.nil_append] at hrun hfit
    rw [exec_append a (by rw [vx,vy];exact hrun)]
    have hrow:=setRow_heap w g cur (news ++ cur.toList.drop news.length).toArray e (0,0) q3
    have hblk : ∀ b',b' ≠ g → (w.setRow g (news ++ cur.toList.drop news.length).toArray).heap[b']? = w.heap[b']?:=fun b' hb'=>setRow_other _ _ _ _ hb'
    have hgs : g < w.heap.size:=(Array.getElem?_eq_some_iff.1 q3).1
    refine hK' _ _ (hk ((cur.toList.drop news.length).map .sc) B ⟨G.imm,fun q=>if q = h.length then some g else G.blk q,G.tl⟩ _ _ ?_)
    refine (hRR.step (hleB g) ?_).put (by simpa [Nat.blt_eq] using hd) (.mr (if_pos rfl) hroom (fun _=>rfl))
    have own1 : ∀ (q : Nat) (x : AObj) (b' : Nat),(h.set tk .dead ++ [.cells (els'.flatten ++ (cur.toList.drop news.length).map .sc)])[q]? = some x → ownBlk ⟨G.imm,fun q=>if q = h.length then some g else G.blk q,G.tl⟩ q x = some b' →
        (q = h.length ∧ b' = g) ∨ (q ≠ h.length ∧ q ≠ tk ∧ ∃ x0,h[q]? = some x0 ∧ ownBlk G q x0 = some b'):=fun q x b' hx hb'=>by
      rcases dead_keep htl hx with ⟨rfl,rfl⟩ | ⟨hq,hx⟩ | ⟨rfl,rfl⟩
      · cases hb'
      · have hq2 : q ≠ h.length:=fun e=>by subst e;rw [List.getElem?_eq_none (Nat.le_refl _)] at hx;cases hx
        rw [ownBlk.congr (G:=G) (G':=⟨G.imm,fun q=>if q = h.length then some g else G.blk q,G.tl⟩) (hne g q hq2) (fun _=>rfl)] at hb'
        exact .inr ⟨hq2,hq,x,hx,hb'⟩
      · simp only [ownBlk,if_true] at hb'
        cases hb';exact .inl ⟨rfl,rfl⟩
    have hgo : ownBlk G tk (.tail 0 k e) = some g:=by simp only [ownBlk,htok,slBlock]
    refine ⟨hR.base.trans (hleB g),hR.tape,hR.os,hR.output,hR.drawn,by simpa using hR.size,fun b' hb'=>(hblk b' (by omega)).trans (hR.out b' hb'),fun b' o' v hv=>?_,hR.low,fun q x hx=>?_,fun q q' x x' b' hx hx' hb1 hb2=>?_,fun q hq=>?_⟩
    · have hbg : b' ≠ g:=fun e=>by subst e;have:=q7 o' (by omega);rw [show G.imm b' o' = some v from hv] at this;cases this
      have:=hR.imm _ _ _ hv
      simp only [World.cell?,hblk b' hbg] at this ⊢
      exact this
    · rcases dead_keep htl hx with ⟨rfl,rfl⟩ | ⟨hq,hx⟩ | ⟨rfl,rfl⟩
      · trivial
      · have hq2 : q ≠ h.length:=fun e=>by subst e;rw [List.getElem?_eq_none (Nat.le_refl _)] at hx;cases hx
        refine (hR.obj q x hx).keep (hleB g) (hne g q hq2) (fun _=>rfl) fun b' hb' _=>⟨hblk b' fun hbg=>hq (hR.inj q tk x _ b' hx ht hb' (by rw [hgo,hbg])),fun j hj=>hj⟩
      · refine ⟨g,news ++ cur.toList.drop news.length,⟨e,fun _ e=>by cases e⟩,if_pos rfl,q2,hrow,?_,fun j=>q7 j (by omega)⟩
        exact (hnc.mono (hleB g)).append (scl _ _)
    · rcases own1 q x b' hx hb1 with ⟨e1,e2⟩ | ⟨n1,n2,x0,k1,k2⟩ <;> rcases own1 q' x' b' hx' hb2 with ⟨e3,e4⟩ | ⟨n3,n4,x1,k3,k4⟩
      · rw [e1,e3]
      · subst e2;exact absurd (hR.inj q' tk x1 _ b' k3 ht k4 hgo) n4
      · subst e4;exact absurd (hR.inj q tk x0 _ b' k1 ht k2 hgo) n2
      · exact hR.inj q q' x0 x1 b' k1 k3 k2 k4
    · have hq' : h.length + 1 ≤ q:=by simpa using hq
      obtain ⟨k1,k2⟩:=hR.fresh q (by show h.length ≤ q;omega)
      exact ⟨(hne g q (by omega)).trans k1,k2⟩
  · -- in a new block
    have hrun : ∃ ocap,(Builtin.append_ #[t,t] ty #[a.eval x,a.eval y]).run P w = .ok (.slice (some ⟨w.heap.size,0,none⟩) els'.length (grownCap w els'.length ocap e))
        (w.drew.alloc (.cells (news.toArray ++ Builtin.zeroCells z.cells (grownCap w els'.length ocap e - els'.length)) e)):=by
      rcases hbase with ⟨rfl,rfl⟩ | ⟨b0,o0',rfl⟩
      · have hr:=run_append_nil (P:=P) w t ty e i z hu.h i1 i4 ⟨b,o,none⟩ els'.length c news (by rw [i2];exact hnl) hnw hmp (by omega) (by rw [i3];exact hb.le)
        exact ⟨0,by rw [vx,vy];simpa using hr⟩
      · have hr:=run_append_grow (P:=P) w t ty e i z hu.h i1 i4 ⟨b0,o0',none⟩ 0 cap [] (by simp) (fun j u hu=>by simp at hu) ⟨b,o,none⟩ els'.length c news (by rw [i2];exact hnl) hnw (by omega) (by omega) (GB.fits (by omega) (by rw [i3];simpa using hb))
        exact ⟨cap,by rw [vx,vy];simpa using hr⟩
    obtain ⟨ocap,hrun⟩:=hrun
    have hge:=grownCap_ge w els'.length ocap e
    generalize grownCap w els'.length ocap e = cap' at hrun hge
    rw [exec_append a hrun]
    obtain ⟨zs,hzs⟩ : ∃ zs : List Value,Builtin.zeroCells z.cells (cap' - els'.length) = zs.toArray:=⟨_,Array.toArray_toList.symm⟩
    rw [hzs] at *
    have hcc : news.toArray ++ zs.toArray = (news ++ zs).toArray:=by simp
    rw [hcc]
    have hblk : ∀ b',b' < w.heap.size → (w.drew.alloc (.cells (news ++ zs).toArray e)).heap[b']? = w.heap[b']?:=fun b' hb'=>heap_alloc_old w.drew _ b' hb'
    have hnewb : (w.drew.alloc (.cells (news ++ zs).toArray e)).heap[w.heap.size]? = some (.cells (news ++ zs).toArray e (0,0)):=heap_alloc_new w.drew _
    refine hK' _ _ (hk (zs.map .sc) B ⟨G.imm,fun q=>if q = h.length then some w.heap.size else G.blk q,G.tl⟩ _ _ ?_)
    refine (hRR.step (hleB w.heap.size) ?_).put (by simpa [Nat.blt_eq] using hd) (.mr (if_pos rfl) hge (fun _=>rfl))
    refine hR.turn (hR.base.trans (hleB w.heap.size)) rfl rfl rfl (Nat.le_succ _) (by simp) (fun b' hb'=>hblk b' (Nat.lt_of_lt_of_le hb' hR.size)) (fun _ _ _=>rfl) (fun b' o' v hv=>?_) (fun q x hx=>?_) (fun q x b' hx hb'=>?_) (fun q q' x x' b' hx hx' hb1 hb2 hlt=>?_) (fun q hq=>?_)
    · have e1 : (w.drew.alloc (.cells (news ++ zs).toArray e)).cell? ⟨b',o',none⟩ = w.cell? ⟨b',o',none⟩:=by
        simp only [World.cell?];rw [hblk b' (hR.lt hv)]
      exact e1.trans (hR.imm _ _ _ hv)
    · rcases dead_keep htl hx with ⟨rfl,rfl⟩ | ⟨hq,hx⟩ | ⟨rfl,rfl⟩
      · trivial
      · have hq2 : q ≠ h.length:=fun e=>by subst e;rw [List.getElem?_eq_none (Nat.le_refl _)] at hx;cases hx
        exact (hR.obj q x hx).keep (hleB w.heap.size) (hne w.heap.size q hq2) (fun _=>rfl) fun b' _ hlt=>⟨hblk b' hlt,fun j hj=>hj⟩
      · refine ⟨w.heap.size,news ++ zs,⟨e,fun _ e=>by cases e⟩,if_pos rfl,hR.size,hnewb,(hnc.mono (hleB w.heap.size)).append (scl _ _),fun j=>?_⟩
        show G.imm w.heap.size j = none
        cases hi : G.imm w.heap.size j with
        | none=>rfl
        | some v=>exact absurd (hR.lt hi) (by omega)
    · rcases dead_keep htl hx with ⟨rfl,rfl⟩ | ⟨hq,hx⟩ | ⟨rfl,rfl⟩
      · cases hb'
      · have hq2 : q ≠ h.length:=fun e=>by subst e;rw [List.getElem?_eq_none (Nat.le_refl _)] at hx;cases hx
        rw [ownBlk.congr (G:=G) (G':=⟨G.imm,fun q=>if q = h.length then some w.heap.size else G.blk q,G.tl⟩) (hne w.heap.size q hq2) (fun _=>rfl)] at hb';exact .inr ⟨x,hx,hb'⟩
      · simp only [ownBlk,if_true] at hb'
        cases hb';exact .inl (Nat.le_refl _)
    · have key : ∀ q x,(h.set tk .dead ++ [.cells (els'.flatten ++ zs.map .sc)])[q]? = some x → ownBlk ⟨G.imm,fun q=>if q = h.length then some w.heap.size else G.blk q,G.tl⟩ q x = some b' → q = h.length:=fun q x hx hb'=>by
        rcases dead_keep htl hx with ⟨rfl,rfl⟩ | ⟨hq,hx⟩ | ⟨rfl,rfl⟩
        · cases hb'
        · have hq2 : q ≠ h.length:=fun e=>by subst e;rw [List.getElem?_eq_none (Nat.le_refl _)] at hx;cases hx
          rw [ownBlk.congr (G:=G) (G':=⟨G.imm,fun q=>if q = h.length then some w.heap.size else G.blk q,G.tl⟩) (hne w.heap.size q hq2) (fun _=>rfl)] at hb'
          exact absurd ((hR.obj q x hx).own hb').1 (by omega)
        · rfl
      rw [key q x hx hb1,key q' x' hx' hb2]
    · have hq' : h.length + 1 ≤ q:=by simpa using hq
      obtain ⟨k1,k2⟩:=hR.fresh q (by show h.length ≤ q;omega)
      exact ⟨(hne w.heap.size q (by omega)).trans k1,k2⟩
end
section
variable {P : Program} [GlobF P] {ty : TypeId} {pos : String} {af : Array Edge} {gd : Option (Nat × Bool)} {ρ : Operand → Option AV} {h : List AObj}
theorem zeroCells_list (z : Array Value) (n : Nat) : (Builtin.zeroCells z n).toList = (List.replicate n z.toList).flatten:=by
  have hall : ∀ e,e ∈ List.replicate n z.toList → e.length = z.size:=fun e he=>by rw [List.eq_of_mem_replicate he];simp
  have hlen:=flat_len hall
  rw [List.length_replicate] at hlen
  apply List.ext_getElem?
  intro t
  rcases Nat.lt_or_ge t (n * z.size) with h|h
  · have hk0 : 0 < z.size := by rcases Nat.eq_zero_or_pos z.size with e|e
                                · rw [e] at h;simp at h
                                · exact e
    have h1:=flat_get hall (t / z.size) (t % z.size) (Nat.mod_lt _ hk0)
    rw [Nat.div_add_mod' t z.size] at h1
    have hi : t / z.size < n:=Nat.div_lt_of_lt_mul (by rw [Nat.mul_comm];exact h)
    have hm:=Nat.mod_lt t hk0
    rw [h1,List.getElem?_replicate,if_pos hi]
    simp [Builtin.zeroCells,h,hm]
  · rw [List.getElem?_eq_none (show (Builtin.zeroCells z n).toList.length ≤ t by simpa [Builtin.zeroCells] using h),List.getElem?_eq_none (by rw [hlen];exact h)]
theorem S_clear {t e k r o n : Nat} {x : Operand} {xs : List AV} {z : Value} [hu : Und P t (.slice e)] [hz : Zer P e z] (hx : ρ x = some (.mr r o n)) (hr : h[r]? = some (.cells xs)) (hk : z.cells.size = k) (hone : ∀ v ∈ z.cells.toList,v.oneCell' = true) (hoff : o + n * k ≤ xs.length) :
    POpS P { dst:=none,op:=.call { callee:=.builtin .clear,args:=#[x],argTypes:=#[t] },type:=ty,pos:=pos,after:=af,guard:=gd } ρ h [r] .any (some (r,.cells (xs.take o ++ (List.replicate n (z.cells.toList.map .sc)).flatten ++ xs.drop (o + n * k)))):=by
  intro fr B G a w h' hl hsl hR E
  have ex:=E x (by simp [Op.operands,Call.operands]) _ hx
  have hr' : h'[r]? = some (.cells xs):=(hsl r (.head _)).trans hr
  obtain ⟨b,o',cap,hv,hb,hcap,ho⟩:=mr_inv ex
  obtain ⟨b',c,ty',g1,g2,g3,g4,g5⟩:=hR.obj r _ hr'
  have hbb : b' = b:=by rw [hb] at g1;exact (Option.some.inj g1).symm
  subst hbb
  let zs : List Value:=(Builtin.zeroCells z.cells n).toList
  have hzs : zs = (List.replicate n z.cells.toList).flatten:=zeroCells_list z.cells n
  have hzl : zs.length = n * k:=by rw [← hk];simp [zs,Builtin.zeroCells]
  have hzc : ConcL G zs ((List.replicate n (z.cells.toList.map AV.sc)).flatten):=by
    have e : (List.replicate n (z.cells.toList.map AV.sc)).flatten = zs.map AV.sc:=by rw [hzs,List.map_flatten,List.map_replicate]
    rw [e]
    exact ⟨(List.length_map (f:=AV.sc)).symm,fun i v x hv hx=>by rw [List.getElem?_map,hv] at hx;simp at hx;subst hx;exact .sc _⟩
  refine ⟨fun f _=>fence_fn fr f,?_⟩
  rw [Oper.semAt_eq _ _ _ (by simp)]
  have hcl : (c.take o ++ zs ++ c.drop (o + n * k)).length = c.length:=by
    have:=g4.1
    simp only [List.length_append,List.length_take,List.length_drop,hzl];omega
  have hconc : ConcL G (c.take o ++ zs ++ c.drop (o + n * k)) (xs.take o ++ (List.replicate n (z.cells.toList.map .sc)).flatten ++ xs.drop (o + n * k)):=ConcL.append (ConcL.append (g4.take o) hzc) (g4.drop (o + n * k))
  have hex : (execOp a.eval { dst:=none,op:=.call { callee:=.builtin .clear,args:=#[x],argTypes:=#[t] },type:=ty,pos:=pos,after:=af,guard:=gd }).run P w = .ok (.value (.tuple #[])) (w.setRow b' (c.take o ++ zs ++ c.drop (o + n * k)).toArray):=by
    rw [exec_builtin]
    rcases Nat.eq_zero_or_pos n with hn|hn
    · subst hn
      have e0 : zs = []:=List.length_eq_zero_iff.1 (by rw [hzl];simp)
      have e1 : c.take o ++ zs ++ c.drop (o + 0 * k) = c:=by rw [e0];simp
      have e2 : w.setRow b' c.toArray = w:=by
        rw [e1] at hcl
        exact setRow_self _ _ _ _ _ g3
      rw [e1,e2]
      simp [builtin,hv,Builtin.clear_,run_underlying hu.h]
    · have ho':=ho hn
      subst ho'
      have hrun:=Go.run_storeCells_at (P:=P) b' o' ty' zs 0 c.toArray w g3 (by simp [hzl,g4.1];omega) (fun v hv=>by
        rw [hzs] at hv
        obtain ⟨e,he,hv⟩:=List.mem_flatten.1 hv
        rw [List.eq_of_mem_replicate he] at hv
        exact hone v hv)
      rw [hzl] at hrun
      obtain ⟨m,rfl⟩ : ∃ m,n = m + 1:=⟨n - 1,by omega⟩
      simp only [Nat.add_zero] at hrun
      have hclr : (Builtin.clear_ #[t] ty #[.slice (some ⟨b',o',none⟩) (m + 1) cap]).run P w = ((storeCells ⟨b',o',none⟩ zs).run P w).andThen fun _ w'=>.ok (.tuple #[]) w':=by
        simp [Builtin.clear_,Sem.run_bind,run_underlying hu.h,hz.h,zs]
      rw [hrun] at hclr
      simp only [builtin,hv,List.map_toArray,List.map_cons,List.map_nil,Sem.run_bind,hclr,Result.andThen_ok,Sem.run_pure]
  rw [hex]
  refine ⟨.tuple #[],G,rfl,.refl G,?_,.any _⟩
  refine hR.set (w':=w.setRow b' (c.take o ++ zs ++ c.drop (o + n * k)).toArray) (b:=b') hr' g1 g2 rfl rfl rfl (Nat.le_refl _) (by simp) (fun b hb=>setRow_other _ _ _ _ hb) (fun i v hi=>by rw [g5 i] at hi;cases hi) ?_ (fun c' hc'=>?_)
  · exact ⟨b',_,ty',g1,g2,setRow_heap w b' c.toArray _ ty' (0,0) g3,hconc,g5⟩
  · simp only [ownBlk] at hc';rw [g1] at hc';exact (Option.some.inj hc').symm
end
section
variable {P : Program} [GlobF P] {fr : Option Nat} {N : Nat}
def WR (P : Program) [GlobF P] (fr : Option Nat) (N : Nat) (c : Code) (Q : Exit → AS → Prop) : Nat → AS → Prop
  | 0,_=>False
  | m + 1,s=>W P fr N c (thn (WR P fr N c Q m) Q) s
theorem W_rounds {c : Code} {Q : Exit → AS → Prop} (m : Nat) {s : AS} (h : WR P fr N c Q m s) : W P fr N (.loop c) Q s:=by
  intro B G a w hr
  refine wpIn_loop_rounds m ?_
  induction m generalizing s G a w with
  | zero=>exact h.elim
  | succ m ih =>
    rw [roundsIn_succ]
    refine wpIn_mono (h B G a w hr) ?_
    rintro e a' w' ⟨G',s',hr',hq⟩
    cases e with
    | normal=>exact ih hq G' a' w' hr'
    | exit i=>exact ⟨G',s',hr',hq⟩
    | goto l=>exact ⟨G',s',hr',hq⟩
    | ret=>exact ⟨G',s',hr',hq⟩
    | panic c=>exact ⟨G',s',hr',hq⟩
    | outgrown=>exact ⟨G',s',hr',hq⟩
end
section
variable {P : Program} [GlobF P] {ty : TypeId} {pos : String} {af : Array Edge} {dst : Option Nat} {gd : Option (Nat × Bool)} {ρ : Operand → Option AV}
end
end Go.AL

namespace Go.AL
theorem row_take {α : Type} {k : Nat} {l : List α} {f : α → List AV} (hk : ∀ a,(f a).length = k) (sp : List AV) (i : Nat) (hi : i ≤ l.length) : ((l.map f).flatten ++ sp).take (i * k) = ((l.take i).map f).flatten:=by
  have hall : ∀ e,e ∈ l.map f → e.length = k:=fun e he=>by obtain ⟨a,_,rfl⟩:=List.mem_map.1 he;exact hk a
  have h1:=flat_len (els:=(l.map f).take i) fun e he=>hall e (List.mem_of_mem_take he)
  rw [List.length_take,List.length_map,Nat.min_eq_left hi] at h1
  rw [List.map_take]
  conv=>lhs;rw [← List.take_append_drop i (l.map f),List.flatten_append,List.append_assoc]
  rw [← h1,List.take_left]
section
variable {P : Program} [GlobF P] {ty : TypeId} {pos : String} {af : Array Edge} {dst : Option Nat} {gd : Option (Nat × Bool)} {ρ : Operand → Option AV} {hp : List AObj}
theorem D_loadRA {α : Type} {t : TypeId} {x : Operand} {r off n i : Nat} {l : List α} {f : α → List AV} {sp : List AV} [ha : Agg P t true] [hs : Siz P t n] (hx : ρ x = some (.bp r off)) (ho : hp[r]? = some (.cells ((l.map f).flatten ++ sp))) (hf : ∀ a,(f a).length = n) (hi : i < l.length) (hoff : off = i * n) :
    POp P { dst:=dst,op:=.load t x,type:=ty,pos:=pos,after:=af,guard:=gd } ρ hp (.ag (f l[i])):=by
  subst hoff
  have hle : Nat.ble (i * n + n) ((l.map f).flatten ++ sp).length = true:=by
    rw [row_len hf]
    have : (i + 1) * n ≤ l.length * n:=Nat.mul_le_mul_right n hi
    rw [Nat.succ_mul] at this
    simp;omega
  have:=D_loadBA (P:=P) (ty:=ty) (pos:=pos) (af:=af) (dst:=dst) (gd:=gd) (t:=t) hx ho hle
  rwa [row_get hf sp i hi] at this
theorem S_storeR {α : Type} {t : TypeId} {x y : Operand} {r off k i : Nat} {a : α} {l : List α} {f : α → List AV} {sp : List AV} [hs : Siz P t k] (hx : ρ x = some (.bp r off)) (hy : ρ y = some (.ag (f a)))
    (hr : hp[r]? = some (.cells ((l.map f).flatten ++ sp))) (hf : ∀ a,(f a).length = k) (hone : (f a).all AV.one = true) (hi : i < l.length) (hoff : off = i * k) :
    POpS P { dst:=none,op:=.store t x y,type:=ty,pos:=pos,after:=af,guard:=gd } ρ hp [r] (.sc undef) (some (r,.cells (((l.set i a).map f).flatten ++ sp))):=by
  subst hoff
  have hle : Nat.ble (i * k + k) ((l.map f).flatten ++ sp).length = true:=by
    rw [row_len hf]
    have : (i + 1) * k ≤ l.length * k:=Nat.mul_le_mul_right k hi
    rw [Nat.succ_mul] at this
    simp;omega
  have:=S_store (P:=P) (ty:=ty) (pos:=pos) (af:=af) (gd:=gd) (t:=t) hx hy rfl hr (by rw [hf];simp) hone hle
  rwa [row_set hf sp i hi a] at this
theorem D_add1 {t t' : TypeId} {x y : Operand} {j : Nat} (hx : ρ x = some (.sc (.int .i64 (j : Int)))) (hy : ρ y = some (.sc (.int .i64 1))) (hj : j < 9223372036854775807) : PPOp P { dst:=dst,op:=.binOp .add t x y t',type:=ty,pos:=pos,after:=af,guard:=gd } ρ (.sc (.int .i64 ((j + 1 : Nat) : Int))):=by
  have h : PPOp P { dst:=dst,op:=.binOp .add t x y t',type:=ty,pos:=pos,after:=af,guard:=gd } ρ (.sc (.int .i64 (IntKind.i64.wrap ((j : Int) + 1)))):=D_int hx hy rfl
  rwa [show IntKind.i64.wrap ((j : Int) + 1) = ((j + 1 : Nat) : Int) by rw [w64 _ (by omega) (by omega)];rfl] at h
theorem D_sub1 {t t' : TypeId} {x y : Operand} {j : Nat} (hx : ρ x = some (.sc (.int .i64 ((j + 1 : Nat) : Int)))) (hy : ρ y = some (.sc (.int .i64 1))) (hj : j < 9223372036854775807) : PPOp P { dst:=dst,op:=.binOp .sub t x y t',type:=ty,pos:=pos,after:=af,guard:=gd } ρ (.sc (.int .i64 (j : Int))):=by
  have h : PPOp P { dst:=dst,op:=.binOp .sub t x y t',type:=ty,pos:=pos,after:=af,guard:=gd } ρ (.sc (.int .i64 (IntKind.i64.wrap (((j + 1 : Nat) : Int) - 1)))):=D_int hx hy rfl
  rwa [show IntKind.i64.wrap (((j + 1 : Nat) : Int) - 1) = (j : Int) by rw [w64 _ (by omega) (by omega)];omega] at h
end
section
variable {P : Program} [GlobF P] {fr : Option Nat} {N : Nat} {Q : Exit → AS → Prop} {ops : Array Oper} {rest : List Oper} {rg : List (Nat × AV)} {h : List AObj} {mk : Mk} {ty : TypeId} {pos : String} {af : Array Edge} {d : Nat}
theorem m_slnil {t t' e k : Nat} {x : Operand} {tok : Option Nat} {els : List (List AV)} [hu : Und P t (.slice e)] (hx : evR rg x = some (.sl tok k els)) (hd : Nat.blt d N = true)
    (hk : ∀ b : Bool,(b = true → els = []) → WL P fr N ops rest Q ⟨(d,.sc (.bool b)) :: rg,h,mk⟩) :
    WL P fr N ops ({ dst:=some d,op:=.binOp .eql t x (.const (.slice none 0 0)) t',type:=ty,pos:=pos,after:=af,guard:=none } :: rest) Q ⟨rg,h,mk⟩:=by
  intro B G a w hR
  have ex:=hR.ev x
  rw [show (⟨rg,h,mk⟩ : AS).ev x = _ from AS.evO_eq ((evR_eq rg h mk) ▸ hx)] at ex
  obtain ⟨base,n,cap,hv,hn⟩ : ∃ base n cap,a.eval x = .slice base n cap ∧ (base.isNone = true → els = []):=by
    generalize a.eval x = v at ex
    cases ex with
    | sl us hk hcap him hc ht=>exact ⟨_,_,_,rfl,fun h=>by cases h⟩
    | slnil ht=>exact ⟨_,_,_,rfl,fun _=>rfl⟩
    | slz=>exact ⟨_,_,_,rfl,fun _=>rfl⟩
  have hex : (execOp a.eval { dst:=some d,op:=.binOp .eql t x (.const (.slice none 0 0)) t',type:=ty,pos:=pos,after:=af,guard:=none }).run P w = .ok (.value (.bool base.isNone)) w:=by
    refine exec_bin _ ?_
    have h1:=run_equal_slice_nil (P:=P) w t e base n cap hu.h
    rw [hv]
    show (do eqGuard .eql t x (.const (.slice none 0 0)) (.slice base n cap) (.slice none 0 0);binOp .eql t (.slice base n cap) (.slice none 0 0) : Sem Value).run P w = _
    simp [eqGuard,binOp,h1]
  refine wpListIn_plain rfl fun K' hK'=>?_
  refine ⟨fun f _=>fence_fn fr f,?_⟩
  rw [Oper.semAt_eq _ _ _ (by simp),hex]
  exact hK' _ _ (hk base.isNone hn B G _ w (hR.put (by simpa [Nat.blt_eq] using hd) (.sc _)))
theorem R.frz1 {B : Base P} {G : Gh} {a : Act} {w : World} {t r k n : Nat} {els : List (List AV)} {sp : List AV} (hR : R B N G ⟨rg,h,mk⟩ a w) (hr : h[r]? = some (.cells (els.flatten ++ sp))) (ht : lookO rg t = some (.mr r 0 n)) (hn : n ≤ els.length) (hk : ∀ e,e ∈ els → e.length = k) :
    ∃ G',R B N G' ⟨(t,.sl none k (els.take n)) :: rg,h.set r .dead,mk⟩ a w:=by
  classical
  obtain ⟨G',hle,hR'⟩:=hR.freezeF hr (fun x=>if x = .mr r 0 n then .sl none k (els.take n) else x) (by rw [if_neg (fun e=>by cases e)]) (fun G b c hb hc him v x hv=>by
    split
    · rename_i e
      subst e
      have:=frzR_ok hk hb hc him hv
      have e1 : frzR r k els (.mr r 0 n) = .sl none k (els.take n):=by
        simp only [frzR]
        have h1 : Nat.beq r r = true:=Nat.beq_refl r
        have h2 : Nat.ble n els.length = true:=by simpa using hn
        rw [h1,h2]
      rwa [e1] at this
    · exact hv)
  refine ⟨G',hR'.heap,hR'.size,fun u=>?_,hR'.defers,hR'.own⟩
  simp only [look]
  cases hb : Nat.beq t u with
  | true =>
    have e : t = u:=Nat.eq_of_beq_eq_true hb
    subst e
    have h1 : Conc G' (a.tmps.getD t undef) (look (rg.map fun p=>(p.1,(fun x=>if x = .mr r 0 n then .sl none k (els.take n) else x) p.2)) t):=hR'.regs t
    rw [look_map (fun x=>if x = .mr r 0 n then AV.sl none k (els.take n) else x) (by rw [if_neg (fun e=>by cases e)]),lookO_eq ht,if_pos rfl] at h1
    exact h1
  | false=>exact (hR.regs u).mono hle
theorem WL_frz {l : List Oper} (t r k : Nat) {n : Nat} {els : List (List AV)} {sp : List AV} (hr : h[r]? = some (.cells (els.flatten ++ sp))) (ht : lookO rg t = some (.mr r 0 n)) (hn : n ≤ els.length) (hk : ∀ e,e ∈ els → e.length = k)
    (hw : WL P fr N ops l Q ⟨(t,.sl none k (els.take n)) :: rg,h.set r .dead,mk⟩) : WL P fr N ops l Q ⟨rg,h,mk⟩:=by
  intro B G a w hR
  obtain ⟨G',hR'⟩:=hR.frz1 hr ht hn hk
  exact hw B G' a w hR'
end
end Go.AL

namespace Go.AL
section
variable {P : Program} [GlobF P] {ty : TypeId} {pos : String} {af : Array Edge} {dst : Option Nat} {gd : Option (Nat × Bool)} {ρ : Operand → Option AV}
def Wkn (x y : AV) : Prop:=∀ (G : Gh) (v : Value),Conc G v x → Conc G v y
theorem Wkn.refl (x : AV) : Wkn x x:=fun _ _ h=>h
theorem Wkn.nil {k : Nat} : Wkn (.sc (.slice none 0 0)) (.sl none k []):=fun _ v hv=>by cases hv;exact .slnil (fun t e=>by cases e)
def WknL : List AV → List AV → Prop
  | [],[]=>True
  | x :: xs,y :: ys=>Wkn x y ∧ WknL xs ys
  | _,_=>False
theorem WknL.conc {G : Gh} : ∀ {xs ys : List AV} {vs : List Value},WknL xs ys → ConcL G vs xs → ConcL G vs ys
  | [],[],_,_,h=>h
  | x :: xs,y :: ys,vs,⟨h1,h2⟩,h=>by
    obtain ⟨v,vs',rfl,g1,g2⟩:=h.inv_cons
    exact .cons (h1 _ _ g1) (h2.conc g2)
  | [],_ :: _,_,h,_=>h.elim
  | _ :: _,[],_,h,_=>h.elim
theorem Wkn.ag {xs ys : List AV} (h : WknL xs ys) : Wkn (.ag xs) (.ag ys):=fun G v hv=>by
  cases hv with
  | ag l hh =>
    have:=h.conc ⟨l,hh⟩
    exact .ag this.1 this.2
theorem Le.ag {xs ys : List AV} (h : LeL xs ys) : Le (.ag xs) (.ag ys):=fun G v hv=>by
  cases hv with
  | ag l hh =>
    have:=h.conc ⟨l,hh⟩
    exact .ag this.1 this.2
end
end Go.AL
