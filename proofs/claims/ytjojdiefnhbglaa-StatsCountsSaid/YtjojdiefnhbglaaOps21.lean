/- The rules of the abstract logic: rows of one's own that grow, and may be written. No condition. -/
import Derived.Test.YtjojdiefnhbglaaOps11
import Derived.Test.YtjojdiefnhbglaaOps17
set_option linter.all false
namespace Go.AL
abbrev rowA (r n : Nat) : AV:=.sl (some r) 0 (List.replicate n [])
theorem rowA_inv0 {G : Gh} {v : Value} {r : Nat} {els : List (List AV)} (h : Conc G v (.sl (some r) 0 els)) : G.tl r els.length = some v ∧ ((els = [] ∧ v = .slice none 0 0) ∨ ∃ b o cap,v = .slice (some ⟨b,o,none⟩) els.length cap ∧ els.length ≤ cap):=by
  cases h with
  | @sl b o cap _ _ _ us hk hcap him hc ht=>exact ⟨ht r rfl,.inr ⟨b,o,cap,rfl,hcap⟩⟩
  | slnil ht=>exact ⟨ht r rfl,.inl ⟨rfl,rfl⟩⟩
theorem rowA_inv {G : Gh} {v : Value} {r n : Nat} (h : Conc G v (rowA r n)) : G.tl r n = some v ∧ ((n = 0 ∧ v = .slice none 0 0) ∨ ∃ b o cap,v = .slice (some ⟨b,o,none⟩) n cap ∧ n ≤ cap):=by
  have:=rowA_inv0 h
  rw [List.length_replicate] at this
  refine ⟨this.1,this.2.imp (fun h=>⟨?_,h.2⟩) id⟩
  have:=congrArg List.length h.1
  simpa using this
theorem rowA_mk {G : Gh} {b o cap r n : Nat} (hl : G.tl r n = some (.slice (some ⟨b,o,none⟩) n cap)) (hn : n ≤ cap) : Conc G (.slice (some ⟨b,o,none⟩) n cap) (rowA r n):=by
  have:=Conc.sl (G:=G) (b:=b) (o:=o) (cap:=cap) (k:=0) (tok:=some r) (els:=List.replicate n []) (fun _ _=>undef) (fun e he=>by rw [List.eq_of_mem_replicate he];rfl) (by simpa using hn)
    (fun i j _ hj=>by omega) (fun i e j x he hx=>by
      rw [List.getElem?_replicate] at he
      split at he
      · cases he;simp at hx
      · cases he) (fun t e=>by cases e;simpa using hl)
  rwa [List.length_replicate] at this
section
variable {P : Program} [GlobF P] {hp : List AObj}
theorem row_inv {B : Base P} {G : Gh} {w : World} {r k e : Nat} {els : List (List AV)} (hr : RH B G hp w) (ho : hp[r]? = some (.row k e els)) {v : Value} {n : Nat} (hn : n = els.length) (hv : Conc G v (rowA r n)) :
    (∀ x,x ∈ els → x.length = k) ∧ ((els = [] ∧ v = .slice none 0 0) ∨ ∃ (g cap : Nat) (c : List Value),v = .slice (some ⟨g,0,none⟩) els.length cap ∧ B.w.heap.size ≤ g ∧ w.heap[g]? = some (.cells c.toArray e (0,0)) ∧ els.length ≤ cap ∧ cap ≤ maxLen ∧ c.length = cap * k ∧
      ConcL G (c.take (els.length * k)) els.flatten ∧ (∀ j,G.imm g j = none) ∧ G.blk r = some g):=by
  subst hn
  obtain ⟨h1,h2⟩:=rowA_inv hv
  obtain ⟨g0,gk,g⟩:=hr.obj r _ ho
  refine ⟨gk,?_⟩
  rcases g with ⟨rfl,g2⟩ | ⟨b,cap,c,g1,g2,g3,g4,g5,g6,g7,g8,g9⟩
  · rw [List.length_nil] at h1
    rw [h1] at g2;exact .inl ⟨rfl,Option.some.inj g2⟩
  · rw [h1] at g1
    exact .inr ⟨b,cap,c,Option.some.inj g1,g2,g3,g4,g5,g6,g7,g8,g9⟩
theorem rowbox_inv {B : Base P} {G : Gh} {w : World} {r k e : Nat} {els : List (List AV)} (hr : RH B G hp w) (ho : hp[r]? = some (.row k e els)) {v : Value} {off : Nat} (hv : Conc G v (.bp r off)) (hne : 0 < els.flatten.length) :
    ∃ (b : Nat) (c : List Value),v = .pointer (some ⟨b,off,none⟩) ∧ ConcL G c els.flatten ∧ ∀ j u,c[j]? = some u → w.cell? ⟨b,j,none⟩ = some u:=by
  obtain ⟨b,rfl,hb⟩:=conc_bp hv
  obtain ⟨g0,gk,g⟩:=hr.obj r _ ho
  rcases g with ⟨rfl,g2⟩ | ⟨b',cap,c,g1,g2,g3,g4,g5,g6,g7,g8,g9⟩
  · simp at hne
  · rw [hb] at g9;cases g9
    refine ⟨b,_,rfl,g7,fun j u hu=>?_⟩
    rw [List.getElem?_take] at hu
    split at hu
    · simp [World.cell?,g3,hu]
    · cases hu
end
section
variable {P : Program} [GlobF P] {ty : TypeId} {pos : String} {af : Array Edge} {dst : Option Nat} {gd : Option (Nat × Bool)} {ρ : Operand → Option AV} {hp : List AObj}
theorem D_ixRow {t e e' : TypeId} {x ix : Operand} {r n k : Nat} {kk : IntKind} {i : Int} {els : List (List AV)} [hu : Und P t (.slice e)] [hs : Siz P e k] (hx : ρ x = some (rowA r n)) (ho : hp[r]? = some (.row k e' els)) (hn : n = els.length) (hi : ρ ix = some (.sc (.int kk i))) (h0 : 0 ≤ i) (h1 : i < n) :
    POp P { dst:=dst,op:=.indexAddr t x ix,type:=ty,pos:=pos,after:=af,guard:=gd } ρ hp (.bp r (i.toNat * k)) :=
  POp.val (by simp) (fun B G a w hR E=>by
    obtain ⟨hk,h⟩:=row_inv hR ho hn (E x (by first|exact List.Mem.head _|exact List.Mem.tail _ (List.Mem.head _)) _ hx)
    rcases h with ⟨rfl,hv⟩ | ⟨g,cap,c,hv,q2,q3,q4,q5,q6,q7,q8,q9⟩
    · simp at hn;omega
    · subst hn
      exact ⟨.pointer (some ⟨g,0 + i.toNat * k,none⟩),by simp [execOp,Instr.indexAt,hv,conc_sc (E ix (by first|exact List.Mem.head _|exact List.Mem.tail _ (List.Mem.head _)) _ hi),asIntOf,run_underlying hu.h,hs.h,h0,h1,add_none],by rw [Nat.zero_add];exact .bp q9⟩)
theorem D_loadG1 {t e k : TypeId} {x : Operand} {r off : Nat} {els : List (List AV)} {c : AV} [ha : Agg P t false] (hx : ρ x = some (.bp r off)) (ho : hp[r]? = some (.row k e els)) (hc : els.flatten[off]? = some c) :
    POp P { dst:=dst,op:=.load t x,type:=ty,pos:=pos,after:=af,guard:=gd } ρ hp c :=
  POp.val (by simp) (fun B G act w hR E=>by
    obtain ⟨b,cs,hv,h1,h2⟩:=rowbox_inv hR ho (E _ (by first|exact List.Mem.head _|exact List.Mem.tail _ (List.Mem.head _)) _ hx) (by have:=(List.getElem?_eq_some_iff.1 hc).1;omega)
    have hlt : off < cs.length:=by rw [h1.1];exact (List.getElem?_eq_some_iff.1 hc).1
    have hcell:=h2 off cs[off] (List.getElem?_eq_getElem hlt)
    exact ⟨cs[off],by simp [execOp,hv,Instr.loadAt,Instr.sureAddr,loadVar,ha.h,load,Sem.run,hcell],h1.2 off _ _ (List.getElem?_eq_getElem hlt) hc⟩)
end
section
variable {P : Program} [GlobF P] {fr : Option Nat} {N : Nat} {Q : Exit → AS → Prop} {ops : Array Oper} {rest : List Oper} {rg : List (Nat × AV)} {h : List AObj} {mk : Mk} {ty : TypeId} {pos : String} {af : Array Edge} {d : Nat}
theorem S_storeG {gd : Option (Nat × Bool)} {ρ : Operand → Option AV} {t : TypeId} {x y : Operand} {r off k kk e : Nat} {u : AV} {cs : List AV} {els : List (List AV)} (els' : List (List AV)) [hs : Siz P t k] (hx : ρ x = some (.bp r off)) (hy : ρ y = some u) (hu : cellsO u = some cs)
    (hr : h[r]? = some (.row kk e els)) (hk : Nat.beq cs.length k = true) (hone : cs.all AV.one = true) (hoff : off + k ≤ els.flatten.length)
    (hl : els'.length = els.length) (hk' : ∀ x,x ∈ els' → x.length = kk) (hfl : els'.flatten = els.flatten.take off ++ cs ++ els.flatten.drop (off + k)) (h0 : 0 < els.length) :
    POpS P { dst:=none,op:=.store t x y,type:=ty,pos:=pos,after:=af,guard:=gd } ρ h [r] (.sc undef) (some (r,.row kk e els')):=by
  intro fr B G a w h' hhl hsl hR E
  have ex:=E x (by first|exact List.Mem.head _|exact List.Mem.tail _ (List.Mem.head _)) _ hx
  have ey:=E y (by first|exact List.Mem.head _|exact List.Mem.tail _ (List.Mem.head _)) _ hy
  have hr' : h'[r]? = some (.row kk e els):=(hsl r (.head _)).trans hr
  obtain ⟨b,hv,hb⟩:=conc_bp ex
  obtain ⟨g0,gk,g⟩:=hR.obj r _ hr'
  rcases g with ⟨rfl,g2⟩ | ⟨b',cap,c,g1,g2,g3,g4,g5,g6,g7,g8,g9⟩
  · simp at h0
  have hbb : b' = b:=by rw [hb] at g9;exact (Option.some.inj g9).symm
  subst hbb
  have hcs:=cellsO_conc ey hu
  have hkl : cs.length = k:=Nat.eq_of_beq_eq_true hk
  have hvl : (a.eval y).cells.toList.length = k:=by rw [hcs.1,hkl]
  have hfle : els.flatten.length = els.length * kk:=by rw [← g7.1,List.length_take,g6,Nat.min_eq_left (Nat.mul_le_mul_right _ g4)]
  have hcl0 : els.length * kk ≤ c.length:=by rw [g6];exact Nat.mul_le_mul_right _ g4
  have h1 : ∀ v ∈ (a.eval y).cells.toList,v.oneCell' = true:=fun v hv=>by
    obtain ⟨i,hi,e⟩:=List.getElem_of_mem hv
    have hi2 : i < cs.length:=by rw [← hcs.1];exact hi
    exact AV.one_ok (hcs.2 i v _ (by rw [List.getElem?_eq_getElem hi,e]) (List.getElem?_eq_getElem hi2)) (List.all_eq_true.1 hone _ (List.getElem_mem hi2))
  have hrun:=Go.run_storeCells_at (P:=P) b' off e (a.eval y).cells.toList 0 c.toArray w g3 (by simp [hvl];omega) h1
  refine ⟨fun f _=>fence_fn fr f,?_⟩
  rw [Oper.semAt_eq _ _ _ (by simp)]
  have hlist : (c.toArray.toList.take (off + 0) ++ (a.eval y).cells.toList ++ c.toArray.toList.drop (off + 0 + (a.eval y).cells.toList.length)) = c.take off ++ (a.eval y).cells.toList ++ c.drop (off + k):=by
    rw [hvl];simp
  rw [hlist] at hrun
  have hex : (execOp a.eval { dst:=none,op:=.store t x y,type:=ty,pos:=pos,after:=af,guard:=gd }).run P w = .ok .skip (w.setRow b' (c.take off ++ (a.eval y).cells.toList ++ c.drop (off + k)).toArray):=by
    have hsz : (a.eval y).cells.size = k:=by rw [← hvl];simp
    simp [execOp,hv,Instr.storeAt,Instr.sureAddr,storeVar,hs.h,hsz,hrun,Result.andThen]
  rw [hex]
  have hcl : (c.take off ++ (a.eval y).cells.toList ++ c.drop (off + k)).length = c.length:=by
    simp only [List.length_append,List.length_take,List.length_drop,hvl];omega
  have htk : (c.take off ++ (a.eval y).cells.toList ++ c.drop (off + k)).take (els.length * kk) = (c.take (els.length * kk)).take off ++ (a.eval y).cells.toList ++ (c.take (els.length * kk)).drop (off + k):=by
    have e1 : (c.take (els.length * kk)).take off = c.take off:=by rw [List.take_take,Nat.min_eq_left (by omega)]
    have e2 : (c.take (els.length * kk)).drop (off + k) = (c.drop (off + k)).take (els.length * kk - (off + k)):=by rw [List.drop_take]
    rw [e1,e2]
    have e3 : (c.take off ++ (a.eval y).cells.toList).length = off + k:=by simp only [List.length_append,List.length_take,hvl];omega
    have e4:=List.take_append (l₁:=c.take off ++ (a.eval y).cells.toList) (l₂:=c.drop (off + k)) (i:=els.length * kk)
    rw [e3] at e4
    rw [e4,List.take_of_length_le (by rw [e3];omega)]
  have hconc : ConcL G ((c.take off ++ (a.eval y).cells.toList ++ c.drop (off + k)).take (els.length * kk)) els'.flatten:=by
    rw [htk,hfl]
    exact ConcL.append (ConcL.append (g7.take off) hcs) (g7.drop (off + k))
  refine ⟨undef,G,rfl,.refl G,?_,.sc _⟩
  have hob : ownBlk G r (.row kk e els) = some b':=by simp only [ownBlk,g1,slBlock]
  refine hR.set (w':=w.setRow b' (c.take off ++ (a.eval y).cells.toList ++ c.drop (off + k)).toArray) (b:=b') hr' hob g2 rfl rfl rfl (Nat.le_refl _) (by simp) (fun b hb=>setRow_other _ _ _ _ hb) (fun i v hi=>by rw [g8 i] at hi;cases hi) ?_ (fun c' hc'=>?_)
  · refine ⟨fun j hj=>g0 j (by omega),hk',.inr ⟨b',cap,_,?_,g2,setRow_heap w b' c.toArray _ e (0,0) g3,by omega,g5,by rw [hcl,g6],?_,g8,g9⟩⟩
    · rw [hl];exact g1
    · rw [hl];exact hconc
  · simp only [ownBlk,hl,g1,slBlock] at hc';exact (Option.some.inj hc').symm
theorem R.adoptG {B : Base P} {G : Gh} {a : Act} {w : World} {t k e : Nat} (hR : R B N G ⟨rg,h,mk⟩ a w) (ht : lookO rg t = some (.sc (.slice none 0 0))) :
    ∃ G',R B N G' ⟨(t,rowA h.length 0) :: rg,h ++ [.row k e []],mk⟩ a w:=by
  have hr:=hR.heap
  obtain ⟨f1,f2⟩:=hr.fresh h.length (Nat.le_refl _)
  let G' : Gh:=⟨G.imm,G.blk,fun r j=>if r = h.length ∧ j = 0 then some (.slice none 0 0) else G.tl r j⟩
  have hle : G.le G':=⟨fun _ _ _ e=>e,fun _ _ e=>e,fun r j v e=>by
    show (if r = h.length ∧ j = 0 then _ else G.tl r j) = some v
    rw [if_neg fun h=>by obtain ⟨rfl,rfl⟩:=h;rw [f2] at e;cases e];exact e⟩
  have hh : RH B G' (h ++ [.row k e []]) w:=by
    refine hr.allocObj _ hle rfl rfl rfl (Nat.le_refl _) (Nat.le_refl _) (fun _ _=>rfl) (fun _ _ _=>rfl) hr.imm (fun r hne=>⟨rfl,fun n=>if_neg fun h=>hne h.1⟩) ?_ (fun b hb=>?_)
    · exact ⟨fun j hj=>by show (if h.length = h.length ∧ j = 0 then _ else _) = none;rw [if_neg fun h=>by simp at hj;omega];exact f2 j,fun x hx=>by simp at hx,.inl ⟨rfl,if_pos ⟨rfl,rfl⟩⟩⟩
    · simp only [ownBlk,List.length_nil] at hb
      have e1 : G'.tl h.length 0 = some (.slice none 0 0):=if_pos ⟨rfl,rfl⟩
      rw [e1] at hb;cases hb
  have hR':=hR.step hle hh
  refine ⟨G',hR'.heap,hR'.size,fun u=>?_,hR'.defers,hR'.own⟩
  simp only [look]
  cases hq : Nat.beq t u with
  | true =>
    have : t = u:=Nat.eq_of_beq_eq_true hq
    subst this
    have h1:=hR.regs t
    rw [show look rg t = _ from lookO_eq ht] at h1
    rw [conc_sc h1]
    exact .slnil fun t e=>by cases e;exact if_pos ⟨rfl,rfl⟩
  | false=>exact hR'.regs u
theorem W_adoptG {c : Code} (t k e : Nat) (ht : lookO rg t = some (.sc (.slice none 0 0))) (hk : W P fr N c Q ⟨(t,rowA h.length 0) :: rg,h ++ [.row k e []],mk⟩) : W P fr N c Q ⟨rg,h,mk⟩:=by
  intro B G a w hR
  obtain ⟨G',hR'⟩:=hR.adoptG (k:=k) (e:=e) ht
  exact hk B G' a w hR'
theorem R.rowM {B : Base P} {G : Gh} {a : Act} {w : World} {t r n k e : Nat} {els : List (List AV)} (hR : R B N G ⟨rg,h,mk⟩ a w) (ht : lookO rg t = some (rowA r n)) (ho : h[r]? = some (.row k e els)) (hn : n = els.length) (h0 : 0 < n) :
    ∃ sp,R B N G ⟨(t,.mr r 0 n) :: rg,h.set r (.cells (els.flatten ++ sp)),mk⟩ a w:=by
  have hr:=hR.heap
  have h1:=hR.regs t
  rw [show look rg t = _ from lookO_eq ht] at h1
  obtain ⟨hk,hv⟩:=row_inv hr ho hn h1
  rcases hv with ⟨rfl,_⟩ | ⟨g,cap,c,hv,q2,q3,q4,q5,q6,q7,q8,q9⟩
  · simp at hn;omega
  have htl:=(rowA_inv h1).1
  refine ⟨(c.drop (els.length * k)).map .sc,?_⟩
  have hob : ownBlk G r (.row k e els) = some g:=by simp only [ownBlk];rw [← hn,htl,hv];rfl
  have hh : RH B G (h.set r (.cells (els.flatten ++ (c.drop (els.length * k)).map .sc))) w:=by
    refine hr.set (w':=w) (b:=g) ho hob q2 rfl rfl rfl (Nat.le_refl _) rfl (fun _ _=>rfl) (fun i v hi=>by rw [q8 i] at hi;cases hi) ?_ (fun c' hc'=>?_)
    · refine ⟨g,c,⟨e,fun _ e=>by cases e⟩,q9,q2,q3,?_,q8⟩
      have e1:=q7.append (⟨(List.length_map (f:=AV.sc)).symm,fun i v x hv hx=>by
        rw [List.getElem?_map,hv] at hx;simp at hx;subst hx;exact .sc _⟩ : ConcL G (c.drop (els.length * k)) ((c.drop (els.length * k)).map AV.sc))
      rwa [List.take_append_drop] at e1
    · simp only [ownBlk] at hc';rw [q9] at hc';exact (Option.some.inj hc').symm
  refine ⟨hh,hR.size,fun u=>?_,hR.defers,hR.own⟩
  simp only [look]
  cases hq : Nat.beq t u with
  | true =>
    have : t = u:=Nat.eq_of_beq_eq_true hq
    subst this
    rw [hv,← hn]
    exact .mr q9 (by omega) (fun _=>rfl)
  | false=>exact hR.regs u
theorem WL_rowM {l : List Oper} (t r : Nat) {n k e : Nat} {els : List (List AV)} (ht : lookO rg t = some (rowA r n)) (ho : h[r]? = some (.row k e els)) (hn : n = els.length) (h0 : 0 < n)
    (hk : ∀ sp,WL P fr N ops l Q ⟨(t,.mr r 0 n) :: rg,h.set r (.cells (els.flatten ++ sp)),mk⟩) : WL P fr N ops l Q ⟨rg,h,mk⟩:=by
  intro B G a w hR
  obtain ⟨sp,hR'⟩:=hR.rowM ht ho hn h0
  exact hk sp B G a w hR'
end
instance (n : Nat) : PurLL (List.replicate n ([] : List AV)):=⟨fun e he=>by rw [List.eq_of_mem_replicate he];infer_instance⟩
theorem mvRow {ss : List Nat} {r q n m : Nat} (hr : ss[r]? = some q) (h : n = m) : Mv ss (rowA q n) (rowA r m):=by subst h;exact .sl hr
theorem Le.row0 {r k : Nat} : Le (rowA r 0) (.sl none k []):=fun G v h=>by
  rcases (rowA_inv h).2 with ⟨_,rfl⟩ | ⟨b,o,cap,rfl,_⟩
  · exact .slnil (fun t e=>by cases e)
  · have:=Conc.sl (G:=Gh.of G.imm) (b:=b) (o:=o) (cap:=cap) (k:=k) (tok:=none) (els:=[]) (fun _ _=>undef) (fun e he=>by cases he) (Nat.zero_le _) (fun i j h _=>by cases h) (fun i e j x he _=>by simp at he) (fun t e=>by cases e)
    exact this
theorem D_ixRowN {P : Program} [GlobF P] {ty : TypeId} {pos : String} {af : Array Edge} {dst : Option Nat} {gd : Option (Nat × Bool)} {ρ : Operand → Option AV} {hp : List AObj} {t e e' : TypeId} {x ix : Operand} {r n k : Nat} {kk : IntKind} {j : Nat} {els : List (List AV)} [hu : Und P t (.slice e)] [hs : Siz P e k] (hx : ρ x = some (rowA r n)) (ho : hp[r]? = some (.row k e' els)) (hn : n = els.length) (hi : ρ ix = some (.sc (.int kk (j : Int)))) (h1 : j < n) :
    POp P { dst:=dst,op:=.indexAddr t x ix,type:=ty,pos:=pos,after:=af,guard:=gd } ρ hp (.bp r (j * k)):=D_ixRow (i:=(j : Int)) hx ho hn hi (Int.natCast_nonneg j) (by omega)
end Go.AL
