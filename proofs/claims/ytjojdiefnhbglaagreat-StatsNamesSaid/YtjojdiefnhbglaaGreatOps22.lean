/- Rules of the abstract logic: sorting in place under an order that does not part all. No condition. -/
import Derived.Test.YtjojdiefnhbglaaGreatOps12
import Derived.Test.YtjojdiefnhbglaaGreatOps21
import Derived.Shelf.Spec.SlicesGrow
import Derived.Test.YtjojdiefnhbglaaGreatOps7
set_option linter.all false
namespace Go.AL
open Go.Proofs (Enters ltOf)
open Go.Sort (SWO HoldsK putRowK putRow mapBlock putCells Holds)
section
variable {α : Type} [Inhabited α]
theorem sortP_ac {P : Program} [GlobF P] {ρ : Shelf.Ren} (L : Go.Proofs.SlLaysF0.n6 P ρ) {k : Nat} (aE : ∀ w,(isAgg (ρ.t 24)).run P w = .ok true w) (zE : ∀ w,(Go.sizeOf (ρ.t 24)).run P w = .ok k w) (enc : α → List Value) (f : α → List AV) (hf : ∀ a,f a = (enc a).map .sc)
    (hk : ∀ x,(enc x).length = k) (h1 : ∀ x,∀ v ∈ enc x,v.oneCell' = true) (cf : α → α → Int) (hO : SWO (ltOf cf)) (g : FuncId) (ys : List AV) (F : AV)
    (hF : ∀ G v,Conc G v F → ∃ cb : List Value,v = .func (.func g) #[] cb.toArray ∧ ConcL (Gh.of G.imm) cb ys) (hcmp : ∀ x y,PC P g ([.ag (f x),.ag (f y)] ++ ys) (.sc (.int .i64 (cf x y))))
    {h : List AObj} {r : Nat} {l : List α} {sp : List AV} (hr0 : h[r]? = some (.cells ((l.map f).flatten ++ sp))) (hne : 0 < l.length) (hl : l.length < 4611686018427387904) :
    AC P (ρ.f 6) [.mr r 0 l.length,F] h (fun v h'=>v = .tu [] ∧ ∃ ms : List α,ms.Perm l ∧ ms.Pairwise (fun x y=>ltOf cf y x = false) ∧ h' = h.set r (.cells ((ms.map f).flatten ++ sp))):=by
  refine ⟨L.f6.enters rfl,fun B G w vs hr hc=>?_⟩
  obtain ⟨v1,vs1,rfl,c1,hc1⟩:=hc.inv_cons
  obtain ⟨v2,vs2,rfl,c2,hc2⟩:=hc1.inv_cons
  have:=hc2.inv_nil
  subst this
  obtain ⟨b,o',cap,rfl,hb,hcap,ho⟩:=mr_inv c1
  have ho':=ho hne
  subst ho'
  obtain ⟨cb,rfl,hcb⟩:=hF G v2 c2
  obtain ⟨b',c,ty,g1,g2,g3,g4,g5⟩:=hr.obj r _ hr0
  rw [hb] at g1;cases g1
  have hblk : b < w.heap.size:=(Array.getElem?_eq_some_iff.1 g3).1
  have hfl : (l.map f).flatten = ((l.map enc).flatten).map AV.sc:=by
    rw [List.map_flatten,List.map_map];congr 1;exact List.map_congr_left fun a _=>hf a
  obtain ⟨n,hnd⟩ : ∃ n,n = l.length * k:=⟨_,rfl⟩
  have hlenE : ((l.map enc).flatten).length = n:=by
    have:=flat_len (els:=l.map enc) (k:=k) fun e he=>by obtain ⟨a,_,rfl⟩:=List.mem_map.1 he;exact hk a
    rwa [List.length_map,← hnd] at this
  have hlm : (((l.map enc).flatten).map AV.sc).length = n:=by rw [List.length_map,hlenE]
  have hcn : c.take n = (l.map enc).flatten:=by
    have:=g4.take n
    rw [hfl,List.take_append_of_le_length (Nat.le_of_eq hlm.symm),List.take_of_length_le (Nat.le_of_eq hlm)] at this
    exact concSc this
  have hsp : ConcL G (c.drop n) sp:=by
    have:=g4.drop n
    rwa [hfl,List.drop_append_of_le_length (Nat.le_of_eq hlm.symm),List.drop_of_length_le (Nat.le_of_eq hlm),List.nil_append] at this
  have hcs : c = (l.map enc).flatten ++ c.drop n:=by rw [← hcn,List.take_append_drop]
  have hnl : n ≤ c.length:=by have:=congrArg List.length hcs;rw [List.length_append,hlenE] at this;omega
  have hH : HoldsK enc k w b 0 l.toArray:=by
    intro j hj
    have hj' : j < n:=by rw [hnd];simpa using hj
    have e1:=flatK_list hk l
    have e2 : (Go.Sort.flatK enc k l.toArray)[j]! = c[j]'(by omega):=by
      rw [getElem!_pos _ j hj,← Array.getElem_toList]
      simp only [e1,← hcn,List.getElem_take]
    refine ⟨?_,?_⟩
    · rw [Nat.zero_add,e2]
      simp only [World.cell?,g3,Option.isSome_none,Bool.false_eq_true,if_false,id]
      simp [show j < c.length by omega]
    · simp [World.frozen?,g3]
  have hC : Go.Proofs.CmpLays P g cb.toArray enc k cf b 0 l.toArray.size w:=by
    intro m os dk hdk x y
    have him : ∀ b' o u,G.imm b' o = some u → (Go.Proofs.sortWorldK enc k w b 0 m dk os).cell? ⟨b',o,none⟩ = some u:=fun b' o u hu=>by
      have hlt:=hr.lt hu
      have hbb : b' ≠ b:=fun e=>by subst e;rw [g5 o] at hu;cases hu
      have h2 : (putRowK enc k (Go.Sort.ahead w m) b 0 dk).cell? ⟨b',o,none⟩ = some u:=by
        rw [Go.Sort.cell?_putRowK_other enc k _ b 0 dk ⟨b',o,none⟩ hbb]
        exact hr.imm _ _ _ hu
      unfold Go.Proofs.sortWorldK
      unfold World.cell? at h2 ⊢
      have : (Go.Sort.grow (putRowK enc k (Go.Sort.ahead w m) b 0 dk) os).heap[b']? = (putRowK enc k (Go.Sort.ahead w m) b 0 dk).heap[b']?:=by
        show ((putRowK enc k (Go.Sort.ahead w m) b 0 dk).heap ++ os)[b']? = _
        rw [Array.getElem?_append_left (by simp [putRowK,putRow,mapBlock,Go.Sort.ahead];exact hlt)]
      rw [this];exact h2
    have hgo : ∀ b' x,GlobF.o P b' = some x → (Go.Proofs.sortWorldK enc k w b 0 m dk os).heap[b']? = some x:=fun b' x hx=>by
      have h1:=B.ok2 b' x hx
      have hlt:=(Array.getElem?_eq_some_iff.1 h1).1
      have hw:=hr.globW.o b' x hx
      have hlt' : b' < w.heap.size:=Nat.lt_of_lt_of_le hlt hr.size
      have hbb : b' ≠ b:=by omega
      unfold Go.Proofs.sortWorldK
      have : (Go.Sort.grow (putRowK enc k (Go.Sort.ahead w m) b 0 dk) os).heap[b']? = (putRowK enc k (Go.Sort.ahead w m) b 0 dk).heap[b']?:=by
        show ((putRowK enc k (Go.Sort.ahead w m) b 0 dk).heap ++ os)[b']? = _
        rw [Array.getElem?_append_left (by simp [putRowK,putRow,mapBlock,Go.Sort.ahead];exact hlt')]
      rw [this]
      have : (putRowK enc k (Go.Sort.ahead w m) b 0 dk).heap[b']? = w.heap[b']?:=by
        simp [putRowK,putRow,mapBlock,Go.Sort.ahead,Array.getElem?_modify,Ne.symm hbb]
      rw [this];exact hw
    have hargs : ConcL (Gh.of G.imm) ([.agg (enc x).toArray,.agg (enc y).toArray] ++ cb) ([.ag (f x),.ag (f y)] ++ ys):=by
      have he : ∀ z,Conc (Gh.of G.imm) (.agg (enc z).toArray) (.ag (f z)):=fun z=>by
        rw [hf]
        exact .ag (by simp) fun i v x hv hx=>by
          rw [List.getElem?_map,hv] at hx;simp at hx;subst hx;exact .sc _
      exact ConcL.append (.cons (he x) (.cons (he y) (.nil _))) hcb
    have hcall:=(hcmp x y).2 (Go.Proofs.sortWorldK enc k w b 0 m dk os) G.imm _ ⟨hr.glob,hgo⟩ him hargs
    have e : ([Value.agg (enc x).toArray,.agg (enc y).toArray] ++ cb).toArray = #[Value.agg (enc x).toArray,.agg (enc y).toArray] ++ cb.toArray:=by simp
    rw [e] at hcall
    refine hcall.mono ?_
    rintro e w' ⟨rv,imm',rfl,hg,_,_,hv⟩
    rw [conc_sc hv]
    exact ⟨rfl,world_grow hg⟩
  have hcon:=Go.Proofs.AnyQ.slices_SortFunc L k aE zE enc hk h1 cf hO g cb.toArray b 0 cap l.toArray w (fun args w=>(hcmp default default).1 args w) hC hH hblk (by simpa using hl)
  simp only [List.size_toArray] at hcon
  refine hcon.mono ?_
  rintro e w' ⟨rfl,d',m,os,hPm,hSo,rfl⟩
  obtain ⟨hsz,_,hperm⟩:=hPm
  have hsz' : d'.size = l.length:=by simpa using hsz
  have e1 : d'.extract 0 l.length = d':=by rw [← hsz'];exact Array.extract_size
  have e2 : l.toArray.extract 0 l.length = l.toArray:=by simp
  rw [e1,e2] at hperm
  have hpw : d'.toList.Pairwise (fun x y=>ltOf cf y x = false):=by
    rw [List.pairwise_iff_getElem]
    intro i j hi hj hij
    have hi' : i < d'.size:=by simpa using hi
    have hj' : j < d'.size:=by simpa using hj
    have:=hSo i j (Nat.zero_le _) hij (by omega)
    rw [getElem!_pos d' j hj',getElem!_pos d' i hi'] at this
    simpa using this
  have hda : d' = d'.toList.toArray:=by simp
  generalize d'.toList = ms at hperm hpw hda
  subst hda
  have hmsl : ms.length = l.length:=by simpa using hsz'
  have hrow : (putRowK enc k (Go.Sort.ahead w m) b 0 ms.toArray).heap[b]? = some (.cells ((ms.map enc).flatten ++ c.drop n).toArray ty (0,0)):=by
    simp only [putRowK,putRow,mapBlock,Go.Sort.ahead,Array.getElem?_modify,g3,if_true,Option.map_some,Go.Sort.onCells]
    rw [hcs,putCells_list hk ms _ _ (by rw [hlenE,hmsl,hnd])]
    rw [← hcs]
  have hfl2 : (ms.map f).flatten = ((ms.map enc).flatten).map AV.sc:=by
    rw [List.map_flatten,List.map_map];congr 1;exact List.map_congr_left fun a _=>hf a
  have hr1 : RH B G (h.set r (.cells ((ms.map f).flatten ++ sp))) (putRowK enc k (Go.Sort.ahead w m) b 0 ms.toArray):=by
    refine hr.set (w':=putRowK enc k (Go.Sort.ahead w m) b 0 ms.toArray) (b:=b) hr0 (by simp only [ownBlk];exact hb) g2 rfl rfl rfl (Nat.le_add_right _ _) (by simp [putRowK,putRow,mapBlock,Go.Sort.ahead]) (fun b' hb'=>?_) (fun i v hi=>by rw [g5 i] at hi;cases hi) ?_ (fun c' hc'=>?_)
    · show (w.heap.modify b _)[b']? = _
      rw [Array.getElem?_modify,if_neg (Ne.symm hb')]
    · refine ⟨b,_,ty,hb,g2,hrow,?_,g5⟩
      rw [hfl2]
      refine ConcL.append ⟨(List.length_map (f:=AV.sc)).symm,fun i v x hv hx=>?_⟩ hsp
      rw [List.getElem?_map,hv] at hx;simp at hx;subst hx;exact .sc _
    · simp only [ownBlk] at hc';rw [hb] at hc';exact (Option.some.inj hc').symm
  have hgr : Grown (putRowK enc k (Go.Sort.ahead w m) b 0 ms.toArray) (Go.Proofs.sortWorldK enc k w b 0 m ms.toArray os):=⟨rfl,rfl,rfl,Nat.le_refl _,by simp [Go.Proofs.sortWorldK],fun b' hb'=>by
    show ((putRowK enc k (Go.Sort.ahead w m) b 0 ms.toArray).heap ++ os)[b']? = _
    rw [Array.getElem?_append_left hb']⟩
  obtain ⟨hle,hr2⟩:=hr1.grown (imm':=G.imm) hgr (fun _ _ _=>rfl) (fun b' o u hu=>by
    have h2:=hr1.imm b' o u hu
    unfold World.cell? at h2 ⊢
    rw [hgr.out b' (hr1.lt hu)];exact h2)
  exact ⟨_,G,_,.tu [],rfl,.refl G,hr2,.tu rfl (fun i v x hv=>by simp at hv),rfl,ms,hperm,hpw,rfl⟩
end
end Go.AL

namespace Go.AL
theorem grow_ac {P : Program} [GlobF P] {ρ : Shelf.Ren} (L : Go.Proofs.Lays8.n4 P ρ) {k by_ : Nat} {z : Value} [hi : Inf P (ρ.t 25) k by_ z] (hk : 0 < k) (hzk : z.cells.size = k) (n : Nat) (hb : n * by_ ≤ 140737488355328) (hn : n < 4611686018427387904) (h : List AObj) :
    AC P (ρ.f 4) [.sc (.slice none 0 0),.sc (.int .i64 (n : Int))] h (fun v h'=>v = rowA h.length 0 ∧ h' = h ++ [.row k (ρ.t 25) []]):=by
  refine ⟨L.f4.enters rfl,fun B G w vs hr hc=>?_⟩
  obtain ⟨v1,vs1,rfl,c1,hc1⟩:=hc.inv_cons
  obtain ⟨v2,vs2,rfl,c2,hc2⟩:=hc1.inv_cons
  have:=hc2.inv_nil
  subst this
  rw [conc_sc c1,conc_sc c2]
  obtain ⟨i,i1,i2,i3,i4⟩:=hi.h
  obtain ⟨f1,f2⟩:=hr.fresh h.length (Nat.le_refl _)
  by_cases h0 : n = 0
  · subst h0
    refine (Go.Proofs.Any8.slices_Grow_room L none 0 0 0 w (by omega) (by omega) (by omega) (by omega)).mono ?_
    rintro e w' ⟨rfl,rfl⟩
    let G' : Gh:=⟨G.imm,G.blk,fun r j=>if r = h.length ∧ j = 0 then some (.slice none 0 0) else G.tl r j⟩
    have hle : G.le G':=⟨fun _ _ _ e=>e,fun _ _ e=>e,fun r j v e=>by
      show (if r = h.length ∧ j = 0 then _ else G.tl r j) = some v
      rw [if_neg fun h=>by obtain ⟨rfl,rfl⟩:=h;rw [f2] at e;cases e];exact e⟩
    refine ⟨_,G',h ++ [.row k (ρ.t 25) []],rowA h.length 0,rfl,hle,?_,.slnil fun t e=>by cases e;exact if_pos ⟨rfl,rfl⟩,rfl,rfl⟩
    refine hr.allocObj _ hle rfl rfl rfl (Nat.le_refl _) (Nat.le_refl _) (fun _ _=>rfl) (fun _ _ _=>rfl) hr.imm (fun r hne=>⟨rfl,fun n=>if_neg fun h=>hne h.1⟩) ?_ (fun b hb=>?_)
    · exact ⟨fun j hj=>by show (if h.length = h.length ∧ j = 0 then _ else _) = none;rw [if_neg fun h=>by simp at hj;omega];exact f2 j,fun x hx=>by simp at hx,.inl ⟨rfl,if_pos ⟨rfl,rfl⟩⟩⟩
    · simp only [ownBlk,List.length_nil] at hb
      have e1 : G'.tl h.length 0 = some (.slice none 0 0):=if_pos ⟨rfl,rfl⟩
      rw [e1] at hb;cases hb
  · refine (Go.Proofs.Any8.slices_Grow_grow L i z i1 i4 (by rw [i2];exact hk) none 0 0 n [] w (Nat.le_refl _) (by omega) (by rw [i3,Nat.zero_add];exact hb) (by omega) (by simp) (fun _=>rfl) (fun a e=>by cases e)).mono ?_
    rintro e w' ⟨rfl,rfl⟩
    have hge:=grownCap_ge w (0 + n) 0 (ρ.t 25)
    have hcm:=grownCap_le_maxLen w (0 + n) 0 (ρ.t 25) (by simp only [maxLen];omega)
    generalize grownCap w (0 + n) 0 (ρ.t 25) = cap at hge hcm
    obtain ⟨cs,hcs⟩ : ∃ cs : List Value,([] : List Value).toArray ++ Builtin.zeroCells z.cells (0 + n - 0) ++ Builtin.zeroCells z.cells (cap - (0 + n)) = cs.toArray:=⟨_,Array.toArray_toList.symm⟩
    have hcl : cs.length = cap * k:=by
      have:=congrArg Array.size hcs
      simp only [Array.size_append,size_zeroCells,hzk,List.size_toArray,List.length_nil,Nat.zero_add,← Nat.add_mul] at this
      rw [← this];congr 1;omega
    rw [hcs]
    generalize hnv : (Value.slice (some ⟨w.heap.size,0,none⟩) 0 cap) = nv
    let G' : Gh:=⟨G.imm,fun q=>if q = h.length then some w.heap.size else G.blk q,fun r j=>if r = h.length ∧ j = 0 then some nv else G.tl r j⟩
    have hle : G.le G':=⟨fun _ _ _ e=>e,fun q b e=>by
      show (if q = h.length then some w.heap.size else G.blk q) = some b
      by_cases hrl : q = h.length
      · subst hrl;rw [f1] at e;cases e
      · rw [if_neg hrl];exact e,fun r j v e=>by
      show (if r = h.length ∧ j = 0 then _ else G.tl r j) = some v
      rw [if_neg fun h=>by obtain ⟨rfl,rfl⟩:=h;rw [f2] at e;cases e];exact e⟩
    have e0 : G'.tl h.length 0 = some nv:=if_pos ⟨rfl,rfl⟩
    refine ⟨_,G',h ++ [.row k (ρ.t 25) []],rowA h.length 0,rfl,hle,?_,by rw [← hnv];exact rowA_mk (by rw [hnv];exact e0) (Nat.zero_le _),rfl,rfl⟩
    have hnewb : (w.drew.alloc (.cells cs.toArray (ρ.t 25))).heap[w.heap.size]? = some (.cells cs.toArray (ρ.t 25) (0,0)):=heap_alloc_new w.drew _
    have hblk : ∀ b',b' < w.heap.size → (w.drew.alloc (.cells cs.toArray (ρ.t 25))).heap[b']? = w.heap[b']?:=fun b' hb'=>heap_alloc_old w.drew _ hb'
    refine hr.allocObj _ hle rfl rfl rfl (Nat.le_succ _) (by simp) hblk (fun _ _ _=>rfl) (fun b o v hv=>?_) (fun r hne=>⟨if_neg hne,fun n=>if_neg fun h=>hne h.1⟩) ?_ (fun b hb=>?_)
    · have e1 : (w.drew.alloc (.cells cs.toArray (ρ.t 25))).cell? ⟨b,o,none⟩ = w.cell? ⟨b,o,none⟩:=by
        simp only [World.cell?];rw [hblk b (hr.lt hv)]
      exact e1.trans (hr.imm _ _ _ hv)
    · refine ⟨fun j hj=>by show (if h.length = h.length ∧ j = 0 then _ else _) = none;rw [if_neg fun h=>by simp at hj;omega];exact f2 j,fun x hx=>by simp at hx,.inr ⟨w.heap.size,cap,cs,e0.trans (congrArg some hnv.symm),hr.size,hnewb,Nat.zero_le _,hcm,hcl,?_,fun j=>?_,if_pos rfl⟩⟩
      · simp only [List.length_nil,Nat.zero_mul,List.take_zero,List.flatten_nil];exact .nil _
      · show G.imm w.heap.size j = none
        cases hi : G.imm w.heap.size j with
        | none=>rfl
        | some v=>exact absurd (hr.lt hi) (by omega)
    · simp only [ownBlk,List.length_nil,e0,← hnv,slBlock] at hb
      cases hb;exact Nat.le_refl _
end Go.AL

namespace Go.AL
section
variable {P : Program} [GlobF P] {ty : TypeId} {pos : String} {af : Array Edge} {dst : Option Nat} {gd : Option (Nat × Bool)} {ρ : Operand → Option AV}
theorem D_appG0 {t e r n k k' by_ : Nat} {z : Value} {x y : Operand} {tok' : Option Nat} [hu : Und P t (.slice e)] [hi : Inf P e k by_ z] (hx : ρ x = some (rowA r n)) (hy : ρ y = some (.sl tok' k' [])) :
    PPOp P { dst:=dst,op:=.call { callee:=.builtin .append,args:=#[x,y],argTypes:=#[t,t] },type:=ty,pos:=pos,after:=af,guard:=gd } ρ (rowA r n) :=
  PPOp.val (by simp) (fun B G a w hR E=>by
    have ex:=E x (by first|exact List.Mem.head _|exact List.Mem.tail _ (List.Mem.head _)) _ hx
    have ey:=E y (by simp [Op.operands,Call.operands]) _ hy
    obtain ⟨i,i1,i2,i3,i4⟩:=hi.h
    have hy0 : (∃ a' c,a.eval y = .slice (some a') 0 c) ∨ a.eval y = .slice none 0 0:=by
      generalize a.eval y = v at ey
      cases ey with
      | @sl b o cap _ _ _ us hk hcap him hc ht=>exact .inl ⟨_,cap,rfl⟩
      | slnil ht=>exact .inr rfl
      | @slz a0 _=>exact .inl ⟨a0,0,rfl⟩
    have hrun : (Builtin.append_ #[t,t] ty #[a.eval x,a.eval y]).run P w = .ok (a.eval x) w:=by
      rcases (rowA_inv ex).2 with ⟨rfl,vx⟩ | ⟨b,o,cap,vx,hn⟩
      · rw [vx];exact run_append_none hu.h i1 none 0 0 (Nat.le_refl _) _ hy0 w
      · rw [vx];exact run_append_none hu.h i1 _ n cap hn _ hy0 w
    exact ⟨a.eval x,exec_append a hrun,ex⟩)
end
section
variable {P : Program} [GlobF P] {fr : Option Nat} {N : Nat} {Q : Exit → AS → Prop} {ops : Array Oper} {rest : List Oper} {rg : List (Nat × AV)} {h : List AObj} {mk : Mk} {ty : TypeId} {pos : String} {af : Array Edge} {s : AS}
theorem m_moveRow (d : Nat) {t r n k e : Nat} {els : List (List AV)} (ht : lookO rg t = some (rowA r n)) (ho : h[r]? = some (.row k e els)) (hn : n = els.length) (h0 : 0 < n) (hk : ∀ x,x ∈ els → x.length = k)
    (hw : WL P fr N ops ({ dst:=some d,op:=.move (.tmp t),type:=ty,pos:=pos,after:=af,guard:=none } :: rest) Q ⟨(t,.sl none k els) :: (t,.mr r 0 n) :: rg,h.set r .dead,mk⟩) :
    WL P fr N ops ({ dst:=some d,op:=.move (.tmp t),type:=ty,pos:=pos,after:=af,guard:=none } :: rest) Q ⟨rg,h,mk⟩:=by
  have hlt : r < h.length:=(List.getElem?_eq_some_iff.1 ho).1
  refine WL_rowM t r ht ho hn h0 fun sp=>?_
  refine WL_frz t r k (n:=n) (els:=els) (sp:=sp) (by rw [List.getElem?_set_self hlt]) (by simp [lookO]) (by omega) hk ?_
  rw [List.take_of_length_le (by omega),List.set_set]
  exact hw
theorem NoAbove.own {B : Base P} {G : Gh} {a : Act} {w : World} {st : AS} (hR : R B N G st a w) {n : Nat} (hn : st.marks.n0 ≤ n) : NoAbove B.g0 n:=fun r hr=>hR.own r (Nat.le_trans hn hr)
theorem R.cutN {B : Base P} {G : Gh} {a : Act} {w : World} {rg : List (Nat × AV)} {h ex : List AObj} {mk : Mk} (hR : R B N G ⟨rg,h ++ ex,mk⟩ a w) (hn : mk.n0 ≤ h.length) (hb : BdH h) (hg : ∀ t,BdA h.length (look rg t)) (hm : ∀ r,r ∈ mk.l → r < h.length) :
    R B N (cutN G h.length) ⟨rg,h,mk⟩ a w:=by
  refine ⟨hR.heap.cutN hb (NoAbove.own hR hn),hR.size,fun t=>(hR.regs t).cutN (hg t),⟨hR.defers.1,fun i d r hd hr=>?_⟩,hR.own⟩
  obtain ⟨b,e1,e2⟩:=hR.defers.2 i d r hd hr
  exact ⟨b,(if_pos (hm r (List.mem_of_getElem? hr))).trans e1,e2⟩
theorem W_loopC {X : Type} {c : Code} (st : X → List (Nat × AV)) (hp : X → List AObj) (I : X → Prop) (μ : X → Nat) (x0 : X) (h0 : I x0) (hs : WkL (st x0) s) (hh : hp x0 = s.heap)
    (hn : ∀ x,s.marks.n0 ≤ (hp x).length) (hb : ∀ x,I x → BdH (hp x)) (hg : ∀ x,I x → ∀ t,BdA (hp x).length (look (st x) t)) (hm : ∀ x,∀ r,r ∈ s.marks.l → r < (hp x).length)
    (h : ∀ x,I x → W P fr N c (thn (fun s'=>s'.marks = s.marks ∧ ∃ x',I x' ∧ μ x' < μ x ∧ WkL (st x') s' ∧ ∃ ex,s'.heap = hp x' ++ ex) Q) ⟨st x,hp x,s.marks⟩) : W P fr N (.loop c) Q s:=by
  refine W_weak (s':=⟨st x0,hp x0,s.marks⟩) ⟨hs,hh,rfl⟩ ?_
  intro B G a w hr
  let p : Act → World → Nat → Prop:=fun a w n=>∃ x G',I x ∧ R B N G' ⟨st x,hp x,s.marks⟩ a w ∧ μ x = n
  have hmin : ∀ a w,(∃ n,p a w n) → ∃ n,p a w n ∧ ∀ m,p a w m → n ≤ m:=fun a w=>least (p a w)
  refine wpIn_loop (fun a w=>∃ n,p a w n) (fun a w=>Classical.epsilon fun n=>p a w n ∧ ∀ m,p a w m → n ≤ m) ⟨μ x0,x0,G,h0,hr,rfl⟩ ?_
  intro a w hI
  have he:=Classical.epsilon_spec (hmin a w hI)
  generalize (Classical.epsilon fun n=>p a w n ∧ ∀ m,p a w m → n ≤ m) = k at he
  obtain ⟨⟨x,G1,hx,hr1,rfl⟩,-⟩:=he
  refine wpIn_mono (h x hx B G1 a w hr1) ?_
  rintro e a' w' ⟨G2,s',hr2,hq⟩
  cases e <;> simp only [thn,Exit.then] at hq ⊢
  case normal =>
    obtain ⟨hm',x',hx',hlt,hwk,ex,hex⟩:=hq
    obtain ⟨rg2,h2,mk2⟩:=s'
    dsimp only at hm' hex
    subst hm'
    subst hex
    have hr3 : R B N G2 ⟨st x',hp x' ++ ex,s.marks⟩ a' w':=(show Wk ⟨rg2,hp x' ++ ex,s.marks⟩ ⟨st x',hp x' ++ ex,s.marks⟩ from ⟨hwk,rfl,rfl⟩).R hr2
    have hp : p a' w' (μ x'):=⟨x',_,hx',hr3.cutN (hn x') (hb x' hx') (hg x' hx') (hm x'),rfl⟩
    exact ⟨⟨_,hp⟩,Nat.lt_of_le_of_lt ((Classical.epsilon_spec (hmin a' w' ⟨_,hp⟩)).2 _ hp) hlt⟩
  all_goals exact ⟨G2,s',hr2,hq⟩
theorem look_all {p : AV → Prop} (ha : p .any) : ∀ {l : List (Nat × AV)},(∀ x,x ∈ l → p x.2) → ∀ t,p (look l t)
  | [],_,_=>ha
  | (u,v) :: l,h,t=>by
    simp only [look]
    cases Nat.beq u t with
    | true=>exact h (u,v) (by simp)
    | false=>exact look_all ha (fun x hx=>h x (List.mem_cons_of_mem _ hx)) t
end
end Go.AL
