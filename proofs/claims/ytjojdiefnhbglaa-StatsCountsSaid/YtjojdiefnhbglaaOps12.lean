/- Sorting in place, in the abstract logic: the library's contract joined to it. No condition. -/
import Derived.Test.YtjojdiefnhbglaaOps11
import Derived.Shelf.SlSortCmp.NoneTotal
set_option linter.all false
namespace Go.AL
open Go.Proofs (Enters ltOf)
open Go.Sort (SWO HoldsK putRowK putRow mapBlock putCells Holds)
section
variable {α : Type} [Inhabited α]
theorem flatK_list {enc : α → List Value} {k : Nat} (hk : ∀ x,(enc x).length = k) (l : List α) : (Go.Sort.flatK enc k l.toArray).toList = (l.map enc).flatten:=by
  have hall : ∀ e,e ∈ l.map enc → e.length = k:=fun e he=>by obtain ⟨a,_,rfl⟩:=List.mem_map.1 he;exact hk a
  have hlen:=flat_len hall
  rw [List.length_map] at hlen
  apply List.ext_getElem?
  intro t
  rcases Nat.lt_or_ge t (l.length * k) with h|h
  · have hk0 : 0 < k := by rcases Nat.eq_zero_or_pos k with e|e
                           · subst e;simp at h
                           · exact e
    have h1:=flat_get hall (t / k) (t % k) (Nat.mod_lt _ hk0)
    rw [Nat.div_add_mod' t k] at h1
    rw [h1]
    have hi : t / k < l.length:=Nat.div_lt_of_lt_mul (by rw [Nat.mul_comm];exact h)
    have hs : t < (Go.Sort.flatK enc k l.toArray).size:=by simpa using h
    have h2:=Go.Sort.get_flatK enc k l.toArray t (by simpa using h)
    rw [getElem!_pos _ t hs] at h2
    rw [Array.getElem?_toList,Array.getElem?_eq_getElem hs,h2]
    have e1 : l.toArray[t / k]! = l[t / k]:=by rw [getElem!_pos _ _ (by simpa using hi)];simp
    have hj : t % k < (enc l[t / k]).length:=by rw [hk];exact Nat.mod_lt _ hk0
    rw [e1,getElem!_pos (enc l[t / k]) (t % k) hj,List.getElem?_map,List.getElem?_eq_getElem hi]
    simp [hj]
  · rw [List.getElem?_eq_none (show (Go.Sort.flatK enc k l.toArray).toList.length ≤ t by simpa using h),List.getElem?_eq_none (show (l.map enc).flatten.length ≤ t by rw [hlen];exact h)]
theorem putCells_list {enc : α → List Value} {k : Nat} (hk : ∀ x,(enc x).length = k) (l : List α) (c sp : List Value) (hc : c.length = l.length * k) : putCells id 0 (Go.Sort.flatK enc k l.toArray) (c ++ sp).toArray = ((l.map enc).flatten ++ sp).toArray:=by
  have hfl:=flatK_list hk l
  have hsz : (Go.Sort.flatK enc k l.toArray).size = l.length * k:=by simp
  have hlen : ((l.map enc).flatten).length = l.length * k:=by rw [← hfl,Array.length_toList,hsz]
  apply Array.ext_getElem?
  intro t
  simp only [putCells,Array.getElem?_mapIdx,List.getElem?_toArray,Nat.zero_le,true_and,Nat.zero_add,Nat.sub_zero,id]
  rcases Nat.lt_or_ge t (l.length * k) with h|h
  · have h1 : (c ++ sp)[t]? = some ((c ++ sp)[t]'(by simp;omega)):=List.getElem?_eq_getElem _
    rw [h1,Option.map_some,if_pos (by rw [hsz];exact h),List.getElem?_append_left (by rw [hlen];exact h),← hfl,Array.getElem?_toList,Array.getElem?_eq_getElem (by rw [hsz];exact h),getElem!_pos _ t (by rw [hsz];exact h)]
  · rw [List.getElem?_append_right (by omega),List.getElem?_append_right (by omega),hc,hlen]
    cases hx : sp[t - l.length * k]? with
    | none=>rfl
    | some y=>rw [Option.map_some,if_neg (by rw [hsz];omega)]
theorem concSc {G : Gh} : ∀ {cs vs : List Value},ConcL G cs (vs.map AV.sc) → cs = vs
  | cs,[],h=>h.inv_nil
  | cs,v :: vs,h=>by
    obtain ⟨u,us,rfl,h1,h2⟩:=h.inv_cons
    rw [conc_sc h1,concSc h2]
theorem world_grow {w w' : World} (h : Grown w w') : ∃ q os,w' = Go.Sort.grow (w.drewN q) os:=by
  refine ⟨w'.drawn - w.drawn,w'.heap.extract w.heap.size w'.heap.size,?_⟩
  have hd : w.drawn + (w'.drawn - w.drawn) = w'.drawn:=by have:=h.drawn;omega
  have hh : w.heap ++ w'.heap.extract w.heap.size w'.heap.size = w'.heap:=by
    apply Array.ext_getElem?
    intro i
    rcases Nat.lt_or_ge i w.heap.size with hi|hi
    · rw [Array.getElem?_append_left hi];exact (h.out i hi).symm
    · rw [Array.getElem?_append_right hi]
      have hs:=h.size
      rcases Nat.lt_or_ge i w'.heap.size with hj|hj
      · rw [Array.getElem?_extract,if_pos (by omega)];congr 1;omega
      · rw [Array.getElem?_eq_none (by simp;omega),Array.getElem?_eq_none hj]
  obtain ⟨a,b,c,d,e⟩:=w'
  obtain ⟨a',b',c',d',e'⟩:=w
  have h1:=h.tape
  have h2:=h.os
  have h3:=h.output
  simp only at h1 h2 h3 hd hh
  subst h1;subst h2;subst h3
  simp only [Go.Sort.grow,World.drewN,hd,hh]
theorem sort_ac {P : Program} [GlobF P] {ρ : Shelf.Ren} (L : Go.Proofs.SlLaysF0.n6 P ρ) {k : Nat} (aE : ∀ w,(isAgg (ρ.t 24)).run P w = .ok true w) (zE : ∀ w,(Go.sizeOf (ρ.t 24)).run P w = .ok k w) (enc : α → List Value) (f : α → List AV) (hf : ∀ a,f a = (enc a).map .sc)
    (hk : ∀ x,(enc x).length = k) (h1 : ∀ x,∀ v ∈ enc x,v.oneCell' = true) (cf : α → α → Int) (hO : SWO (ltOf cf)) (hT : ∀ x y,ltOf cf x y = false → ltOf cf y x = false → x = y) (g : FuncId) (ys : List AV) (F : AV)
    (hF : ∀ G v,Conc G v F → ∃ cb : List Value,v = .func (.func g) #[] cb.toArray ∧ ConcL (Gh.of G.imm) cb ys) (hcmp : ∀ x y,PC P g ([.ag (f x),.ag (f y)] ++ ys) (.sc (.int .i64 (cf x y))))
    {h : List AObj} {r : Nat} {l : List α} {sp : List AV} (hr0 : h[r]? = some (.cells ((l.map f).flatten ++ sp))) (hne : 0 < l.length) (hl : l.length < 4611686018427387904) :
    AC P (ρ.f 6) [.mr r 0 l.length,F] h (fun v h'=>v = .tu [] ∧ h' = h.set r (.cells (((l.mergeSort fun x y=>!(ltOf cf y x)).map f).flatten ++ sp))):=by
  refine ⟨L.f6.enters rfl,fun B G w vs hr hc=>?_⟩
  obtain ⟨v1,vs1,rfl,c1,hc1⟩:=hc.inv_cons
  obtain ⟨v2,vs2,rfl,c2,hc2⟩:=hc1.inv_cons
  have:=hc2.inv_nil
  subst this
  obtain ⟨b,o',cap,rfl,hb,hcap,ho⟩:=mr_inv c1
  have ho':=ho hne
  subst ho'
  obtain ⟨cb,rfl,hcb⟩:=hF G v2 c2
  obtain ⟨b',c,ty,g1,g2,g3,g4,g5⟩:=hr.obj r _ hr0
  rw [hb] at g1;cases g1
  have hblk : b < w.heap.size:=(Array.getElem?_eq_some_iff.1 g3).1
  have hfl : (l.map f).flatten = ((l.map enc).flatten).map AV.sc:=by
    rw [List.map_flatten,List.map_map];congr 1;exact List.map_congr_left fun a _=>hf a
  obtain ⟨n,hnd⟩ : ∃ n,n = l.length * k:=⟨_,rfl⟩
  have hlenE : ((l.map enc).flatten).length = n:=by
    have:=flat_len (els:=l.map enc) (k:=k) fun e he=>by obtain ⟨a,_,rfl⟩:=List.mem_map.1 he;exact hk a
    rwa [List.length_map,← hnd] at this
  have hlm : (((l.map enc).flatten).map AV.sc).length = n:=by rw [List.length_map,hlenE]
  have hcn : c.take n = (l.map enc).flatten:=by
    have:=g4.take n
    rw [hfl,List.take_append_of_le_length (Nat.le_of_eq hlm.symm),List.take_of_length_le (Nat.le_of_eq hlm)] at this
    exact concSc this
  have hsp : ConcL G (c.drop n) sp:=by
    have:=g4.drop n
    rwa [hfl,List.drop_append_of_le_length (Nat.le_of_eq hlm.symm),List.drop_of_length_le (Nat.le_of_eq hlm),List.nil_append] at this
  have hcs : c = (l.map enc).flatten ++ c.drop n:=by rw [← hcn,List.take_append_drop]
  have hnl : n ≤ c.length:=by have:=congrArg List.length hcs;rw [List.length_append,hlenE] at this;omega
  have hH : HoldsK enc k w b 0 l.toArray:=by
    intro j hj
    have hj' : j < n:=by rw [hnd];simpa using hj
    have e1:=flatK_list hk l
    have e2 : (Go.Sort.flatK enc k l.toArray)[j]! = c[j]'(by omega):=by
      rw [getElem!_pos _ j hj,← Array.getElem_toList]
      simp only [e1,← hcn,List.getElem_take]
    refine ⟨?_,?_⟩
    · rw [Nat.zero_add,e2]
      simp only [World.cell?,g3,Option.isSome_none,Bool.false_eq_true,if_false,id]
      simp [show j < c.length by omega]
    · simp [World.frozen?,g3]
  have hC : Go.Proofs.CmpLays P g cb.toArray enc k cf b 0 l.toArray.size w:=by
    intro m os dk hdk x y
    have him : ∀ b' o u,G.imm b' o = some u → (Go.Proofs.sortWorldK enc k w b 0 m dk os).cell? ⟨b',o,none⟩ = some u:=fun b' o u hu=>by
      have hlt:=hr.lt hu
      have hbb : b' ≠ b:=fun e=>by subst e;rw [g5 o] at hu;cases hu
      have h2 : (putRowK enc k (Go.Sort.ahead w m) b 0 dk).cell? ⟨b',o,none⟩ = some u:=by
        rw [Go.Sort.cell?_putRowK_other enc k _ b 0 dk ⟨b',o,none⟩ hbb]
        exact hr.imm _ _ _ hu
      unfold Go.Proofs.sortWorldK
      unfold World.cell? at h2 ⊢
      have : (Go.Sort.grow (putRowK enc k (Go.Sort.ahead w m) b 0 dk) os).heap[b']? = (putRowK enc k (Go.Sort.ahead w m) b 0 dk).heap[b']?:=by
        show ((putRowK enc k (Go.Sort.ahead w m) b 0 dk).heap ++ os)[b']? = _
        rw [Array.getElem?_append_left (by simp [putRowK,putRow,mapBlock,Go.Sort.ahead];exact hlt)]
      rw [this];exact h2
    have hgo : ∀ b' x,GlobF.o P b' = some x → (Go.Proofs.sortWorldK enc k w b 0 m dk os).heap[b']? = some x:=fun b' x hx=>by
      have h1:=B.ok2 b' x hx
      have hlt:=(Array.getElem?_eq_some_iff.1 h1).1
      have hw:=hr.globW.o b' x hx
      have hlt' : b' < w.heap.size:=Nat.lt_of_lt_of_le hlt hr.size
      have hbb : b' ≠ b:=by omega
      unfold Go.Proofs.sortWorldK
      have : (Go.Sort.grow (putRowK enc k (Go.Sort.ahead w m) b 0 dk) os).heap[b']? = (putRowK enc k (Go.Sort.ahead w m) b 0 dk).heap[b']?:=by
        show ((putRowK enc k (Go.Sort.ahead w m) b 0 dk).heap ++ os)[b']? = _
        rw [Array.getElem?_append_left (by simp [putRowK,putRow,mapBlock,Go.Sort.ahead];exact hlt')]
      rw [this]
      have : (putRowK enc k (Go.Sort.ahead w m) b 0 dk).heap[b']? = w.heap[b']?:=by
        simp [putRowK,putRow,mapBlock,Go.Sort.ahead,Array.getElem?_modify,Ne.symm hbb]
      rw [this];exact hw
    have hargs : ConcL (Gh.of G.imm) ([.agg (enc x).toArray,.agg (enc y).toArray] ++ cb) ([.ag (f x),.ag (f y)] ++ ys):=by
      have he : ∀ z,Conc (Gh.of G.imm) (.agg (enc z).toArray) (.ag (f z)):=fun z=>by
        rw [hf]
        exact .ag (by simp) fun i v x hv hx=>by
          rw [List.getElem?_map,hv] at hx;simp at hx;subst hx;exact .sc _
      exact ConcL.append (.cons (he x) (.cons (he y) (.nil _))) hcb
    have hcall:=(hcmp x y).2 (Go.Proofs.sortWorldK enc k w b 0 m dk os) G.imm _ ⟨hr.glob,hgo⟩ him hargs
    have e : ([Value.agg (enc x).toArray,.agg (enc y).toArray] ++ cb).toArray = #[Value.agg (enc x).toArray,.agg (enc y).toArray] ++ cb.toArray:=by simp
    rw [e] at hcall
    refine hcall.mono ?_
    rintro e w' ⟨rv,imm',rfl,hg,_,_,hv⟩
    rw [conc_sc hv]
    exact ⟨rfl,world_grow hg⟩
  have hcon:=Go.Proofs.AnyQ.slices_SortFunc_total L k aE zE enc hk h1 cf hO g cb.toArray b 0 cap l.toArray w (fun args w=>(hcmp default default).1 args w) hC hH hblk (by simpa using hl) hT
  simp only [List.size_toArray] at hcon
  refine hcon.mono ?_
  rintro e w' ⟨rfl,m,os,rfl⟩
  generalize hms : (l.mergeSort fun x y=>!(ltOf cf y x)) = ms
  have hmsl : ms.length = l.length:=by rw [← hms];exact List.length_mergeSort _
  have hrow : (putRowK enc k (Go.Sort.ahead w m) b 0 ms.toArray).heap[b]? = some (.cells ((ms.map enc).flatten ++ c.drop n).toArray ty (0,0)):=by
    simp only [putRowK,putRow,mapBlock,Go.Sort.ahead,Array.getElem?_modify,g3,if_true,Option.map_some,Go.Sort.onCells]
    rw [hcs,putCells_list hk ms _ _ (by rw [hlenE,hmsl,hnd])]
    rw [← hcs]
  have hfl2 : (ms.map f).flatten = ((ms.map enc).flatten).map AV.sc:=by
    rw [List.map_flatten,List.map_map];congr 1;exact List.map_congr_left fun a _=>hf a
  have hr1 : RH B G (h.set r (.cells ((ms.map f).flatten ++ sp))) (putRowK enc k (Go.Sort.ahead w m) b 0 ms.toArray):=by
    refine hr.set (w':=putRowK enc k (Go.Sort.ahead w m) b 0 ms.toArray) (b:=b) hr0 (by simp only [ownBlk];exact hb) g2 rfl rfl rfl (Nat.le_add_right _ _) (by simp [putRowK,putRow,mapBlock,Go.Sort.ahead]) (fun b' hb'=>?_) (fun i v hi=>by rw [g5 i] at hi;cases hi) ?_ (fun c' hc'=>?_)
    · show (w.heap.modify b _)[b']? = _
      rw [Array.getElem?_modify,if_neg (Ne.symm hb')]
    · refine ⟨b,_,ty,hb,g2,hrow,?_,g5⟩
      rw [hfl2]
      refine ConcL.append ⟨(List.length_map (f:=AV.sc)).symm,fun i v x hv hx=>?_⟩ hsp
      rw [List.getElem?_map,hv] at hx;simp at hx;subst hx;exact .sc _
    · simp only [ownBlk] at hc';rw [hb] at hc';exact (Option.some.inj hc').symm
  have hgr : Grown (putRowK enc k (Go.Sort.ahead w m) b 0 ms.toArray) (Go.Proofs.sortWorldK enc k w b 0 m ms.toArray os):=⟨rfl,rfl,rfl,Nat.le_refl _,by simp [Go.Proofs.sortWorldK],fun b' hb'=>by
    show ((putRowK enc k (Go.Sort.ahead w m) b 0 ms.toArray).heap ++ os)[b']? = _
    rw [Array.getElem?_append_left hb']⟩
  obtain ⟨hle,hr2⟩:=hr1.grown (imm':=G.imm) hgr (fun _ _ _=>rfl) (fun b' o u hu=>by
    have h2:=hr1.imm b' o u hu
    unfold World.cell? at h2 ⊢
    rw [hgr.out b' (hr1.lt hu)];exact h2)
  exact ⟨_,G,_,.tu [],rfl,.refl G,hr2,.tu rfl (fun i v x hv=>by simp at hv),rfl,rfl⟩
theorem sort_none_pc {P : Program} [GlobF P] {ρ : Shelf.Ren} (L : Go.Proofs.SlLaysF0.n6 P ρ) (k : Nat) (F : AV) : PC P (ρ.f 6) [.sl none k [],F] (.tu []):=by
  refine ⟨L.f6.enters rfl,fun w imm vs hgl him hc=>?_⟩
  obtain ⟨v1,vs1,rfl,c1,hc1⟩:=hc.inv_cons
  obtain ⟨v2,vs2,rfl,c2,hc2⟩:=hc1.inv_cons
  have:=hc2.inv_nil
  subst this
  obtain ⟨p,cap,rfl⟩ : ∃ p cap,v1 = .slice p 0 cap:=by
    cases c1 with
    | sl us hk hcap him hc ht=>exact ⟨_,_,rfl⟩
    | slnil ht=>exact ⟨_,_,rfl⟩
    | slz=>exact ⟨_,_,rfl⟩
  refine (Go.Proofs.AnyF.slices_SortFunc_none L p cap v2 w).mono ?_
  rintro e w' ⟨rfl,rfl⟩
  exact ⟨_,imm,rfl,⟨rfl,rfl,rfl,Nat.le_refl _,Nat.le_refl _,fun _ _=>rfl⟩,fun _ _ _=>rfl,him,.tu rfl (fun i v x hv=>by simp at hv)⟩
end
end Go.AL
