/- Rules of the abstract logic: a row sorted in place whose elements hold slices (no two stand alike). No condition. -/
import Derived.Test.YtjojdiefnhbglaaGreatOps12
set_option linter.all false
namespace Go.AL
open Go.Proofs (Enters ltOf)
open Go.Sort (SWO HoldsK putRowK putRow mapBlock putCells Holds)
theorem ConcL.one {G : Gh} : ∀ {vs : List Value} {xs : List AV},ConcL G vs xs → (∀ x,x ∈ xs → x.one = true) → ∀ v,v ∈ vs → v.oneCell' = true
  | [],_,_,_,v,hv=>by cases hv
  | u :: us,[],h,_,_,_=>by have:=h.1;simp at this
  | u :: us,x :: xs,h,ho,v,hv=>by
    obtain ⟨u',us',e,h1,h2⟩:=h.inv_cons
    cases e
    rcases List.mem_cons.1 hv with rfl|hv
    · exact AV.one_ok h1 (ho x (.head _))
    · exact ConcL.one h2 (fun y hy=>ho y (.tail _ hy)) v hv
def cutK (c : List Value) (k i : Nat) : List Value:=(c.drop (i * k)).take k
theorem cutK_flat (c : List Value) (k : Nat) : ∀ n : Nat,n * k ≤ c.length → ((List.range n).map (cutK c k)).flatten = c.take (n * k)
  | 0,_=>by simp
  | n + 1,h=>by
    have h1 : n * k ≤ c.length:=by rw [Nat.succ_mul] at h;omega
    rw [List.range_succ,List.map_append,List.flatten_append,cutK_flat c k n h1,List.map_cons,List.map_nil,List.flatten_cons,List.flatten_nil,List.append_nil,Nat.succ_mul,List.take_add];rfl
theorem cutK_len {c : List Value} {k n i : Nat} (h : n * k ≤ c.length) (hi : i < n) : (cutK c k i).length = k:=by
  unfold cutK
  have : (i + 1) * k ≤ n * k:=Nat.mul_le_mul_right k hi
  rw [Nat.succ_mul] at this
  rw [List.length_take,List.length_drop];omega
section
theorem cut_flat {α : Type} {f : α → List AV} {k : Nat} (hf : ∀ a,(f a).length = k) (sp : List AV) : ∀ {l : List α} {i : Nat} (hi : i < l.length),(((l.map f).flatten ++ sp).drop (i * k)).take k = f l[i]
  | [],i,hi=>by simp at hi
  | a :: l,0,hi=>by
    rw [Nat.zero_mul,List.drop_zero,List.map_cons,List.flatten_cons,List.append_assoc,List.take_append_of_le_length (by rw [hf];exact Nat.le_refl _),← hf a,List.take_length];rfl
  | a :: l,i + 1,hi=>by
    have e : ∀ X : List AV,(f a ++ X).drop (i * k + k) = X.drop (i * k):=fun X=>by rw [List.drop_append,List.drop_of_length_le (by rw [hf];omega),List.nil_append,hf,Nat.add_sub_cancel]
    rw [List.map_cons,List.flatten_cons,List.append_assoc,Nat.succ_mul,e]
    exact cut_flat hf sp (l:=l) (by simpa using hi)
theorem ConcL.flat {β : Type} {G : Gh} {enc : β → List Value} {g : β → List AV} (h : ∀ b,ConcL G (enc b) (g b)) : ∀ m : List β,ConcL G ((m.map enc).flatten) ((m.map g).flatten)
  | []=>.nil _
  | b :: m=>by simp only [List.map_cons,List.flatten_cons];exact ConcL.append (h b) (ConcL.flat h m)
def allF (n : Nat) : List (Fin n):=List.ofFn fun i=>i
theorem allF_len (n : Nat) : (allF n).length = n:=by unfold allF;simp
theorem allF_map {β : Type} (n : Nat) (g : Nat → β) : (allF n).map (fun i=>g i.val) = (List.range n).map g:=by
  refine List.ext_getElem (by simp [allF]) fun i h1 h2=>by simp [allF]
theorem allF_get {α : Type} (l : List α) : (allF l.length).map (fun i=>l[i.val]) = l:=by
  refine List.ext_getElem (by simp [allF]) fun i h1 h2=>by simp [allF]
variable {α : Type}
theorem sortG_ac {P : Program} [GlobF P] {ρ : Shelf.Ren} (L : Go.Proofs.SlLaysF0.n6 P ρ) {k : Nat} (aE : ∀ w,(isAgg (ρ.t 24)).run P w = .ok true w) (zE : ∀ w,(Go.sizeOf (ρ.t 24)).run P w = .ok k w) (f : α → List AV)
    (hf : ∀ a,(f a).length = k) (hone : ∀ a x,x ∈ f a → x.one = true) (hp : ∀ a,PurL (f a)) (cf : α → α → Int) (hO : SWO (ltOf cf)) (g : FuncId) (ys : List AV) (F : AV)
    (hF : ∀ G v,Conc G v F → ∃ cb : List Value,v = .func (.func g) #[] cb.toArray ∧ ConcL (Gh.of G.imm) cb ys) (hcmp : ∀ x y,PC P g ([.ag (f x),.ag (f y)] ++ ys) (.sc (.int .i64 (cf x y))))
    {h : List AObj} {r : Nat} {l : List α} {sp : List AV} (hT : ∀ i j (hi : i < l.length) (hj : j < l.length),ltOf cf l[i] l[j] = false → ltOf cf l[j] l[i] = false → i = j)
    (hr0 : h[r]? = some (.cells ((l.map f).flatten ++ sp))) (hne : 0 < l.length) (hl : l.length < 4611686018427387904) :
    AC P (ρ.f 6) [.mr r 0 l.length,F] h (fun v h'=>v = .tu [] ∧ ∃ m : List α,m.Perm l ∧ (m.Pairwise fun a b=>ltOf cf b a = false) ∧ h' = h.set r (.cells ((m.map f).flatten ++ sp))):=by
  refine ⟨L.f6.enters rfl,fun B G w vs hr hc=>?_⟩
  obtain ⟨v1,vs1,rfl,c1,hc1⟩:=hc.inv_cons
  obtain ⟨v2,vs2,rfl,c2,hc2⟩:=hc1.inv_cons
  have:=hc2.inv_nil
  subst this
  obtain ⟨b,o',cap,rfl,hb,hcap,ho⟩:=mr_inv c1
  have ho':=ho hne
  subst ho'
  obtain ⟨cb,rfl,hcb⟩:=hF G v2 c2
  obtain ⟨b',c,ty,g1,g2,g3,g4,g5⟩:=hr.obj r _ hr0
  rw [hb] at g1;cases g1
  have hblk : b < w.heap.size:=(Array.getElem?_eq_some_iff.1 g3).1
  obtain ⟨n,hnd⟩ : ∃ n,n = l.length * k:=⟨_,rfl⟩
  have hflen : ((l.map f).flatten).length = n:=by
    have:=flat_len (els:=l.map f) (k:=k) fun e he=>by obtain ⟨a,_,rfl⟩:=List.mem_map.1 he;exact hf a
    rwa [List.length_map,← hnd] at this
  have hnl : n ≤ c.length:=by rw [g4.1,List.length_append,hflen];omega
  have hnl' : l.length * k ≤ c.length:=hnd ▸ hnl
  let enc : Fin l.length → List Value:=fun i=>cutK c k i.val
  let gf : Fin l.length → List AV:=fun i=>f l[i.val]
  let cg : Fin l.length → Fin l.length → Int:=fun i j=>cf l[i.val] l[j.val]
  letI : Inhabited (Fin l.length):=⟨⟨0,hne⟩⟩
  have hk : ∀ x,(enc x).length = k:=fun x=>cutK_len hnl' x.isLt
  have hel : ∀ x,ConcL G (enc x) (gf x):=fun x=>by
    have:=(g4.drop (x.val * k)).take k
    rwa [cut_flat hf sp x.isLt] at this
  have h1 : ∀ x,∀ v ∈ enc x,v.oneCell' = true:=fun x=>ConcL.one (hel x) (hone _)
  have hO' : SWO (ltOf cg):=⟨fun x=>hO.irrefl _,fun x y z=>hO.trans _ _ _,fun x y z=>hO.ntrans _ _ _⟩
  have hT' : ∀ x y,ltOf cg x y = false → ltOf cg y x = false → x = y:=fun x y a1 a2=>Fin.ext (hT x.val y.val x.isLt y.isLt a1 a2)
  have hcn : c.take n = ((allF l.length).map enc).flatten:=by
    rw [show (allF l.length).map enc = (List.range l.length).map (cutK c k) from allF_map _ _,cutK_flat c k _ hnl',hnd]
  have hlenE : (((allF l.length).map enc).flatten).length = n:=by rw [← hcn,List.length_take];omega
  have hsp : ConcL G (c.drop n) sp:=by
    have:=g4.drop n
    rwa [List.drop_append_of_le_length (Nat.le_of_eq hflen.symm),List.drop_of_length_le (Nat.le_of_eq hflen),List.nil_append] at this
  have hcs : c = ((allF l.length).map enc).flatten ++ c.drop n:=by rw [← hcn,List.take_append_drop]
  have hH : HoldsK enc k w b 0 (allF l.length).toArray:=by
    intro j hj
    have hj' : j < n:=by rw [hnd];simpa [allF_len] using hj
    have e1:=flatK_list hk (allF l.length)
    have e2 : (Go.Sort.flatK enc k (allF l.length).toArray)[j]! = c[j]'(by omega):=by
      rw [getElem!_pos _ j hj,← Array.getElem_toList]
      simp only [e1,← hcn,List.getElem_take]
    refine ⟨?_,?_⟩
    · rw [Nat.zero_add,e2]
      simp only [World.cell?,g3,Option.isSome_none,Bool.false_eq_true,if_false,id]
      simp [show j < c.length by omega]
    · simp [World.frozen?,g3]
  have hC : Go.Proofs.CmpLays P g cb.toArray enc k cg b 0 (allF l.length).toArray.size w:=by
    intro m os dk hdk x y
    have him : ∀ b' o u,G.imm b' o = some u → (Go.Proofs.sortWorldK enc k w b 0 m dk os).cell? ⟨b',o,none⟩ = some u:=fun b' o u hu=>by
      have hlt:=hr.lt hu
      have hbb : b' ≠ b:=fun e=>by subst e;rw [g5 o] at hu;cases hu
      have h2 : (putRowK enc k (Go.Sort.ahead w m) b 0 dk).cell? ⟨b',o,none⟩ = some u:=by
        rw [Go.Sort.cell?_putRowK_other enc k _ b 0 dk ⟨b',o,none⟩ hbb]
        exact hr.imm _ _ _ hu
      unfold Go.Proofs.sortWorldK
      unfold World.cell? at h2 ⊢
      have : (Go.Sort.grow (putRowK enc k (Go.Sort.ahead w m) b 0 dk) os).heap[b']? = (putRowK enc k (Go.Sort.ahead w m) b 0 dk).heap[b']?:=by
        show ((putRowK enc k (Go.Sort.ahead w m) b 0 dk).heap ++ os)[b']? = _
        rw [Array.getElem?_append_left (by simp [putRowK,putRow,mapBlock,Go.Sort.ahead];exact hlt)]
      rw [this];exact h2
    have hgo : ∀ b' x,GlobF.o P b' = some x → (Go.Proofs.sortWorldK enc k w b 0 m dk os).heap[b']? = some x:=fun b' x hx=>by
      have h1:=B.ok2 b' x hx
      have hlt:=(Array.getElem?_eq_some_iff.1 h1).1
      have hw:=hr.globW.o b' x hx
      have hlt' : b' < w.heap.size:=Nat.lt_of_lt_of_le hlt hr.size
      have hbb : b' ≠ b:=by omega
      unfold Go.Proofs.sortWorldK
      have : (Go.Sort.grow (putRowK enc k (Go.Sort.ahead w m) b 0 dk) os).heap[b']? = (putRowK enc k (Go.Sort.ahead w m) b 0 dk).heap[b']?:=by
        show ((putRowK enc k (Go.Sort.ahead w m) b 0 dk).heap ++ os)[b']? = _
        rw [Array.getElem?_append_left (by simp [putRowK,putRow,mapBlock,Go.Sort.ahead];exact hlt')]
      rw [this]
      have : (putRowK enc k (Go.Sort.ahead w m) b 0 dk).heap[b']? = w.heap[b']?:=by
        simp [putRowK,putRow,mapBlock,Go.Sort.ahead,Array.getElem?_modify,Ne.symm hbb]
      rw [this];exact hw
    have hargs : ConcL (Gh.of G.imm) ([.agg (enc x).toArray,.agg (enc y).toArray] ++ cb) ([.ag (gf x),.ag (gf y)] ++ ys):=by
      have he : ∀ z,Conc (Gh.of G.imm) (.agg (enc z).toArray) (.ag (gf z)):=fun z =>
        .ag (by simpa using (hel z).1) fun i v x hv hx=>(hp _).h x (List.mem_of_getElem? hx) G v ((hel z).2 i v x (by simpa using hv) hx)
      exact ConcL.append (.cons (he x) (.cons (he y) (.nil _))) hcb
    have hcall:=(hcmp l[x.val] l[y.val]).2 (Go.Proofs.sortWorldK enc k w b 0 m dk os) G.imm _ ⟨hr.glob,hgo⟩ him hargs
    have e : ([Value.agg (enc x).toArray,.agg (enc y).toArray] ++ cb).toArray = #[Value.agg (enc x).toArray,.agg (enc y).toArray] ++ cb.toArray:=by simp
    rw [e] at hcall
    refine hcall.mono ?_
    rintro e w' ⟨rv,imm',rfl,hg,_,_,hv⟩
    rw [conc_sc hv]
    exact ⟨rfl,world_grow hg⟩
  have hcon:=Go.Proofs.AnyQ.slices_SortFunc_total L k aE zE enc hk h1 cg hO' g cb.toArray b 0 cap (allF l.length).toArray w (fun args w=>(hcmp l[0] l[0]).1 args w) hC hH hblk (by simpa [allF_len] using hl) hT'
  simp only [List.size_toArray,allF_len] at hcon
  refine hcon.mono ?_
  rintro e w' ⟨rfl,m,os,rfl⟩
  have hpm:=List.mergeSort_perm (allF l.length) fun x y=>!(ltOf cg y x)
  have hso:=List.pairwise_mergeSort (le:=fun x y=>!(ltOf cg y x)) (fun x y z a1 a2=>by simp only [Bool.not_eq_true'] at a1 a2 ⊢;exact hO'.ntrans _ _ _ a2 a1) (fun x y=>by
    show (!(ltOf cg y x) || !(ltOf cg x y)) = true
    cases e : ltOf cg y x with
    | false=>rfl
    | true =>
      cases e2 : ltOf cg x y with
      | false=>rfl
      | true=>have:=hO'.trans _ _ _ e e2;rw [hO'.irrefl] at this;cases this) (allF l.length)
  generalize hms : ((allF l.length).mergeSort fun x y=>!(ltOf cg y x)) = ms at *
  have hmsl : ms.length = l.length:=by rw [hpm.length_eq,allF_len]
  have hrow : (putRowK enc k (Go.Sort.ahead w m) b 0 ms.toArray).heap[b]? = some (.cells ((ms.map enc).flatten ++ c.drop n).toArray ty (0,0)):=by
    simp only [putRowK,putRow,mapBlock,Go.Sort.ahead,Array.getElem?_modify,g3,if_true,Option.map_some,Go.Sort.onCells]
    rw [hcs,putCells_list hk ms _ _ (by rw [hlenE,hmsl,hnd])]
    rw [← hcs]
  have hfl2 : ConcL G ((ms.map enc).flatten) (((ms.map fun i=>l[i.val]).map f).flatten):=by rw [List.map_map];exact ConcL.flat hel ms
  have hr1 : RH B G (h.set r (.cells (((ms.map fun i=>l[i.val]).map f).flatten ++ sp))) (putRowK enc k (Go.Sort.ahead w m) b 0 ms.toArray):=by
    refine hr.set (w':=putRowK enc k (Go.Sort.ahead w m) b 0 ms.toArray) (b:=b) hr0 (by simp only [ownBlk];exact hb) g2 rfl rfl rfl (Nat.le_add_right _ _) (by simp [putRowK,putRow,mapBlock,Go.Sort.ahead]) (fun b' hb'=>?_) (fun i v hi=>by rw [g5 i] at hi;cases hi) ?_ (fun c' hc'=>?_)
    · show (w.heap.modify b _)[b']? = _
      rw [Array.getElem?_modify,if_neg (Ne.symm hb')]
    · refine ⟨b,_,ty,hb,g2,hrow,?_,g5⟩
      exact ConcL.append hfl2 hsp
    · simp only [ownBlk] at hc';rw [hb] at hc';exact (Option.some.inj hc').symm
  have hgr : Grown (putRowK enc k (Go.Sort.ahead w m) b 0 ms.toArray) (Go.Proofs.sortWorldK enc k w b 0 m ms.toArray os):=⟨rfl,rfl,rfl,Nat.le_refl _,by simp [Go.Proofs.sortWorldK],fun b' hb'=>by
    show ((putRowK enc k (Go.Sort.ahead w m) b 0 ms.toArray).heap ++ os)[b']? = _
    rw [Array.getElem?_append_left hb']⟩
  obtain ⟨hle,hr2⟩:=hr1.grown (imm':=G.imm) hgr (fun _ _ _=>rfl) (fun b' o u hu=>by
    have h2:=hr1.imm b' o u hu
    unfold World.cell? at h2 ⊢
    rw [hgr.out b' (hr1.lt hu)];exact h2)
  refine ⟨_,G,_,.tu [],rfl,.refl G,hr2,.tu rfl (fun i v x hv=>by simp at hv),rfl,_,?_,?_,rfl⟩
  · have:=hpm.map (fun i=>l[i.val]);rwa [allF_get] at this
  · refine List.pairwise_map.2 (hso.imp fun {a b} hab=>?_)
    simpa [cg,ltOf] using hab
end
end Go.AL
