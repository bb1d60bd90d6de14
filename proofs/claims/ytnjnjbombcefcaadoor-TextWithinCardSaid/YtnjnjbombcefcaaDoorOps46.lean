/- Rules of the abstract logic: slices of known capacity: their length, their elements' places, appending (in place; in a new row) where an order is open; a row in a box's cell turned to such a slice. No condition. -/
import Derived.Test.YtnjnjbombcefcaaDoorOps26
import Derived.Test.YtnjnjbombcefcaaDoorOps11
import Derived.Test.YtnjnjbombcefcaaDoorDraw
import Derived.Test.YtnjnjbombcefcaaDoorOps17
set_option linter.all false
namespace Go.AL
section
variable {P : Program} [GlobF P] {fr : Option Nat} {N : Nat} {Q : Exit → AS → Prop} {ops : Array Oper} {rest : List Oper} {rg : List (Nat × AV)} {h : List AObj} {mk : Mk} {ty : TypeId} {pos : String} {af : Array Edge} {d : Nat} {dst : Option Nat} {gd : Option (Nat × Bool)} {ρ : Operand → Option AV}
theorem D_lenC {t e : TypeId} {x : Operand} {r n c : Nat} [hu : Und P t (.slice e)] (hx : ρ x = some (.mc r n c)) : PPOp P { dst:=dst,op:=.call { callee:=.builtin .len,args:=#[x],argTypes:=#[t] },type:=ty,pos:=pos,after:=af,guard:=gd } ρ (.sc (.int .i64 (n : Int))) :=
  PPOp.val (by simp) (fun B G act w hR E=>⟨.int .i64 n,exec_len _ (by
    obtain ⟨b,hv,_⟩:=mc_inv (E x (by first|exact List.Mem.head _|exact List.Mem.tail _ (List.Mem.head _)) _ hx)
    rw [hv];exact run_len_sl hu.h),.sc _⟩)
theorem D_ixC {t e : TypeId} {x ix : Operand} {r n c k : Nat} {kk : IntKind} {i : Int} [hu : Und P t (.slice e)] [hs : Siz P e k] (hx : ρ x = some (.mc r n c)) (hi : ρ ix = some (.sc (.int kk i))) (h0 : 0 ≤ i) (h1 : i < n) :
    PPOp P { dst:=dst,op:=.indexAddr t x ix,type:=ty,pos:=pos,after:=af,guard:=gd } ρ (.bp r (i.toNat * k)) :=
  PPOp.val (by simp) (fun B G a w hR E=>by
    obtain ⟨g,hv,hb,_⟩:=mc_inv (E x (by first|exact List.Mem.head _|exact List.Mem.tail _ (List.Mem.head _)) _ hx)
    exact ⟨.pointer (some ⟨g,0 + i.toNat * k,none⟩),by simp [execOp,Instr.indexAt,hv,conc_sc (E ix (by first|exact List.Mem.head _|exact List.Mem.tail _ (List.Mem.head _)) _ hi),asIntOf,run_underlying hu.h,hs.h,h0,h1,add_none],by rw [Nat.zero_add];exact .bp hb⟩)
theorem sl_new_inv {G : Gh} {v : Value} {tok' : Option Nat} {k : Nat} {els' : List (List AV)} (ey : Conc G v (.sl tok' k els')) (hm : els' ≠ []) : ∃ b o c news,v = .slice (some ⟨b,o,none⟩) els'.length c ∧ (∀ e,e ∈ els' → e.length = k) ∧ news.length = els'.length * k ∧ ConcL G news els'.flatten ∧ ∀ j u,news[j]? = some u → G.imm b (o + j) = some u:=by
  cases ey with
  | @sl b o cap _ _ _ us hk hcap him hc ht =>
    obtain ⟨vs,g1,g2,g3⟩:=sl_flat us hk him hc
    exact ⟨b,o,cap,vs,rfl,hk,g1,g2,g3⟩
  | slnil ht=>exact absurd rfl hm
  | slz=>exact absurd rfl hm
theorem S_appC {t e r n cap k by_ : Nat} {x y : Operand} {els' : List (List AV)} {xs : List AV} {tok' : Option Nat} {z : Value} [hu : Und P t (.slice e)] [hi : Inf P e k by_ z] [hone : OneLL els'] (hx : ρ x = some (.mc r n cap)) (hy : ρ y = some (.sl tok' k els'))
    (ht : h[r]? = some (.cells xs (some e))) (hl : xs.length = cap * k) (hm : els' ≠ []) (hroom : n + els'.length ≤ cap) :
    POpS P { dst:=some d,op:=.call { callee:=.builtin .append,args:=#[x,y],argTypes:=#[t,t] },type:=ty,pos:=pos,after:=af,guard:=gd } ρ h [r] (.mc r (n + els'.length) cap) (some (r,.cells (xs.take (n * k) ++ els'.flatten ++ xs.drop (n * k + els'.flatten.length)) (some e))):=by
  intro fr B G a w h' hl' hsl hR E
  have ex:=E x (by simp [Op.operands,Call.operands]) _ hx
  have ey:=E y (by simp [Op.operands,Call.operands]) _ hy
  have hr' : h'[r]? = some (.cells xs (some e)):=(hsl r (.head _)).trans ht
  obtain ⟨i,i1,i2,i3,i4⟩:=hi.h
  obtain ⟨g,vx,hbk,hnc⟩:=mc_inv ex
  obtain ⟨g',c,ty',g1,g2,g3,g4,g5⟩:=hR.obj r _ hr'
  rw [hbk] at g1;cases g1
  have hty : ty'.1 = e:=ty'.2 e rfl
  rw [hty] at g3
  obtain ⟨b,o,cc,news,vy,hky,hnl,hncc,hni⟩:=sl_new_inv ey hm
  have hone':=OneLL.flat hncc
  have hnw : ∀ j u,news[j]? = some u → w.cell? ((⟨b,o,none⟩ : Addr).add j) = some u:=fun j u hu=>by rw [add_none];exact hR.imm _ _ _ (hni j u hu)
  have hcl : c.length = cap * k:=g4.1.trans hl
  have hfit : n * i.size + news.length ≤ c.toArray.size:=by rw [i2,hnl,List.size_toArray,hcl,← Nat.add_mul];exact Nat.mul_le_mul_right _ hroom
  have hrun:=run_append_room (P:=P) w t ty e i hu.h i1 g n cap c.toArray g3 ⟨b,o,none⟩ els'.length cc news (by rw [i2];exact hnl) hnw hone' hroom hfit
  rw [i2] at hrun hfit
  refine ⟨fun f _=>fence_fn fr f,?_⟩
  rw [Oper.semAt_eq _ _ _ (by simp)]
  rw [exec_append a (by rw [vx,vy];exact hrun)]
  have hconc : ConcL G (c.toArray.toList.take (n * k) ++ news ++ c.toArray.toList.drop (n * k + news.length)) (xs.take (n * k) ++ els'.flatten ++ xs.drop (n * k + els'.flatten.length)):=by
    rw [← hncc.1]
    exact ConcL.append (ConcL.append (g4.take _) hncc) (g4.drop _)
  refine ⟨_,G,rfl,.refl G,?_,.mc hbk hroom⟩
  refine hR.set (w':=w.setRow g (c.toArray.toList.take (n * k) ++ news ++ c.toArray.toList.drop (n * k + news.length)).toArray) (b:=g) hr' hbk g2 rfl rfl rfl (Nat.le_refl _) (by simp) (fun b hb=>setRow_other _ _ _ _ hb) (fun i v hi=>by rw [g5 i] at hi;cases hi) ?_ (fun c' hc'=>?_)
  · exact ⟨g,_,⟨e,fun _ e=>by cases e;rfl⟩,hbk,g2,setRow_heap w g c.toArray _ e (0,0) g3,hconc,g5⟩
  · simp only [ownBlk] at hc';rw [hbk] at hc';exact (Option.some.inj hc').symm
theorem RH.newRow {B : Base P} {G : Gh} {h' : List AObj} {w : World} {r k e cap : Nat} {els : List (List AV)} {c : List Value} (hR : RH B G h' w) (hr' : h'[r]? = some .free) (hk' : ∀ x,x ∈ els → x.length = k) (hn : els.length ≤ cap) (hcm : cap ≤ maxLen) (hcl : c.length = cap * k) (hc : ConcL G (c.take (els.length * k)) els.flatten) :
    ∃ G',G.le G' ∧ RH B G' (h'.set r (.row k e els)) (w.drew.alloc (.cells c.toArray e)) ∧ Conc G' (.slice (some ⟨w.heap.size,0,none⟩) els.length cap) (rowA r els.length):=by
  have hrl : r < h'.length:=(List.getElem?_eq_some_iff.1 hr').1
  obtain ⟨f1,f2⟩:=hR.obj r _ hr'
  let G' : Gh:=⟨G.imm,fun q=>if q = r then some w.heap.size else G.blk q,fun q j=>if q = r ∧ j = els.length then some (.slice (some ⟨w.heap.size,0,none⟩) els.length cap) else G.tl q j⟩
  have hle : G.le G':=⟨fun _ _ _ e=>e,fun q b' e=>by
      show (if q = r then _ else G.blk q) = some b'
      rw [if_neg fun h=>by subst h;rw [f1] at e;cases e];exact e,fun q j v e=>by
      show (if q = r ∧ j = els.length then _ else G.tl q j) = some v
      rw [if_neg fun h=>by obtain ⟨rfl,rfl⟩:=h;rw [f2] at e;cases e];exact e⟩
  have himm : ∀ j,G.imm w.heap.size j = none:=fun j=>by
    cases hi : G.imm w.heap.size j with
    | none=>rfl
    | some v=>exact absurd (hR.lt hi) (by omega)
  have hblk : ∀ b',b' < w.heap.size → (w.drew.alloc (.cells c.toArray e)).heap[b']? = w.heap[b']?:=fun b' hb'=>heap_alloc_old w.drew _ b' hb'
  have hnewb : (w.drew.alloc (.cells c.toArray e)).heap[w.heap.size]? = some (.cells c.toArray e (0,0)):=heap_alloc_new w.drew _
  have hset : ∀ (q : Nat) (ob x : AObj),(h'.set r ob)[q]? = some x → (q = r ∧ x = ob) ∨ (q ≠ r ∧ h'[q]? = some x):=fun q ob x hx=>by
    by_cases e : q = r
    · subst e;rw [List.getElem?_set_self hrl] at hx;exact .inl ⟨rfl,(Option.some.inj hx).symm⟩
    · rw [List.getElem?_set_ne (Ne.symm e)] at hx;exact .inr ⟨e,hx⟩
  have e1 : G'.tl r els.length = some (.slice (some ⟨w.heap.size,0,none⟩) els.length cap):=if_pos ⟨rfl,rfl⟩
  have ec : G'.blk r = some w.heap.size:=if_pos rfl
  have hnb : ∀ q,q ≠ r → G'.blk q = G.blk q:=fun q hq=>if_neg hq
  refine ⟨G',hle,?_,rowA_mk e1 hn⟩
  refine hR.turn (hR.base.trans hle) rfl rfl rfl (Nat.le_succ _) (by simp) (fun b' hb'=>hblk b' (Nat.lt_of_lt_of_le hb' hR.size)) (fun b' o' hb'=>rfl) (fun b' o' v hv=>?_) (fun q x hx=>?_) (fun q x b' hx hb'=>?_) (fun q q' x x' b' hx hx' hb1 hb2 hlt=>?_) (fun q hq=>?_)
  · have e1 : (w.drew.alloc (.cells c.toArray e)).cell? ⟨b',o',none⟩ = w.cell? ⟨b',o',none⟩:=by
      simp only [World.cell?];rw [hblk b' (hR.lt hv)]
    exact e1.trans (hR.imm _ _ _ hv)
  · rcases hset q _ x hx with ⟨rfl,rfl⟩ | ⟨hne,hx⟩
    · refine ⟨fun j hj=>?_,hk',.inr ⟨w.heap.size,cap,c,e1,hR.size,hnewb,hn,hcm,hcl,hc.mono hle,himm,ec⟩⟩
      show (if q = q ∧ j = els.length then _ else G.tl q j) = none
      rw [if_neg fun h=>by omega];exact f2 j
    · exact (hR.obj q x hx).keep hle (hnb q hne) (fun j=>if_neg fun h=>hne h.1) fun b' hb' hlt=>⟨hblk b' hlt,fun j hj=>hj⟩
  · rcases hset q _ x hx with ⟨rfl,rfl⟩ | ⟨hne,hx⟩
    · simp only [ownBlk] at hb'
      rw [e1] at hb';simp only [slBlock,Option.some.injEq] at hb';subst hb'
      exact .inl (Nat.le_refl _)
    · rw [ownBlk.congr (G:=G) (G':=G') (hnb q hne) (fun j=>if_neg fun h=>hne h.1)] at hb';exact .inr ⟨x,hx,hb'⟩
  · have key : ∀ q x,(h'.set r (.row k e els))[q]? = some x → ownBlk G' q x = some b' → q = r:=fun q x hx hb=>by
      rcases hset q _ x hx with ⟨rfl,rfl⟩ | ⟨hne,hx⟩
      · rfl
      · rw [ownBlk.congr (G:=G) (G':=G') (hnb q hne) (fun j=>if_neg fun h=>hne h.1)] at hb
        exact absurd ((hR.obj q x hx).own hb).1 (by omega)
    rw [key q x hx hb1,key q' x' hx' hb2]
  · have hq' : h'.length ≤ q:=by simpa using hq
    obtain ⟨k1,k2⟩:=hR.fresh q hq'
    exact ⟨(hnb q (by omega)).trans k1,fun j=>by show (if q = r ∧ _ then _ else _) = none;rw [if_neg fun h=>by omega];exact k2 j⟩
theorem S_appNG {t e r n k by_ : Nat} {x y : Operand} {xv : AV} {els els' : List (List AV)} {tok' : Option Nat} {z : Value} {rs : List Nat} [hu : Und P t (.slice e)] [hi : Inf P e k by_ z] (hx : ρ x = some xv) (hy : ρ y = some (.sl tok' k els'))
    (hr : h[r]? = some .free) (hrs : r ∈ rs) (hm : els' ≠ []) (hzk : Nat.beq z.cells.size k = true) (hkx : ∀ e,e ∈ els → e.length = k) (hn : n = els.length + els'.length) (hb : n * by_ ≤ 140737488355328) (h63 : n < 4611686018427387904)
    (hold : ∀ (B : Base P) (G : Gh) (h' : List AObj) (w : World) (v : Value),(∀ r,r ∈ rs → h'[r]? = h[r]?) → RH B G h' w → Conc G v xv → (els = [] ∧ v = .slice none 0 0) ∨ ∃ g cap vs,v = .slice (some ⟨g,0,none⟩) els.length cap ∧ cap < els.length + els'.length ∧ vs.length = els.length * k ∧ ConcL G vs els.flatten ∧ ∀ j u,vs[j]? = some u → w.cell? ⟨g,j,none⟩ = some u) :
    POpS P { dst:=some d,op:=.call { callee:=.builtin .append,args:=#[x,y],argTypes:=#[t,t] },type:=ty,pos:=pos,after:=af,guard:=gd } ρ h rs (rowA r n) (some (r,.row k e (els ++ els'))):=by
  intro fr B G a w h' hl' hsl hR E
  have ex:=E x (by simp [Op.operands,Call.operands]) _ hx
  have ey:=E y (by simp [Op.operands,Call.operands]) _ hy
  have hr' : h'[r]? = some .free:=(hsl r hrs).trans hr
  have hzk' : z.cells.size = k:=Nat.eq_of_beq_eq_true hzk
  obtain ⟨i,i1,i2,i3,i4⟩:=hi.h
  obtain ⟨b,o,cc,news,vy,hky,hnl,hnc,hni⟩:=sl_new_inv ey hm
  have hmp : 0 < els'.length:=List.length_pos_iff.2 hm
  have hb' : els'.length * by_ ≤ 140737488355328:=Nat.le_trans (Nat.mul_le_mul_right _ (by omega : els'.length ≤ n)) hb
  have hnw : ∀ j u,news[j]? = some u → w.cell? ((⟨b,o,none⟩ : Addr).add j) = some u:=fun j u hu=>by rw [add_none];exact hR.imm _ _ _ (hni j u hu)
  have hlenA : (els ++ els').length = els.length + els'.length:=List.length_append
  have hkk : ∀ e,e ∈ els ++ els' → e.length = k:=fun e he=>by
    rcases List.mem_append.1 he with h|h
    · exact hkx e h
    · exact hky e h
  refine ⟨fun f _=>fence_fn fr f,?_⟩
  rw [Oper.semAt_eq _ _ _ (by simp)]
  have hrun : ∃ vs : List Value,∃ ocap,vs.length = els.length * k ∧ ConcL G vs els.flatten ∧ (Builtin.append_ #[t,t] ty #[a.eval x,a.eval y]).run P w = .ok (.slice (some ⟨w.heap.size,0,none⟩) (els.length + els'.length) (grownCap w (els.length + els'.length) ocap e))
      (w.drew.alloc (.cells (vs.toArray ++ news.toArray ++ Builtin.zeroCells z.cells (grownCap w (els.length + els'.length) ocap e - (els.length + els'.length))) e)):=by
    rcases hold B G h' w _ hsl hR ex with ⟨e0,vx⟩ | ⟨g,cap,vs,vx,hlt,hvl,q7,hcell⟩
    · have hr:=run_append_nil (P:=P) w t ty e i z hu.h i1 i4 ⟨b,o,none⟩ els'.length cc news (by rw [i2];exact hnl) hnw hmp (by omega) (by rw [i3];omega)
      subst e0
      refine ⟨[],0,by simp,.nil _,?_⟩
      rw [vx,vy];simpa using hr
    · have hr:=run_append_grow (P:=P) w t ty e i z hu.h i1 i4 ⟨g,0,none⟩ els.length cap vs (by rw [i2];exact hvl) (fun j u hu=>by
        rw [add_none,Nat.zero_add];exact hcell j u hu) ⟨b,o,none⟩ els'.length cc news (by rw [i2];exact hnl) hnw hlt (by omega) (growslice_fits (by omega) (by rw [i3,← hn];exact hb))
      exact ⟨_,cap,hvl,q7,by rw [vx,vy];exact hr⟩
  obtain ⟨vs,ocap,hvl,hvc,hrun⟩:=hrun
  have hge:=grownCap_ge w (els.length + els'.length) ocap e
  have hcm:=grownCap_le_maxLen w (els.length + els'.length) ocap e (by simp only [maxLen];omega)
  generalize grownCap w (els.length + els'.length) ocap e = cap' at hrun hge hcm
  rw [exec_append a hrun]
  have hzs0:=size_zeroCells z.cells (cap' - (els.length + els'.length))
  obtain ⟨zs,hzs⟩ : ∃ zs : List Value,Builtin.zeroCells z.cells (cap' - (els.length + els'.length)) = zs.toArray:=⟨_,Array.toArray_toList.symm⟩
  have hzl : zs.length = (cap' - (els.length + els'.length)) * k:=by rw [hzk',hzs] at hzs0;simpa using hzs0
  rw [hzs]
  have hccc : vs.toArray ++ news.toArray ++ zs.toArray = (vs ++ news ++ zs).toArray:=by simp
  rw [hccc]
  obtain ⟨G',hle,hR',hc'⟩:=hR.newRow (k:=k) (e:=e) (cap:=cap') (els:=els ++ els') (c:=vs ++ news ++ zs) hr' hkk (by rw [hlenA];exact hge) hcm (by
      rw [List.length_append,List.length_append,hvl,hnl,hzl,← Nat.add_mul,← Nat.add_mul];congr 1;omega) (by
      have e3 : (vs ++ news).length = (els ++ els').length * k:=by rw [hlenA,Nat.add_mul,← hnl,List.length_append,hvl]
      have e5 : (vs ++ news ++ zs).take ((els ++ els').length * k) = vs ++ news:=by rw [← e3];exact List.take_left
      rw [e5,List.flatten_append]
      exact hvc.append hnc)
  rw [hlenA] at hc'
  rw [hn]
  exact ⟨_,G',rfl,hle,hR',hc'⟩
theorem S_appN0 {t e n k by_ : Nat} {x y : Operand} {els' : List (List AV)} {tok' : Option Nat} {z : Value} [hu : Und P t (.slice e)] [hi : Inf P e k by_ z] (r : Nat) (hx : ρ x = some (.sc (.slice none 0 0))) (hy : ρ y = some (.sl tok' k els'))
    (hr : h[r]? = some .free) (hm : els' ≠ []) (hzk : Nat.beq z.cells.size k = true) (hn : n = els'.length) (hb : n * by_ ≤ 140737488355328) (h63 : n < 4611686018427387904) :
    POpS P { dst:=some d,op:=.call { callee:=.builtin .append,args:=#[x,y],argTypes:=#[t,t] },type:=ty,pos:=pos,after:=af,guard:=gd } ρ h [r] (rowA r n) (some (r,.row k e els')) :=
  S_appNG (els:=[]) hx hy hr (.head _) hm hzk (fun e he=>by cases he) (by simpa using hn) hb h63 fun B G h' w v _ _ hv=>.inl ⟨rfl,conc_sc hv⟩
theorem S_appN1 {t e r0 n m cap k by_ : Nat} {x y : Operand} {els els' : List (List AV)} {sp : List AV} {tok' : Option Nat} {z : Value} [hu : Und P t (.slice e)] [hi : Inf P e k by_ z] (r : Nat) (hx : ρ x = some (.mc r0 m cap)) (hy : ρ y = some (.sl tok' k els'))
    (hr : h[r]? = some .free) (hr0 : h[r0]? = some (.cells (els.flatten ++ sp) (some e))) (hm0 : m = els.length) (hfull : cap < m + els'.length) (hm : els' ≠ []) (hzk : Nat.beq z.cells.size k = true) (hkx : ∀ e,e ∈ els → e.length = k) (hfl : els.flatten.length = els.length * k)
    (hn : n = m + els'.length) (hb : n * by_ ≤ 140737488355328) (h63 : n < 4611686018427387904) :
    POpS P { dst:=some d,op:=.call { callee:=.builtin .append,args:=#[x,y],argTypes:=#[t,t] },type:=ty,pos:=pos,after:=af,guard:=gd } ρ h [r,r0] (rowA r n) (some (r,.row k e (els ++ els'))) :=
  S_appNG hx hy hr (.head _) hm hzk hkx (by omega) hb h63 fun B G h' w v hs hR hv=>by
    obtain ⟨g,vx,hbk,hnc⟩:=mc_inv hv
    obtain ⟨g',c,ty',g1,g2,g3,g4,g5⟩:=hR.obj r0 _ ((hs r0 (.tail _ (.head _))).trans hr0)
    rw [hbk] at g1;cases g1
    subst hm0
    refine .inr ⟨g,cap,c.take (els.length * k),vx,hfull,?_,?_,fun j u hu=>?_⟩
    · rw [List.length_take,g4.1,List.length_append,hfl];omega
    · refine ⟨by rw [List.length_take,hfl,g4.1,List.length_append,hfl];omega,fun i v x hv hx=>?_⟩
      have hi : i < els.flatten.length:=(List.getElem?_eq_some_iff.1 hx).1
      rw [List.getElem?_take_of_lt (by omega)] at hv
      exact g4.2 i v x hv (by rw [List.getElem?_append_left hi];exact hx)
    · rw [List.getElem?_take] at hu
      split at hu
      · simp [World.cell?,g3,hu]
      · cases hu
theorem R.rowCC {B : Base P} {G : Gh} {a : Act} {w : World} {b j r n k e : Nat} {xs : List AV} {tp : Option TypeId} {els : List (List AV)} (hR : R B N G ⟨rg,h,mk⟩ a w) (hb : h[b]? = some (.cells xs tp)) (hj : xs[j]? = some (rowA r n)) (ho : h[r]? = some (.row k e els)) (hn : n = els.length) (h0 : 0 < n) (hbr : b ≠ r) :
    ∃ sp cap,n ≤ cap ∧ cap ≤ maxLen ∧ (els.flatten ++ sp).length = cap * k ∧ R B N G ⟨rg,(h.set r (.cells (els.flatten ++ sp) (some e))).set b (.cells (xs.set j (.mc r n cap)) tp),mk⟩ a w:=by
  have hr:=hR.heap
  obtain ⟨bb,c,ty,g1,g2,g3,g4,g5⟩:=hr.obj b _ hb
  have hjl : j < xs.length:=(List.getElem?_eq_some_iff.1 hj).1
  have hjc : j < c.length:=by rw [g4.1];exact hjl
  have h1:=g4.2 j c[j] _ (List.getElem?_eq_getElem hjc) hj
  obtain ⟨hk,hv⟩:=row_inv hr ho hn h1
  rcases hv with ⟨rfl,_⟩ | ⟨g,cap,cc,hv,q2,q3,q4,q5,q6,q7,q8,q9⟩
  · simp at hn;omega
  have htl:=(rowA_inv h1).1
  have e1:=q7.append (⟨(List.length_map (f:=AV.sc)).symm,fun i v x hv hx=>by
    rw [List.getElem?_map,hv] at hx;simp at hx;subst hx;exact .sc _⟩ : ConcL G (cc.drop (els.length * k)) ((cc.drop (els.length * k)).map AV.sc))
  rw [List.take_append_drop] at e1
  refine ⟨(cc.drop (els.length * k)).map .sc,cap,by omega,q5,by rw [← e1.1];exact q6,?_⟩
  have hob : ownBlk G r (.row k e els) = some g:=by simp only [ownBlk];rw [← hn,htl,hv];rfl
  have hh : RH B G (h.set r (.cells (els.flatten ++ (cc.drop (els.length * k)).map .sc) (some e))) w:=by
    refine hr.set (w':=w) (b:=g) ho hob q2 rfl rfl rfl (Nat.le_refl _) rfl (fun _ _=>rfl) (fun i v hi=>by rw [q8 i] at hi;cases hi) ?_ (fun c' hc'=>?_)
    · exact ⟨g,cc,⟨e,fun _ e=>by cases e;rfl⟩,q9,q2,q3,e1,q8⟩
    · simp only [ownBlk] at hc';rw [q9] at hc';exact (Option.some.inj hc').symm
  have hb2 : (h.set r (.cells (els.flatten ++ (cc.drop (els.length * k)).map .sc) (some e)))[b]? = some (.cells xs tp):=by rw [List.getElem?_set_ne (Ne.symm hbr)];exact hb
  have hcx : ConcL G c (xs.set j (.mc r n cap)):=by
    refine ⟨by rw [List.length_set];exact g4.1,fun i v x hv' hx=>?_⟩
    by_cases e : j = i
    · subst e
      rw [List.getElem?_set_self hjl] at hx
      cases hx
      rw [List.getElem?_eq_getElem hjc] at hv'
      cases hv'
      rw [hv,← hn]
      exact .mc q9 (by omega)
    · rw [List.getElem?_set_ne e] at hx
      exact g4.2 i v x hv' hx
  have hh2:=hh.set (w':=w) (b:=bb) (o':=.cells (xs.set j (.mc r n cap)) tp) hb2 g1 g2 rfl rfl rfl (Nat.le_refl _) rfl (fun _ _=>rfl) (fun i v hv=>by rw [g5 i] at hv;cases hv)
    ⟨bb,c,ty,g1,g2,g3,hcx,g5⟩ (fun c hc=>by
    simp only [ownBlk] at hc;rw [g1] at hc;exact (Option.some.inj hc).symm)
  exact hR.step (.refl G) hh2
theorem W_rowCC {cd : Code} (b j r : Nat) {n k e : Nat} {xs : List AV} {tp : Option TypeId} {els : List (List AV)} (hb : h[b]? = some (.cells xs tp)) (hj : xs[j]? = some (rowA r n)) (ho : h[r]? = some (.row k e els)) (hn : n = els.length) (h0 : 0 < n) (hbr : b ≠ r)
    (hk : ∀ sp cap,n ≤ cap → cap ≤ maxLen → (els.flatten ++ sp).length = cap * k → W P fr N cd Q ⟨rg,(h.set r (.cells (els.flatten ++ sp) (some e))).set b (.cells (xs.set j (.mc r n cap)) tp),mk⟩) : W P fr N cd Q ⟨rg,h,mk⟩:=by
  intro B G a w hR
  obtain ⟨sp,cap,c1,c2,c3,hR'⟩:=hR.rowCC hb hj ho hn h0 hbr
  exact hk sp cap c1 c2 c3 B G a w hR'
theorem WL_mcmr {l : List Oper} (t : Nat) {r n cap : Nat} (ht : lookO rg t = some (.mc r n cap)) (hk : WL P fr N ops l Q ⟨(t,.mr r 0 n) :: rg,h,mk⟩) : WL P fr N ops l Q ⟨rg,h,mk⟩:=fun B G a w hR=>hk B G a w ⟨hR.heap,hR.size,fun u=>by
  simp only [look]
  cases hq : Nat.beq t u with
  | true =>
    have : t = u:=Nat.eq_of_beq_eq_true hq
    subst this
    have h1:=hR.regs t
    rw [show look rg t = _ from lookO_eq ht] at h1
    obtain ⟨b,hv,hbk,hc⟩:=mc_inv h1
    rw [hv]
    exact .mr hbk hc (fun _=>rfl)
  | false=>exact hR.regs u,hR.defers,hR.own⟩
theorem R.untype {B : Base P} {G : Gh} {a : Act} {w : World} {r : Nat} {xs : List AV} {tp : Option TypeId} (hR : R B N G ⟨rg,h,mk⟩ a w) (hb : h[r]? = some (.cells xs tp)) : R B N G ⟨rg,h.set r (.cells xs),mk⟩ a w:=by
  obtain ⟨bb,c,ty,g1,g2,g3,g4,g5⟩:=hR.heap.obj r _ hb
  exact hR.step (.refl G) (hR.heap.set (w':=w) (b:=bb) (o':=.cells xs) hb g1 g2 rfl rfl rfl (Nat.le_refl _) rfl (fun _ _=>rfl) (fun i v hv=>by rw [g5 i] at hv;cases hv)
    ⟨bb,c,⟨ty.1,fun _ e=>by cases e⟩,g1,g2,g3,g4,g5⟩ (fun c hc=>by
    simp only [ownBlk] at hc;rw [g1] at hc;exact (Option.some.inj hc).symm))
theorem WL_untype {l : List Oper} (r : Nat) {xs : List AV} {tp : Option TypeId} (hb : h[r]? = some (.cells xs tp)) (hk : WL P fr N ops l Q ⟨rg,h.set r (.cells xs),mk⟩) : WL P fr N ops l Q ⟨rg,h,mk⟩:=fun B G a w hR=>hk B G a w (hR.untype hb)
end
section
def renSl (f : List Nat) (s : Sl) : Sl:=(s.1.map fun i=>f.getD i 0,s.2.map fun i=>f.getD i 0)
def slIn (n : Nat) (s : Sl) : Bool:=s.1.all (fun i=>Nat.blt i n) && (match s.2 with|some i=>Nat.blt i n|none=>true)
theorem getD_inj {f : List Nat} (hf : f.Nodup) {i j : Nat} (hi : i < f.length) (hj : j < f.length) (h : f.getD i 0 = f.getD j 0) : i = j:=by
  rw [List.getD_eq_getElem?_getD,List.getD_eq_getElem?_getD,List.getElem?_eq_getElem hi,List.getElem?_eq_getElem hj] at h
  simp only [Option.getD_some] at h
  rcases Nat.lt_trichotomy i j with hlt|rfl|hlt
  · exact absurd h (List.pairwise_iff_getElem.1 hf i j hi hj hlt)
  · rfl
  · exact absurd h.symm (List.pairwise_iff_getElem.1 hf j i hj hi hlt)
theorem contains_ren {f : List Nat} (hf : f.Nodup) {rs : List Nat} {r : Nat} (hrs : ∀ i,i ∈ rs → i < f.length) (hr : r < f.length) : (rs.map fun i=>f.getD i 0).contains (f.getD r 0) = rs.contains r:=by
  rw [Bool.eq_iff_iff,List.contains_iff_mem,List.contains_iff_mem,List.mem_map]
  constructor
  · rintro ⟨i,hi,e⟩
    rw [← getD_inj hf (hrs i hi) hr e];exact hi
  · exact fun h=>⟨r,h,rfl⟩
theorem confl_ren {f : List Nat} (hf : f.Nodup) (l : List Oper) (sl : List Sl) (hin : sl.all (slIn f.length) = true) (i j : Nat) : confl l (sl.map (renSl f)) i j = confl l sl i j:=by
  unfold confl
  cases l[i]? with
  | none=>rfl
  | some o =>
    cases l[j]? with
    | none=>rfl
    | some p =>
      simp only
      congr 1
      rw [List.getElem?_map,List.getElem?_map]
      cases hj : sl[j]? with
      | none=>rfl
      | some sj =>
        obtain ⟨rj,uj⟩:=sj
        cases uj with
        | none=>rfl
        | some r =>
          simp only [Option.map_some,renSl]
          cases hi : sl[i]? with
          | none=>rfl
          | some si =>
            obtain ⟨rsi,ui⟩:=si
            simp only [Option.map_some,renSl]
            have h1:=List.all_eq_true.1 hin _ (List.mem_of_getElem? hi)
            have h2:=List.all_eq_true.1 hin _ (List.mem_of_getElem? hj)
            simp only [slIn,Bool.and_eq_true,List.all_eq_true,Nat.blt_eq] at h1 h2
            exact contains_ren hf h1.1 h2.2
theorem drawOK_ren {f : List Nat} (hf : f.Nodup) (l : List Oper) (sl : List Sl) (hin : sl.all (slIn f.length) = true) : drawOK l (sl.map (renSl f)) = drawOK l sl:=by
  unfold drawOK ordOK
  rw [List.length_map]
  congr 1
  congr 1
  funext i
  cases l[i]? with
  | none=>rfl
  | some o =>
    simp only
    congr 1
    congr 1
    funext j
    rw [confl_ren hf l sl hin]
theorem WD_nilR {P : Program} [GlobF P] {N : Nat} {ops : Array Oper} {acc : List Sl} {K : AS → Prop} {s : AS} (f : List Nat) (sl0 : List Sl) (hf : f.Nodup) (hacc : acc.reverse = sl0.map (renSl f)) (hin : sl0.all (slIn f.length) = true) (h0 : drawOK ops.toList sl0 = true) (h : K s) : WD P N ops [] acc K s :=
  WD_nil (by rw [hacc,drawOK_ren hf _ _ hin];exact h0) h
end
end Go.AL
namespace Go.AL
theorem bltL {α : Type} {h : List α} {r : Nat} {x : α} (hx : h[r]? = some x) : Nat.blt r h.length = true:=by
  have:=(List.getElem?_eq_some_iff.1 hx).1
  simpa [Nat.blt_eq] using this
end Go.AL

namespace Go.AL
section
variable {P : Program} [GlobF P] {fr : Option Nat} {N : Nat} {Q : Exit → AS → Prop} {rg : List (Nat × AV)} {h : List AObj} {mk : Mk}
def WA (P : Program) [GlobF P] (fr : Option Nat) (N : Nat) (ops : Array Oper) (Q : Exit → AS → Prop) (fuel : Nat) (listed : Array Bool) (s : AS) : Prop :=
  ∀ (B : Base P) (G : Gh) (a : Act) (w : World),R B N G s a w → wpAnyIn (fence fr) 0 P .any ops (Post B N Q) fuel listed a w
theorem WA_nil {ops : Array Oper} {fuel : Nat} {listed : Array Bool} {s : AS} (hr : Region.ready .any ops listed = []) (h : Q .normal s) : WA P fr N ops Q fuel listed s:=fun B G a w hR=>by
  cases fuel with
  | zero=>exact ⟨hr,G,s,hR,h⟩
  | succ f=>exact ⟨fun _=>⟨G,s,hR,h⟩,fun i hi=>by rw [hr] at hi;cases hi⟩
theorem WA_step {ops : Array Oper} {fuel : Nat} {listed : Array Bool} {s : AS} (rdy : List Nat) (hr : Region.ready .any ops listed = rdy) (hne : rdy ≠ [])
    (h : ∀ i,i ∈ rdy → ∃ o rs v u,ops[i]? = some o ∧ o.guard = none ∧ (∀ d',o.dst = some d' → d' < N) ∧ POpS P o s.evO s.heap rs v u ∧ WA P fr N ops Q fuel (listed.setIfInBounds i true) (s.eff o.dst v u)) : WA P fr N ops Q (fuel + 1) listed s:=fun B G a w hR=>by
  refine ⟨fun e=>absurd (hr.symm.trans e) hne,fun i hi=>?_⟩
  rw [hr] at hi
  obtain ⟨o,rs,v,u,h1,h2,h3,h4,h5⟩:=h i hi
  simp only [wpOpIn,h1]
  rw [if_pos (by simp [Region.wanted,h2])]
  refine wpIn_false ?_ (h4 fr B G a w _ rfl (fun _ _=>rfl) hR.heap fun x _ u hu=>by rw [evO_some] at hu;cases hu;exact hR.ev x)
  rintro a' w' ⟨r,G',rfl,hg',hh,hv⟩
  refine h5 B G' _ w' ?_
  have h6:=hR.step hg' hh
  cases hd : o.dst with
  | none=>exact h6
  | some d=>exact h6.put (h3 d hd) hv
theorem W_regA [hm : Mix P] {id : Nat} {l : List Oper} (h0 : WA P fr N l.toArray Q l.length (Array.replicate l.length false) ⟨rg,resv (laysN l) h,mk⟩) : W P fr N (.region id l.toArray true) Q ⟨rg,h,mk⟩:=by
  intro B G a w hr00
  have hr0:=hr00.resv (laysN l)
  refine wpIn_region_any hm.h ?_
  have e : l.toArray.size = l.length:=by simp
  rw [e]
  refine h0 B G a _ ⟨?_,hr0.size,hr0.regs,hr0.defers,hr0.own⟩
  have:=hr0.heap
  exact ⟨this.base,this.tape,this.os,this.output,Nat.le_succ_of_le this.drawn,this.size,this.out,this.imm,this.low,this.obj,this.inj,this.fresh⟩
theorem W_coin [hm : Mix P] {id t d1 d2 : Nat} {y0 y1 y2 y3 : TypeId} {p0 p1 p2 p3 : String} {a0 a1 a2 a3 : Array Edge} [hz : Zer P t (.bool false)] [hs : Siz P t 1] [ha : Agg P t false]
    (hd1 : Nat.blt d1 N = true) (hd2 : Nat.blt d2 N = true) (hne : Nat.beq d1 d2 = false)
    (r0 : Region.ready .any #[{ dst:=some d1,op:=.alloc t,type:=y0,pos:=p0,after:=a0,guard:=none },{ dst:=none,op:=.store t (.tmp d1) (.const (.bool true)),type:=y1,pos:=p1,after:=a1,guard:=none },{ dst:=none,op:=.store t (.tmp d1) (.const (.bool false)),type:=y2,pos:=p2,after:=a2,guard:=none },{ dst:=some d2,op:=.load t (.tmp d1),type:=y3,pos:=p3,after:=a3,guard:=none }] #[false,false,false,false] = [0])
    (r1 : Region.ready .any #[{ dst:=some d1,op:=.alloc t,type:=y0,pos:=p0,after:=a0,guard:=none },{ dst:=none,op:=.store t (.tmp d1) (.const (.bool true)),type:=y1,pos:=p1,after:=a1,guard:=none },{ dst:=none,op:=.store t (.tmp d1) (.const (.bool false)),type:=y2,pos:=p2,after:=a2,guard:=none },{ dst:=some d2,op:=.load t (.tmp d1),type:=y3,pos:=p3,after:=a3,guard:=none }] #[true,false,false,false] = [1,2])
    (r2 : Region.ready .any #[{ dst:=some d1,op:=.alloc t,type:=y0,pos:=p0,after:=a0,guard:=none },{ dst:=none,op:=.store t (.tmp d1) (.const (.bool true)),type:=y1,pos:=p1,after:=a1,guard:=none },{ dst:=none,op:=.store t (.tmp d1) (.const (.bool false)),type:=y2,pos:=p2,after:=a2,guard:=none },{ dst:=some d2,op:=.load t (.tmp d1),type:=y3,pos:=p3,after:=a3,guard:=none }] #[true,true,false,false] = [2])
    (r3 : Region.ready .any #[{ dst:=some d1,op:=.alloc t,type:=y0,pos:=p0,after:=a0,guard:=none },{ dst:=none,op:=.store t (.tmp d1) (.const (.bool true)),type:=y1,pos:=p1,after:=a1,guard:=none },{ dst:=none,op:=.store t (.tmp d1) (.const (.bool false)),type:=y2,pos:=p2,after:=a2,guard:=none },{ dst:=some d2,op:=.load t (.tmp d1),type:=y3,pos:=p3,after:=a3,guard:=none }] #[true,false,true,false] = [1])
    (r4 : Region.ready .any #[{ dst:=some d1,op:=.alloc t,type:=y0,pos:=p0,after:=a0,guard:=none },{ dst:=none,op:=.store t (.tmp d1) (.const (.bool true)),type:=y1,pos:=p1,after:=a1,guard:=none },{ dst:=none,op:=.store t (.tmp d1) (.const (.bool false)),type:=y2,pos:=p2,after:=a2,guard:=none },{ dst:=some d2,op:=.load t (.tmp d1),type:=y3,pos:=p3,after:=a3,guard:=none }] #[true,true,true,false] = [3])
    (r5 : Region.ready .any #[{ dst:=some d1,op:=.alloc t,type:=y0,pos:=p0,after:=a0,guard:=none },{ dst:=none,op:=.store t (.tmp d1) (.const (.bool true)),type:=y1,pos:=p1,after:=a1,guard:=none },{ dst:=none,op:=.store t (.tmp d1) (.const (.bool false)),type:=y2,pos:=p2,after:=a2,guard:=none },{ dst:=some d2,op:=.load t (.tmp d1),type:=y3,pos:=p3,after:=a3,guard:=none }] #[true,true,true,true] = [])
    (hk : ∀ b : Bool,Q .normal ⟨(d2,.sc (.bool b)) :: (d1,.bp h.length 0) :: rg,h ++ [.cells [.sc (.bool b)]],mk⟩) :
    W P fr N (.region id #[{ dst:=some d1,op:=.alloc t,type:=y0,pos:=p0,after:=a0,guard:=none },{ dst:=none,op:=.store t (.tmp d1) (.const (.bool true)),type:=y1,pos:=p1,after:=a1,guard:=none },{ dst:=none,op:=.store t (.tmp d1) (.const (.bool false)),type:=y2,pos:=p2,after:=a2,guard:=none },{ dst:=some d2,op:=.load t (.tmp d1),type:=y3,pos:=p3,after:=a3,guard:=none }] true) Q ⟨rg,h,mk⟩:=by
  refine W_regA (l:=[{ dst:=some d1,op:=.alloc t,type:=y0,pos:=p0,after:=a0,guard:=none },{ dst:=none,op:=.store t (.tmp d1) (.const (.bool true)),type:=y1,pos:=p1,after:=a1,guard:=none },{ dst:=none,op:=.store t (.tmp d1) (.const (.bool false)),type:=y2,pos:=p2,after:=a2,guard:=none },{ dst:=some d2,op:=.load t (.tmp d1),type:=y3,pos:=p3,after:=a3,guard:=none }]) ?_
  have hb : ∀ {d : Nat},Nat.blt d N = true → d < N:=fun hd=>by simpa [Nat.blt_eq] using hd
  have hx : ∀ {rg' : List (Nat × AV)} {h' : List AObj},(⟨(d1,.bp h.length 0) :: rg',h',mk⟩ : AS).evO (.tmp d1) = some (.bp h.length 0):=fun {rg' h'}=>by rw [← evR_eq];simp [evR,lookO]
  have hc : ∀ {rg' : List (Nat × AV)} {h' : List AObj} {v : Value},(⟨rg',h',mk⟩ : AS).evO (.const v) = some (.sc v):=fun {rg' h' v}=>by rw [← evR_eq];rfl
  refine WA_step [0] r0 (by simp) fun i hi=>?_
  rw [List.mem_singleton] at hi;subst hi
  refine ⟨{ dst:=some d1,op:=.alloc t,type:=y0,pos:=p0,after:=a0,guard:=none },_,_,_,rfl,rfl,fun d' e=>by cases e;exact hb hd1,S_alloc h.length (by simp [resv,laysN]),?_⟩
  simp only [AS.eff,appU,AS.put,resv,laysN,set_lastO]
  refine WA_step [1,2] r1 (by simp) fun i hi=>?_
  have hlast : ∀ {x : AObj},(h ++ [x])[h.length]? = some x:=fun {x}=>by simp
  have e1 : ((Value.bool false).cells.toList.map AV.sc) = [.sc (.bool false)]:=rfl
  rw [e1]
  simp only [List.mem_cons,List.not_mem_nil,or_false] at hi
  rcases hi with rfl|rfl
  · refine ⟨{ dst:=none,op:=.store t (.tmp d1) (.const (.bool true)),type:=y1,pos:=p1,after:=a1,guard:=none },_,_,_,rfl,rfl,(fun d' e=>nomatch e),S_store (r:=h.length) (off:=0) (k:=1) hx hc rfl hlast (by rfl) (by rfl) (by rfl),?_⟩
    simp only [AS.eff,appU,set_lastO]
    refine WA_step [2] r2 (by simp) fun i hi=>?_
    rw [List.mem_singleton] at hi;subst hi
    refine ⟨{ dst:=none,op:=.store t (.tmp d1) (.const (.bool false)),type:=y2,pos:=p2,after:=a2,guard:=none },_,_,_,rfl,rfl,(fun d' e=>nomatch e),S_store (r:=h.length) (off:=0) (k:=1) hx hc rfl hlast (by rfl) (by rfl) (by rfl),?_⟩
    simp only [AS.eff,appU,set_lastO]
    refine WA_step [3] r4 (by simp) fun i hi=>?_
    rw [List.mem_singleton] at hi;subst hi
    refine ⟨{ dst:=some d2,op:=.load t (.tmp d1),type:=y3,pos:=p3,after:=a3,guard:=none },[h.length],_,none,rfl,rfl,fun d' e=>by cases e;exact hb hd2,(fun fr B G a w h' hl hs hR hE=>D_loadB1 hx ((hs h.length (.head _)).trans hlast) rfl fr B G a w hR hE),?_⟩
    simp only [AS.eff,appU,AS.put]
    exact WA_nil r5 (hk false)
  · refine ⟨{ dst:=none,op:=.store t (.tmp d1) (.const (.bool false)),type:=y2,pos:=p2,after:=a2,guard:=none },_,_,_,rfl,rfl,(fun d' e=>nomatch e),S_store (r:=h.length) (off:=0) (k:=1) hx hc rfl hlast (by rfl) (by rfl) (by rfl),?_⟩
    simp only [AS.eff,appU,set_lastO]
    refine WA_step [1] r3 (by simp) fun i hi=>?_
    rw [List.mem_singleton] at hi;subst hi
    refine ⟨{ dst:=none,op:=.store t (.tmp d1) (.const (.bool true)),type:=y1,pos:=p1,after:=a1,guard:=none },_,_,_,rfl,rfl,(fun d' e=>nomatch e),S_store (r:=h.length) (off:=0) (k:=1) hx hc rfl hlast (by rfl) (by rfl) (by rfl),?_⟩
    simp only [AS.eff,appU,set_lastO]
    refine WA_step [3] r4 (by simp) fun i hi=>?_
    rw [List.mem_singleton] at hi;subst hi
    refine ⟨{ dst:=some d2,op:=.load t (.tmp d1),type:=y3,pos:=p3,after:=a3,guard:=none },[h.length],_,none,rfl,rfl,fun d' e=>by cases e;exact hb hd2,(fun fr B G a w h' hl hs hR hE=>D_loadB1 hx ((hs h.length (.head _)).trans hlast) rfl fr B G a w hR hE),?_⟩
    simp only [AS.eff,appU,AS.put]
    exact WA_nil r5 (hk true)
section
variable {ops : Array Oper} {rest : List Oper} {op : Op} {ty : TypeId} {pos : String} {af : Array Edge} {d : Nat} {dst : Option Nat} {gd : Option (Nat × Bool)} {v : AV} {K : AS → Prop} {acc : List Sl} {ρ : Operand → Option AV} {hp : List AObj}
theorem dV2 {r r0 : Nat} {o : AObj} (hop : POpS P { dst:=some d,op:=op,type:=ty,pos:=pos,after:=af,guard:=none } (evR rg) hp [r,r0] v (some (r,o))) (hr : Nat.blt r hp.length = true) (hd : Nat.blt d N = true)
    (h : WD P N ops rest (([r,r0],some r) :: acc) K ⟨(d,v) :: rg,hp.set r o,mk⟩) : WD P N ops ({ dst:=some d,op:=op,type:=ty,pos:=pos,after:=af,guard:=none } :: rest) acc K ⟨rg,hp,mk⟩ :=
  WD_s (rs:=[r,r0]) (u:=some (r,o)) (.inl ⟨rfl,evR_eq rg hp mk ▸ hop⟩) (fun d' e=>by cases e;simpa [Nat.blt_eq] using hd) ⟨.head _,by simpa [Nat.blt_eq] using hr⟩ h
theorem D_loadBAe {t : TypeId} {x : Operand} {r off n : Nat} {xs c : List AV} {tp : Option TypeId} [ha : Agg P t true] [hs : Siz P t n] (hx : ρ x = some (.bp r off)) (ho : hp[r]? = some (.cells xs tp)) (hn : off + n ≤ xs.length) (hc : (xs.drop off).take n = c) :
    POp P { dst:=dst,op:=.load t x,type:=ty,pos:=pos,after:=af,guard:=gd } ρ hp (.ag c):=hc ▸ D_loadBA hx ho (by simpa using hn)
theorem S_storee {t : TypeId} {x y : Operand} {r off k : Nat} {u : AV} {cs xs ys : List AV} {tp : Option TypeId} [hs : Siz P t k] (hx : ρ x = some (.bp r off)) (hy : ρ y = some u) (hu : cellsO u = some cs)
    (hr : hp[r]? = some (.cells xs tp)) (hk : Nat.beq cs.length k = true) (hone : cs.all AV.one = true) (hoff : off + k ≤ xs.length) (he : xs.take off ++ cs ++ xs.drop (off + k) = ys) :
    POpS P { dst:=none,op:=.store t x y,type:=ty,pos:=pos,after:=af,guard:=gd } ρ hp [r] (.sc undef) (some (r,.cells ys tp)):=he ▸ S_store hx hy hu hr hk hone (by simpa using hoff)
theorem S_appCe {t e r n cap k by_ : Nat} {x y : Operand} {els' : List (List AV)} {xs ys : List AV} {tok' : Option Nat} {z : Value} [hu : Und P t (.slice e)] [hi : Inf P e k by_ z] [hone : OneLL els'] (hx : ρ x = some (.mc r n cap)) (hy : ρ y = some (.sl tok' k els'))
    (ht : hp[r]? = some (.cells xs (some e))) (hl : xs.length = cap * k) (hm : els' ≠ []) (hroom : n + els'.length ≤ cap) (he : xs.take (n * k) ++ els'.flatten ++ xs.drop (n * k + els'.flatten.length) = ys) :
    POpS P { dst:=some d,op:=.call { callee:=.builtin .append,args:=#[x,y],argTypes:=#[t,t] },type:=ty,pos:=pos,after:=af,guard:=gd } ρ hp [r] (.mc r (n + els'.length) cap) (some (r,.cells ys (some e))):=he ▸ S_appC hx hy ht hl hm hroom
end
theorem R.rowCCt {B : Base P} {G : Gh} {a : Act} {w : World} {t b j r n k e : Nat} {xs : List AV} {tp : Option TypeId} {els : List (List AV)} (hR : R B N G ⟨rg,h,mk⟩ a w) (ht : lookO rg t = some (rowA r n)) (hb : h[b]? = some (.cells xs tp)) (hj : xs[j]? = some (rowA r n)) (ho : h[r]? = some (.row k e els)) (hn : n = els.length) (h0 : 0 < n) (hbr : b ≠ r) :
    ∃ sp cap,n ≤ cap ∧ cap ≤ maxLen ∧ (els.flatten ++ sp).length = cap * k ∧ R B N G ⟨(t,.mc r n cap) :: rg,(h.set r (.cells (els.flatten ++ sp) (some e))).set b (.cells (xs.set j (.mc r n cap)) tp),mk⟩ a w:=by
  obtain ⟨sp,cap,c1,c2,c3,hR'⟩:=hR.rowCC hb hj ho hn h0 hbr
  refine ⟨sp,cap,c1,c2,c3,hR'.heap,hR'.size,fun u=>?_,hR'.defers,hR'.own⟩
  simp only [look]
  cases hq : Nat.beq t u with
  | true =>
    have : t = u:=Nat.eq_of_beq_eq_true hq
    subst this
    have h1:=hR.regs t
    rw [show look rg t = _ from lookO_eq ht] at h1
    obtain ⟨bb,c,ty,g1,g2,g3,g4,g5⟩:=hR.heap.obj b _ hb
    have hjl : j < xs.length:=(List.getElem?_eq_some_iff.1 hj).1
    have hjc : j < c.length:=by rw [g4.1];exact hjl
    have h2:=g4.2 j c[j] _ (List.getElem?_eq_getElem hjc) hj
    have e1 : a.tmps.getD t undef = c[j]:=by
      have k1:=(rowA_inv h1).1
      have k2:=(rowA_inv h2).1
      rw [k1] at k2;exact Option.some.inj k2
    rw [e1]
    obtain ⟨bb',c',ty',q1,q2,q3,q4,q5⟩:=hR'.heap.obj b _ (List.getElem?_set_self (by rw [List.length_set];exact (List.getElem?_eq_some_iff.1 hb).1))
    rw [g1] at q1;cases q1
    rw [g3] at q3
    have hcc : c' = c:=by
      have:=Option.some.inj q3
      injection this with w1
      have:=congrArg Array.toList w1
      simpa using this.symm
    subst hcc
    exact q4.2 j _ _ (List.getElem?_eq_getElem hjc) (List.getElem?_set_self hjl)
  | false=>exact hR'.regs u
theorem W_rowCCt {cd : Code} (t b j r : Nat) {n k e : Nat} {xs : List AV} {tp : Option TypeId} {els : List (List AV)} (ht : lookO rg t = some (rowA r n)) (hb : h[b]? = some (.cells xs tp)) (hj : xs[j]? = some (rowA r n)) (ho : h[r]? = some (.row k e els)) (hn : n = els.length) (h0 : 0 < n) (hbr : b ≠ r)
    (hk : ∀ sp cap,n ≤ cap → cap ≤ maxLen → (els.flatten ++ sp).length = cap * k → W P fr N cd Q ⟨(t,.mc r n cap) :: rg,(h.set r (.cells (els.flatten ++ sp) (some e))).set b (.cells (xs.set j (.mc r n cap)) tp),mk⟩) : W P fr N cd Q ⟨rg,h,mk⟩:=by
  intro B G a w hR
  obtain ⟨sp,cap,c1,c2,c3,hR'⟩:=hR.rowCCt ht hb hj ho hn h0 hbr
  exact hk sp cap c1 c2 c3 B G a w hR'
theorem POp.eqv {o : Oper} {hp : List AObj} {ρ : Operand → Option AV} {v v' : AV} (hop : POp P o ρ hp v) (e : v = v') : POp P o ρ hp v':=e ▸ hop
end
theorem flat_ix {els : List (List AV)} {k m j : Nat} {x : List AV} (hk : ∀ e,e ∈ els → e.length = k) (hm : els[m]? = some x) (hj : j < k) : els.flatten[m * k + j]? = x[j]?:=by
  rw [flat_get hk _ _ hj,hm];rfl
end Go.AL

namespace Go.AL
def SlK (k e : Nat) (els : List (List AV)) (hv : AV) (h : List AObj) : Prop :=
  (hv = .sc (.slice none 0 0) ∧ els = []) ∨ ∃ r cap sp,hv = .mc r els.length cap ∧ els.length ≤ cap ∧ cap ≤ maxLen ∧ h[r]? = some (.cells (els.flatten ++ sp) (some e)) ∧ (els.flatten ++ sp).length = cap * k
def mcP : AV → List Nat
  | .mc r _ _=>[r]
  | _=>[]
theorem SlK.app {k e : Nat} {els : List (List AV)} {hv : AV} {h : List AObj} (hS : SlK k e els hv h) (o : AObj) : SlK k e els hv (h ++ [o]):=by
  rcases hS with h1 | ⟨r,cap,sp,h1,h2,h3,h4,h5⟩
  · exact .inl h1
  · exact .inr ⟨r,cap,sp,h1,h2,h3,get_app h4,h5⟩
theorem SlK.set {k e : Nat} {els : List (List AV)} {hv : AV} {h : List AObj} (hS : SlK k e els hv h) {i : Nat} (hi : i ∉ mcP hv) (o : AObj) : SlK k e els hv (h.set i o):=by
  rcases hS with h1 | ⟨r,cap,sp,h1,h2,h3,h4,h5⟩
  · exact .inl h1
  · refine .inr ⟨r,cap,sp,h1,h2,h3,get_ne (fun e=>hi ?_) h4,h5⟩
    rw [h1,mcP];exact e ▸ .head _
theorem SlK.frame {k e : Nat} {els : List (List AV)} {hv : AV} {h h' : List AObj} (hS : SlK k e els hv h) (hf : ∀ i,i ∈ mcP hv → h'[i]? = h[i]?) : SlK k e els hv h':=by
  rcases hS with h1 | ⟨r,cap,sp,h1,h2,h3,h4,h5⟩
  · exact .inl h1
  · exact .inr ⟨r,cap,sp,h1,h2,h3,(hf r (by rw [h1,mcP];exact .head _)).trans h4,h5⟩
theorem SlK.lt {k e : Nat} {els : List (List AV)} {hv : AV} {h : List AObj} (hS : SlK k e els hv h) {i : Nat} (hi : i ∈ mcP hv) : ∃ xs,h[i]? = some (.cells xs (some e)):=by
  rcases hS with ⟨h1,_⟩ | ⟨r,cap,sp,h1,h2,h3,h4,h5⟩
  · rw [h1] at hi;cases hi
  · rw [h1,mcP,List.mem_singleton] at hi
    exact ⟨_,hi ▸ h4⟩
theorem ne_ty {h : List AObj} {p q : Nat} {xs ys : List AV} {e : TypeId} (h1 : h[q]? = some (.cells xs (some e))) (h2 : h[p]? = some (.cells ys)) : q ≠ p:=fun e=>by
  subst e;rw [h1] at h2;cases h2
section
variable {P : Program} [GlobF P] {fr : Option Nat} {N : Nat} {Q : Exit → AS → Prop} {ops : Array Oper} {rg : List (Nat × AV)} {h : List AObj} {mk : Mk}
theorem D_litA {ty : TypeId} {pos : String} {af : Array Edge} {dst : Option Nat} {gd : Option (Nat × Bool)} {ρ : Operand → Option AV} {t e k : Nat} {vs : Array Value} {z : Value} [hu : Und P t (.slice e)] [hs : Siz P e k] [hz : Zer P e z] (hk : Nat.beq (vs.toList.map AV.sc).length k = true) (hm : Nat.ble (1 * k) 1000 = true) :
    PPOp P { dst:=dst,op:=.buildSlice t 1 #[(0,.const (.agg vs))],type:=ty,pos:=pos,after:=af,guard:=gd } ρ (.sl none k [vs.toList.map AV.sc]):=fun hp fr B G a w hR hE =>
  D_lit (ρ:=fun _=>some (.ag (vs.toList.map AV.sc))) (ps:=[(0,.const (.agg vs))]) (els:=[vs.toList.map AV.sc]) rfl rfl (by simp only [List.all_cons,hk,List.all_nil,Bool.and_true]) hm hp fr B G a w hR fun x hx u hu=>by
    have e1 : x = .const (.agg vs):=by
      simp only [Op.operands] at hx
      simpa using hx
    cases hu
    subst e1
    show Conc G (.agg vs) _
    have:=Conc.ag (G:=G) (cs:=vs.toList) (xs:=vs.toList.map AV.sc) (by simp) (fun i v x hv hx=>by
      rw [List.getElem?_map,hv] at hx;simp at hx;subst hx;exact .sc v)
    simpa using this
section
variable {rest : List Oper} {acc : List Sl} {K : AS → Prop} {s : AS} {ty : TypeId} {pos : String} {af : Array Edge} {dst : Option Nat} {gd : Option (Nat × Bool)}
theorem idApD {c : Call} (hc : c.callee = .builtin .append) (hw : WD P N ops ({ dst:=dst,op:=.call c,type:=ty,pos:=pos,after:=af,guard:=gd } :: rest) acc K s) : WD P N ops ({ dst:=dst,op:=.call c,type:=ty,pos:=pos,after:=af,guard:=gd } :: rest) acc K s:=hw
theorem idLdD {t : TypeId} {x : Operand} (hw : WD P N ops ({ dst:=dst,op:=.load t x,type:=ty,pos:=pos,after:=af,guard:=gd } :: rest) acc K s) : WD P N ops ({ dst:=dst,op:=.load t x,type:=ty,pos:=pos,after:=af,guard:=gd } :: rest) acc K s:=hw
theorem idStD {t : TypeId} {x y : Operand} (hw : WD P N ops ({ dst:=dst,op:=.store t x y,type:=ty,pos:=pos,after:=af,guard:=gd } :: rest) acc K s) : WD P N ops ({ dst:=dst,op:=.store t x y,type:=ty,pos:=pos,after:=af,guard:=gd } :: rest) acc K s:=hw
theorem idStL {t : TypeId} {x y : Operand} {l : List Oper} (hw : WL P fr N ops ({ dst:=dst,op:=.store t x y,type:=ty,pos:=pos,after:=af,guard:=gd } :: l) Q s) : WL P fr N ops ({ dst:=dst,op:=.store t x y,type:=ty,pos:=pos,after:=af,guard:=gd } :: l) Q s:=hw
theorem idLdL {t : TypeId} {x : Operand} {l : List Oper} (hw : WL P fr N ops ({ dst:=dst,op:=.load t x,type:=ty,pos:=pos,after:=af,guard:=gd } :: l) Q s) : WL P fr N ops ({ dst:=dst,op:=.load t x,type:=ty,pos:=pos,after:=af,guard:=gd } :: l) Q s:=hw
end
theorem W_gen {c : Code} (hk : ∀ K,K = h → W P fr N c Q ⟨rg,K,mk⟩) : W P fr N c Q ⟨rg,h,mk⟩:=hk h rfl
theorem WL_wkn {l : List Oper} (t : Nat) {v v' : AV} (ht : lookO rg t = some v) (hw : Wkn v v') (hk : WL P fr N ops l Q ⟨(t,v') :: rg,h,mk⟩) : WL P fr N ops l Q ⟨rg,h,mk⟩:=fun B G a w hR=>hk B G a w ⟨hR.heap,hR.size,fun u=>by
  simp only [look]
  cases hq : Nat.beq t u with
  | true =>
    have : t = u:=Nat.eq_of_beq_eq_true hq
    subst this
    have h1:=hR.regs t
    rw [show look rg t = _ from lookO_eq ht] at h1
    exact hw _ _ h1
  | false=>exact hR.regs u,hR.defers,hR.own⟩
theorem WL_frzK {l : List Oper} (t e : Nat) {cv : AV} {els : List (List AV)} (ht : lookO rg t = some cv) (hS : SlK 8 e els cv h) (hw : ∀ x,x ∈ els → x.length = 8)
    (hk : ∀ h',h'.length = h.length → (∀ i,i ∉ mcP cv → h'[i]? = h[i]?) → WL P fr N ops l Q ⟨(t,.sl none 8 els) :: rg,h',mk⟩) : WL P fr N ops l Q ⟨rg,h,mk⟩:=by
  rcases hS with ⟨rfl,rfl⟩ | ⟨r,cap,sp,rfl,h2,h3,h4,h5⟩
  · exact WL_wkn t ht Wkn.nil (hk h rfl fun _ _=>rfl)
  · refine WL_mcmr t ht ?_
    refine WL_untype r h4 ?_
    have h6 : (h.set r (.cells (els.flatten ++ sp)))[r]? = some (.cells (els.flatten ++ sp)):=get_set h4
    refine WL_frz t r 8 (els:=els) (sp:=sp) (rg:=(t,.mr r 0 els.length) :: rg) h6 (by simp [lookO]) (Nat.le_refl _) hw ?_
    rw [List.take_length]
    have hk2:=hk ((h.set r (.cells (els.flatten ++ sp))).set r .dead) (by simp) (fun i hi=>by
      have hne : r ≠ i:=fun e=>hi (by rw [mcP,e];exact .head _)
      rw [List.getElem?_set_ne hne,List.getElem?_set_ne hne])
    intro B G a w hR
    refine hk2 B G a w ⟨hR.heap,hR.size,fun u=>?_,hR.defers,hR.own⟩
    have h1:=hR.regs u
    simp only [look] at h1 ⊢
    cases hq : Nat.beq t u with
    | true=>rw [hq] at h1;exact h1
    | false=>rw [hq] at h1;exact h1
end
end Go.AL

namespace Go.AL
section
variable {P : Program} [GlobF P] {fr : Option Nat} {N : Nat} {Q : Exit → AS → Prop} {ops : Array Oper} {rest : List Oper} {rg : List (Nat × AV)} {h : List AObj} {mk : Mk} {ty : TypeId} {pos : String} {af : Array Edge} {d : Nat}
theorem m_boxT {t : TypeId} {x : Operand} {u : AV} {cs : List AV} (hx : evR rg x = some u) (hu : cellsO u = some cs) (hd : Nat.blt d N = true)
    (hk : WL P fr N ops rest Q ⟨(d,.bp h.length 0) :: rg,h ++ [.cells cs (some t)],mk⟩) :
    WL P fr N ops ({ dst:=some d,op:=.box t x,type:=ty,pos:=pos,after:=af,guard:=none } :: rest) Q ⟨rg,h,mk⟩ :=
  WL_op (s:=⟨rg,h,mk⟩) hd (by simp) (fun B G a w hr=>by
    have ex:=hr.ev x
    rw [show (⟨rg,h,mk⟩ : AS).ev x = _ from AS.evO_eq ((evR_eq rg h mk) ▸ hx)] at ex
    have hcs:=cellsO_conc ex hu
    obtain ⟨hle,hr'⟩:=hr.heap.allocBoxT (a.eval x).cells.toList cs t hcs 0
    have e : (a.eval x).cells.toList.toArray = (a.eval x).cells:=Array.toArray_toList
    rw [e] at hr'
    exact ⟨.pointer (some ⟨w.heap.size,0,none⟩),_,_,rfl,hle,hr',.bp (if_pos rfl)⟩) hk
theorem WL_gen {l : List Oper} (hk : ∀ K,K = h → WL P fr N ops l Q ⟨rg,K,mk⟩) : WL P fr N ops l Q ⟨rg,h,mk⟩:=hk h rfl
end
end Go.AL
