/- The rules of the abstract logic: rows of one's own that grow, and may be written. No condition. -/
import Derived.Test.YthofnclbbjemfaaDoorOps11
import Derived.Test.YthofnclbbjemfaaDoorOps17
set_option linter.all false
namespace Go.AL
abbrev rowA (r n : Nat) : AV:=.sl (some r) 0 (List.replicate n [])
theorem rowA_inv0 {G : Gh} {v : Value} {r : Nat} {els : List (List AV)} (h : Conc G v (.sl (some r) 0 els)) : G.tl r els.length = some v ∧ ((els = [] ∧ v = .slice none 0 0) ∨ ∃ b o cap,v = .slice (some ⟨b,o,none⟩) els.length cap ∧ els.length ≤ cap):=by
  cases h with
  | @sl b o cap _ _ _ us hk hcap him hc ht=>exact ⟨ht r rfl,.inr ⟨b,o,cap,rfl,hcap⟩⟩
  | slnil ht=>exact ⟨ht r rfl,.inl ⟨rfl,rfl⟩⟩
theorem rowA_inv {G : Gh} {v : Value} {r n : Nat} (h : Conc G v (rowA r n)) : G.tl r n = some v ∧ ((n = 0 ∧ v = .slice none 0 0) ∨ ∃ b o cap,v = .slice (some ⟨b,o,none⟩) n cap ∧ n ≤ cap):=by
  have:=rowA_inv0 h
  rw [List.length_replicate] at this
  refine ⟨this.1,this.2.imp (fun h=>⟨?_,h.2⟩) id⟩
  have:=congrArg List.length h.1
  simpa using this
theorem rowA_mk {G : Gh} {b o cap r n : Nat} (hl : G.tl r n = some (.slice (some ⟨b,o,none⟩) n cap)) (hn : n ≤ cap) : Conc G (.slice (some ⟨b,o,none⟩) n cap) (rowA r n):=by
  have:=Conc.sl (G:=G) (b:=b) (o:=o) (cap:=cap) (k:=0) (tok:=some r) (els:=List.replicate n []) (fun _ _=>undef) (fun e he=>by rw [List.eq_of_mem_replicate he];rfl) (by simpa using hn)
    (fun i j _ hj=>by omega) (fun i e j x he hx=>by
      rw [List.getElem?_replicate] at he
      split at he
      · cases he;simp at hx
      · cases he) (fun t e=>by cases e;simpa using hl)
  rwa [List.length_replicate] at this
section
variable {P : Program} [GlobF P] {hp : List AObj}
theorem row_inv {B : Base P} {G : Gh} {w : World} {r k e : Nat} {els : List (List AV)} (hr : RH B G hp w) (ho : hp[r]? = some (.row k e els)) {v : Value} {n : Nat} (hn : n = els.length) (hv : Conc G v (rowA r n)) :
    (∀ x,x ∈ els → x.length = k) ∧ ((els = [] ∧ v = .slice none 0 0) ∨ ∃ (g cap : Nat) (c : List Value),v = .slice (some ⟨g,0,none⟩) els.length cap ∧ B.w.heap.size ≤ g ∧ w.heap[g]? = some (.cells c.toArray e (0,0)) ∧ els.length ≤ cap ∧ cap ≤ maxLen ∧ c.length = cap * k ∧
      ConcL G (c.take (els.length * k)) els.flatten ∧ (∀ j,G.imm g j = none) ∧ G.blk r = some g):=by
  subst hn
  obtain ⟨h1,h2⟩:=rowA_inv hv
  obtain ⟨g0,gk,g⟩:=hr.obj r _ ho
  refine ⟨gk,?_⟩
  rcases g with ⟨rfl,g2⟩ | ⟨b,cap,c,g1,g2,g3,g4,g5,g6,g7,g8,g9⟩
  · rw [List.length_nil] at h1
    rw [h1] at g2;exact .inl ⟨rfl,Option.some.inj g2⟩
  · rw [h1] at g1
    exact .inr ⟨b,cap,c,Option.some.inj g1,g2,g3,g4,g5,g6,g7,g8,g9⟩
end
section
variable {P : Program} [GlobF P] {ty : TypeId} {pos : String} {af : Array Edge} {dst : Option Nat} {gd : Option (Nat × Bool)} {ρ : Operand → Option AV} {hp : List AObj}
end
section
variable {P : Program} [GlobF P] {fr : Option Nat} {N : Nat} {Q : Exit → AS → Prop} {ops : Array Oper} {rest : List Oper} {rg : List (Nat × AV)} {h : List AObj} {mk : Mk} {ty : TypeId} {pos : String} {af : Array Edge} {d : Nat}
theorem m_appG {t e r n k by_ : Nat} {x y : Operand} {els els' : List (List AV)} {tok' : Option Nat} {z : Value} [hu : Und P t (.slice e)] [hi : Inf P e k by_ z] [hone : OneLL els'] (hx : evR rg x = some (rowA r n)) (hy : evR rg y = some (.sl tok' k els'))
    (ht : h[r]? = some (.row k e els)) (hn : n = els.length) (hm : els' ≠ []) (hzk : Nat.beq z.cells.size k = true) (hb : (els.length + els'.length) * by_ ≤ 140737488355328) (h63 : els.length + els'.length < 4611686018427387904) (hd : Nat.blt d N = true)
    (hk : WL P fr N ops rest Q ⟨(d,rowA h.length (n + els'.length)) :: rg,h.set r .dead ++ [.row k e (els ++ els')],mk⟩) :
    WL P fr N ops ({ dst:=some d,op:=.call { callee:=.builtin .append,args:=#[x,y],argTypes:=#[t,t] },type:=ty,pos:=pos,after:=af,guard:=none } :: rest) Q ⟨rg,h,mk⟩:=by
  subst hn
  intro B G a w hRR
  have hR:=hRR.heap
  refine wpListIn_plain rfl fun K' hK'=>?_
  have ex:=hRR.ev x
  rw [show (⟨rg,h,mk⟩ : AS).ev x = _ from AS.evO_eq ((evR_eq rg h mk) ▸ hx)] at ex
  have ey:=hRR.ev y
  rw [show (⟨rg,h,mk⟩ : AS).ev y = _ from AS.evO_eq ((evR_eq rg h mk) ▸ hy)] at ey
  have hzk' : z.cells.size = k:=Nat.eq_of_beq_eq_true hzk
  obtain ⟨i,i1,i2,i3,i4⟩:=hi.h
  have htl : r < h.length:=(List.getElem?_eq_some_iff.1 ht).1
  obtain ⟨f1,f2⟩:=hR.fresh h.length (Nat.le_refl _)
  have hmp : 0 < els'.length:=List.length_pos_iff.2 hm
  refine ⟨fun f _=>fence_fn fr f,?_⟩
  rw [Oper.semAt_eq _ _ _ (by simp)]
  obtain ⟨hkx,hold⟩:=row_inv hR ht rfl ex
  have hnew : ∃ b o c news,a.eval y = .slice (some ⟨b,o,none⟩) els'.length c ∧ (∀ e,e ∈ els' → e.length = k) ∧ news.length = els'.length * k ∧ ConcL G news els'.flatten ∧ ∀ j u,news[j]? = some u → G.imm b (o + j) = some u:=by
    generalize a.eval y = v at ey
    cases ey with
    | @sl b o cap _ _ _ us hk hcap him hc ht =>
      obtain ⟨vs,g1,g2,g3⟩:=sl_flat us hk him hc
      exact ⟨b,o,cap,vs,rfl,hk,g1,g2,g3⟩
    | slnil ht=>exact absurd rfl hm
    | slz=>exact absurd rfl hm
  obtain ⟨b,o,c,news,vy,hky,hnl,hnc,hni⟩:=hnew
  have hone':=OneLL.flat hnc
  have hnw : ∀ j u,news[j]? = some u → w.cell? ((⟨b,o,none⟩ : Addr).add j) = some u:=fun j u hu=>by rw [add_none];exact hR.imm _ _ _ (hni j u hu)
  have hkk : ∀ e,e ∈ els ++ els' → e.length = k:=fun e he=>by
    rcases List.mem_append.1 he with h|h
    · exact hkx e h
    · exact hky e h
  let GG : Nat → Value → Gh:=fun g v=>⟨G.imm,fun q=>if q = h.length then some g else G.blk q,fun q j=>if q = h.length ∧ j = els.length + els'.length then some v else G.tl q j⟩
  have hleB : ∀ (g : Nat) (v : Value),G.le (GG g v):=fun g v=>⟨fun _ _ _ e=>e,fun q b e=>by
    show (if q = h.length then some g else G.blk q) = some b
    by_cases hrl : q = h.length
    · subst hrl;rw [f1] at e;cases e
    · rw [if_neg hrl];exact e,fun q j u e=>by
    show (if q = h.length ∧ j = els.length + els'.length then some v else G.tl q j) = some u
    rw [if_neg fun h=>by obtain ⟨rfl,rfl⟩:=h;rw [f2] at e;cases e];exact e⟩
  have hne : ∀ (g : Nat) (v : Value) (q : Nat),q ≠ h.length → (GG g v).blk q = G.blk q:=fun g v q hq=>if_neg hq
  have hnt : ∀ (g : Nat) (v : Value) (q : Nat),q ≠ h.length → ∀ j,(GG g v).tl q j = G.tl q j:=fun g v q hq j=>if_neg fun h=>hq h.1
  have htnew : ∀ (g : Nat) (v : Value),(GG g v).tl h.length (els.length + els'.length) = some v:=fun g v=>if_pos ⟨rfl,rfl⟩
  have htnone : ∀ (g : Nat) (v : Value) (j : Nat),els.length + els'.length < j → (GG g v).tl h.length j = none:=fun g v j hj=>by
    show (if h.length = h.length ∧ j = els.length + els'.length then some v else G.tl h.length j) = none
    rw [if_neg fun h=>by omega];exact f2 j
  have hqn : ∀ {q : Nat} {x : AObj},h[q]? = some x → q ≠ h.length:=fun hx e=>by subst e;rw [List.getElem?_eq_none (Nat.le_refl _)] at hx;cases hx
  have hlenA : (els ++ els').length = els.length + els'.length:=List.length_append
  by_cases hroom : ∃ g cap cur,a.eval x = .slice (some ⟨g,0,none⟩) els.length cap ∧ els.length + els'.length ≤ cap ∧ B.w.heap.size ≤ g ∧ w.heap[g]? = some (.cells (List.toArray cur) e (0,0)) ∧ els.length ≤ cap ∧ cap ≤ maxLen ∧ cur.length = cap * k ∧
      ConcL G (cur.take (els.length * k)) els.flatten ∧ (∀ j,G.imm g j = none) ∧ G.blk r = some g ∧ G.tl r els.length = some (.slice (some ⟨g,0,none⟩) els.length cap)
  · -- in place
    obtain ⟨g,cap,cur,vx,hroom,q2,q3,q4,q5,q6,q7,q8,q9,q10⟩:=hroom
    have hfit : els.length * i.size + news.length ≤ cur.toArray.size:=by rw [i2,hnl,List.size_toArray,q6,← Nat.add_mul];exact Nat.mul_le_mul_right _ hroom
    have hrun:=run_append_room (P:=P) w t ty e i hu.h i1 g els.length cap cur.toArray q3 ⟨b,o,none⟩ els'.length c news (by rw [i2];exact hnl) hnw hone' hroom hfit
    rw [i2] at hrun hfit
    rw [exec_append a (by rw [vx,vy];exact hrun)]
    generalize hnv : (Value.slice (some ⟨g,0,none⟩) (els.length + els'.length) cap) = nv
    have hrow:=setRow_heap w g cur.toArray (cur.toArray.toList.take (els.length * k) ++ news ++ cur.toArray.toList.drop (els.length * k + news.length)).toArray e (0,0) q3
    have hblk : ∀ b',b' ≠ g → (w.setRow g (cur.toArray.toList.take (els.length * k) ++ news ++ cur.toArray.toList.drop (els.length * k + news.length)).toArray).heap[b']? = w.heap[b']?:=fun b' hb'=>setRow_other _ _ _ _ hb'
    have hgs : g < w.heap.size:=(Array.getElem?_eq_some_iff.1 q3).1
    refine hK' _ _ (hk B (GG g nv) _ _ ?_)
    refine (hRR.step (hleB g nv) ?_).put (by simpa [Nat.blt_eq] using hd) (by rw [← hnv];exact rowA_mk (by rw [hnv];exact htnew g nv) hroom)
    have hgo : ownBlk G r (.row k e els) = some g:=by simp only [ownBlk,q10,slBlock]
    have own1 : ∀ (q : Nat) (x : AObj) (b' : Nat),(h.set r .dead ++ [.row k e (els ++ els')])[q]? = some x → ownBlk (GG g nv) q x = some b' → (q = h.length ∧ b' = g) ∨ (q ≠ h.length ∧ q ≠ r ∧ ∃ x0,h[q]? = some x0 ∧ ownBlk G q x0 = some b'):=fun q x b' hx hb'=>by
      rcases dead_keep htl hx with ⟨rfl,rfl⟩ | ⟨hq,hx⟩ | ⟨rfl,rfl⟩
      · cases hb'
      · rw [ownBlk.congr (G:=G) (G':=GG g nv) (hne g nv q (hqn hx)) (hnt g nv q (hqn hx))] at hb'
        exact .inr ⟨hqn hx,hq,x,hx,hb'⟩
      · simp only [ownBlk,hlenA,htnew,← hnv,slBlock] at hb'
        cases hb';exact .inl ⟨rfl,rfl⟩
    refine ⟨hR.base.trans (hleB g nv),hR.tape,hR.os,hR.output,hR.drawn,by simpa using hR.size,fun b' hb'=>(hblk b' (by omega)).trans (hR.out b' hb'),fun b' o' v hv=>?_,hR.low,fun q x hx=>?_,fun q q' x x' b' hx hx' hb1 hb2=>?_,fun q hq=>?_⟩
    · have hbg : b' ≠ g:=fun e=>by subst e;have:=q8 o';rw [show G.imm b' o' = some v from hv] at this;cases this
      have:=hR.imm _ _ _ hv
      simp only [World.cell?,hblk b' hbg] at this ⊢
      exact this
    · rcases dead_keep htl hx with ⟨rfl,rfl⟩ | ⟨hq,hx⟩ | ⟨rfl,rfl⟩
      · trivial
      · refine (hR.obj q x hx).keep (hleB g nv) (hne g nv q (hqn hx)) (hnt g nv q (hqn hx)) fun b' hb' _=>⟨hblk b' fun hbg=>hq (hR.inj q r x _ b' hx ht hb' (by rw [hgo,hbg])),fun j hj=>hj⟩
      · refine ⟨fun j hj=>htnone g nv j (by rw [hlenA] at hj;exact hj),hkk,.inr ⟨g,cap,cur.toArray.toList.take (els.length * k) ++ news ++ cur.toArray.toList.drop (els.length * k + news.length),?_,q2,hrow,by rw [hlenA];exact hroom,q5,?_,?_,q8,if_pos rfl⟩⟩
        · rw [hlenA,htnew,hnv]
        · have hc1 : els.length * k ≤ cur.length:=by rw [q6];exact Nat.mul_le_mul_right _ q4
          have hc2 : els.length * k + news.length ≤ cur.length:=by simpa using hfit
          simp only [List.length_append,List.length_take,List.length_drop];rw [← q6];omega
        · have hc1 : els.length * k ≤ cur.length:=by rw [q6];exact Nat.mul_le_mul_right _ q4
          have e3 : (cur.toArray.toList.take (els.length * k) ++ news).length = (els ++ els').length * k:=by
            rw [hlenA,Nat.add_mul,← hnl];simp;omega
          have e5 : (cur.toArray.toList.take (els.length * k) ++ news ++ cur.toArray.toList.drop (els.length * k + news.length)).take ((els ++ els').length * k) = cur.toArray.toList.take (els.length * k) ++ news:=by rw [← e3];exact List.take_left
          rw [e5,List.flatten_append]
          exact (q7.mono (hleB g nv)).append (hnc.mono (hleB g nv))
    · rcases own1 q x b' hx hb1 with ⟨e1,e2⟩ | ⟨n1,n2,x0,k1,k2⟩ <;> rcases own1 q' x' b' hx' hb2 with ⟨e3,e4⟩ | ⟨n3,n4,x1,k3,k4⟩
      · rw [e1,e3]
      · subst e2;exact absurd (hR.inj q' r x1 _ b' k3 ht k4 hgo) n4
      · subst e4;exact absurd (hR.inj q r x0 _ b' k1 ht k2 hgo) n2
      · exact hR.inj q q' x0 x1 b' k1 k3 k2 k4
    · have hq' : h.length + 1 ≤ q:=by simpa using hq
      obtain ⟨k1,k2⟩:=hR.fresh q (by show h.length ≤ q;omega)
      exact ⟨(hne g nv q (by omega)).trans k1,fun j=>(hnt g nv q (by omega) j).trans (k2 j)⟩
  · -- in a new block
    have hrun : ∃ vs : List Value,∃ ocap,vs.length = els.length * k ∧ ConcL G vs els.flatten ∧ (Builtin.append_ #[t,t] ty #[a.eval x,a.eval y]).run P w = .ok (.slice (some ⟨w.heap.size,0,none⟩) (els.length + els'.length) (grownCap w (els.length + els'.length) ocap e))
        (w.drew.alloc (.cells (vs.toArray ++ news.toArray ++ Builtin.zeroCells z.cells (grownCap w (els.length + els'.length) ocap e - (els.length + els'.length))) e)):=by
      have htl0:=(rowA_inv ex).1
      rcases hold with ⟨rfl,vx⟩ | ⟨g,cap,cur,vx,q2,q3,q4,q5,q6,q7,q8,q9⟩
      · have hr:=run_append_nil (P:=P) w t ty e i z hu.h i1 i4 ⟨b,o,none⟩ els'.length c news (by rw [i2];exact hnl) hnw hmp (by simp only [List.length_nil,Nat.zero_add] at h63;omega) (by simp only [List.length_nil,Nat.zero_add] at hb;rw [i3];omega)
        refine ⟨[],0,by simp,.nil _,?_⟩
        rw [vx,vy];simpa using hr
      · have hlt : cap < els.length + els'.length:=by
          rcases Nat.lt_or_ge cap (els.length + els'.length) with h|h
          · exact h
          · exact absurd ⟨g,cap,cur,vx,h,q2,q3,q4,q5,q6,q7,q8,q9,by rw [htl0,vx]⟩ hroom
        have hvl : (cur.take (els.length * k)).length = els.length * k:=by rw [List.length_take,q6,Nat.min_eq_left (Nat.mul_le_mul_right _ q4)]
        have hr:=run_append_grow (P:=P) w t ty e i z hu.h i1 i4 ⟨g,0,none⟩ els.length cap (cur.take (els.length * k)) (by rw [i2];exact hvl) (fun j u hu=>by
          rw [add_none,Nat.zero_add]
          rw [List.getElem?_take] at hu
          split at hu
          · simp [World.cell?,q3,hu]
          · cases hu) ⟨b,o,none⟩ els'.length c news (by rw [i2];exact hnl) hnw hlt (by omega) (growslice_fits (by omega) (by rw [i3];exact hb))
        exact ⟨_,cap,hvl,q7,by rw [vx,vy];exact hr⟩
    obtain ⟨vs,ocap,hvl,hvc,hrun⟩:=hrun
    have hge:=grownCap_ge w (els.length + els'.length) ocap e
    have hcm:=grownCap_le_maxLen w (els.length + els'.length) ocap e (by simp only [maxLen];omega)
    generalize grownCap w (els.length + els'.length) ocap e = cap' at hrun hge hcm
    rw [exec_append a hrun]
    have hzs0:=size_zeroCells z.cells (cap' - (els.length + els'.length))
    obtain ⟨zs,hzs⟩ : ∃ zs : List Value,Builtin.zeroCells z.cells (cap' - (els.length + els'.length)) = zs.toArray:=⟨_,Array.toArray_toList.symm⟩
    have hzl : zs.length = (cap' - (els.length + els'.length)) * k:=by rw [hzk',hzs] at hzs0;simpa using hzs0
    rw [hzs]
    have hcc : vs.toArray ++ news.toArray ++ zs.toArray = (vs ++ news ++ zs).toArray:=by simp
    rw [hcc]
    generalize hnv : (Value.slice (some ⟨w.heap.size,0,none⟩) (els.length + els'.length) cap') = nv
    have hblk : ∀ b',b' < w.heap.size → (w.drew.alloc (.cells (vs ++ news ++ zs).toArray e)).heap[b']? = w.heap[b']?:=fun b' hb'=>heap_alloc_old w.drew _ b' hb'
    have hnewb : (w.drew.alloc (.cells (vs ++ news ++ zs).toArray e)).heap[w.heap.size]? = some (.cells (vs ++ news ++ zs).toArray e (0,0)):=heap_alloc_new w.drew _
    refine hK' _ _ (hk B (GG w.heap.size nv) _ _ ?_)
    refine (hRR.step (hleB w.heap.size nv) ?_).put (by simpa [Nat.blt_eq] using hd) (by rw [← hnv];exact rowA_mk (by rw [hnv];exact htnew _ nv) hge)
    refine hR.turn (hR.base.trans (hleB w.heap.size nv)) rfl rfl rfl (Nat.le_succ _) (by simp) (fun b' hb'=>hblk b' (Nat.lt_of_lt_of_le hb' hR.size)) (fun _ _ _=>rfl) (fun b' o' v hv=>?_) (fun q x hx=>?_) (fun q x b' hx hb'=>?_) (fun q q' x x' b' hx hx' hb1 hb2 hlt=>?_) (fun q hq=>?_)
    · have e1 : (w.drew.alloc (.cells (vs ++ news ++ zs).toArray e)).cell? ⟨b',o',none⟩ = w.cell? ⟨b',o',none⟩:=by
        simp only [World.cell?];rw [hblk b' (hR.lt hv)]
      exact e1.trans (hR.imm _ _ _ hv)
    · rcases dead_keep htl hx with ⟨rfl,rfl⟩ | ⟨hq,hx⟩ | ⟨rfl,rfl⟩
      · trivial
      · exact (hR.obj q x hx).keep (hleB w.heap.size nv) (hne w.heap.size nv q (hqn hx)) (hnt w.heap.size nv q (hqn hx)) fun b' _ hlt=>⟨hblk b' hlt,fun j hj=>hj⟩
      · refine ⟨fun j hj=>htnone _ nv j (by rw [hlenA] at hj;exact hj),hkk,.inr ⟨w.heap.size,cap',vs ++ news ++ zs,?_,hR.size,hnewb,by rw [hlenA];exact hge,hcm,?_,?_,fun j=>?_,if_pos rfl⟩⟩
        · rw [hlenA,htnew,hnv]
        · rw [List.length_append,List.length_append,hvl,hnl,hzl,← Nat.add_mul,← Nat.add_mul];congr 1;omega
        · have e3 : (vs ++ news).length = (els ++ els').length * k:=by rw [hlenA,Nat.add_mul,← hnl,List.length_append,hvl]
          have e5 : (vs ++ news ++ zs).take ((els ++ els').length * k) = vs ++ news:=by rw [← e3];exact List.take_left
          rw [e5,List.flatten_append]
          exact (hvc.mono (hleB _ nv)).append (hnc.mono (hleB _ nv))
        · show G.imm w.heap.size j = none
          cases hi : G.imm w.heap.size j with
          | none=>rfl
          | some v=>exact absurd (hR.lt hi) (by omega)
    · rcases dead_keep htl hx with ⟨rfl,rfl⟩ | ⟨hq,hx⟩ | ⟨rfl,rfl⟩
      · cases hb'
      · rw [ownBlk.congr (G:=G) (G':=GG w.heap.size nv) (hne w.heap.size nv q (hqn hx)) (hnt w.heap.size nv q (hqn hx))] at hb';exact .inr ⟨x,hx,hb'⟩
      · simp only [ownBlk,hlenA,htnew,← hnv,slBlock] at hb'
        cases hb';exact .inl (Nat.le_refl _)
    · have key : ∀ q x,(h.set r .dead ++ [.row k e (els ++ els')])[q]? = some x → ownBlk (GG w.heap.size nv) q x = some b' → q = h.length:=fun q x hx hb'=>by
        rcases dead_keep htl hx with ⟨rfl,rfl⟩ | ⟨hq,hx⟩ | ⟨rfl,rfl⟩
        · cases hb'
        · rw [ownBlk.congr (G:=G) (G':=GG w.heap.size nv) (hne w.heap.size nv q (hqn hx)) (hnt w.heap.size nv q (hqn hx))] at hb'
          exact absurd ((hR.obj q x hx).own hb').1 (by omega)
        · rfl
      rw [key q x hx hb1,key q' x' hx' hb2]
    · have hq' : h.length + 1 ≤ q:=by simpa using hq
      obtain ⟨k1,k2⟩:=hR.fresh q (by show h.length ≤ q;omega)
      exact ⟨(hne w.heap.size nv q (by omega)).trans k1,fun j=>(hnt w.heap.size nv q (by omega) j).trans (k2 j)⟩
theorem R.rowM {B : Base P} {G : Gh} {a : Act} {w : World} {t r n k e : Nat} {els : List (List AV)} (hR : R B N G ⟨rg,h,mk⟩ a w) (ht : lookO rg t = some (rowA r n)) (ho : h[r]? = some (.row k e els)) (hn : n = els.length) (h0 : 0 < n) :
    ∃ sp,R B N G ⟨(t,.mr r 0 n) :: rg,h.set r (.cells (els.flatten ++ sp)),mk⟩ a w:=by
  have hr:=hR.heap
  have h1:=hR.regs t
  rw [show look rg t = _ from lookO_eq ht] at h1
  obtain ⟨hk,hv⟩:=row_inv hr ho hn h1
  rcases hv with ⟨rfl,_⟩ | ⟨g,cap,c,hv,q2,q3,q4,q5,q6,q7,q8,q9⟩
  · simp at hn;omega
  have htl:=(rowA_inv h1).1
  refine ⟨(c.drop (els.length * k)).map .sc,?_⟩
  have hob : ownBlk G r (.row k e els) = some g:=by simp only [ownBlk];rw [← hn,htl,hv];rfl
  have hh : RH B G (h.set r (.cells (els.flatten ++ (c.drop (els.length * k)).map .sc))) w:=by
    refine hr.set (w':=w) (b:=g) ho hob q2 rfl rfl rfl (Nat.le_refl _) rfl (fun _ _=>rfl) (fun i v hi=>by rw [q8 i] at hi;cases hi) ?_ (fun c' hc'=>?_)
    · refine ⟨g,c,⟨e,fun _ e=>by cases e⟩,q9,q2,q3,?_,q8⟩
      have e1:=q7.append (⟨(List.length_map (f:=AV.sc)).symm,fun i v x hv hx=>by
        rw [List.getElem?_map,hv] at hx;simp at hx;subst hx;exact .sc _⟩ : ConcL G (c.drop (els.length * k)) ((c.drop (els.length * k)).map AV.sc))
      rwa [List.take_append_drop] at e1
    · simp only [ownBlk] at hc';rw [q9] at hc';exact (Option.some.inj hc').symm
  refine ⟨hh,hR.size,fun u=>?_,hR.defers,hR.own⟩
  simp only [look]
  cases hq : Nat.beq t u with
  | true =>
    have : t = u:=Nat.eq_of_beq_eq_true hq
    subst this
    rw [hv,← hn]
    exact .mr q9 (by omega) (fun _=>rfl)
  | false=>exact hR.regs u
theorem WL_rowM {l : List Oper} (t r : Nat) {n k e : Nat} {els : List (List AV)} (ht : lookO rg t = some (rowA r n)) (ho : h[r]? = some (.row k e els)) (hn : n = els.length) (h0 : 0 < n)
    (hk : ∀ sp,WL P fr N ops l Q ⟨(t,.mr r 0 n) :: rg,h.set r (.cells (els.flatten ++ sp)),mk⟩) : WL P fr N ops l Q ⟨rg,h,mk⟩:=by
  intro B G a w hR
  obtain ⟨sp,hR'⟩:=hR.rowM ht ho hn h0
  exact hk sp B G a w hR'
end
instance (n : Nat) : PurLL (List.replicate n ([] : List AV)):=⟨fun e he=>by rw [List.eq_of_mem_replicate he];infer_instance⟩
end Go.AL
