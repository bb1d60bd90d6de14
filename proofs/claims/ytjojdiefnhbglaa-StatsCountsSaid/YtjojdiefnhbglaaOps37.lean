/- Rules of the abstract logic: a row that a call has moved, or changed in place. No condition. -/
import Derived.Test.YtjojdiefnhbglaaOps21
import Derived.Test.YtjojdiefnhbglaaEF1
import Derived.Test.YtjojdiefnhbglaaOps12
import Derived.Test.YtjojdiefnhbglaaOps11
set_option linter.all false
namespace Go.AL
section
variable {P : Program} [GlobF P]
theorem RH.moveRow {B : Base P} {G : Gh} {h : List AObj} {w w' : World} {r k e : Nat} {els els' : List (List AV)} (hR : RH B G h w) (ht : h[r]? = some (.row k e els)) {g cap : Nat} {c : List Value}
    (hg : (ownBlk G r (.row k e els) = some g ∧ B.w.heap.size ≤ g ∧ (∀ j,G.imm g j = none)) ∨ g = w.heap.size)
    (h1 : w'.tape = w.tape) (h2 : w'.os = w.os) (h3 : w'.output = w.output) (h4 : w.drawn ≤ w'.drawn) (h5 : w.heap.size ≤ w'.heap.size)
    (hoth : ∀ b,b < w.heap.size → b ≠ g → w'.heap[b]? = w.heap[b]?) (hnew : w'.heap[g]? = some (.cells c.toArray e (0,0)))
    (hk : ∀ x,x ∈ els' → x.length = k) (hn : els'.length ≤ cap) (hcm : cap ≤ maxLen) (hcl : c.length = cap * k) (hc : ConcL G (c.take (els'.length * k)) els'.flatten) :
    ∃ G',G.le G' ∧ RH B G' (h.set r .dead ++ [.row k e els']) w' ∧ Conc G' (.slice (some ⟨g,0,none⟩) els'.length cap) (rowA h.length els'.length):=by
  have htl : r < h.length:=(List.getElem?_eq_some_iff.1 ht).1
  obtain ⟨f1,f2⟩:=hR.fresh h.length (Nat.le_refl _)
  have himm : ∀ j,G.imm g j = none:=fun j=>by
    rcases hg with ⟨_,_,h⟩|rfl
    · exact h j
    · cases hi : G.imm w.heap.size j with
      | none=>rfl
      | some v=>exact absurd (hR.lt hi) (by omega)
  have hBg : B.w.heap.size ≤ g:=by
    rcases hg with ⟨_,h,_⟩|rfl
    · exact h
    · exact hR.size
  generalize hnv : (Value.slice (some ⟨g,0,none⟩) els'.length cap) = v
  let GG : Gh:=⟨G.imm,fun q=>if q = h.length then some g else G.blk q,fun q j=>if q = h.length ∧ j = els'.length then some v else G.tl q j⟩
  have hleB : G.le GG:=⟨fun _ _ _ e=>e,fun q b e=>by
    show (if q = h.length then some g else G.blk q) = some b
    by_cases hrl : q = h.length
    · subst hrl;rw [f1] at e;cases e
    · rw [if_neg hrl];exact e,fun q j u e=>by
    show (if q = h.length ∧ j = els'.length then some v else G.tl q j) = some u
    rw [if_neg fun h=>by obtain ⟨rfl,rfl⟩:=h;rw [f2] at e;cases e];exact e⟩
  have hne : ∀ (q : Nat),q ≠ h.length → GG.blk q = G.blk q:=fun q hq=>if_neg hq
  have hnt : ∀ (q : Nat),q ≠ h.length → ∀ j,GG.tl q j = G.tl q j:=fun q hq j=>if_neg fun h=>hq h.1
  have htnew : GG.tl h.length els'.length = some v:=if_pos ⟨rfl,rfl⟩
  have htnone : ∀ (j : Nat),els'.length < j → GG.tl h.length j = none:=fun j hj=>by
    show (if h.length = h.length ∧ j = els'.length then some v else G.tl h.length j) = none
    rw [if_neg fun h=>by omega];exact f2 j
  have hqn : ∀ {q : Nat} {x : AObj},h[q]? = some x → q ≠ h.length:=fun hx e=>by subst e;rw [List.getElem?_eq_none (Nat.le_refl _)] at hx;cases hx
  have own1 : ∀ (q : Nat) (x : AObj) (b' : Nat),(h.set r .dead ++ [.row k e els'])[q]? = some x → ownBlk GG q x = some b' → (q = h.length ∧ b' = g) ∨ (q ≠ h.length ∧ q ≠ r ∧ ∃ x0,h[q]? = some x0 ∧ ownBlk G q x0 = some b'):=fun q x b' hx hb'=>by
    rcases dead_keep htl hx with ⟨rfl,rfl⟩ | ⟨hq,hx⟩ | ⟨rfl,rfl⟩
    · cases hb'
    · rw [ownBlk.congr (G:=G) (G':=GG) (hne q (hqn hx)) (hnt q (hqn hx))] at hb'
      exact .inr ⟨hqn hx,hq,x,hx,hb'⟩
    · simp only [ownBlk,htnew,← hnv,slBlock] at hb'
      cases hb';exact .inl ⟨rfl,rfl⟩
  have hnog : ∀ q x0,q ≠ r → h[q]? = some x0 → ownBlk G q x0 ≠ some g:=fun q x0 hq hx hb=>by
    rcases hg with ⟨hgo,_,_⟩|rfl
    · exact hq (hR.inj q r x0 _ g hx ht hb hgo)
    · exact absurd ((hR.obj q x0 hx).own hb).1 (by omega)
  refine ⟨GG,hleB,⟨hR.base.trans hleB,h1.trans hR.tape,h2.trans hR.os,h3.trans hR.output,Nat.le_trans hR.drawn h4,Nat.le_trans hR.size h5,fun b' hb'=>(hoth b' (Nat.lt_of_lt_of_le hb' hR.size) (by omega)).trans (hR.out b' hb'),fun b' o' u hu=>?_,hR.low,fun q x hx=>?_,fun q q' x x' b' hx hx' hb1 hb2=>?_,fun q hq=>?_⟩,?_⟩
  · have hbg : b' ≠ g:=fun e=>by subst e;have:=himm o';rw [show G.imm b' o' = some u from hu] at this;cases this
    have:=hR.imm _ _ _ hu
    simp only [World.cell?,hoth b' (hR.lt hu) hbg] at this ⊢
    exact this
  · rcases dead_keep htl hx with ⟨rfl,rfl⟩ | ⟨hq,hx⟩ | ⟨rfl,rfl⟩
    · trivial
    · exact (hR.obj q x hx).keep hleB (hne q (hqn hx)) (hnt q (hqn hx)) fun b' hb' hlt=>⟨hoth b' hlt fun hbg=>hnog q x hq hx (by rw [hb',hbg]),fun j hj=>hj⟩
    · exact ⟨fun j hj=>htnone j hj,hk,.inr ⟨g,cap,c,by rw [htnew,hnv],hBg,hnew,hn,hcm,hcl,hc.mono hleB,himm,if_pos rfl⟩⟩
  · rcases own1 q x b' hx hb1 with ⟨e1,e2⟩ | ⟨n1,n2,x0,k1,k2⟩ <;> rcases own1 q' x' b' hx' hb2 with ⟨e3,e4⟩ | ⟨n3,n4,x1,k3,k4⟩
    · rw [e1,e3]
    · subst e2;exact absurd k4 (hnog q' x1 n4 k3)
    · subst e4;exact absurd k2 (hnog q x0 n2 k1)
    · exact hR.inj q q' x0 x1 b' k1 k3 k2 k4
  · have hq' : h.length + 1 ≤ q:=by simpa using hq
    obtain ⟨k1,k2⟩:=hR.fresh q (by show h.length ≤ q;omega)
    exact ⟨(hne q (by omega)).trans k1,fun j=>(hnt q (by omega) j).trans (k2 j)⟩
  · rw [← hnv];exact rowA_mk (by rw [hnv];exact htnew) hn
end
end Go.AL

namespace Go.Proofs
open Go.Shelf Go.RowKit Go.Lib Go.AL
theorem setCells_all (b : Nat) : ∀ (vs : List Value) (o : Nat) (w : World) (c : List Value) (ty : TypeId) (f : Nat × Nat),w.heap[b]? = some (.cells c.toArray ty f) → o + vs.length ≤ c.length →
    (w.setCells b o vs).tape = w.tape ∧ (w.setCells b o vs).os = w.os ∧ (w.setCells b o vs).output = w.output ∧ (w.setCells b o vs).drawn = w.drawn ∧ (w.setCells b o vs).heap.size = w.heap.size ∧
    (∀ b',b' ≠ b → (w.setCells b o vs).heap[b']? = w.heap[b']?) ∧ (w.setCells b o vs).heap[b]? = some (.cells (c.take o ++ vs ++ c.drop (o + vs.length)).toArray ty f)
  | [],o,w,c,ty,f,h,hl=>⟨rfl,rfl,rfl,rfl,rfl,fun _ _=>rfl,by simp [World.setCells,h]⟩
  | v :: vs,o,w,c,ty,f,h,hl=>by
    have ho : o < c.length:=by simp at hl;omega
    have hb : b < w.heap.size:=(Array.getElem?_eq_some_iff.1 h).1
    have h1 : (w.setCell ⟨b,o,none⟩ v).heap[b]? = some (.cells (c.set o v).toArray ty f):=by
      simp [World.setCell,Array.getElem?_modify,h]
    have ih:=setCells_all b vs (o + 1) (w.setCell ⟨b,o,none⟩ v) (c.set o v) ty f h1 (by simp at hl ⊢;omega)
    obtain ⟨a1,a2,a3,a4,a5,a6,a7⟩:=ih
    have e : c.set o v = (c.take o ++ [v]) ++ c.drop (o + 1):=by rw [List.set_eq_take_append_cons_drop,if_pos ho];simp
    have el : (c.take o ++ [v]).length = o + 1:=by simp;omega
    refine ⟨a1,a2,a3,a4,by rw [World.setCells,a5];simp [World.setCell],fun b' hb'=>?_,?_⟩
    · rw [World.setCells,a6 b' hb']
      simp [World.setCell,Array.getElem?_modify,Ne.symm hb']
    · rw [World.setCells,a7,e]
      congr 3
      have t1 : ((c.take o ++ [v]) ++ c.drop (o + 1)).take (o + 1) = c.take o ++ [v]:=by rw [← el];exact List.take_left
      have t2 : ((c.take o ++ [v]) ++ c.drop (o + 1)).drop (o + 1 + vs.length) = c.drop (o + (v :: vs).length):=by
        rw [List.drop_append,el,List.drop_of_length_le (by omega),List.nil_append,List.drop_drop]
        congr 1;simp;omega
      rw [t1,t2];simp
end Go.Proofs

namespace Go.AL
open Go.Proofs (Enters ltOf)
open Go.Sort (SWO HoldsK putRowK putRow mapBlock putCells Holds)
theorem ConcL.one {G : Gh} : ∀ {vs : List Value} {xs : List AV},ConcL G vs xs → (∀ x,x ∈ xs → x.one = true) → ∀ v,v ∈ vs → v.oneCell' = true
  | [],_,_,_,v,hv=>by cases hv
  | u :: us,[],h,_,_,_=>by have:=h.1;simp at this
  | u :: us,x :: xs,h,ho,v,hv=>by
    obtain ⟨u',us',e,h1,h2⟩:=h.inv_cons
    cases e
    rcases List.mem_cons.1 hv with rfl|hv
    · exact AV.one_ok h1 (ho x (.head _))
    · exact ConcL.one h2 (fun y hy=>ho y (.tail _ hy)) v hv
section
theorem ConcL.flat {β : Type} {G : Gh} {enc : β → List Value} {g : β → List AV} (h : ∀ b,ConcL G (enc b) (g b)) : ∀ m : List β,ConcL G ((m.map enc).flatten) ((m.map g).flatten)
  | []=>.nil _
  | b :: m=>by simp only [List.map_cons,List.flatten_cons];exact ConcL.append (h b) (ConcL.flat h m)
variable {α : Type}
end
end Go.AL

namespace Go.Proofs
open Go.Shelf Go.RowKit Go.Lib Go.AL
set_option maxHeartbeats 4000000 in
theorem insert_ac [GlobF Try.prog] {h : List AObj} {r r2 i : Nat} {els : List (List AV)} {x : List AV} (hr : h[r]? = some (.row 3 73 els)) (ht : h[r2]? = some (.tail 1 3 73)) (hx : x.length = 3) (hxo : ∀ y,y ∈ x → y.one = true) (ho : ∀ e,e ∈ els → ∀ y,y ∈ e → y.one = true) (hi : i ≤ els.length) (hl : els.length < 1099511627776) :
    AC Try.prog 53 [rowA r els.length,.sc (.int .i64 (i : Int)),.sl (some r2) 3 [x]] h (fun v h'=>v = rowA h.length (els.length + 1) ∧ h' = h.set r .dead ++ [.row 3 73 (els.take i ++ x :: els.drop i)]):=by
  refine ⟨enters_of Try.func53 rfl rfl,fun B G w vs hR hc=>?_⟩
  obtain ⟨v1,vs1,rfl,c1,hc1⟩:=hc.inv_cons
  obtain ⟨v2,vs2,rfl,c2,hc2⟩:=hc1.inv_cons
  obtain ⟨v3,vs3,rfl,c3,hc3⟩:=hc2.inv_cons
  have:=hc3.inv_nil
  subst this
  have e2:=conc_sc c2
  subst e2
  obtain ⟨g0,gt⟩:=hR.obj r2 _ ht
  have hnew : ∃ (g2 cap2 : Nat) (news : List Value) (arr : Array Value),v3 = .slice (some ⟨g2,0,none⟩) 1 cap2 ∧ news.length = 3 ∧ ConcL G news x ∧ (∀ j u,news[j]? = some u → G.imm g2 j = some u) ∧ w.heap[g2]? = some (.cells arr 73 (0,0)):=by
    cases c3 with
    | @sl b o cap _ _ _ us hk hcap him hcc ht' =>
      have t1:=ht' r2 rfl
      rcases gt with ⟨h0,_⟩ | ⟨g,cap2,arr,k1,k2,k3,_⟩
      · cases h0
      · rw [show ([x] : List (List AV)).length = 1 from rfl] at t1
        rw [t1] at k1
        injection k1 with k1
        injection k1 with k1 k4 k5
        injection k1 with k1
        injection k1 with k6 k7
        subst k6;subst k7;subst k5
        obtain ⟨ns,n1,n2,n3⟩:=sl_flat us hk him hcc
        exact ⟨b,cap,ns,arr,rfl,n1,by simpa using n2,fun j u hu=>by have:=n3 j u hu;rwa [Nat.zero_add] at this,k3⟩
  obtain ⟨g2,cap2,news,arr,rfl,hnl,hnc,hni,hh2⟩:=hnew
  have hone3 : ∀ v ∈ news,v.oneCell' = true:=ConcL.one hnc hxo
  have hnw : ∀ j v,news[j]? = some v → w.cell? ⟨g2,0 + j,none⟩ = some v:=fun j u hu=>by rw [Nat.zero_add];exact hR.imm _ _ _ (hni j u hu)
  obtain ⟨hk3,hrow⟩:=row_inv hR hr rfl c1
  have hfl : ∀ m : List (List AV),(∀ e,e ∈ m → e ∈ els) → m.flatten.length = m.length * 3:=fun m hm=>flat_len fun e he=>hk3 e (hm e he)
  have hk4 : ∀ e,e ∈ els.take i ++ x :: els.drop i → e.length = 3:=fun e he=>by
    rcases List.mem_append.1 he with h|h
    · exact hk3 e (List.mem_of_mem_take h)
    · rcases List.mem_cons.1 h with rfl|h
      · exact hx
      · exact hk3 e (List.mem_of_mem_drop h)
  have hlen : (els.take i ++ x :: els.drop i).length = els.length + 1:=by simp;omega
  have hflat : (els.take i ++ x :: els.drop i).flatten = els.flatten.take (i * 3) ++ x ++ els.flatten.drop (i * 3):=by
    have e1 : els.flatten = (els.take i).flatten ++ (els.drop i).flatten:=by rw [← List.flatten_append,List.take_append_drop]
    have e2 : (els.take i).flatten.length = i * 3:=by rw [hfl _ fun e he=>List.mem_of_mem_take he,List.length_take,Nat.min_eq_left hi]
    rw [e1,← e2,List.take_left,List.drop_left,List.flatten_append,List.flatten_cons]
    simp
  have hz3 : ∀ m,(Builtin.zeroCells txZ.cells m).size = m * 3:=fun m=>by rw [size_zeroCells];rfl
  have fin : ∀ (g cap : Nat) (c : List Value) (w' : World),((ownBlk G r (.row 3 73 els) = some g ∧ B.w.heap.size ≤ g ∧ (∀ j,G.imm g j = none)) ∨ g = w.heap.size) → w'.tape = w.tape → w'.os = w.os → w'.output = w.output → w.drawn ≤ w'.drawn → w.heap.size ≤ w'.heap.size →
      (∀ b,b < w.heap.size → b ≠ g → w'.heap[b]? = w.heap[b]?) → w'.heap[g]? = some (.cells c.toArray 73 (0,0)) → els.length + 1 ≤ cap → cap ≤ maxLen → c.length = cap * 3 → ConcL G (c.take ((els.length + 1) * 3)) (els.flatten.take (i * 3) ++ x ++ els.flatten.drop (i * 3)) →
      ∃ rv G' h' v,Ending.returned (Value.slice (some ⟨g,0,none⟩) (els.length + 1) cap) = Ending.returned rv ∧ G.le G' ∧ RH B G' h' w' ∧ Conc G' rv v ∧ v = rowA h.length (els.length + 1) ∧ h' = h.set r .dead ++ [.row 3 73 (els.take i ++ x :: els.drop i)]:=fun g cap c w' a1 a2 a3 a4 a5 a6 a7 a8 a9 a10 a11 a12=>by
    obtain ⟨G',m1,m2,m3⟩:=hR.moveRow hr (els':=els.take i ++ x :: els.drop i) (cap:=cap) a1 a2 a3 a4 a5 a6 a7 a8 hk4 (by rw [hlen];exact a9) a10 a11 (by rw [hlen,hflat];exact a12)
    rw [hlen] at m3
    exact ⟨_,G',_,_,rfl,m1,m2,m3,rfl,rfl⟩
  have hmid : ∀ (old rest : List Value),old.length = els.length * 3 → ConcL G old els.flatten → ConcL G ((old.take (i * 3) ++ news ++ old.drop (i * 3) ++ rest).take ((els.length + 1) * 3)) (els.flatten.take (i * 3) ++ x ++ els.flatten.drop (i * 3)):=fun old rest h1 h2=>by
    have e1 : (old.take (i * 3) ++ news ++ old.drop (i * 3)).length = (els.length + 1) * 3:=by
      simp only [List.length_append,List.length_take,List.length_drop,h1,hnl];omega
    rw [← e1,List.take_left]
    exact ((h2.take _).append hnc).append (h2.drop _)
  have hend : i = els.length → ∀ (old rest : List Value),old.length = els.length * 3 → ConcL G old els.flatten → ConcL G ((old ++ news ++ rest).take ((els.length + 1) * 3)) (els.flatten.take (i * 3) ++ x ++ els.flatten.drop (i * 3)):=fun e old rest h1 h2=>by
    have:=hmid old rest h1 h2
    have e1 : old.take (i * 3) = old:=List.take_of_length_le (by rw [h1,e];exact Nat.le_refl _)
    have e2 : old.drop (i * 3) = []:=List.drop_of_length_le (by rw [h1,e];exact Nat.le_refl _)
    rw [e1,e2,List.append_nil] at this
    exact this
  have hbig : (els.length + 1) * 24 ≤ 140737488355328:=by omega
  have hgc:=fun c=>grownCap_ge w (els.length + 1) c 73
  have hgm:=fun c=>grownCap_le_maxLen w (els.length + 1) c 73 (by unfold maxLen;omega)
  have hzl : ∀ m,∃ zs : List Value,Builtin.zeroCells txZ.cells m = zs.toArray ∧ zs.length = m * 3:=fun m=>⟨(Builtin.zeroCells txZ.cells m).toList,by simp,by rw [Array.length_toList,hz3]⟩
  rcases hrow with ⟨rfl,rfl⟩ | ⟨g,cap,cur,rfl,q2,q3,q4,q5,q6,q7,q8,q9⟩
  · -- nil
    have hi0 : i = 0:=by simpa using hi
    subst hi0
    have hcall:=Try.insert_end_grow none 0 0 g2 0 cap2 [] news w (Nat.le_refl _) (by omega) (by omega) rfl hnl (fun _=>rfl) (fun a e=>by cases e) hnw hone3
    refine hcall.mono ?_
    rintro e w' ⟨rfl,rfl⟩
    obtain ⟨zs,z1,z2⟩:=hzl (grownCap w (0 + 1) 0 73 - (0 + 1))
    rw [z1]
    have h1:=hgc 0
    have h2:=hgm 0
    simp only [List.length_nil] at h1 h2 fin
    refine fin w.heap.size (grownCap w (0 + 1) 0 73) (([] ++ news) ++ zs) _ (.inr rfl) rfl rfl rfl (Nat.le_succ _) (by simp) (fun b hb _=>Go.heap_alloc_old w.drew _ hb) ?_ h1 h2 (by simp only [List.length_append,List.length_nil,hnl,z2];omega) (hend rfl [] zs rfl (.nil _))
    have:=Go.heap_alloc_new w.drew (.cells (([] ++ news) ++ zs).toArray 73)
    simpa using this
  · have hcl : els.length * 3 ≤ cur.length:=by rw [q6];exact Nat.mul_le_mul_right _ q4
    have hold : (cur.take (els.length * 3)).length = els.length * 3:=by rw [List.length_take,Nat.min_eq_left hcl]
    have hgs : g < w.heap.size:=(Array.getElem?_eq_some_iff.1 q3).1
    have hne : g2 ≠ g:=fun e=>by
      subst e
      have:=hni 0 _ (List.getElem?_eq_getElem (by omega))
      rw [q8] at this;cases this
    have hcell : ∀ j v,cur[j]? = some v → w.cell? ⟨g,j,none⟩ = some v:=fun j v hj=>by simp [World.cell?,q3,hj]
    have hcs : ∀ j v,(cur.take (els.length * 3))[j]? = some v → w.cell? ⟨g,0 + j,none⟩ = some v:=fun j v hj=>by
      rw [Nat.zero_add]
      rw [List.getElem?_take] at hj
      split at hj
      · exact hcell j v hj
      · cases hj
    have hsp : ∀ j,j < cap * 3 → (w.cell? ⟨g,0 + j,none⟩).isSome = true:=fun j hj=>by rw [Nat.zero_add,hcell j _ (List.getElem?_eq_getElem (by omega))];rfl
    have hfz : ∀ j,w.frozen? ⟨g,j,none⟩ = false:=fun j=>by simp [World.frozen?,q3]
    have hone1 : ∀ v ∈ cur.take (els.length * 3),v.oneCell' = true:=ConcL.one q7 fun y hy=>by
      obtain ⟨e,he,hy⟩:=List.mem_flatten.1 hy
      exact ho e he y hy
    have hown : ownBlk G r (.row 3 73 els) = some g:=by
      have:=rowA_inv c1
      simp only [ownBlk,this.1,slBlock]
    have hcm : cap ≤ 9223372036854775807:=by unfold maxLen at q5;exact q5
    by_cases hroom : els.length + 1 ≤ cap
    · have hr3 : (els.length + 1) * 3 ≤ cur.length:=by rw [q6];exact Nat.mul_le_mul_right _ hroom
      by_cases hin : i = els.length
      · have hcall:=Try.insert_end_room g 0 els.length cap g2 0 cap2 news w hroom hcm hnl (fun j hj=>by rw [Nat.add_assoc];exact hsp _ (by omega)) (fun j _=>hfz _) hnw hone3
        subst hin
        refine hcall.mono ?_
        rintro e w' ⟨rfl,rfl⟩
        obtain ⟨b1,b2,b3,b4,b5,b6,b7⟩:=setCells_all g news (0 + els.length * 3) w cur 73 (0,0) q3 (by omega)
        refine fin g cap _ _ (.inl ⟨hown,q2,q8⟩) b1 b2 b3 (by rw [b4];exact Nat.le_refl _) (by rw [b5];exact Nat.le_refl _) (fun b _ hb=>b6 b hb) b7 hroom q5 ?_ ?_
        · simp only [List.length_append,List.length_take,List.length_drop,hnl];omega
        · rw [Nat.zero_add];exact hend rfl _ _ hold q7
      · have hcall:=Try.insert_shift g 0 els.length cap i g2 0 cap2 (cur.take (els.length * 3)) news w (by omega) hroom hcm hne (by rw [hold,Nat.mul_comm]) hnl hcs (fun j hj=>hsp j (by omega)) (fun j _=>hfz _) hnw hone1 hone3 73 73 arr.size cur.length (by simp [World.shape?,hh2]) (by simp [World.shape?,q3]) (by omega) (by simp [World.frozen?,hh2]) (by simp [World.frozen?,hh2])
        refine hcall.mono ?_
        rintro e w' ⟨rfl,rfl⟩
        obtain ⟨b1,b2,b3,b4,b5,b6,b7⟩:=setCells_all g ((cur.take (els.length * 3)).drop (3 * i)) (0 + 3 * (i + 1)) w.drew cur 73 (0,0) q3 (by rw [List.length_drop,hold];omega)
        obtain ⟨d1,d2,d3,d4,d5,d6,d7⟩:=setCells_all g news (0 + 3 * i) _ _ 73 (0,0) b7 (by simp only [List.length_append,List.length_take,List.length_drop,hnl];omega)
        refine fin g cap _ _ (.inl ⟨hown,q2,q8⟩) (d1.trans b1) (d2.trans b2) (d3.trans b3) (by rw [d4,b4];exact Nat.le_succ _) (by rw [d5,b5];exact Nat.le_refl _) (fun b _ hb=>(d6 b hb).trans (b6 b hb)) d7 hroom q5 ?_ ?_
        · simp only [List.length_append,List.length_take,List.length_drop,hnl];omega
        · have t0 : (cur.take (0 + 3 * (i + 1))).length = 3 * (i + 1):=by rw [List.length_take];omega
          have t1 : (cur.take (0 + 3 * (i + 1)) ++ (cur.take (els.length * 3)).drop (3 * i) ++ cur.drop (0 + 3 * (i + 1) + ((cur.take (els.length * 3)).drop (3 * i)).length)).take (0 + 3 * i) = (cur.take (els.length * 3)).take (i * 3):=by
            rw [List.append_assoc,List.take_append_of_le_length (by omega),List.take_take,List.take_take]
            congr 1;omega
          have t2 : (cur.take (0 + 3 * (i + 1)) ++ (cur.take (els.length * 3)).drop (3 * i) ++ cur.drop (0 + 3 * (i + 1) + ((cur.take (els.length * 3)).drop (3 * i)).length)).drop (0 + 3 * i + news.length) = (cur.take (els.length * 3)).drop (i * 3) ++ cur.drop (0 + 3 * (i + 1) + ((cur.take (els.length * 3)).drop (3 * i)).length):=by
            rw [List.append_assoc,show 0 + 3 * i + news.length = (cur.take (0 + 3 * (i + 1))).length by omega,List.drop_left,Nat.mul_comm 3 i]
          rw [t1,t2,← List.append_assoc]
          exact hmid _ _ hold q7
    · by_cases hin : i = els.length
      · have hcall:=Try.insert_end_grow (some ⟨g,0,none⟩) els.length cap g2 0 cap2 (cur.take (els.length * 3)) news w q4 (by omega) hbig hold hnl (fun e=>by cases e) (fun a e j v hj=>by cases e;rw [Addr.add_lit];exact hcs j v hj) hnw hone3
        subst hin
        refine hcall.mono ?_
        rintro e w' ⟨rfl,rfl⟩
        obtain ⟨zs,z1,z2⟩:=hzl (grownCap w (els.length + 1) cap 73 - (els.length + 1))
        rw [z1]
        have h1:=hgc cap
        have h2:=hgm cap
        refine fin w.heap.size (grownCap w (els.length + 1) cap 73) ((cur.take (els.length * 3) ++ news) ++ zs) _ (.inr rfl) rfl rfl rfl (Nat.le_succ _) (by simp) (fun b hb _=>Go.heap_alloc_old w.drew _ hb) ?_ h1 h2 (by simp only [List.length_append,hold,hnl,z2];omega) (hend rfl _ zs hold q7)
        have:=Go.heap_alloc_new w.drew (.cells ((cur.take (els.length * 3) ++ news) ++ zs).toArray 73)
        simpa using this
      · have hcall:=Try.insert_grow g 0 els.length cap i g2 0 cap2 (cur.take (els.length * 3)) news w (by omega) q4 (by omega) hbig hold hnl hcs hnw hone1 hone3
        refine hcall.mono ?_
        rintro e w' ⟨rfl,rfl⟩
        obtain ⟨zs,z1,z2⟩:=hzl (grownCap w (els.length + 1) cap 73 - (els.length + 1))
        obtain ⟨ys,y1,y2⟩:=hzl (els.length + 1 - i)
        rw [z1,y1]
        have h1:=hgc cap
        have h2:=hgm cap
        generalize grownCap w (els.length + 1) cap 73 = G3 at *
        have hX : (w.alloc (.cells (((cur.take (els.length * 3)).take (i * 3)).toArray ++ ys.toArray ++ zs.toArray) 73)).drew.heap[w.heap.size]? = some (.cells ((cur.take (els.length * 3)).take (i * 3) ++ ys ++ zs).toArray 73 (0,0)):=by
          have e : (((cur.take (els.length * 3)).take (i * 3)).toArray ++ ys.toArray ++ zs.toArray) = ((cur.take (els.length * 3)).take (i * 3) ++ ys ++ zs).toArray:=by simp
          rw [e]
          exact Go.heap_alloc_new w (.cells ((cur.take (els.length * 3)).take (i * 3) ++ ys ++ zs).toArray 73)
        have l0 : ((cur.take (els.length * 3)).take (i * 3)).length = i * 3:=by rw [List.length_take,hold];omega
        obtain ⟨b1,b2,b3,b4,b5,b6,b7⟩:=setCells_all w.heap.size news (i * 3) _ _ 73 (0,0) hX (by simp only [List.length_append,l0,y2,z2,hnl];omega)
        obtain ⟨d1,d2,d3,d4,d5,d6,d7⟩:=setCells_all w.heap.size ((cur.take (els.length * 3)).drop (i * 3)) ((i + 1) * 3) (World.drew _) _ 73 (0,0) b7 (by simp only [List.length_append,List.length_take,List.length_drop,hnl,y2,z2];omega)
        refine fin w.heap.size G3 _ _ (.inr rfl) (d1.trans b1) (d2.trans b2) (d3.trans b3) (by rw [d4];show w.drawn ≤ (World.setCells _ _ _ _).drawn + 1;rw [b4];exact Nat.le_trans (Nat.le_succ _) (Nat.le_succ _)) (by rw [d5];show w.heap.size ≤ (World.setCells _ _ _ _).heap.size;rw [b5];simp) (fun b hb hbn=>(d6 b hbn).trans ((b6 b hbn).trans (Go.heap_alloc_old w _ hb))) d7 h1 h2 ?_ ?_
        · simp only [List.length_append,List.length_take,List.length_drop,hnl,y2,z2];omega
        · have A0 : ((cur.take (els.length * 3)).take (i * 3) ++ ys ++ zs).take (i * 3) = (cur.take (els.length * 3)).take (i * 3):=by rw [List.append_assoc,List.take_append_of_le_length (by omega),List.take_of_length_le (by omega)]
          rw [A0]
          have A1 : ((cur.take (els.length * 3)).take (i * 3) ++ news).length = (i + 1) * 3:=by rw [List.length_append,l0,hnl];omega
          rw [show ((cur.take (els.length * 3)).take (i * 3) ++ news ++ ((cur.take (els.length * 3)).take (i * 3) ++ ys ++ zs).drop (i * 3 + news.length)).take ((i + 1) * 3) = (cur.take (els.length * 3)).take (i * 3) ++ news by rw [← A1];exact List.take_left]
          exact hmid _ _ hold q7
end Go.Proofs

namespace Go.Proofs
open Go.AL Go.Sort
attribute [local irreducible] Go.AL.W Go.AL.WL Go.AL.WD Go.AL.POp Go.AL.PPOp Go.AL.POpS Go.AL.PC Go.AL.AC Go.AL.YW Go.AL.Ret Go.AL.Le Go.AL.thn Go.AL.inBlk Go.AL.scp
structure Txn where
  t : Int
  ad : Int
  cu : Int
abbrev txC (p : Txn) : List AV:=[.sc (.int .i64 p.t),.sc (.int .i64 p.ad),.sc (.int .i64 p.cu)]
theorem txs1_pc [GlobF Try.prog] (a : Txn) (t : Int) : PC Try.prog 52 [.ag (txC a),.sc (.int .i64 t)] (.sc (.int .i64 (cmpI a.t t))):=by
  refine PC.of_body Try.func52 Try.ntmps52 rfl rfl rfl ?_
  repeat' first
 | (apply p1 (hd:=rfl);case hop=>first|(apply D_move;rfl)|(apply D_assign;rfl)|(apply D_pc (cmpInt64_pc a.t t);rfl;exact .same rfl (.same rfl .nil))|(apply D_load1;rfl)|(apply D_fld;rfl)|(apply D_box;rfl;rfl))
 | refine W_seq ?_
 | refine W_region ?_
 | refine WL_nil ?_
 | refine tn ?_
 | refine W_ret ?_
 | (refine idR ?_;refine ret1 rfl rfl rfl ?_)
 | (refine Le.int ?_)
  all_goals first|rfl|skip
set_option maxHeartbeats 16000000 in
theorem searchT_pc [GlobF Try.prog] (l : List Txn) (t : Int) (hl : l.length < 1759218604500) (hr : (l.map Txn.t).Pairwise (fun a b=>a < b)) :
    ∃ lo : Nat,lo ≤ l.length ∧ (∀ (j : Nat) (h : j < l.length),j < lo → l[j].t < t) ∧ (∀ (j : Nat) (h : j < l.length),lo ≤ j → ¬ l[j].t < t) ∧
      PC Try.prog 51 [.sl none 3 (l.map txC),.sc (.int .i64 t),.sc (.func (.func 52) #[] #[])] (.tu [.sc (.int .i64 (lo : Int)),.sc (.bool (dP (∃ h : lo < l.length,l[lo].t = t)))]):=by
  obtain ⟨L,hL1,hL2,hL3⟩ : ∃ lo : Nat,lo ≤ l.length ∧ (∀ (j : Nat) (h : j < l.length),j < lo → l[j].t < t) ∧ (∀ (j : Nat) (h : j < l.length),lo ≤ j → ¬ l[j].t < t):=by
    have hp:=List.pairwise_iff_getElem.1 hr
    obtain ⟨n,hn,hmin⟩:=least (fun n=>n = l.length ∨ ∃ h : n < l.length,¬ l[n].t < t) ⟨l.length,.inl rfl⟩
    have hnl : n ≤ l.length:=hmin _ (.inl rfl)
    refine ⟨n,hnl,fun j hj hjn=>Classical.byContradiction fun h=>absurd (hmin j (.inr ⟨hj,h⟩)) (by omega),fun j hj hjn h=>?_⟩
    rcases hn with e | ⟨hn,h2⟩
    · omega
    · rcases Nat.eq_or_lt_of_le hjn with e|e
      · subst e;exact h2 h
      · have:=hp n j (by simpa using hn) (by simpa using hj) e
        simp only [List.getElem_map] at this
        omega
  refine ⟨L,hL1,hL2,hL3,?_⟩
  refine PC.of_body Try.func51 Try.ntmps51 rfl rfl rfl ?_
  repeat' first
 | (apply p1 (hd:=rfl);case hop=>first|(apply D_move;rfl)|(apply D_assign;rfl)|(apply D_lenM;rfl))
 | refine W_seq ?_
 | refine W_region ?_
 | refine WL_nil ?_
 | refine tn ?_
 | (refine W_block ?_)
  refine W_loopL (X:=Nat × Nat) (fun x=>[(0,.sl none 3 (l.map txC)),(1,.sc (.int .i64 t)),(2,.sc (.func (.func 52) #[] #[])),(8,.sc (.int .i64 (l.length : Int))),(9,.sc (.int .i64 (x.1 : Int))),(10,.sc (.int .i64 (x.2 : Int)))]) (fun _=>[])
    (fun x=>x.1 ≤ L ∧ L ≤ x.2 ∧ x.2 ≤ l.length) (fun x=>x.2 - x.1) (0,l.length) ⟨Nat.zero_le _,hL1,Nat.le_refl _⟩ ⟨rfl,rfl,rfl,rfl,rfl,rfl,trivial⟩ rfl ?_
  rintro ⟨lo,hi⟩ ⟨h1,h2,h3⟩
  simp only at h1 h2 h3 ⊢
  by_cases hlt : lo < hi
  · have hm : (lo + hi) / 2 < l.length:=by omega
    have f1 : Value.int .i64 (IntKind.i64.wrap ((lo : Int) + (hi : Int))) = .int .i64 ((lo + hi : Nat) : Int):=by rw [w64 _ (by omega) (by omega)];rfl
    have f2 : Value.int .u64 (IntKind.u64.wrap ((lo + hi : Nat) : Int)) = .int .u64 ((lo + hi : Nat) : Int):=by rw [u64w _ (by omega)]
    have f3 : Value.int .u64 (((lo + hi : Nat) : Int).fdiv (2 ^ (min (1 : Int).toNat IntKind.u64.bits))) = .int .u64 (((lo + hi) / 2 : Nat) : Int):=by
      have : (2 : Int) ^ (min (1 : Int).toNat IntKind.u64.bits) = 2:=by decide
      rw [this,Int.fdiv_eq_ediv_of_nonneg _ (by omega)];rfl
    have f4 : Value.int .i64 (IntKind.i64.wrap (((lo + hi) / 2 : Nat) : Int)) = .int .i64 (((lo + hi) / 2 : Nat) : Int):=by rw [w64 _ (by omega) (by omega)]
    have hc:=txs1_pc (l[(lo + hi) / 2]'hm) t
    have hA:=hL2 ((lo + hi) / 2) hm
    have hB:=hL3 ((lo + hi) / 2) hm
    have hci:=ltI (x:=(l[(lo + hi) / 2]'hm).t) (y:=t)
    generalize hmd : (lo + hi) / 2 = m at *
    repeat' first
 | (apply p1 (hd:=rfl);case hop=>first|(apply D_move;rfl)|(apply D_assign;rfl)|exact D_sc (D_int rfl rfl rfl) f1|exact D_sc (D_conv_int rfl) f2|exact D_sc (D_shr rfl rfl (by decide)) f3|exact D_sc (D_conv_int rfl) f4|(apply D_pc hc;rfl;exact .same rfl (.same rfl .nil))|(apply D_pickF;rfl;rfl)|(apply D_int;rfl;rfl;rfl)|(apply D_loadW;rfl;rfl)|(apply D_idxAn;rfl;rfl;(first|omega|(simp;done))))
 | refine W_seq ?_
 | refine W_region ?_
 | (refine idC ?_;refine cs rfl (fun _=>?_) (fun _=>?_))
 | refine WL_nil ?_
 | (refine idG ?_;first|refine g0t rfl rfl rfl ?_|refine gr rfl rfl ?_|refine gs rfl rfl (fun _=>?_) (fun _=>?_))
 | refine tn ?_
 | refine bn ?_
 | refine te ?_
 | (refine idB ?_;refine bh rfl ?_)
 | refine W_skip ?_
 | refine W_block ?_
 | refine W_exit ?_
 | refine W_ret ?_
 | (refine idR ?_;refine ret2 rfl rfl rfl rfl ?_ ?_)
 | refine Le.bool ?_
 | (refine Le.int ?_)
    all_goals first
      | (exfalso;omega)
      | exact ⟨rfl,(m + 1,hi),⟨by simp only [];omega,h2,h3⟩,by simp only [];omega,⟨rfl,rfl,rfl,rfl,ieq (wsucc m (by omega)),rfl,trivial⟩,rfl⟩
      | exact ⟨rfl,(lo,m),⟨h1,by simp only [];omega,by simp only [];omega⟩,by simp only [];omega,⟨rfl,rfl,rfl,rfl,rfl,rfl,trivial⟩,rfl⟩
      | skip
  · have e1 : lo = L:=by omega
    subst e1
    by_cases hln : lo < l.length
    · have hc:=txs1_pc (l[lo]'hln) t
      have hz : cmpI (l[lo]'hln).t t = 0 ↔ (l[lo]'hln).t = t:=⟨zzI _ _,fun e=>by rw [e];exact wcI.refl t⟩
      repeat' first
 | (apply p1 (hd:=rfl);case hop=>first|(apply D_move;rfl)|(apply D_assign;rfl)|(apply D_pc hc;rfl;exact .same rfl (.same rfl .nil))|(apply D_pickT;rfl;rfl)|(apply D_pickF;rfl;rfl)|(apply D_int;rfl;rfl;rfl)|(apply D_loadW;rfl;rfl)|(apply D_conv_int;rfl)|(apply D_idxAn;rfl;rfl;(first|omega|(simp;done)))|(apply D_idxA;rfl;rfl;omega;(first|omega|(simp;done)|(simp;omega)))|(apply D_shr;rfl;rfl;first|omega|((repeat rw [w64 _ (by omega) (by omega)]);omega)|decide))
 | refine W_seq ?_
 | refine W_region ?_
 | (refine idC ?_;refine cs rfl (fun _=>?_) (fun _=>?_))
 | refine WL_nil ?_
 | (refine idG ?_;first|refine g0t rfl rfl rfl ?_|refine gr rfl rfl ?_|refine gs rfl rfl (fun _=>?_) (fun _=>?_))
 | refine tn ?_
 | refine te ?_
 | (refine idB ?_;refine bh rfl ?_)
 | refine W_skip ?_
 | refine W_block ?_
 | refine W_exit ?_
 | refine W_ret ?_
 | (refine idR ?_;refine ret2 rfl rfl rfl rfl ?_ ?_)
 | refine Le.bool ?_
 | (refine Le.int ?_)
      all_goals first
        | (exfalso;omega)
        | (refine dP_eq ?_;rw [iEq_t,hz];exact ⟨fun e=>⟨hln,e⟩,fun ⟨_,e⟩=>e⟩)
        | rfl
        | skip
    · repeat' first
 | (apply p1 (hd:=rfl);case hop=>first|(apply D_move;rfl)|(apply D_assign;rfl)|(apply D_pickF;rfl;rfl)|(apply D_int;rfl;rfl;rfl)|(apply D_loadW;rfl;rfl)|(apply D_conv_int;rfl)|(apply D_idxAn;rfl;rfl;(first|omega|(simp;done)))|(apply D_idxA;rfl;rfl;omega;(first|omega|(simp;done)|(simp;omega)))|(apply D_shr;rfl;rfl;first|omega|((repeat rw [w64 _ (by omega) (by omega)]);omega)|decide))
 | refine W_seq ?_
 | refine W_region ?_
 | (refine idC ?_;refine cs rfl (fun _=>?_) (fun _=>?_))
 | refine WL_nil ?_
 | (refine idG ?_;first|refine g0t rfl rfl rfl ?_|refine gr rfl rfl ?_|refine gs rfl rfl (fun _=>?_) (fun _=>?_))
 | refine tn ?_
 | refine te ?_
 | (refine idB ?_;refine bh rfl ?_)
 | refine W_skip ?_
 | refine W_block ?_
 | refine W_exit ?_
 | refine W_ret ?_
 | (refine idR ?_;refine ret2 rfl rfl rfl rfl ?_ ?_)
 | refine Le.bool ?_
 | (refine Le.int ?_)
      all_goals first
        | (exfalso;omega)
        | exact dP_F fun ⟨h,_⟩=>hln h
        | rfl
        | skip
end Go.Proofs

namespace Go.Proofs
open Go.AL Go.Sort
attribute [local irreducible] Go.AL.W Go.AL.WL Go.AL.WD Go.AL.POp Go.AL.PPOp Go.AL.POpS Go.AL.PC Go.AL.AC Go.AL.YW Go.AL.Ret Go.AL.Le Go.AL.thn Go.AL.inBlk Go.AL.scp
def bumpT (add : Bool) (p : Txn) : Txn:=if add then ⟨p.t,p.ad + 1,p.cu⟩ else ⟨p.t,p.ad,p.cu + 1⟩
theorem bumpT_t (add : Bool) (p : Txn) : (bumpT add p).t = p.t:=by unfold bumpT;split <;> rfl
def putX : List Txn → Dat → List Txn
  | [],d=>[bumpT d.add ⟨d.t,0,0⟩]
  | p :: l,d=>if p.t < d.t then p :: putX l d else if p.t = d.t then bumpT d.add p :: l else bumpT d.add ⟨d.t,0,0⟩ :: p :: l
theorem putX_found : ∀ (l : List Txn) (d : Dat) (lo : Nat) (h : lo < l.length),(∀ (j : Nat) (h : j < l.length),j < lo → l[j].t < d.t) → l[lo].t = d.t → putX l d = l.set lo (bumpT d.add l[lo])
  | [],d,lo,h,_,_=>by simp at h
  | p :: l,d,0,h,_,he=>by
    simp only [List.getElem_cons_zero] at he
    simp only [putX,List.set_cons_zero,List.getElem_cons_zero]
    rw [if_neg (by omega),if_pos he]
  | p :: l,d,lo + 1,h,hj,he=>by
    have h0:=hj 0 (by simp) (by omega)
    simp only [List.getElem_cons_zero] at h0
    simp only [putX,List.set_cons_succ,List.getElem_cons_succ]
    rw [if_pos h0,putX_found l d lo (by simpa using h) (fun j hjl hjlo=>by have:=hj (j + 1) (by simpa using hjl) (by omega);simpa using this) (by simpa using he)]
theorem putX_new : ∀ (l : List Txn) (d : Dat) (lo : Nat),lo ≤ l.length → (∀ (j : Nat) (h : j < l.length),j < lo → l[j].t < d.t) → (∀ (h : lo < l.length),d.t < l[lo].t) → putX l d = l.take lo ++ bumpT d.add ⟨d.t,0,0⟩ :: l.drop lo
  | [],d,lo,h,_,_=>by
    have : lo = 0:=by simpa using h
    subst this;rfl
  | p :: l,d,0,h,_,he=>by
    have:=he (by simp)
    simp only [List.getElem_cons_zero] at this
    simp only [putX,List.take_zero,List.drop_zero,List.nil_append]
    rw [if_neg (by omega),if_neg (by omega)]
  | p :: l,d,lo + 1,h,hj,he=>by
    have h0:=hj 0 (by simp) (by omega)
    simp only [List.getElem_cons_zero] at h0
    simp only [putX,List.take_succ_cons,List.drop_succ_cons,List.cons_append]
    rw [if_pos h0,putX_new l d lo (by simpa using h) (fun j hjl hjlo=>by have:=hj (j + 1) (by simpa using hjl) (by omega);simpa using this) (fun hlo=>by have:=he (by simpa using hlo);simpa using this)]
theorem putX_len (l : List Txn) (d : Dat) : (putX l d).length ≤ l.length + 1:=by
  induction l with
  | nil=>simp [putX]
  | cons p l ih=>simp only [putX];split <;> (try split) <;> simp <;> omega
theorem putX_mem {l : List Txn} {d : Dat} {p : Txn} (h : p ∈ putX l d) : p.t = d.t ∨ ∃ q,q ∈ l ∧ p.t = q.t:=by
  induction l with
  | nil=>simp only [putX,List.mem_singleton] at h;subst h;exact .inl (bumpT_t _ _)
  | cons q l ih =>
    simp only [putX] at h
    split at h
    · rcases List.mem_cons.1 h with rfl|h
      · exact .inr ⟨_,.head _,rfl⟩
      · rcases ih h with h | ⟨x,hx,e⟩
        · exact .inl h
        · exact .inr ⟨x,.tail _ hx,e⟩
    · split at h
      · rcases List.mem_cons.1 h with rfl|h
        · exact .inr ⟨q,.head _,bumpT_t _ _⟩
        · exact .inr ⟨p,.tail _ h,rfl⟩
      · rcases List.mem_cons.1 h with rfl|h
        · exact .inl (bumpT_t _ _)
        · exact .inr ⟨p,h,rfl⟩
theorem putX_rise {l : List Txn} {d : Dat} (h : (l.map Txn.t).Pairwise (fun a b=>a < b)) : ((putX l d).map Txn.t).Pairwise (fun a b=>a < b):=by
  induction l with
  | nil=>simp [putX]
  | cons q l ih =>
    rw [List.map_cons] at h
    obtain ⟨h1,h2⟩:=List.pairwise_cons.1 h
    simp only [putX]
    split
    · next hlt =>
      rw [List.map_cons]
      refine List.pairwise_cons.2 ⟨fun x hx=>?_,ih h2⟩
      obtain ⟨p,hp,rfl⟩:=List.mem_map.1 hx
      rcases putX_mem hp with e | ⟨y,hy,e⟩
      · omega
      · have:=h1 y.t (List.mem_map.2 ⟨y,hy,rfl⟩);omega
    · split
      · rw [List.map_cons,bumpT_t];exact List.pairwise_cons.2 ⟨h1,h2⟩
      · rw [List.map_cons,List.map_cons,bumpT_t]
        refine List.pairwise_cons.2 ⟨fun x hx=>?_,List.pairwise_cons.2 ⟨h1,h2⟩⟩
        show d.t < x
        rcases List.mem_cons.1 hx with rfl|hx
        · omega
        · have:=h1 x hx;omega
def txsL (l : List Dat) : List Txn:=l.foldl putX []
theorem txsL_take (l : List Dat) (i : Nat) (h : i < l.length) : txsL (l.take (i + 1)) = putX (txsL (l.take i)) l[i]:=by
  unfold txsL;rw [List.take_succ_eq_append_getElem h,List.foldl_append];rfl
theorem txsL_ok : ∀ (n : Nat) (l : List Dat),l.length = n → (txsL l).length ≤ n ∧ ((txsL l).map Txn.t).Pairwise (fun a b=>a < b)
  | 0,l,h=>by
    have:=List.eq_nil_of_length_eq_zero h
    subst this;exact ⟨Nat.le_refl _,.nil⟩
  | n + 1,l,h=>by
    rcases snocG l with rfl | ⟨m,d,rfl⟩
    · simp at h
    obtain ⟨i1,i2⟩:=txsL_ok n m (by simpa using h)
    have e : txsL (m ++ [d]) = putX (txsL m) d:=by unfold txsL;rw [List.foldl_append];rfl
    rw [e]
    exact ⟨Nat.le_trans (putX_len _ _) (by omega),putX_rise i2⟩
theorem putX_cases {l : List Txn} {d : Dat} {p : Txn} (h : p ∈ putX l d) : p ∈ l ∨ (∃ q,q ∈ l ∧ p = bumpT d.add q) ∨ p = bumpT d.add ⟨d.t,0,0⟩:=by
  induction l with
  | nil=>simp only [putX,List.mem_singleton] at h;exact .inr (.inr h)
  | cons q l ih =>
    simp only [putX] at h
    split at h
    · rcases List.mem_cons.1 h with rfl|h
      · exact .inl (.head _)
      · rcases ih h with h | ⟨x,hx,e⟩|h
        · exact .inl (.tail _ h)
        · exact .inr (.inl ⟨x,.tail _ hx,e⟩)
        · exact .inr (.inr h)
    · split at h
      · rcases List.mem_cons.1 h with rfl|h
        · exact .inr (.inl ⟨q,.head _,rfl⟩)
        · exact .inl (.tail _ h)
      · rcases List.mem_cons.1 h with rfl|h
        · exact .inr (.inr rfl)
        · exact .inl h
theorem txsL_snoc (l : List Dat) (d : Dat) : txsL (l ++ [d]) = putX (txsL l) d:=by unfold txsL;rw [List.foldl_append];rfl
def bndT (n : Nat) (p : Txn) : Prop:=0 ≤ p.ad ∧ 0 ≤ p.cu ∧ p.ad + p.cu ≤ n
theorem bump_bnd {n : Nat} {p : Txn} (b : Bool) (h : bndT n p) : bndT (n + 1) (bumpT b p):=by
  obtain ⟨h1,h2,h3⟩:=h
  unfold bumpT bndT
  cases b <;> simp <;> omega
theorem txsL_bnd : ∀ (n : Nat) (l : List Dat),l.length = n → ∀ p,p ∈ txsL l → bndT n p
  | 0,l,h,p,hp=>by
    have:=List.eq_nil_of_length_eq_zero h
    subst this;cases hp
  | n + 1,l,h,p,hp=>by
    rcases snocG l with rfl | ⟨m,d,rfl⟩
    · simp at h
    have ih:=txsL_bnd n m (by simpa using h)
    rw [txsL_snoc] at hp
    rcases putX_cases hp with h | ⟨q,hq,rfl⟩|rfl
    · obtain ⟨a,b,c⟩:=ih p h;exact ⟨a,b,by omega⟩
    · exact bump_bnd _ (ih q hq)
    · exact bump_bnd _ ⟨Int.le_refl _,Int.le_refl _,by simp⟩
theorem putX_iff {l : List Txn} {d : Dat} {p : Txn} (hr : (l.map Txn.t).Pairwise (fun a b=>a < b)) : p ∈ putX l d ↔ (p ∈ l ∧ p.t ≠ d.t) ∨ (∃ q,q ∈ l ∧ q.t = d.t ∧ p = bumpT d.add q) ∨ ((∀ q,q ∈ l → q.t ≠ d.t) ∧ p = bumpT d.add ⟨d.t,0,0⟩):=by
  induction l with
  | nil=>simp [putX]
  | cons q l ih =>
    rw [List.map_cons] at hr
    obtain ⟨h1,h2⟩:=List.pairwise_cons.1 hr
    have h1' : ∀ x,x ∈ l → q.t < x.t:=fun x hx=>h1 x.t (List.mem_map.2 ⟨x,hx,rfl⟩)
    have ih:=ih h2
    simp only [putX]
    split
    · next hlt =>
      rw [List.mem_cons,ih]
      constructor
      · rintro (rfl | ⟨a,b⟩ | ⟨x,a,b,c⟩ | ⟨a,b⟩)
        · exact .inl ⟨.head _,by omega⟩
        · exact .inl ⟨.tail _ a,b⟩
        · exact .inr (.inl ⟨x,.tail _ a,b,c⟩)
        · exact .inr (.inr ⟨fun x hx=>(List.mem_cons.1 hx).elim (fun e=>by rw [e];omega) (a x),b⟩)
      · rintro (⟨a,b⟩ | ⟨x,a,b,c⟩ | ⟨a,b⟩)
        · rcases List.mem_cons.1 a with rfl|a
          · exact .inl rfl
          · exact .inr (.inl ⟨a,b⟩)
        · rcases List.mem_cons.1 a with rfl|a
          · omega
          · exact .inr (.inr (.inl ⟨x,a,b,c⟩))
        · exact .inr (.inr (.inr ⟨fun x hx=>a x (.tail _ hx),b⟩))
    · split
      · next hlt heq =>
        rw [List.mem_cons (a:=p) (b:=bumpT d.add q) (l:=l)]
        constructor
        · rintro (rfl|a)
          · exact .inr (.inl ⟨q,.head _,heq,rfl⟩)
          · exact .inl ⟨.tail _ a,by have:=h1' p a;omega⟩
        · rintro (⟨a,b⟩ | ⟨x,a,b,c⟩ | ⟨a,b⟩)
          · rcases List.mem_cons.1 a with rfl|a
            · exact absurd heq b
            · exact .inr a
          · rcases List.mem_cons.1 a with rfl|a
            · exact .inl c
            · have:=h1' x a;omega
          · exact absurd heq (a q (.head _))
      · next hlt hne =>
        rw [List.mem_cons (a:=p) (b:=bumpT d.add ⟨d.t,0,0⟩) (l:=q :: l)]
        constructor
        · rintro (rfl|a)
          · exact .inr (.inr ⟨fun x hx=>(List.mem_cons.1 hx).elim (fun e=>by rw [e];omega) (fun hx=>by have:=h1' x hx;omega),rfl⟩)
          · exact .inl ⟨a,(List.mem_cons.1 a).elim (fun e=>by rw [e];omega) (fun a=>by have:=h1' p a;omega)⟩
        · rintro (⟨a,b⟩ | ⟨x,a,b,c⟩ | ⟨a,b⟩)
          · exact .inr a
          · rcases List.mem_cons.1 a with rfl|a
            · omega
            · have:=h1' x a;omega
          · exact .inl b
def cntX (x : Int) (b : Bool) (D : List Dat) : Nat:=(D.filter fun d=>decide (d.t = x) && (d.add == b)).length
theorem cntX_snoc (x : Int) (b : Bool) (D : List Dat) (d : Dat) : cntX x b (D ++ [d]) = cntX x b D + (if d.t = x ∧ d.add = b then 1 else 0):=by
  unfold cntX
  rw [List.filter_append,List.length_append,List.filter_cons]
  by_cases h : d.t = x ∧ d.add = b
  · rw [if_pos h];simp [h.1,h.2]
  · rw [if_neg h]
    have : (decide (d.t = x) && (d.add == b)) = false:=by
      rw [Bool.eq_false_iff];intro e;simp at e;exact h e
    simp [this]
theorem txsL_iff : ∀ (n : Nat) (l : List Dat),l.length = n → ∀ p,p ∈ txsL l ↔ (∃ d,d ∈ l ∧ d.t = p.t) ∧ p.ad = (cntX p.t true l : Nat) ∧ p.cu = (cntX p.t false l : Nat)
  | 0,l,h,p=>by
    have:=List.eq_nil_of_length_eq_zero h
    subst this;simp [txsL]
  | n + 1,l,h,p=>by
    rcases snocG l with rfl | ⟨m,d,rfl⟩
    · simp at h
    have hm : m.length = n:=by simpa using h
    have ih:=txsL_iff n m hm
    rw [txsL_snoc,putX_iff (txsL_ok n m hm).2,cntX_snoc,cntX_snoc]
    constructor
    · rintro (⟨a,b⟩ | ⟨q,a,b,rfl⟩ | ⟨a,rfl⟩)
      · obtain ⟨⟨x,hx,e⟩,h1,h2⟩:=(ih p).1 a
        rw [if_neg (fun e=>b e.1.symm),if_neg (fun e=>b e.1.symm)]
        exact ⟨⟨x,List.mem_append.2 (.inl hx),e⟩,h1,h2⟩
      · obtain ⟨_,h1,h2⟩:=(ih q).1 a
        rw [bumpT_t,b] at *
        refine ⟨⟨d,by simp,rfl⟩,?_⟩
        unfold bumpT
        cases hd : d.add <;> simp [h1,h2]
      · have hz : ∀ c,cntX d.t c m = 0:=fun c=>by
          unfold cntX
          rw [List.length_eq_zero_iff,List.filter_eq_nil_iff]
          intro x hx e
          simp at e
          exact a ⟨d.t,(cntX d.t true m : Nat),(cntX d.t false m : Nat)⟩ ((ih _).2 ⟨⟨x,hx,e.1⟩,rfl,rfl⟩) rfl
        rw [bumpT_t]
        refine ⟨⟨d,by simp,rfl⟩,?_⟩
        simp only [hz]
        unfold bumpT
        cases hd : d.add <;> simp
    · rintro ⟨⟨x,hx,e⟩,h1,h2⟩
      by_cases hpd : d.t = p.t
      · by_cases hex : ∃ q,q ∈ txsL m ∧ q.t = d.t
        · obtain ⟨q,hq,hqt⟩:=hex
          obtain ⟨_,k1,k2⟩:=(ih q).1 hq
          refine .inr (.inl ⟨q,hq,hqt,?_⟩)
          rw [hqt] at k1 k2
          obtain ⟨pt,pa,pc⟩:=p
          obtain ⟨qt,qa,qc⟩:=q
          simp only at hpd h1 h2 k1 k2 hqt ⊢
          subst hqt;subst hpd
          unfold bumpT
          cases hd : d.add <;> simp [hd] at h1 h2 ⊢ <;> omega
        · have hz : ∀ c,cntX d.t c m = 0:=fun c=>by
            unfold cntX
            rw [List.length_eq_zero_iff,List.filter_eq_nil_iff]
            intro x hx e
            simp at e
            exact hex ⟨⟨d.t,(cntX d.t true m : Nat),(cntX d.t false m : Nat)⟩,(ih _).2 ⟨⟨x,hx,e.1⟩,rfl,rfl⟩,rfl⟩
          refine .inr (.inr ⟨fun q hq e=>hex ⟨q,hq,e⟩,?_⟩)
          obtain ⟨pt,pa,pc⟩:=p
          simp only at hpd h1 h2 ⊢
          subst hpd
          rw [hz] at h1 h2
          unfold bumpT
          cases hd : d.add <;> simp [hd] at h1 h2 ⊢ <;> omega
      · rw [if_neg (fun e=>hpd e.1)] at h1 h2
        refine .inl ⟨(ih p).2 ⟨?_,h1,h2⟩,Ne.symm hpd⟩
        rcases List.mem_append.1 hx with hx|hx
        · exact ⟨x,hx,e⟩
        · rw [List.mem_singleton.1 hx] at e;exact absurd e hpd
def txR (D : List Dat) : List Txn:=(insL cmpI (D.map Dat.t)).map fun x=>⟨x,(cntX x true D : Nat),(cntX x false D : Nat)⟩
theorem txs_eq (D : List Dat) : txsL D = txR D:=by
  have hw : WC (fun (a b : Txn)=>cmpI a.t b.t):=wcI.comap Txn.t
  have h1:=(txsL_ok _ D rfl).2
  have h2:=insI_rise (D.map Dat.t)
  have hI:=insI_mem (D.map Dat.t)
  refine rise_eq hw ?_ ?_ fun p=>?_
  · exact (List.pairwise_map.1 h1).imp fun h=>ltI.2 h
  · unfold txR Rise
    rw [List.pairwise_map]
    exact h2.imp fun h=>ltI.2 h
  · rw [txsL_iff _ D rfl]
    unfold txR
    rw [List.mem_map]
    constructor
    · rintro ⟨⟨d,hd,e⟩,k1,k2⟩
      refine ⟨p.t,(hI p.t).2 (List.mem_map.2 ⟨d,hd,e⟩),?_⟩
      obtain ⟨pt,pa,pc⟩:=p
      simp only at k1 k2 ⊢
      rw [k1,k2]
    · rintro ⟨x,hx,rfl⟩
      obtain ⟨d,hd,e⟩:=List.mem_map.1 ((hI x).1 hx)
      exact ⟨⟨d,hd,e⟩,rfl,rfl⟩
end Go.Proofs

namespace Go.AL
theorem flat_lk {α : Type} {f : α → List AV} {k : Nat} (hf : ∀ a,(f a).length = k) : ∀ l : List α,(l.map f).flatten.length = l.length * k
  | []=>by simp
  | a :: l=>by rw [List.map_cons,List.flatten_cons,List.length_append,hf,flat_lk hf l,List.length_cons,Nat.succ_mul];omega
theorem flat_atk {α : Type} {f : α → List AV} {k : Nat} (hf : ∀ a,(f a).length = k) : ∀ (l : List α) (i j : Nat) (h : i < l.length),j < k → (l.map f).flatten[i * k + j]? = (f l[i])[j]?
  | [],i,j,h,_=>by simp at h
  | a :: l,0,j,h,hj=>by
    rw [Nat.zero_mul,Nat.zero_add,List.map_cons,List.flatten_cons,List.getElem?_append_left (by rw [hf];exact hj)];rfl
  | a :: l,i + 1,j,h,hj=>by
    rw [List.map_cons,List.flatten_cons,List.getElem?_append_right (by rw [hf,Nat.succ_mul];omega),hf,show (i + 1) * k + j - k = i * k + j by rw [Nat.succ_mul];omega]
    exact flat_atk hf l i j (by simpa using h) hj
theorem flat_setk {α : Type} {f : α → List AV} {k : Nat} (hf : ∀ a,(f a).length = k) : ∀ (l : List α) (i : Nat) (h : i < l.length) (b : α) (j : Nat) (cs : List AV),j + cs.length ≤ k → f b = (f l[i]).take j ++ cs ++ (f l[i]).drop (j + cs.length) →
    ((l.set i b).map f).flatten = (l.map f).flatten.take (i * k + j) ++ cs ++ (l.map f).flatten.drop (i * k + j + cs.length)
  | [],i,h,_,_,_,_,_=>by simp at h
  | a :: l,0,h,b,j,cs,hj,hb=>by
    simp only [List.getElem_cons_zero] at hb
    rw [List.set_cons_zero,List.map_cons,List.map_cons,List.flatten_cons,List.flatten_cons,Nat.zero_mul,Nat.zero_add,List.take_append_of_le_length (by rw [hf];omega),List.drop_append_of_le_length (by rw [hf];omega),hb]
    simp
  | a :: l,i + 1,h,b,j,cs,hj,hb=>by
    simp only [List.getElem_cons_succ] at hb
    have ih:=flat_setk hf l i (by simpa using h) b j cs hj hb
    have e1 : (i + 1) * k + j = (f a).length + (i * k + j):=by rw [hf,Nat.succ_mul];omega
    rw [List.set_cons_succ,List.map_cons,List.map_cons,List.flatten_cons,List.flatten_cons,ih,e1,List.take_length_add_append,Nat.add_assoc (f a).length,List.drop_length_add_append]
    simp
end Go.AL

namespace Go.Proofs
open Go.AL Go.Sort
attribute [local irreducible] Go.AL.W Go.AL.WL Go.AL.WD Go.AL.POp Go.AL.PPOp Go.AL.POpS Go.AL.PC Go.AL.AC Go.AL.YW Go.AL.Ret Go.AL.Le Go.AL.thn Go.AL.inBlk Go.AL.scp
theorem conc_tu2 {n : Int} {b : Bool} (G G' : Gh) (u : Value) (h : Conc G u (.tu [.sc (.int .i64 n),.sc (.bool b)])) : Conc G' u (.tu [.sc (.int .i64 n),.sc (.bool b)]):=by
  cases h with
  | tu h1 h2 =>
    refine .tu h1 fun i v x hv hx=>?_
    have:=h2 i v x hv hx
    rcases i with _|_|i
    · simp at hx;subst hx;rw [conc_sc this];exact .sc _
    · simp at hx;subst hx;rw [conc_sc this];exact .sc _
    · simp at hx
theorem txC_pur (l : List Txn) : PurL (l.map txC).flatten:=⟨fun x hx G u h=>by
  obtain ⟨e,he,hx⟩:=List.mem_flatten.1 hx
  obtain ⟨p,_,rfl⟩:=List.mem_map.1 he
  simp [txC] at hx
  rcases hx with rfl|rfl|rfl <;> exact Pur.h G u h⟩
theorem renRow {rg rg' : List (Nat × AV)} {h : List AObj} {q k e : Nat} {els : List (List AV)} [PurLL els] (hq : h[q]? = some (.row k e els)) (hr : RenL [q] rg rg') : Ren ⟨[],0⟩ [q] rg h rg' [.row k e els] :=
  ⟨by simp,fun r hr=>absurd hr (Nat.not_lt_zero r),fun r hr=>(by cases hr),hr,⟨⟨_,hq,.row _ _ _⟩,trivial⟩⟩
set_option maxHeartbeats 16000000 in
theorem txs_pc [GlobF Try.prog] (l : List Dat) (hl : l.length < 1048576) (hs : ∀ d,d ∈ l → d.v.s.length < 9223372036854775808) :
    PC Try.prog 21 [sl9 l] (.tu [.sl none 3 ((if dP (allD l) then txsL (dsortL 1 l) else []).map txC),.sc (.int .i64 (if dP (allD l) then 0 else 40))]):=by
  have hsd:=ssorted_pc 1 l (by omega) hs
  by_cases hA : allD l
  rotate_left 1
  · rw [← dP_F hA] at hsd ⊢
    refine PC.of_body Try.func21 Try.ntmps21 rfl rfl rfl ?_
    repeat' first
 | (apply p1 (hd:=rfl);case hop=>first|(apply D_move;rfl)|(apply D_assign;rfl)|(apply D_pc hsd;rfl;exact .same rfl (.same rfl .nil))|(apply D_int;rfl;rfl;rfl)|(apply D_lenM;rfl)|(apply D_ext;rfl;rfl))
 | refine W_seq ?_
 | refine W_region ?_
 | (refine idC ?_;refine cs rfl (fun _=>?_) (fun _=>?_))
 | refine WL_nil ?_
 | refine tn ?_
 | refine tr ?_
 | refine W_skip ?_
 | refine W_block ?_
 | refine W_ret ?_
 | (refine idR ?_;refine ret2 rfl rfl rfl rfl ?_ ?_)
 | (refine Le.int ?_)
    all_goals first|exact Le.nil rfl|rfl|contradiction|(exfalso;omega)|skip
  have hSl:=dsortL_len 1 l
  have hSD : sortS 1 l = dsortL 1 l:=by unfold sortS;rw [← dP_T hA];rfl
  rw [hSD,← dP_T hA] at hsd
  rw [← dP_T hA]
  simp only [if_true] at hsd ⊢
  generalize dsortL 1 l = D at *
  refine PC.of_body Try.func21 Try.ntmps21 rfl rfl rfl ?_
  repeat' first
 | (apply p1 (hd:=rfl);case hop=>first|(apply D_move;rfl)|(apply D_assign;rfl)|(apply D_pc hsd;rfl;exact .same rfl (.same rfl .nil))|(apply D_int;rfl;rfl;rfl)|(apply D_lenM;rfl)|(apply D_ext;rfl;rfl))
 | refine W_seq ?_
 | refine W_region ?_
 | (refine idC ?_;refine cs rfl (fun _=>?_) (fun _=>?_))
 | refine WL_nil ?_
 | refine tn ?_
 | refine tr ?_
 | refine W_skip ?_
 | refine W_block ?_
 | refine W_ret ?_
 | (refine idR ?_;refine ret2 rfl rfl rfl rfl ?_ ?_)
 | (refine Le.int ?_)
  all_goals first|contradiction|(exfalso;omega)|skip
  refine W_adoptG 6 3 73 rfl ?_
  have hDl : D.length < 1048576:=by omega
  refine W_loopR (X:=Nat) (fun i=>[(6,rowA 0 ((txsL (D.take i)).map txC).length),(19,sl9 D),(20,.sc (.int .i64 (D.length : Int))),(21,.sc (.int .i64 (i : Int)))]) (fun i=>[.row 3 73 ((txsL (D.take i)).map txC)])
    (fun i=>i ≤ D.length) (fun i=>D.length - i) 0 (Nat.zero_le _) ⟨rfl,rfl,rfl,rfl,trivial⟩ rfl ?_
  intro i hi
  obtain ⟨hlen,hrise⟩:=txsL_ok _ (D.take i) rfl
  have hbnd:=txsL_bnd _ (D.take i) rfl
  rw [List.length_take] at hlen hbnd
  by_cases hil : i < D.length
  · have hsn:=txsL_take D i hil
    generalize txsL (D.take i) = O at *
    obtain ⟨lo,h1,h2,h3,hq⟩:=searchT_pc O (D[i]'hil).t (by omega) hrise
    have hqr:=fun (h : List AObj) (hh : h[0]? = some (.row 3 73 (O.map txC)))=>PC.row hq inferInstance (txC_pur O) conc_tu2 (h:=h) (r:=0) hh rfl
    by_cases hf : ∃ h : lo < O.length,O[lo].t = (D[i]'hil).t
    · rw [← dP_T hf] at hqr
      obtain ⟨hlo,het⟩:=hf
      have hP:=putX_found O (D[i]'hil) lo hlo h2 het
      have hb:=hbnd _ (List.getElem_mem hlo)
      obtain ⟨b1,b2,b3⟩:=hb
      have f1 : Value.int .i64 (IntKind.i64.wrap ((O[lo]'hlo).ad + 1)) = .int .i64 ((O[lo]'hlo).ad + 1):=by rw [w64 _ (by omega) (by omega)]
      have f2 : Value.int .i64 (IntKind.i64.wrap ((O[lo]'hlo).cu + 1)) = .int .i64 ((O[lo]'hlo).cu + 1):=by rw [w64 _ (by omega) (by omega)]
      have hg1:=flat_atk (f:=txC) (k:=3) (fun _=>rfl) O lo 1 hlo (by decide)
      have hg2:=flat_atk (f:=txC) (k:=3) (fun _=>rfl) O lo 2 hlo (by decide)
      have hs1:=flat_setk (f:=txC) (k:=3) (fun _=>rfl) O lo hlo ⟨(O[lo]'hlo).t,(O[lo]'hlo).ad + 1,(O[lo]'hlo).cu⟩ 1 [.sc (.int .i64 ((O[lo]'hlo).ad + 1))] (by simp) rfl
      have hs2:=flat_setk (f:=txC) (k:=3) (fun _=>rfl) O lo hlo ⟨(O[lo]'hlo).t,(O[lo]'hlo).ad,(O[lo]'hlo).cu + 1⟩ 2 [.sc (.int .i64 ((O[lo]'hlo).cu + 1))] (by simp) rfl
      have hfl:=flat_lk (f:=txC) (k:=3) (fun _=>rfl) O
      have hlo' : lo < (O.map txC).length:=by rw [List.length_map];exact hlo
      repeat' first
 | (refine p1L (D_ixRowN rfl rfl rfl rfl hlo') rfl ?_)
 | (refine p1L (D_loadG1 rfl rfl hg1) rfl ?_)
 | (refine p1L (D_loadG1 rfl rfl hg2) rfl ?_)
 | (refine pS (S_storeG ((O.set lo ⟨(O[lo]'hlo).t,(O[lo]'hlo).ad + 1,(O[lo]'hlo).cu⟩).map txC) rfl rfl rfl rfl rfl rfl (by rw [hfl];(try simp only [List.length_cons,List.length_nil]);omega) (by simp) (fun x hx=>by obtain ⟨p,_,rfl⟩:=List.mem_map.1 hx;rfl) hs1 (by simp;omega)) ?_)
 | (refine pS (S_storeG ((O.set lo ⟨(O[lo]'hlo).t,(O[lo]'hlo).ad,(O[lo]'hlo).cu + 1⟩).map txC) rfl rfl rfl rfl rfl rfl (by rw [hfl];(try simp only [List.length_cons,List.length_nil]);omega) (by simp) (fun x hx=>by obtain ⟨p,_,rfl⟩:=List.mem_map.1 hx;rfl) hs2 (by simp;omega)) ?_)
 | (apply p1 (hd:=rfl);case hop=>first|(apply D_move;rfl)|(apply D_assign;rfl)|exact D_sc (D_int rfl rfl rfl) f1|exact D_sc (D_int rfl rfl rfl) f2|(apply D_load1;rfl)|(apply D_fld;rfl)|(apply D_int;rfl;rfl;rfl)|(apply D_ext;rfl;rfl)|(apply D_not;rfl)|(apply D_loadW;rfl;rfl)|(apply D_idxAn;rfl;rfl;(first|omega|(simp;done)))|(apply D_lit;rfl;rfl;rfl;rfl)|exact D_build rfl|exact D_fldB rfl)
 | refine W_seq ?_
 | refine W_region ?_
 | (refine idC ?_;refine cs rfl (fun _=>?_) (fun _=>?_))
 | refine WL_nil ?_
 | refine tn ?_
 | refine bn ?_
 | refine te ?_
 | (refine idB ?_;refine bh rfl ?_)
 | refine W_skip ?_
 | refine W_block ?_
 | refine W_exit ?_
 | refine W_ret ?_
 | (refine idR ?_;refine ret2 rfl rfl rfl rfl ?_ ?_)
 | (refine idA ?_;refine m_var rfl rfl rfl rfl rfl rfl rfl ?_)
 | refine Le.int ?_
 | (refine m_call (d:=29) (hqr _ rfl) rfl rfl rfl ?_;rintro _ _ ⟨rfl,rfl⟩)
      all_goals first|contradiction|(exfalso;omega)|skip
      · rename_i hadd
        rw [hadd] at hP
        refine ⟨rfl,i + 1,by omega,by omega,[0],?_⟩
        rw [hsn,hP]
        exact renRow rfl ⟨⟨_,rfl,mvRow rfl (by simp)⟩,⟨_,rfl,.pur⟩,⟨_,rfl,.pur⟩,⟨_,rfl,by rw [wsucc i (by omega)];exact .pur⟩,trivial⟩
      · rename_i hadd
        rw [hadd] at hP
        refine ⟨rfl,i + 1,by omega,by omega,[0],?_⟩
        rw [hsn,hP]
        exact renRow rfl ⟨⟨_,rfl,mvRow rfl (by simp)⟩,⟨_,rfl,.pur⟩,⟨_,rfl,.pur⟩,⟨_,rfl,by rw [wsucc i (by omega)];exact .pur⟩,trivial⟩
    · rw [← dP_F hf] at hqr
      have hP:=putX_new O (D[i]'hil) lo h1 h2 (fun hlo=>by have a:=h3 lo hlo (Nat.le_refl _);have b : O[lo].t ≠ (D[i]'hil).t:=fun e=>hf ⟨hlo,e⟩;omega)
      obtain ⟨O',hO'⟩ : ∃ O' : List Txn,O' = O.take lo ++ ⟨(D[i]'hil).t,0,0⟩ :: O.drop lo:=⟨_,rfl⟩
      have hl' : O'.length = O.length + 1:=by rw [hO'];simp;omega
      have hm' : (O.map txC).take lo ++ txC ⟨(D[i]'hil).t,0,0⟩ :: (O.map txC).drop lo = O'.map txC:=by rw [hO'];simp [List.map_take,List.map_drop]
      have hlo : lo < O'.length:=by omega
      have hgt : O'[lo]'hlo = ⟨(D[i]'hil).t,0,0⟩:=by subst hO';rw [List.getElem_append_right (by simp;omega)];simp [Nat.min_eq_left h1]
      have hset : ∀ x,O'.set lo x = O.take lo ++ x :: O.drop lo:=fun x=>by subst hO';rw [List.set_append_right _ _ (by simp;omega)];simp [Nat.min_eq_left h1]
      have hia:=fun (h : List AObj) (r2 : Nat) (hh : h[0]? = some (.row 3 73 (O.map txC))) (ht : h[r2]? = some (.tail 1 3 73))=>insert_ac (h:=h) (r:=0) (r2:=r2) (i:=lo) (els:=O.map txC) (x:=txC ⟨(D[i]'hil).t,0,0⟩) hh ht rfl (fun y hy=>by simp [txC] at hy;rcases hy with rfl|rfl|rfl <;> rfl) (fun e he y hy=>by obtain ⟨p,_,rfl⟩:=List.mem_map.1 he;simp [txC] at hy;rcases hy with rfl|rfl|rfl <;> rfl) (by rw [List.length_map];exact h1) (by rw [List.length_map];omega)
      rw [hm'] at hia
      have hg1:=flat_atk (f:=txC) (k:=3) (fun _=>rfl) O' lo 1 hlo (by decide)
      have hg2:=flat_atk (f:=txC) (k:=3) (fun _=>rfl) O' lo 2 hlo (by decide)
      rw [hgt] at hg1 hg2
      have hs1:=flat_setk (f:=txC) (k:=3) (fun _=>rfl) O' lo hlo ⟨(D[i]'hil).t,1,0⟩ 1 [.sc (.int .i64 1)] (by decide) (by rw [hgt];rfl)
      have hs2:=flat_setk (f:=txC) (k:=3) (fun _=>rfl) O' lo hlo ⟨(D[i]'hil).t,0,1⟩ 2 [.sc (.int .i64 1)] (by decide) (by rw [hgt];rfl)
      have hfl:=flat_lk (f:=txC) (k:=3) (fun _=>rfl) O'
      have hlo' : lo < (O.map txC).length + 1:=by rw [List.length_map];omega
      have hn' : (O.map txC).length + 1 = (O'.map txC).length:=by simp [hl']
      repeat' first
 | (refine m_lit (d:=39) rfl rfl rfl rfl rfl rfl ?_)
 | (refine p1L (D_ixRowN rfl rfl hn' rfl hlo') rfl ?_)
 | (refine p1L (D_loadG1 rfl rfl hg1) rfl ?_)
 | (refine p1L (D_loadG1 rfl rfl hg2) rfl ?_)
 | (refine pS (S_storeG ((O'.set lo ⟨(D[i]'hil).t,1,0⟩).map txC) rfl rfl rfl rfl rfl rfl (by rw [hfl];(try simp only [List.length_cons,List.length_nil]);omega) (by simp) (fun x hx=>by obtain ⟨p,_,rfl⟩:=List.mem_map.1 hx;rfl) hs1 (by simp;omega)) ?_)
 | (refine pS (S_storeG ((O'.set lo ⟨(D[i]'hil).t,0,1⟩).map txC) rfl rfl rfl rfl rfl rfl (by rw [hfl];(try simp only [List.length_cons,List.length_nil]);omega) (by simp) (fun x hx=>by obtain ⟨p,_,rfl⟩:=List.mem_map.1 hx;rfl) hs2 (by simp;omega)) ?_)
 | (apply p1 (hd:=rfl);case hop=>first|(apply D_move;rfl)|(apply D_assign;rfl)|(apply D_load1;rfl)|(apply D_fld;rfl)|(apply D_int;rfl;rfl;rfl)|(apply D_ext;rfl;rfl)|(apply D_not;rfl)|(apply D_loadW;rfl;rfl)|(apply D_idxAn;rfl;rfl;(first|omega|(simp;done)))|exact D_build rfl|exact D_fldB rfl)
 | refine W_seq ?_
 | refine W_region ?_
 | (refine idC ?_;refine cs rfl (fun _=>?_) (fun _=>?_))
 | refine WL_nil ?_
 | refine tn ?_
 | refine bn ?_
 | refine te ?_
 | (refine idB ?_;refine bh rfl ?_)
 | refine W_skip ?_
 | refine W_block ?_
 | refine W_exit ?_
 | refine W_ret ?_
 | (refine idR ?_;refine ret2 rfl rfl rfl rfl ?_ ?_)
 | (refine idA ?_;refine m_var rfl rfl rfl rfl rfl rfl rfl ?_)
 | refine Le.int ?_
 | (refine m_call (d:=29) (hqr _ rfl) rfl rfl rfl ?_;rintro _ _ ⟨rfl,rfl⟩)
 | (refine m_call (d:=40) (hia _ _ rfl rfl) rfl rfl rfl ?_;rintro _ _ ⟨rfl,rfl⟩)
      all_goals first|contradiction|(exfalso;omega)|skip
      · rename_i hadd
        rw [hadd,← hset] at hP
        refine ⟨rfl,i + 1,by omega,by omega,[2],?_⟩
        rw [hsn,hP]
        exact renRow rfl ⟨⟨_,rfl,mvRow rfl (by simp [hl'])⟩,⟨_,rfl,.pur⟩,⟨_,rfl,.pur⟩,⟨_,rfl,by rw [wsucc i (by omega)];exact .pur⟩,trivial⟩
      · rename_i hadd
        rw [hadd,← hset] at hP
        refine ⟨rfl,i + 1,by omega,by omega,[2],?_⟩
        rw [hsn,hP]
        exact renRow rfl ⟨⟨_,rfl,mvRow rfl (by simp [hl'])⟩,⟨_,rfl,.pur⟩,⟨_,rfl,.pur⟩,⟨_,rfl,by rw [wsucc i (by omega)];exact .pur⟩,trivial⟩
  · have ei : i = D.length:=by omega
    subst ei
    rw [List.take_length] at *
    generalize txsL D = O at *
    cases O with
    | nil =>
      repeat' first
 | (apply p1 (hd:=rfl);case hop=>first|(apply D_move;rfl)|(apply D_assign;rfl)|(apply D_load1;rfl)|(apply D_fld;rfl)|(apply D_int;rfl;rfl;rfl)|(apply D_loadW;rfl;rfl)|(apply D_idxAn;rfl;rfl;(first|omega|(simp;done))))
 | refine W_seq ?_
 | refine W_region ?_
 | (refine idC ?_;refine cs rfl (fun _=>?_) (fun _=>?_))
 | refine WL_nil ?_
 | refine tn ?_
 | refine te ?_
 | (refine idB ?_;refine bh rfl ?_)
 | refine W_skip ?_
 | refine W_block ?_
 | refine W_exit ?_
 | refine W_ret ?_
 | (refine idR ?_;refine ret2 rfl rfl rfl rfl ?_ ?_)
 | (refine idA ?_;refine m_var rfl rfl rfl rfl rfl rfl rfl ?_)
 | (refine Le.int ?_)
      all_goals first|contradiction|(exfalso;omega)|exact Le.row0|rfl|skip
    | cons x O =>
      repeat' first
 | (refine WL_rowM 6 0 rfl rfl rfl (by simp) ?_;intro sp2;refine WL_frz 6 0 3 (els:=(x :: O).map txC) (sp:=sp2) rfl rfl (by simp) (fun e he=>by obtain ⟨p,_,rfl⟩:=List.mem_map.1 he;rfl) ?_)
 | (apply p1 (hd:=rfl);case hop=>first|(apply D_move;rfl)|(apply D_assign;rfl)|(apply D_load1;rfl)|(apply D_fld;rfl)|(apply D_int;rfl;rfl;rfl)|(apply D_loadW;rfl;rfl)|(apply D_idxAn;rfl;rfl;(first|omega|(simp;done))))
 | refine W_seq ?_
 | refine W_region ?_
 | (refine idC ?_;refine cs rfl (fun _=>?_) (fun _=>?_))
 | refine WL_nil ?_
 | refine tn ?_
 | refine te ?_
 | (refine idB ?_;refine bh rfl ?_)
 | refine W_skip ?_
 | refine W_block ?_
 | refine W_exit ?_
 | refine W_ret ?_
 | (refine idR ?_;refine ret2 rfl rfl rfl rfl ?_ ?_)
 | (refine idA ?_;refine m_var rfl rfl rfl rfl rfl rfl rfl ?_)
 | (refine Le.int ?_)
      all_goals first|contradiction|(exfalso;omega)|(rw [List.take_length];exact Le.of_eq rfl)|rfl|skip
end Go.Proofs
