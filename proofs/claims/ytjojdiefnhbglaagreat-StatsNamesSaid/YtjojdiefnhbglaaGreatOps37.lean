/- Rules of the abstract logic: a row that a call has moved, or changed in place. No condition. -/
import Derived.Test.YtjojdiefnhbglaaGreatOps21
set_option linter.all false
namespace Go.AL
section
variable {P : Program} [GlobF P]
theorem RH.moveRow {B : Base P} {G : Gh} {h : List AObj} {w w' : World} {r k e : Nat} {els els' : List (List AV)} (hR : RH B G h w) (ht : h[r]? = some (.row k e els)) {g cap : Nat} {c : List Value}
    (hg : (ownBlk G r (.row k e els) = some g ∧ B.w.heap.size ≤ g ∧ (∀ j,G.imm g j = none)) ∨ g = w.heap.size)
    (h1 : w'.tape = w.tape) (h2 : w'.os = w.os) (h3 : w'.output = w.output) (h4 : w.drawn ≤ w'.drawn) (h5 : w.heap.size ≤ w'.heap.size)
    (hoth : ∀ b,b < w.heap.size → b ≠ g → w'.heap[b]? = w.heap[b]?) (hnew : w'.heap[g]? = some (.cells c.toArray e (0,0)))
    (hk : ∀ x,x ∈ els' → x.length = k) (hn : els'.length ≤ cap) (hcm : cap ≤ maxLen) (hcl : c.length = cap * k) (hc : ConcL G (c.take (els'.length * k)) els'.flatten) :
    ∃ G',G.le G' ∧ RH B G' (h.set r .dead ++ [.row k e els']) w' ∧ Conc G' (.slice (some ⟨g,0,none⟩) els'.length cap) (rowA h.length els'.length):=by
  have htl : r < h.length:=(List.getElem?_eq_some_iff.1 ht).1
  obtain ⟨f1,f2⟩:=hR.fresh h.length (Nat.le_refl _)
  have himm : ∀ j,G.imm g j = none:=fun j=>by
    rcases hg with ⟨_,_,h⟩|rfl
    · exact h j
    · cases hi : G.imm w.heap.size j with
      | none=>rfl
      | some v=>exact absurd (hR.lt hi) (by omega)
  have hBg : B.w.heap.size ≤ g:=by
    rcases hg with ⟨_,h,_⟩|rfl
    · exact h
    · exact hR.size
  generalize hnv : (Value.slice (some ⟨g,0,none⟩) els'.length cap) = v
  let GG : Gh:=⟨G.imm,fun q=>if q = h.length then some g else G.blk q,fun q j=>if q = h.length ∧ j = els'.length then some v else G.tl q j⟩
  have hleB : G.le GG:=⟨fun _ _ _ e=>e,fun q b e=>by
    show (if q = h.length then some g else G.blk q) = some b
    by_cases hrl : q = h.length
    · subst hrl;rw [f1] at e;cases e
    · rw [if_neg hrl];exact e,fun q j u e=>by
    show (if q = h.length ∧ j = els'.length then some v else G.tl q j) = some u
    rw [if_neg fun h=>by obtain ⟨rfl,rfl⟩:=h;rw [f2] at e;cases e];exact e⟩
  have hne : ∀ (q : Nat),q ≠ h.length → GG.blk q = G.blk q:=fun q hq=>if_neg hq
  have hnt : ∀ (q : Nat),q ≠ h.length → ∀ j,GG.tl q j = G.tl q j:=fun q hq j=>if_neg fun h=>hq h.1
  have htnew : GG.tl h.length els'.length = some v:=if_pos ⟨rfl,rfl⟩
  have htnone : ∀ (j : Nat),els'.length < j → GG.tl h.length j = none:=fun j hj=>by
    show (if h.length = h.length ∧ j = els'.length then some v else G.tl h.length j) = none
    rw [if_neg fun h=>by omega];exact f2 j
  have hqn : ∀ {q : Nat} {x : AObj},h[q]? = some x → q ≠ h.length:=fun hx e=>by subst e;rw [List.getElem?_eq_none (Nat.le_refl _)] at hx;cases hx
  have own1 : ∀ (q : Nat) (x : AObj) (b' : Nat),(h.set r .dead ++ [.row k e els'])[q]? = some x → ownBlk GG q x = some b' → (q = h.length ∧ b' = g) ∨ (q ≠ h.length ∧ q ≠ r ∧ ∃ x0,h[q]? = some x0 ∧ ownBlk G q x0 = some b'):=fun q x b' hx hb'=>by
    rcases dead_keep htl hx with ⟨rfl,rfl⟩ | ⟨hq,hx⟩ | ⟨rfl,rfl⟩
    · cases hb'
    · rw [ownBlk.congr (G:=G) (G':=GG) (hne q (hqn hx)) (hnt q (hqn hx))] at hb'
      exact .inr ⟨hqn hx,hq,x,hx,hb'⟩
    · simp only [ownBlk,htnew,← hnv,slBlock] at hb'
      cases hb';exact .inl ⟨rfl,rfl⟩
  have hnog : ∀ q x0,q ≠ r → h[q]? = some x0 → ownBlk G q x0 ≠ some g:=fun q x0 hq hx hb=>by
    rcases hg with ⟨hgo,_,_⟩|rfl
    · exact hq (hR.inj q r x0 _ g hx ht hb hgo)
    · exact absurd ((hR.obj q x0 hx).own hb).1 (by omega)
  refine ⟨GG,hleB,⟨hR.base.trans hleB,h1.trans hR.tape,h2.trans hR.os,h3.trans hR.output,Nat.le_trans hR.drawn h4,Nat.le_trans hR.size h5,fun b' hb'=>(hoth b' (Nat.lt_of_lt_of_le hb' hR.size) (by omega)).trans (hR.out b' hb'),fun b' o' u hu=>?_,hR.low,fun q x hx=>?_,fun q q' x x' b' hx hx' hb1 hb2=>?_,fun q hq=>?_⟩,?_⟩
  · have hbg : b' ≠ g:=fun e=>by subst e;have:=himm o';rw [show G.imm b' o' = some u from hu] at this;cases this
    have:=hR.imm _ _ _ hu
    simp only [World.cell?,hoth b' (hR.lt hu) hbg] at this ⊢
    exact this
  · rcases dead_keep htl hx with ⟨rfl,rfl⟩ | ⟨hq,hx⟩ | ⟨rfl,rfl⟩
    · trivial
    · exact (hR.obj q x hx).keep hleB (hne q (hqn hx)) (hnt q (hqn hx)) fun b' hb' hlt=>⟨hoth b' hlt fun hbg=>hnog q x hq hx (by rw [hb',hbg]),fun j hj=>hj⟩
    · exact ⟨fun j hj=>htnone j hj,hk,.inr ⟨g,cap,c,by rw [htnew,hnv],hBg,hnew,hn,hcm,hcl,hc.mono hleB,himm,if_pos rfl⟩⟩
  · rcases own1 q x b' hx hb1 with ⟨e1,e2⟩ | ⟨n1,n2,x0,k1,k2⟩ <;> rcases own1 q' x' b' hx' hb2 with ⟨e3,e4⟩ | ⟨n3,n4,x1,k3,k4⟩
    · rw [e1,e3]
    · subst e2;exact absurd k4 (hnog q' x1 n4 k3)
    · subst e4;exact absurd k2 (hnog q x0 n2 k1)
    · exact hR.inj q q' x0 x1 b' k1 k3 k2 k4
  · have hq' : h.length + 1 ≤ q:=by simpa using hq
    obtain ⟨k1,k2⟩:=hR.fresh q (by show h.length ≤ q;omega)
    exact ⟨(hne q (by omega)).trans k1,fun j=>(hnt q (by omega) j).trans (k2 j)⟩
  · rw [← hnv];exact rowA_mk (by rw [hnv];exact htnew) hn
end
end Go.AL
