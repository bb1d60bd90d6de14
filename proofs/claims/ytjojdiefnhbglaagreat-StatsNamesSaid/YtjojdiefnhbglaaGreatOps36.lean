/- Rules of the abstract logic: a call's result that is a row of its own comes behind whatever heap the caller has. No condition. -/
import Derived.Test.YtjojdiefnhbglaaGreatOps21
set_option linter.all false
namespace Go.AL
open Go.Proofs (Enters)
section
variable {P : Program} [GlobF P]
theorem RH.into {B : Base P} {G : Gh} {h : List AObj} {w : World} (hr : RH B G h w) : ∃ B' : Base P,B'.w = w ∧ B'.imm = G.imm ∧ RH B' (Gh.of G.imm) [] w :=
  ⟨⟨w,G.imm,Gh.of G.imm,fun b o v e=>⟨hr.globW.f b o v e,hr.lt (hr.globW.f b o v e)⟩,hr.globW.o⟩,rfl,rfl,
    .refl _,rfl,rfl,rfl,Nat.le_refl _,Nat.le_refl _,fun _ _=>rfl,hr.imm,fun _ _ _=>rfl,fun r o h=>by simp at h,fun r _ o _ _ h=>by simp at h,fun _ _=>⟨rfl,fun _=>rfl⟩⟩
theorem PurL.conc {xs : List AV} (hp : PurL xs) {G : Gh} {vs : List Value} (h : ConcL G vs xs) : ConcL (Gh.of G.imm) vs xs :=
  ⟨h.1,fun i v x hv hx=>hp.h x (List.mem_of_getElem? hx) G v (h.2 i v x hv hx)⟩
theorem PurLL.flat {els : List (List AV)} (hp : PurLL els) : PurL els.flatten:=⟨fun x hx=>by
  obtain ⟨e,he,hx'⟩:=List.mem_flatten.1 hx
  exact (hp.h e he).h x hx'⟩
end
end Go.AL

namespace Go.AL
section
variable {P : Program} [GlobF P]
theorem PC.row {f : FuncId} {k e r n : Nat} {els : List (List AV)} {xs : List AV} {v : AV} (hpc : PC P f (.sl none k els :: xs) v) (hx : PurL xs) (hels : PurL els.flatten) (hvp : ∀ G G' u,Conc G u v → Conc G' u v) {h : List AObj} (hr : h[r]? = some (.row k e els)) (hn : n = els.length) :
    AC P f (rowA r n :: xs) h (fun v' h'=>v' = v ∧ h' = h):=by
  refine ⟨hpc.1,fun B G w vs hR hc=>?_⟩
  obtain ⟨v1,vs1,rfl,c1,hc1⟩:=hc.inv_cons
  obtain ⟨hk,hrow⟩:=row_inv hR hr hn c1
  have key : ∃ imm2,GlobW P w imm2 ∧ (∀ b o u,imm2 b o = some u → w.cell? ⟨b,o,none⟩ = some u) ∧ (Gh.of G.imm).le (Gh.of imm2) ∧ Conc (Gh.of imm2) v1 (.sl none k els):=by
    rcases hrow with ⟨rfl,rfl⟩ | ⟨g,cap,c,rfl,q2,q3,q4,q5,q6,q7,q8,q9⟩
    · exact ⟨G.imm,hR.globW,hR.imm,⟨fun _ _ _ e=>e,fun _ _ e=>e,fun _ _ _ e=>e⟩,.slnil (fun t e=>by cases e)⟩
    · let imm2 : Nat → Nat → Option Value:=fun b o=>if b = g then (c.take (els.length * k))[o]? else G.imm b o
      have hle : (Gh.of G.imm).le (Gh.of imm2):=⟨fun b o u hu=>by
        show (if b = g then (c.take (els.length * k))[o]? else G.imm b o) = some u
        rw [if_neg fun e=>by subst e;have:=q8 o;rw [show G.imm b o = some u from hu] at this;cases this];exact hu,fun _ _ e=>e,fun _ _ _ e=>e⟩
      refine ⟨imm2,⟨fun b o u hu=>hle.1 b o u (hR.globW.f b o u hu),fun b x hx=>hR.globW.o b x hx⟩,fun b o u hu=>?_,hle,?_⟩
      · replace hu : (if b = g then (c.take (els.length * k))[o]? else G.imm b o) = some u:=hu
        split at hu
        · next hb =>
          subst hb
          rw [List.getElem?_take] at hu
          split at hu
          · simp [World.cell?,q3,hu]
          · cases hu
        · exact hR.imm _ _ _ hu
      · refine sl_of_flat (vs:=c.take (els.length * k)) hk q4 ((hels.conc q7).mono hle) (fun j u hu=>?_) (fun t e=>by cases e)
        show (if g = g then (c.take (els.length * k))[0 + j]? else G.imm g (0 + j)) = some u
        rw [if_pos rfl,Nat.zero_add];exact hu
  obtain ⟨imm2,k1,k2,k3,k4⟩:=key
  refine (hpc.2 w imm2 (v1 :: vs1) k1 k2 (.cons k4 ((hx.conc hc1).mono k3))).mono ?_
  rintro e w' ⟨rv,imm',rfl,hg,h1,h2,hv⟩
  obtain ⟨m1,m2⟩:=hR.grown hg (imm':=G.imm) (fun _ _ _=>rfl) fun b o u hu=>by
    have:=hR.imm _ _ _ hu
    simp only [World.cell?,hg.out b (hR.lt hu)] at this ⊢
    exact this
  exact ⟨rv,_,h,v,rfl,m1,m2,hvp _ _ _ hv,rfl,rfl⟩
end
end Go.AL
