/- Contracts of tree's functions: found, counted, put, at a place. -/
import Derived.Test.YtjojdiefnhbglaaGreatOps30
import Derived.Test.YtjojdiefnhbglaaGreatOps12
set_option linter.all false
namespace Go.Proofs
open Go.AL Go.Sort
attribute [local irreducible] Go.AL.W Go.AL.WL Go.AL.WD Go.AL.POp Go.AL.PPOp Go.AL.POpS Go.AL.PC Go.AL.AC Go.AL.YW Go.AL.Ret Go.AL.Le Go.AL.thn Go.AL.inBlk Go.AL.scp
def oT : Option Tr → AV
  | none=>.sc (.pointer none)
  | some t=>.ep [tA t]
theorem oT_no : oT none = .sc (.pointer none):=by rw [oT]
theorem oT_so (t : Tr) : oT (some t) = .ep [tA t]:=by rw [oT]
theorem pur_oT (o : Option Tr) : Pur (oT o):=by
  cases o with
  | none=>rw [oT_no];infer_instance
  | some t=>rw [oT_so];infer_instance
instance (o : Option Tr) : Pur (oT o):=pur_oT o
def topT (o : Option Tr) : Tr:=o.getD .no
end Go.Proofs

namespace Go.Proofs
open Go.AL Go.Sort
attribute [local irreducible] Go.AL.W Go.AL.WL Go.AL.WD Go.AL.POp Go.AL.PPOp Go.AL.POpS Go.AL.PC Go.AL.AC Go.AL.YW Go.AL.Ret Go.AL.Le Go.AL.thn Go.AL.inBlk Go.AL.scp
theorem toL_len : ∀ t : Tr,(toL t).length = sz t
  | .no=>rfl
  | .nd k v l r d m=>by
    have h1:=toL_len l
    have h2:=toL_len r
    simp only [toL,sz,List.length_append,List.length_cons];omega
end Go.Proofs

namespace Go.AL
theorem fn_inv {G : Gh} {v : Value} {f : FuncId} {ys : List AV} (h : Conc G v (.fn (.func f) [] ys)) (hz : LeL ys ys) : ∃ cb : List Value,v = .func (.func f) #[] cb.toArray ∧ ConcL (Gh.of G.imm) cb ys:=by
  cases h with
  | @fn _ fs cs _ _ l1 l2 h1 h2 =>
    have : fs = []:=by simpa using l1
    subst this
    exact ⟨cs,rfl,hz.conc ⟨l2,h2⟩⟩
theorem sort_none_ac {P : Program} [GlobF P] {ρ : Shelf.Ren} (L : Go.Proofs.SlLaysF0.n6 P ρ) (r q : Nat) (F : AV) (h : List AObj) : AC P (ρ.f 6) [.mr r q 0,F] h (fun v h'=>v = .tu [] ∧ h' = h):=by
  refine ⟨L.f6.enters rfl,fun B G w vs hr hc=>?_⟩
  obtain ⟨v1,vs1,rfl,c1,hc1⟩:=hc.inv_cons
  obtain ⟨v2,vs2,rfl,c2,hc2⟩:=hc1.inv_cons
  have:=hc2.inv_nil
  subst this
  obtain ⟨b,o',cap,rfl,hb,hcap,hq⟩:=mr_inv c1
  refine (Go.Proofs.AnyF.slices_SortFunc_none L _ cap v2 w).mono ?_
  rintro e w' ⟨rfl,rfl⟩
  exact ⟨_,G,_,.tu [],rfl,.refl G,hr,.tu rfl (fun i v x hv=>by simp at hv),rfl,rfl⟩
end Go.AL
