/- Contracts of index's facts, the document's: the facts of a prefix and a view. -/
import Derived.Test.YtjojdiefnhbglaaGreatYI10
set_option linter.all false
namespace Go.Proofs
open Go.AL Go.Sort
attribute [local irreducible] Go.AL.W Go.AL.WL Go.AL.WD Go.AL.POp Go.AL.PPOp Go.AL.POpS Go.AL.PC Go.AL.AC Go.AL.YW Go.AL.Ret Go.AL.Le Go.AL.thn Go.AL.inBlk Go.AL.scp
theorem foldl_insF_len (o : Int) : ∀ (F out : List Fac),(F.foldl (insF o) out).length = out.length + F.length
  | [],out=>rfl
  | f :: F,out=>by
    rw [List.foldl_cons,foldl_insF_len o F,(insF_perm o out f).length_eq];simp;omega
theorem foldl_insF_mem (o : Int) : ∀ (F out : List Fac) (g : Fac),g ∈ F.foldl (insF o) out → g ∈ out ∨ g ∈ F
  | [],out,g,h=>.inl h
  | f :: F,out,g,h=>by
    rcases foldl_insF_mem o F _ g h with h|h
    · rcases List.mem_cons.1 (((insF_perm o out f).mem_iff).1 h) with rfl|h
      · exact .inr (.head _)
      · exact .inl h
    · exact .inr (.tail _ h)
end Go.Proofs

namespace Go.Proofs
open Go.AL Go.Sort
attribute [local irreducible] Go.AL.W Go.AL.WL Go.AL.WD Go.AL.POp Go.AL.PPOp Go.AL.POpS Go.AL.PC Go.AL.AC Go.AL.YW Go.AL.Ret Go.AL.Le Go.AL.thn Go.AL.inBlk Go.AL.scp
theorem rg_datI {l : List Dat} (h : ∀ x,x ∈ l → datI x) : rgD l:=fun x hx=>by
  have h1:=(h x hx).2.2.2.2.1.1
  have h2:=(h x hx).2.2.2.2.2.2
  exact ⟨h1,Int.lt_add_one_iff.1 h2⟩
theorem factsL_bnd (o : Int) (p : List Prt) (v : Vw) (L : List Dat) : (factsL o p v L).length ≤ L.length ∧ ∀ f,f ∈ factsL o p v L → f.sp.length ≤ 2 * L.length:=by
  have h1:=foldR_len (datsL o p v L)
  have h2:=datsL_len (o:=o) (p:=p) (v:=v) (L:=L)
  unfold factsL
  split
  · have hU : (factsU o p v L).length ≤ L.length ∧ ∀ f,f ∈ factsU o p v L → f.sp.length ≤ 2 * L.length:=by
      unfold factsU
      split
      · exact ⟨Nat.le_trans (List.length_filter_le _ _) (by omega),fun f hf=>by have:=h1.2 f (List.mem_filter.1 hf).1;omega⟩
      · exact ⟨by omega,fun f hf=>by have:=h1.2 f hf;omega⟩
    refine ⟨?_,fun f hf=>?_⟩
    · unfold sortIF;rw [foldl_insF_len];simp only [List.length_nil];omega
    · rcases foldl_insF_mem o _ _ f hf with h|h
      · cases h
      · exact hU.2 f h
  · exact ⟨by simp,fun f hf=>by cases hf⟩
end Go.Proofs
