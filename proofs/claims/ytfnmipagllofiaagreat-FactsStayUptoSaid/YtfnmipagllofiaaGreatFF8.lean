/- Contracts of facts' functions: the instants of one. -/
import Derived.Test.YtfnmipagllofiaaGreatFF7
import Derived.Test.YtfnmipagllofiaaGreatOps28
namespace Go.Proofs
open Go.AL Go.Sort
attribute [local irreducible] Go.AL.W Go.AL.WL Go.AL.WD Go.AL.POp Go.AL.PPOp Go.AL.POpS Go.AL.PC Go.AL.AC Go.AL.YW Go.AL.Ret Go.AL.Le Go.AL.thn Go.AL.inBlk Go.AL.scp

theorem wc_cmpF : WC cmpF := by
  have e : cmpF = fun a b => if cmpI a.e b.e = 0 then (if cmpI a.a b.a = 0 then cmpV a.v b.v else cmpI a.a b.a) else cmpI a.e b.e := by
    funext a b
    simp only [cmpF, orI]
    split
    · split
      · split
        · rename_i h; exact h.symm
        · rfl
      · rfl
    · rfl
  rw [e]
  exact (wc_cmpI.comap Fac.e).lex ((wc_cmpI.comap Fac.a).lex (wc_cmpV.comap Fac.v))
theorem cmpF_z (a b : Fac) : cmpF a b = 0 ↔ a.e = b.e ∧ a.a = b.a ∧ a.v = b.v := by
  simp only [cmpF, orI]
  constructor
  · intro h
    split at h
    · rename_i h1
      split at h
      · rename_i h2
        split at h
        · rename_i h3; exact ⟨(cmpI_z _ _).1 h1, (cmpI_z _ _).1 h2, (cmpV_z _ _).1 h3⟩
        · contradiction
      · contradiction
    · contradiction
  · rintro ⟨h1, h2, h3⟩
    rw [if_pos ((cmpI_z _ _).2 h1), if_pos ((cmpI_z _ _).2 h2), if_pos ((cmpV_z _ _).2 h3)]
def riseF (l : List Fac) : Prop := l.Pairwise fun a b => cmpF a b < 0
open Classical in
noncomputable def findL (l : List Fac) (f : Fac) : List Sp := ((l.find? fun g => decide (cmpF g f = 0)).map Fac.sp).getD []
end Go.Proofs
