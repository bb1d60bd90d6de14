/- Contracts of datoms' keys: read; prefixes. -/
import Derived.Test.YtjojdiefnhbglaaED1
set_option linter.all false
namespace Go.Proofs
open Go.AL Go.Sort
attribute [local irreducible] Go.AL.W Go.AL.WL Go.AL.WD Go.AL.POp Go.AL.PPOp Go.AL.POpS Go.AL.PC Go.AL.AC Go.AL.YW Go.AL.Ret Go.AL.Le Go.AL.thn Go.AL.inBlk Go.AL.scp
instance : Xt Try.prog 173 Extern.BytealgCompare.compare:=⟨run_callFunc_extern Try.func173 (by kernel_rfl) (by kernel_rfl) (by kernel_rfl) (by kernel_rfl)⟩
instance (p : Prop) : BP (dP p) p (¬ p):=⟨fun h=>by rwa [dP_t] at h,fun h=>by rwa [dP_f] at h⟩
instance (s : List UInt8) : BP (wordB s) (WordP s) (¬ WordP s):=⟨fun h=>by unfold wordB at h;simpa using h,fun h=>by unfold wordB at h;simpa using h⟩
instance (v : Val) : BP (mayB v) (MayP v) (¬ MayP v):=⟨fun h=>by unfold mayB at h;rwa [dP_t] at h,fun h=>by unfold mayB at h;rwa [dP_f] at h⟩
theorem BdH.set {h : List AObj} {r : Nat} {o : AObj} (hb : BdH h) (ho : BdO h.length o) : BdH (h.set r o):=fun q hq=>by
  rw [List.length_set]
  rcases List.mem_or_eq_of_mem_set hq with h1|h1
  · exact hb q h1
  · subst h1;exact ho
def Ext (h h' : List AObj) : Prop:=∃ ex,h' = h ++ ex
def ExtX (r : Nat) (h h' : List AObj) : Prop:=h.length ≤ h'.length ∧ ∀ i,i < h.length → i ≠ r → h'[i]? = h[i]?
theorem ExtX.refl (r : Nat) (h : List AObj) : ExtX r h h:=⟨Nat.le_refl _,fun _ _ _=>rfl⟩
theorem ExtX.set {r : Nat} {h h' : List AObj} {o : AObj} (e : ExtX r h h') : ExtX r h (h'.set r o):=⟨by simpa using e.1,fun i hi hne=>by rw [List.getElem?_set_ne (Ne.symm hne)];exact e.2 i hi hne⟩
theorem ExtX.fin {r : Nat} {h h' : List AObj} {a b : AObj} (hr : r < h.length) (hab : a = b) (e : ExtX r h h') : Ext (h.set r b) (h'.set r a):=by
  subst hab
  refine ⟨h'.drop h.length,List.ext_getElem? fun i=>?_⟩
  have hl:=e.1
  rcases Nat.lt_or_ge i h.length with hi|hi
  · rw [List.getElem?_append_left (by simpa using hi)]
    by_cases hne : i = r
    · subst hne;rw [List.getElem?_set_self (by omega),List.getElem?_set_self hi]
    · rw [List.getElem?_set_ne (Ne.symm hne),List.getElem?_set_ne (Ne.symm hne)];exact e.2 i hi hne
  · rw [List.getElem?_append_right (by simpa using hi),List.getElem?_set_ne (by omega),List.getElem?_drop]
    congr 1;simp;omega
noncomputable instance : DecidableEq Val:=fun _ _=>Classical.propDecidable _
end Go.Proofs
