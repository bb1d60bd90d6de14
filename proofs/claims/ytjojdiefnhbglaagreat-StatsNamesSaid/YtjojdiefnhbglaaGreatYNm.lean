/- The statement StatsNames. No condition. -/
import Derived.Test.YtjojdiefnhbglaaGreatYN9
import Derived.Test.YtjojdiefnhbglaaGreatYOpn
import Derived.Test.YtjojdiefnhbglaaGreatRows
import Derived.HandedShaped
import Derived.Test.YtjojdiefnhbglaaGreatOpen
set_option linter.all false
namespace Go.Proofs.YtjojdiefnhbglaaGreat
open Go.ChangeShapes Go.WideShapes Go.ChangeAt Go.RowKit Go.AL
theorem Tryz.own : ownKnob Tryz.prog.godebug = none:=by kernel_rfl
theorem Tryz.laidOut : laidOutB Tryz.prog = true:=by kernel_rfl
set_option maxRecDepth 100000 in
theorem statsNames_lifted (os : Os) (started : os.Started) (H : Type) (enc : TypeId × Value → H) :
    ReturnsInHanded {} Tryz.checked os 9 .any (Rows.statsNamesSpec.pre6 enc Tryz.prog Tryz.f9 Rows.statsNamesRow.domain false) (Rows.statsNamesSpec.post enc Tryz.prog Tryz.f9 false true false false):=by
  refine returnsInHanded_of_change_shaped (C:=Tryz.checked) Tryz.own started (by kernel_rfl) Tryz.func9
    (ChangeSpec.witness6 (enc:=enc) (C:=Tryz.checked) false ⟨#[],#[],[]⟩ 8 (by kernel_rfl) (by kernel_rfl) (by kernel_rfl) (by kernel_rfl)) ?_
  intro W base args ds gs before hval0 hW hcnd hwt hsh _
  have hval : ∀ (j : Nat) t v,Tryz.f9.params[j]? = some t → args[j]? = some v → Value.okWide Tryz.prog W .any base t v:=hval0
  have hW':=hW
  obtain ⟨p,q,hA0,hV,rfl,hfz,hnd⟩:=hW
  have hA : DataW.TrodAll enc Tryz.prog W 0 (fun _=>true) true Tryz.f9.params.toList args.toList ds p:=hA0
  rw [Tryz.params9] at hA hval
  obtain ⟨rfl,rfl,rfl⟩:=trodAll_none hA
  obtain ⟨rfl,rfl⟩:=trodVars_none hV
  simp only [List.append_nil] at hW'
  letI : GlobF Tryz.prog:=⟨fun _ _=>none,fun _=>none⟩
  refine ((statsNames_pc).law (fun b o u e=>by cases e) (ConcL.nil _)).mono fun e W' ⟨he,hn⟩=>?_
  subst he
  exact ⟨_,rfl,⟨_,_,_,[],_,[],hW',trodAll_mk1 (shut_bool Tryz.underlying4 true),trodAll_mk0 ,rfl,hn.frame _,fun h=>by cases h⟩⟩
theorem statsNames_holds : Rows.StatsNamesSaid :=
  OpenClaim.holds_of_wide 9 Tryz.f9 rfl rfl rfl rfl rfl rfl rfl ⟨rfl,rfl,rfl,rfl,rfl⟩ rfl rfl rfl rfl rfl (by kernel_rfl) Tryz.func9 (by kernel_rfl)
    (of_decide_eq_true (by kernel_rfl)) (by unfold Func.isWrapper;first|(rw [if_pos (by decide +kernel)];kernel_rfl)|(rw [if_neg (by decide +kernel)];exact ⟨rfl,rfl⟩))
    (fun os started H enc _=>statsNames_lifted os started H enc)
end Go.Proofs.YtjojdiefnhbglaaGreat
