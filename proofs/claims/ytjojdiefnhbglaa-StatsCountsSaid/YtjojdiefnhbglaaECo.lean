/- The statement StatsCounts. No condition. -/
import Derived.Test.YtjojdiefnhbglaaEN4
import Derived.Test.YtjojdiefnhbglaaRows
import Derived.HandedShaped
import Derived.Test.YtjojdiefnhbglaaOpen
set_option linter.all false
namespace Go.Proofs.Ytjojdiefnhbglaa
open Go.ChangeShapes Go.WideShapes Go.ChangeAt Go.RowKit Go.AL
theorem Try.own : ownKnob Try.prog.godebug = none:=by kernel_rfl
theorem Try.laidOut : laidOutB Try.prog = true:=by kernel_rfl
set_option maxRecDepth 100000 in
theorem statsCounts_lifted (os : Os) (started : os.Started) (H : Type) (enc : TypeId × Value → H) :
    ReturnsInHanded {} Try.checked os 6 .any (Rows.statsCountsSpec.pre6 enc Try.prog Try.f6 Rows.statsCountsRow.domain false) (Rows.statsCountsSpec.post enc Try.prog Try.f6 false true false false):=by
  refine returnsInHanded_of_change_shaped (C:=Try.checked) Try.own started (by kernel_rfl) Try.func6
    (ChangeSpec.witness6 (enc:=enc) (C:=Try.checked) false ⟨#[],#[.slice none 0 0,.int .i64 0],[]⟩ 8 (by kernel_rfl) (by kernel_rfl) (by kernel_rfl) (by kernel_rfl)) ?_
  intro W base args ds gs before hval0 hW hcnd hwt hsh _
  have hval : ∀ (j : Nat) t v,Try.f6.params[j]? = some t → args[j]? = some v → Value.okWide Try.prog W .any base t v:=hval0
  have hW':=hW
  obtain ⟨p,q,hA0,hV,rfl,hfz,hnd⟩:=hW
  have hA : DataW.TrodAll enc Try.prog W 0 (fun _=>true) true Try.f6.params.toList args.toList ds p:=hA0
  rw [Try.params6] at hA hval
  obtain ⟨v0,v1,d0,d1,p0,p1,rfl,rfl,rfl,h0,h1⟩:=trodAll_two hA
  obtain ⟨rfl,rfl⟩:=trodVars_none hV
  have l0 : ∀ x ∈ p0,x.block < W.heap.size:=by obtain ⟨fuel,hf⟩:=h0;exact DataW.trod_lt _ _ _ _ hf
  obtain ⟨a0,c0,k0⟩:=Opn.arg h0
  obtain ⟨s0,t0,u0,rfl⟩:=okWide_slice Try.underlying22 (hval 0 22 v0 rfl rfl)
  have e0:=one_arg rfl c0
  have l1 : ∀ x ∈ p1,x.block < W.heap.size:=by obtain ⟨fuel,hf⟩:=h1;exact DataW.trod_lt _ _ _ _ hf
  obtain ⟨a1,c1,k1⟩:=Opn.arg h1
  obtain ⟨s1,rfl⟩:=okWide_int (k:=.i64) Try.underlying3 (hval 1 3 v1 rfl rfl)
  have e1:=one_arg rfl c1
  simp only [List.append_nil] at hW'
  letI : GlobF Try.prog:=⟨fun _ _=>none,fun _=>none⟩
  refine ((statsCounts_pc a0 a1 (Nat.lt_succ_of_le (show _ ≤ 9223372036854775807 from k0.1)) (fun d h=>(k0.2 d h).sl)).law (fun b o u e=>by cases e) (ConcL.cons e0 (.cons e1 (.nil _)))).mono fun e W' ⟨he,hn⟩=>?_
  subst he
  exact ⟨_,rfl,⟨_,_,_,[],_,[],hW',trodAll_mk1 (shut_bool Try.underlying4 true),trodAll_mk2 (Below.trod Try.laidOut (by kernel_rfl) (of_decide_eq_true (by kernel_rfl)) h0 hn l0) (Below.trod Try.laidOut (by kernel_rfl) (of_decide_eq_true (by kernel_rfl)) h1 hn l1),rfl,hn.frame _,fun h=>by cases h⟩⟩
theorem statsCounts_holds : Rows.StatsCountsSaid :=
  OpenClaim.holds_of_wide 6 Try.f6 rfl rfl rfl rfl rfl rfl rfl ⟨rfl,rfl,rfl,rfl,rfl⟩ rfl rfl rfl rfl rfl (by kernel_rfl) Try.func6 (by kernel_rfl)
    (of_decide_eq_true (by kernel_rfl)) (by unfold Func.isWrapper;first|(rw [if_pos (by decide +kernel)];kernel_rfl)|(rw [if_neg (by decide +kernel)];exact ⟨rfl,rfl⟩))
    (fun os started H enc _=>statsCounts_lifted os started H enc)
end Go.Proofs.Ytjojdiefnhbglaa
