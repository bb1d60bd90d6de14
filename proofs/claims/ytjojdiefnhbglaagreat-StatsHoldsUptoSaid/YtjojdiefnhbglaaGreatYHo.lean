/- The statement StatsHolds. No condition. -/
import Derived.Test.YtjojdiefnhbglaaGreatYH2
import Derived.Test.YtjojdiefnhbglaaGreatYBulk
import Derived.Test.YtjojdiefnhbglaaGreatRows
import Derived.HandedShaped
import Derived.JoinedCond
import Derived.Test.YtjojdiefnhbglaaGreatOpen4
set_option linter.all false
namespace Go.Proofs.YtjojdiefnhbglaaGreat
open Go.ChangeShapes Go.WideShapes Go.ChangeAt Go.RowKit Go.AL
theorem Tryz.own : ownKnob Tryz.prog.godebug = none:=by kernel_rfl
theorem Tryz.laidOut : laidOutB Tryz.prog = true:=by kernel_rfl
set_option maxRecDepth 100000 in
theorem statsHolds_lifted (os : Os) (started : os.Started) (H : Type) (enc : TypeId × Value → H) (F : Stop.Interp) :
    ReturnsInHanded {} Tryz.checked os 7 .any ((Rows.OpenSpec.upto Rows.statsHoldsSpec).pre6 enc Tryz.prog Tryz.f7 Rows.statsHoldsUptoRow.domain false) (((Rows.OpenSpec.upto Rows.statsHoldsSpec).at F).post enc Tryz.prog Tryz.f7 false true false false):=by
  refine returnsInHanded_of_cond (C:=Tryz.checked) (s:=Rows.OpenSpec.upto Rows.statsHoldsSpec) (k:=Rows.uptoSmall) rfl Tryz.own started (by kernel_rfl) Tryz.func7
    (OpenSpec.witness (enc:=enc) (C:=Tryz.checked) (s:=Rows.OpenSpec.upto Rows.statsHoldsSpec) (k:=Rows.uptoSmall) rfl false ⟨#[],#[.slice none 0 0,.int .i64 0],[]⟩ 8 (by kernel_rfl) (by kernel_rfl) (by kernel_rfl)
      (x:=([.nil,.lit (.int .i64 0)],[],[])) (by kernel_rfl) rfl (by kernel_rfl)) ?_
  intro W base args ds gs before hval0 hW _ hk _
  have hval : ∀ (j : Nat) t v,Tryz.f7.params[j]? = some t → args[j]? = some v → Value.okWide Tryz.prog W .any base t v:=hval0
  have hW':=hW
  obtain ⟨p,q,hA0,hV,rfl,hfz,hnd⟩:=hW
  have hA : DataW.TrodAll enc Tryz.prog W 0 (fun _=>true) true Tryz.f7.params.toList args.toList ds p:=hA0
  rw [Tryz.params7] at hA hval
  obtain ⟨v0,v1,d0,d1,p0,p1,rfl,rfl,rfl,h0,h1⟩:=trodAll_two hA
  obtain ⟨rfl,rfl⟩:=trodVars_none hV
  have l0 : ∀ x ∈ p0,x.block < W.heap.size:=by obtain ⟨fuel,hf⟩:=h0;exact DataW.trod_lt _ _ _ _ hf
  obtain ⟨a0,c0,k0,q0⟩:=OpnB.arg bFacs h0
  obtain ⟨s0,t0,u0,rfl⟩:=okWide_slice Tryz.underlying36 (hval 0 36 v0 rfl rfl)
  have e0:=one_arg rfl c0
  have l1 : ∀ x ∈ p1,x.block < W.heap.size:=by obtain ⟨fuel,hf⟩:=h1;exact DataW.trod_lt _ _ _ _ hf
  obtain ⟨a1,c1,k1⟩:=Opn.arg h1
  obtain ⟨s1,rfl⟩:=okWide_int (k:=.i64) Tryz.underlying2 (hval 1 2 v1 rfl rfl)
  have e1:=one_arg rfl c1
  simp only [List.append_nil] at hW' hk
  have hkk : Rows.uptoBulkAll [d0,d1] ≤ 1048576:=of_decide_eq_true hk
  have w0:=Nat.le_trans q0 (Nat.le_trans (bulk_part (l:=[d0,d1]) List.mem_cons_self) hkk)
  letI : GlobF Tryz.prog:=⟨fun _ _=>none,fun _=>none⟩
  refine ((statsHolds_pc a0 a1 w0 (fun f h s hs=>((k0.2 f h).2.2.2.2 s hs).rng.2.2) (i64_wf0 k1).2).law (fun b o u e=>by cases e) (ConcL.cons e0 (.cons e1 (.nil _)))).mono fun e W' ⟨he,hn⟩=>?_
  subst he
  exact ⟨_,rfl,⟨_,_,_,[],_,[],hW',trodAll_mk1 (shut_bool Tryz.underlying4 true),trodAll_mk2 (Below.trod Tryz.laidOut (by kernel_rfl) (of_decide_eq_true (by kernel_rfl)) h0 hn l0) (Below.trod Tryz.laidOut (by kernel_rfl) (of_decide_eq_true (by kernel_rfl)) h1 hn l1),rfl,hn.frame _,fun h=>by cases h⟩⟩
theorem statsHolds_holds : Rows.StatsHoldsUptoSaid :=
  OpenClaim.holds_of_cond 7 Tryz.f7 rfl rfl rfl rfl rfl rfl rfl ⟨rfl,rfl,rfl,rfl,rfl⟩ rfl rfl rfl rfl rfl (by kernel_rfl) Tryz.func7 (by kernel_rfl)
    (of_decide_eq_true (by kernel_rfl)) (by unfold Func.isWrapper;first|(rw [if_pos (by decide +kernel)];kernel_rfl)|(rw [if_neg (by decide +kernel)];exact ⟨rfl,rfl⟩))
    (fun os started H enc _ F=>statsHolds_lifted os started H enc F)
end Go.Proofs.YtjojdiefnhbglaaGreat
