/- The statement IndexTells. No condition. -/
import Derived.Test.YtjojdiefnhbglaaGreatYI11
import Derived.Test.YtjojdiefnhbglaaGreatYBulk
import Derived.Test.YtjojdiefnhbglaaGreatRows
import Derived.HandedShaped
import Derived.JoinedCond
import Derived.Test.YtjojdiefnhbglaaGreatOpen4
set_option linter.all false
namespace Go.Proofs.YtjojdiefnhbglaaGreat
open Go.ChangeShapes Go.WideShapes Go.ChangeAt Go.RowKit Go.AL
theorem Tryz.own : ownKnob Tryz.prog.godebug = none:=by kernel_rfl
theorem Tryz.laidOut : laidOutB Tryz.prog = true:=by kernel_rfl
set_option maxRecDepth 100000 in
theorem indexTells_lifted (os : Os) (started : os.Started) (H : Type) (enc : TypeId × Value → H) (F : Stop.Interp) :
    ReturnsInHanded {} Tryz.checked os 3 .any ((Rows.OpenSpec.upto Rows.indexTellsSpec).pre6 enc Tryz.prog Tryz.f3 Rows.indexTellsUptoRow.domain false) (((Rows.OpenSpec.upto Rows.indexTellsSpec).at F).post enc Tryz.prog Tryz.f3 false true false false):=by
  refine returnsInHanded_of_cond (C:=Tryz.checked) (s:=Rows.OpenSpec.upto Rows.indexTellsSpec) (k:=Rows.uptoSmall) rfl Tryz.own started (by kernel_rfl) Tryz.func3
    (OpenSpec.witness (enc:=enc) (C:=Tryz.checked) (s:=Rows.OpenSpec.upto Rows.indexTellsSpec) (k:=Rows.uptoSmall) rfl false ⟨#[],#[.slice none 0 0,.int .i64 0,.slice none 0 0,.agg #[.int .i64 0,.int .i64 0,.int .i64 0,.bool false,.bool false]],[]⟩ 8 (by kernel_rfl) (by kernel_rfl) (by kernel_rfl)
      (x:=([.nil,.lit (.int .i64 0),.nil,.agg [.lit (.int .i64 0),.lit (.int .i64 0),.lit (.int .i64 0),.lit (.bool false),.lit (.bool false)]],[],[])) (by kernel_rfl) rfl (by kernel_rfl)) ?_
  intro W base args ds gs before hval0 hW _ hk _
  have hval : ∀ (j : Nat) t v,Tryz.f3.params[j]? = some t → args[j]? = some v → Value.okWide Tryz.prog W .any base t v:=hval0
  have hW':=hW
  obtain ⟨p,q,hA0,hV,rfl,hfz,hnd⟩:=hW
  have hA : DataW.TrodAll enc Tryz.prog W 0 (fun _=>true) true Tryz.f3.params.toList args.toList ds p:=hA0
  rw [Tryz.params3] at hA hval
  obtain ⟨v0,v1,v2,v3,d0,d1,d2,d3,p0,p1,p2,p3,rfl,rfl,rfl,h0,h1,h2,h3⟩:=trodAll_four hA
  obtain ⟨rfl,rfl⟩:=trodVars_none hV
  have l0 : ∀ x ∈ p0,x.block < W.heap.size:=by obtain ⟨fuel,hf⟩:=h0;exact DataW.trod_lt _ _ _ _ hf
  obtain ⟨a0,c0,k0,q0⟩:=OpnB.arg bDats h0
  obtain ⟨s0,t0,u0,rfl⟩:=okWide_slice Tryz.underlying22 (hval 0 22 v0 rfl rfl)
  have e0:=one_arg rfl c0
  have l1 : ∀ x ∈ p1,x.block < W.heap.size:=by obtain ⟨fuel,hf⟩:=h1;exact DataW.trod_lt _ _ _ _ hf
  obtain ⟨a1,c1,k1⟩:=Opn.arg h1
  obtain ⟨s1,rfl⟩:=okWide_int (k:=.i64) Tryz.underlying3 (hval 1 3 v1 rfl rfl)
  have e1:=one_arg rfl c1
  have l2 : ∀ x ∈ p2,x.block < W.heap.size:=by obtain ⟨fuel,hf⟩:=h2;exact DataW.trod_lt _ _ _ _ hf
  obtain ⟨a2,c2,k2⟩:=Opn.arg h2
  obtain ⟨s2,t2,u2,rfl⟩:=okWide_slice Tryz.underlying23 (hval 2 23 v2 rfl rfl)
  have e2:=one_arg rfl c2
  have l3 : ∀ x ∈ p3,x.block < W.heap.size:=by obtain ⟨fuel,hf⟩:=h3;exact DataW.trod_lt _ _ _ _ hf
  obtain ⟨a3,c3,k3⟩:=Opn.arg h3
  obtain ⟨s3,rfl,_⟩:=okWide_struct Tryz.underlying25 (hval 3 25 v3 rfl rfl)
  have e3:=agg_arg c3
  simp only [List.append_nil] at hW' hk
  have hkk : Rows.uptoBulkAll [d0,d1,d2,d3] ≤ 1048576:=of_decide_eq_true hk
  have w0:=Nat.le_trans q0 (Nat.le_trans (bulk_part (l:=[d0,d1,d2,d3]) List.mem_cons_self) hkk)
  letI : GlobF Tryz.prog:=⟨fun _ _=>none,fun _=>none⟩
  refine ((indexTells_pc a0 a1 a2 a3 w0 (fun x hx=>datI_of (k0.2 x hx)) (Nat.lt_succ_of_le (show _ ≤ 9223372036854775807 from k2.1)) (fun q hq=>prtS_of (k2.2 q hq)) (fun q hq=>prtI_of (k2.2 q hq))).law (fun b o u e=>by cases e) (ConcL.cons e0 (.cons e1 (.cons e2 (.cons e3 (.nil _)))))).mono fun e W' ⟨he,hn⟩=>?_
  subst he
  exact ⟨_,rfl,⟨_,_,_,[],_,[],hW',trodAll_mk1 (shut_bool Tryz.underlying4 true),trodAll_mk4 (Below.trod Tryz.laidOut (by kernel_rfl) (of_decide_eq_true (by kernel_rfl)) h0 hn l0) (Below.trod Tryz.laidOut (by kernel_rfl) (of_decide_eq_true (by kernel_rfl)) h1 hn l1) (Below.trod Tryz.laidOut (by kernel_rfl) (of_decide_eq_true (by kernel_rfl)) h2 hn l2) (Below.trod Tryz.laidOut (by kernel_rfl) (of_decide_eq_true (by kernel_rfl)) h3 hn l3),rfl,hn.frame _,fun h=>by cases h⟩⟩
theorem indexTells_holds : Rows.IndexTellsUptoSaid :=
  OpenClaim.holds_of_cond 3 Tryz.f3 rfl rfl rfl rfl rfl rfl rfl ⟨rfl,rfl,rfl,rfl,rfl⟩ rfl rfl rfl rfl rfl (by kernel_rfl) Tryz.func3 (by kernel_rfl)
    (of_decide_eq_true (by kernel_rfl)) (by unfold Func.isWrapper;first|(rw [if_pos (by decide +kernel)];kernel_rfl)|(rw [if_neg (by decide +kernel)];exact ⟨rfl,rfl⟩))
    (fun os started H enc _ F=>indexTells_lifted os started H enc F)
end Go.Proofs.YtjojdiefnhbglaaGreat
