/- The statement TextNames, and its card. No condition. -/
import Derived.Test.YtnjnjbombcefcaaDoorCP8
import Derived.Test.YtnjnjbombcefcaaDoorCX8
import Derived.Test.YtnjnjbombcefcaaDoorCards
import Derived.Test.YtnjnjbombcefcaaDoorTie
import Derived.HandedShaped
import Derived.Test.YtnjnjbombcefcaaDoorOpen
import Derived.Deep.DeepHandedRow
set_option linter.all false
namespace Go.Proofs.YtnjnjbombcefcaaDoor
open Go.ChangeShapes Go.WideShapes Go.ChangeAt Go.RowKit Go.AL
theorem Tryd.own : ownKnob Tryd.prog.godebug = none:=by kernel_rfl
theorem Tryd.laidOut : laidOutB Tryd.prog = true:=by kernel_rfl
noncomputable def laidWorld (os : Os) : World :=
  { World.holding Tryd.prog os ⟨#[],#[],[]⟩ with heap:=((((((((World.holding Tryd.prog os ⟨#[],#[],[]⟩).heap.modify 4 fun | .cells _ t frozen=>.cells #[.int .u64 1,.int .u64 10,.int .u64 100,.int .u64 1000,.int .u64 10000,.int .u64 100000,.int .u64 1000000,.int .u64 10000000,.int .u64 100000000,.int .u64 1000000000,.int .u64 10000000000,.int .u64 100000000000,.int .u64 1000000000000,.int .u64 10000000000000,.int .u64 100000000000000,.int .u64 1000000000000000,.int .u64 10000000000000000,.int .u64 100000000000000000,.int .u64 1000000000000000000,.int .u64 10000000000000000000] t frozen|o=>o).modify 2 fun | .cells _ t frozen=>.cells #[.iface 203 (.pointer (some ⟨12,0,none⟩))] t frozen|o=>o).modify 3 fun | .cells _ t frozen=>.cells #[.iface 203 (.pointer (some ⟨13,0,none⟩))] t frozen|o=>o).modify 5 fun | .cells _ t frozen=>.cells #[.int .u8 0,.int .u8 1,.int .u8 28,.int .u8 2,.int .u8 29,.int .u8 14,.int .u8 24,.int .u8 3,.int .u8 30,.int .u8 22,.int .u8 20,.int .u8 15,.int .u8 25,.int .u8 17,.int .u8 4,.int .u8 8,.int .u8 31,.int .u8 27,.int .u8 13,.int .u8 23,.int .u8 21,.int .u8 19,.int .u8 16,.int .u8 7,.int .u8 26,.int .u8 12,.int .u8 18,.int .u8 6,.int .u8 11,.int .u8 5,.int .u8 10,.int .u8 9] t frozen|o=>o).modify 6 fun | .cells _ t frozen=>.cells #[.int .u8 0,.int .u8 1,.int .u8 56,.int .u8 2,.int .u8 57,.int .u8 49,.int .u8 28,.int .u8 3,.int .u8 61,.int .u8 58,.int .u8 42,.int .u8 50,.int .u8 38,.int .u8 29,.int .u8 17,.int .u8 4,.int .u8 62,.int .u8 47,.int .u8 59,.int .u8 36,.int .u8 45,.int .u8 43,.int .u8 51,.int .u8 22,.int .u8 53,.int .u8 39,.int .u8 33,.int .u8 30,.int .u8 24,.int .u8 18,.int .u8 12,.int .u8 5,.int .u8 63,.int .u8 55,.int .u8 48,.int .u8 27,.int .u8 60,.int .u8 41,.int .u8 37,.int .u8 16,.int .u8 46,.int .u8 35,.int .u8 44,.int .u8 21,.int .u8 52,.int .u8 32,.int .u8 23,.int .u8 11,.int .u8 54,.int .u8 26,.int .u8 40,.int .u8 15,.int .u8 34,.int .u8 20,.int .u8 31,.int .u8 10,.int .u8 25,.int .u8 14,.int .u8 19,.int .u8 9,.int .u8 13,.int .u8 8,.int .u8 7,.int .u8 6] t frozen|o=>o).push (.cells #[.string ⟨#[105,110,118,97,108,105,100,32,115,121,110,116,97,120]⟩] 205)).push (.cells #[.string ⟨#[118,97,108,117,101,32,111,117,116,32,111,102,32,114,97,110,103,101]⟩] 205)) }
theorem laid_met (os : Os) : laidMet Tryd.prog Rows.textNamesRow.laid ((laidWorld os).forCall (fun _ _=>0) ⟨#[],#[],[]⟩).memory :=
  laidMet_of_run' 8 (by kernel_rfl) (by kernel_rfl)
theorem reads (os : Os) {H : Type} (enc : TypeId × Value → H) : ∃ places,DataW.whole enc Tryd.prog ((laidWorld os).forCall (fun _ _=>0) ⟨#[],#[],[]⟩).memory Tryd.f5.params.toList Rows.textNamesSpec.vars false (#[] : Array Value).toList 8 = some ([],[],places) :=
  ⟨[],by kernel_rfl⟩
set_option maxRecDepth 100000 in
theorem textNames_lifted (os : Os) (started : os.Started) (H : Type) (enc : TypeId × Value → H) (F : Stop.Interp) :
    ReturnsInHanded {} Tryd.checked os 5 .any ((OpenSpec.ofChange Rows.textNamesSpec).preRow enc Tryd.prog Tryd.f5 Rows.textNamesRow.domain false Rows.textNamesRow.laid) (((OpenSpec.ofChange Rows.textNamesSpec).at F).post enc Tryd.prog Tryd.f5 false true false false):=by
  obtain ⟨places,hx⟩:=reads os enc
  refine returnsInHanded_of_row (C:=Tryd.checked) (s:=OpenSpec.ofChange Rows.textNamesSpec) Tryd.own started (by kernel_rfl) Tryd.func5
    (witness_row_at (enc:=enc) (C:=Tryd.checked) false (laidWorld os) #[] rfl (by kernel_rfl) (by kernel_rfl) (by kernel_rfl)
      (OpenSpec.preRow_of_cond 8 hx (by kernel_rfl) (fun k hk=>by cases hk) (by kernel_rfl) (laid_met os))) ?_
  intro W base args ds gs before hval0 hW hcnd _ hwt hL hsh _
  have hval : ∀ (j : Nat) t v,Tryd.f5.params[j]? = some t → args[j]? = some v → Value.okWide Tryd.prog W .any base t v:=hval0
  have hW':=hW
  obtain ⟨p,q,hA0,hV,rfl,hfz,hnd⟩:=hW
  have hA : DataW.TrodAll enc Tryd.prog W 0 (fun _=>true) true Tryd.f5.params.toList args.toList ds p:=hA0
  rw [Tryd.params5] at hA hval
  obtain ⟨rfl,rfl,rfl⟩:=trodAll_none hA
  obtain ⟨rfl,rfl⟩:=trodVars_none hV
  simp only [List.append_nil] at hW'
  obtain ⟨m,hm⟩ : ∃ m,W.cell? ⟨1,0,none⟩ = some (.int .i64 m):=Go.Proofs.cell_of_shapedOpen_int (zero:=#[.int .i64 0]) (t:=3) hsh (of_decide_eq_true (by kernel_rfl)) (by kernel_rfl) rfl (by kernel_rfl) (by kernel_rfl) Tryd.underlying3
  have htab : Go.Lib.TabIs Tryd.prog W "internal/strconv.uint64pow10" .u64 Go.Lib.pow10Tab :=
    Go.Lib.tabIs_of_head (rest := []) (g := 4) (by kernel_rfl) (by kernel_rfl) Tryd.underlying200 Tryd.underlying183 (by kernel_rfl) (by kernel_rfl) (laid_one (fun x => x.1 == "internal/strconv.uint64pow10") hL (by kernel_rfl) (by kernel_rfl))
  obtain ⟨tt,fz,hob⟩:=obj_of_tab (g:=4) (by kernel_rfl) htab
  obtain ⟨u1, v1, hc1⟩ := cell_of_iface (g := 2) (name := "strconv.ErrSyntax") (tn := "*errors.errorString") (d := .ptr (.agg [.lit (.string [105, 110, 118, 97, 108, 105, 100, 32, 115, 121, 110, 116, 97, 120])])) (by kernel_rfl) (by kernel_rfl) Tryd.underlying95 (laid_one (fun x => x.1 == "strconv.ErrSyntax") hL (by kernel_rfl) (by kernel_rfl))
  obtain ⟨u2, v2, hc2⟩ := cell_of_iface (g := 3) (name := "strconv.ErrRange") (tn := "*errors.errorString") (d := .ptr (.agg [.lit (.string [118, 97, 108, 117, 101, 32, 111, 117, 116, 32, 111, 102, 32, 114, 97, 110, 103, 101])])) (by kernel_rfl) (by kernel_rfl) Tryd.underlying95 (laid_one (fun x => x.1 == "strconv.ErrRange") hL (by kernel_rfl) (by kernel_rfl))
  have hgl : ∀ b o u,(fun b o=>if (b = 1 ∨ b = 2 ∨ b = 3) ∧ o = 0 then W.cell? ⟨b,o,none⟩ else none : Nat → Nat → Option Value) b o = some u → W.cell? ⟨b,o,none⟩ = some u:=fun b o u e=>by
    by_cases h : (b = 1 ∨ b = 2 ∨ b = 3) ∧ o = 0
    · simp only [if_pos h] at e;exact e
    · simp only [if_neg h] at e;cases e
  have hgo : ∀ b x,(fun b=>if b = 4 then W.heap[4]? else none : Nat → Option Obj) b = some x → W.heap[b]? = some x:=fun b x e=>by
    by_cases h : b = 4
    · subst h;simpa using e
    · simp [h] at e
  letI : GlobF Tryd.prog:=⟨fun b o=>if (b = 1 ∨ b = 2 ∨ b = 3) ∧ o = 0 then W.cell? ⟨b,o,none⟩ else none,fun b=>if b = 4 then W.heap[4]? else none⟩
  refine ((Wr.textNames_pc ⟨m,(if_pos ⟨.inl rfl,rfl⟩).trans hm⟩ ⟨tt,fz,(if_pos rfl).trans hob⟩ ⟨u1,v1,u2,v2,(if_pos ⟨.inr (.inl rfl),rfl⟩).trans hc1,(if_pos ⟨.inr (.inr rfl),rfl⟩).trans hc2⟩).law hgl (ConcL.nil _) hgo).mono fun e W' ⟨he,hn⟩=>?_
  subst he
  exact ⟨_,rfl,⟨_,_,_,[],_,[],hW',trodAll_mk1 (shut_bool Tryd.underlying4 true),trodAll_mk0 ,rfl,hn.frame _,fun h=>by cases h⟩⟩
theorem textNames_said : Rows.TextNamesSaid :=
  OpenClaim.holds_of_cond 5 Tryd.f5 rfl rfl rfl rfl rfl rfl rfl ⟨rfl,rfl,rfl,rfl,rfl⟩ rfl rfl rfl rfl rfl (by kernel_rfl) Tryd.func5 (by kernel_rfl)
    (of_decide_eq_true (by kernel_rfl)) (by unfold Func.isWrapper;first|(rw [if_pos (by decide +kernel)];kernel_rfl)|(rw [if_neg (by decide +kernel)];exact ⟨rfl,rfl⟩))
    (fun os started H enc _ F=>by rw [OpenClaim.pre_eq_preRow];exact textNames_lifted os started H enc F)
theorem plain (f : FuncId) (fn : Func) (hf : Tryd.pinned.checked.prog.funcNamed "daybook/daybooklaw05.TextNames" = some f) (hfn : Tryd.pinned.checked.prog.funcs[f]? = some fn) :
    true = Tryd.pinned.checked.prog.looks [] ∧ ∀ (j : Nat) t,fn.params[j]? = some t → Tryd.pinned.checked.prog.wantsStandIn t = false:=by
  obtain rfl : f = 5 := Option.some.inj ((show Tryd.prog.funcNamed "daybook/daybooklaw05.TextNames" = some 5 by kernel_rfl).symm.trans hf) |>.symm
  obtain rfl : fn = Tryd.f5:=(Option.some.inj (Tryd.func5.symm.trans hfn)).symm
  refine ⟨by kernel_rfl,fun j t ht=>?_⟩
  rw [Tryd.params5] at ht
  simp at ht
theorem textNames_card : Rows.TextNamesCardSaid :=
  Claim7.holds_tied_plain_at .later [] _ _ _ _ textNames_said (fun _ h=>by cases h) (by kernel_rfl) (fun _ h=>by cases h) textNames_row_tie rfl ⟨rfl,rfl⟩ (by kernel_rfl) rfl plain (by kernel_rfl)
end Go.Proofs.YtnjnjbombcefcaaDoor
