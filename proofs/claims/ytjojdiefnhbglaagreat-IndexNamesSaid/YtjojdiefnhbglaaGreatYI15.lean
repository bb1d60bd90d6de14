/- The law IndexNames. -/
import Derived.Test.YtjojdiefnhbglaaGreatYI13
set_option linter.all false
namespace Go.Proofs
open Go.AL Go.Sort
attribute [local irreducible] Go.AL.W Go.AL.WL Go.AL.WD Go.AL.POp Go.AL.PPOp Go.AL.POpS Go.AL.PC Go.AL.AC Go.AL.YW Go.AL.Ret Go.AL.Le Go.AL.thn Go.AL.inBlk Go.AL.scp
abbrev vw0 : Vw:=⟨0,0,0,false,false⟩
abbrev fewF1 : Fac:=⟨20,10,⟨1,1,[]⟩,[⟨-9223372036854775808,0⟩,⟨5,9223372036854775807⟩]⟩
theorem few_rg : rgD fewL:=fun d hd=>by
  simp only [fewL,List.mem_cons,List.not_mem_nil,or_false] at hd
  rcases hd with rfl|rfl|rfl <;> exact ⟨by decide,by decide⟩
theorem dats3 : datsE 1 pA2 vw0 = 0 ∧ datsL 1 pA2 vw0 fewL = [few1,few2]:=by
  have e0 : preE 1 pA2 = 0:=by unfold preE keyE;rw [if_pos pA2_p,if_pos pA2_k]
  have e1 : datsE 1 pA2 vw0 = 0:=by unfold datsE;rw [if_neg (by rw [e0];decide),if_pos (by unfold okV;decide)]
  refine ⟨e1,?_⟩
  unfold datsL preL
  rw [if_pos e1,few_sort 1 (.inl rfl),show preB 1 pA2 = pA2.flatMap partB by unfold preB keyB;rw [if_pos pA2_p,if_pos pA2_k]]
  rw [List.filter_congr (p:=fun d=>(pA2.flatMap partB).isPrefixOf (dkeyB 1 d)) (q:=fun d=>(pA2.flatMap partB).isPrefixOf ((part7 1 d).flatMap partB)) fun d hd=>by rw [few_key 1 (.inl rfl) d hd]]
  rw [show fewL.filter (fun d=>(pA2.flatMap partB).isPrefixOf ((part7 1 d).flatMap partB)) = [few1,few2] by unfold fewL;rw [List.filter_cons,if_pos (by decide +kernel),List.filter_cons,if_pos (by decide +kernel),List.filter_cons,if_neg (by decide +kernel)];rfl]
  rw [List.filter_cons,if_pos (see1 (by unfold seeP few1;decide)),List.filter_cons,if_pos (see1 (by unfold seeP few2;decide))];rfl
theorem few_fold12 : foldR [few1,few2] = some [fewF1]:=by
  have hm : ∀ d,d ∈ [few1,few2] → d = few1 ∨ d = few2:=fun d h=>by simpa using h
  refine fold_is (fun d h=>few_rg d (by rcases hm d h with rfl|rfl <;> simp [fewL])) (fun d h=>few_may d (by rcases hm d h with rfl|rfl <;> simp [fewL])) ?_ ?_ fun k y=>?_
  · rintro ⟨d,hd,d',hd',_,ht,ha,hb,_⟩
    rcases hm d hd with rfl|rfl <;> rcases hm d' hd' with rfl|rfl <;> first|(revert ht;decide)|(revert ha;decide)|(revert hb;decide)
  · refine allF_of (List.pairwise_singleton _ _) fun f hf=>?_
    rw [List.mem_singleton.1 hf]
    refine ⟨⟨by decide,by decide,by decide,by decide,may_n 1,by decide,by decide,by decide⟩,by decide,?_⟩
    refine ⟨fun s hs=>?_,?_⟩
    · simp only [List.mem_cons,List.not_mem_nil,or_false] at hs
      rcases hs with rfl|rfl <;> decide
    · refine .cons (fun y hy=>?_) (List.pairwise_singleton _ _)
      rw [List.mem_singleton.1 hy];decide
  · have hs : inS fewF1.sp y ↔ (-9223372036854775808 ≤ y ∧ y < 0) ∨ (5 ≤ y ∧ y < 9223372036854775807):=by
      unfold inS
      constructor
      · rintro ⟨s,hs,h1,h2⟩
        simp only [List.mem_cons,List.not_mem_nil,or_false] at hs
        rcases hs with rfl|rfl
        · exact .inl ⟨h1,h2⟩
        · exact .inr ⟨h1,h2⟩
      · rintro (h|h)
        · exact ⟨_,.head _,h⟩
        · exact ⟨_,.tail _ (.head _),h⟩
    constructor
    · rintro ⟨f,hf,hk,hy⟩
      rw [List.mem_singleton.1 hf] at hk hy
      rw [hs] at hy
      refine ⟨few1,.head _,hk,rfl,⟨?_,?_⟩,fun d' hd' _ hc=>?_⟩
      · show (-9223372036854775808 : Int) ≤ y;omega
      · show y < (9223372036854775807 : Int);omega
      · rcases hm d' hd' with rfl|rfl
        · decide
        · exfalso
          have h1 : (0 : Int) ≤ y:=hc.1
          have h2 : y < (5 : Int):=hc.2
          omega
    · rintro ⟨d,hd,hk,ha,hc,hmx⟩
      rcases hm d hd with rfl|rfl
      · refine ⟨fewF1,.head _,hk,hs.2 ?_⟩
        have h1 : (-9223372036854775808 : Int) ≤ y:=hc.1
        have h2 : y < (9223372036854775807 : Int):=hc.2
        by_cases h3 : 0 ≤ y ∧ y < 5
        · exfalso
          have:=hmx few2 (.tail _ (.head _)) hk h3
          revert this;decide
        · omega
      · cases ha
theorem facts1 : factsE 1 pA2 vw0 fewL = 0 ∧ factsL 1 pA2 vw0 fewL = [fewF1]:=by
  have e : factsE 1 pA2 vw0 fewL = 0:=by
    unfold factsE
    rw [if_neg (by rw [dats3.1];decide),if_neg (by rintro (h|h);exact absurd h (by decide);cases h),dats3.2,few_fold12];rfl
  refine ⟨e,?_⟩
  unfold factsL factsU
  rw [if_pos e,dats3.2,few_fold12];rfl
theorem pre0 (o : Int) (ho : 1 ≤ o ∧ o ≤ 4) : preE o [] = 0:=by
  unfold preE keyE
  rw [if_pos ⟨ho,by decide,fun i h=>absurd h (Nat.not_lt_zero i)⟩,if_pos fun p h=>by cases h]
theorem dats4 : datsE 4 [] vw0 = 0 ∧ datsL 4 [] vw0 fewL = []:=by
  have e1 : datsE 4 [] vw0 = 0:=by unfold datsE;rw [if_neg (by rw [pre0 4 (by decide)];decide),if_pos (by unfold okV;decide)]
  refine ⟨e1,List.eq_nil_iff_forall_not_mem.2 fun d hd=>?_⟩
  have h:=(datsL_mem e1 few_ok (fun q hq=>by cases hq) (by decide)).1 hd
  have hp : hasP 4 d:=h.2.2.2.1
  have hm:=h.1
  simp only [fewL,List.mem_cons,List.not_mem_nil,or_false] at hm
  rcases hp with hp|hp
  · exact absurd hp.2 (by decide)
  · rcases hm with rfl|rfl|rfl <;> exact absurd hp.2 (by decide)
abbrev pBd : List Prt:=[⟨true,0,val0⟩]
theorem dats5 : datsE 1 pBd vw0 = 2 ∧ datsL 1 pBd vw0 fewL = []:=by
  have e0 : preE 1 pBd = 2:=by
    unfold preE
    rw [if_neg]
    rintro ⟨_,_,h⟩
    exact absurd (h 0 (by decide) (by decide)) (by decide)
  have e1 : datsE 1 pBd vw0 = 2:=by unfold datsE;rw [if_pos (by rw [e0];decide),e0]
  exact ⟨e1,by unfold datsL;rw [if_neg (by rw [e1];decide)]⟩
theorem facts2 : factsE 1 [] ⟨0,0,0,false,true⟩ fewL = 2 ∧ factsL 1 [] ⟨0,0,0,false,true⟩ fewL = []:=by
  have e1 : datsE 1 [] ⟨0,0,0,false,true⟩ = 0:=by unfold datsE;rw [if_neg (by rw [pre0 1 (by decide)];decide),if_pos (by unfold okV;decide)]
  have e : factsE 1 [] ⟨0,0,0,false,true⟩ fewL = 2:=by unfold factsE;rw [if_neg (by rw [e1];decide),if_pos (.inr rfl)]
  exact ⟨e,by unfold factsL;rw [if_neg (by rw [e];decide)]⟩
abbrev p4 : List Prt:=[prtN 20,prtN 10,prtV one1,prtN 1]
theorem facts3 : factsE 1 p4 vw0 fewL = 2 ∧ factsL 1 p4 vw0 fewL = []:=by
  have hP : preP 1 p4:=⟨by decide,by decide,fun i h h7=>by
    match i,h with
    | 0,_=>rfl
    | 1,_=>rfl
    | 2,_=>rfl
    | 3,_=>rfl⟩
  have hk : ∀ p,p ∈ p4 → PartP p:=fun p hp=>by
    simp only [List.mem_cons,List.not_mem_nil,or_false] at hp
    rcases hp with rfl|rfl|rfl|rfl
    · exact fun h=>by cases h
    · exact fun h=>by cases h
    · exact fun _=>may_n 1
    · exact fun h=>by cases h
  have e0 : preE 1 p4 = 0:=by unfold preE keyE;rw [if_pos hP,if_pos hk]
  have e1 : datsE 1 p4 vw0 = 0:=by unfold datsE;rw [if_neg (by rw [e0];decide),if_pos (by unfold okV;decide)]
  have e : factsE 1 p4 vw0 fewL = 2:=by unfold factsE;rw [if_neg (by rw [e1];decide),if_pos (.inl (by decide))]
  exact ⟨e,by unfold factsL;rw [if_neg (by rw [e];decide)]⟩
theorem dats7 (L : List Dat) : datsE 1 [] ⟨0,-1,0,false,false⟩ = 2 ∧ datsL 1 [] ⟨0,-1,0,false,false⟩ L = []:=by
  have e1 : datsE 1 [] ⟨0,-1,0,false,false⟩ = 2:=by unfold datsE;rw [if_neg (by rw [pre0 1 (by decide)];decide),if_neg (by unfold okV;decide)]
  exact ⟨e1,by unfold datsL;rw [if_neg (by rw [e1];decide)]⟩
abbrev nxD : Dat:=⟨20,10,⟨1,1,[]⟩,2,true,0,1⟩
theorem next1 : nextL 1 fewL nxD = some few2:=by
  have hd : dmayP nxD:=⟨by decide,by decide,by decide,by decide,may_n 1,by decide,by decide,by decide⟩
  unfold nextL
  rw [if_pos (by unfold dkeyE;rw [if_pos (by decide),if_pos ⟨hd,.inl (by decide)⟩]),few_sort 1 (.inl rfl)]
  unfold fewL
  rw [List.find?_cons_of_neg (by decide),List.find?_cons_of_pos (by decide)]
theorem next2 : nextL 1 [] few1 = none:=by
  unfold nextL
  split
  · have : dsortL 1 [] = []:=List.length_eq_zero_iff.1 (Nat.le_zero.1 (dsortL_len 1 []))
    rw [this];rfl
  · rfl
theorem dat0_not : ¬ dmayP dat0:=fun h=>absurd h.2.2.2.2.2.1 (by decide)
set_option maxHeartbeats 64000000 in
theorem indexNames_pc [GlobF Tryz.prog] : PC Tryz.prog 5 [] (.sc (.bool true)):=by
  have hT : IxOf fewL (addsT (fun _=>none) fewL):=by have:=IxOf.init.adds fewL (by decide);simpa using this
  obtain ⟨T,eT⟩ : ∃ T,T = addsT (fun _=>none) fewL:=⟨_,rfl⟩
  rw [← eT] at hT
  have q1:=iadd_pc none [] fewL IxOf.init (by decide) few_s (xA (some T)) 0 (fun _=>⟨by rw [eT];rfl,rfl⟩) (fun ⟨x,hx,h⟩=>absurd (few_may x hx) h)
  have q2:=ifacts_pc (some T) fewL hT few_ok (by decide) 1 pA2 vw0 (by decide) (fun q hq=>by simp only [pA2,List.mem_cons,List.not_mem_nil,or_false] at hq;subst hq;decide) few_s few_rg
  have q3:=idatoms_pc (some T) fewL hT few_ok (by decide) 4 [] vw0 (by decide) (fun q hq=>by cases hq)
  have q4:=idatoms_pc (some T) fewL hT few_ok (by decide) 1 pBd vw0 (by decide) (fun q hq=>by rw [List.mem_singleton.1 hq];decide)
  have q5:=ifacts_pc (some T) fewL hT few_ok (by decide) 1 [] ⟨0,0,0,false,true⟩ (by decide) (fun q hq=>by cases hq) few_s few_rg
  have q6:=ifacts_pc (some T) fewL hT few_ok (by decide) 1 p4 vw0 (by decide) (fun q hq=>by simp only [List.mem_cons,List.not_mem_nil,or_false] at hq;rcases hq with rfl|rfl|rfl|rfl <;> decide) few_s few_rg
  have q7:=iadd_pc none [] [dat0] IxOf.init (by decide) (fun d hd=>by rw [List.mem_singleton.1 hd];decide) (.sc (.pointer none)) 110 (fun h=>absurd (h _ (.head _)) dat0_not) (fun _=>⟨rfl,rfl⟩)
  have q8:=idatoms_pc none [] IxOf.init (fun d hd=>by cases hd) (by decide) 1 [] ⟨0,-1,0,false,false⟩ (by decide) (fun q hq=>by cases hq)
  have q9:=inext_pc (some T) fewL hT few_ok (by decide) 1 nxD (by unfold datI i64P;decide) (by decide)
  have qa:=inext_pc none [] IxOf.init (fun d hd=>by cases hd) (by decide) 1 few1 (by unfold datI i64P few1;decide) (by decide)
  rw [facts1.1,facts1.2] at q2
  rw [dats4.1,dats4.2] at q3
  rw [dats5.1,dats5.2] at q4
  rw [facts2.1,facts2.2] at q5
  rw [facts3.1,facts3.2] at q6
  rw [(dats7 []).1,(dats7 []).2] at q8
  rw [next1] at q9
  rw [next2] at qa
  have g1 : Value.bool (lEq (encD few2) (encD few2)) = .bool true:=by rw [(lEq_t _ _).mpr rfl]
  rw [xA_no,xA_so] at q1
  rw [xA_so] at q2 q3 q4 q5 q6 q9
  rw [xA_no] at q7 q8 qa
  have q0 : PC Tryz.prog 23 [] (.sl none 9 [dC few1,dC few2,dC few3]):=few_pc
  refine PC.of_body Tryz.func5 Tryz.ntmps5 rfl rfl rfl ?_
  repeat' first
 | (apply p1 (hd:=rfl);case hop=>first|(apply D_move;rfl)|(apply D_assign;rfl)|(apply D_pc q0;rfl;exact .nil)|(apply D_pc q1;rfl;exact .same rfl (.same rfl .nil))|(apply D_pc q7;rfl;exact .same rfl (.same rfl .nil))|(apply D_pc q2;rfl;exact .same rfl (.same rfl (.same rfl (.same rfl .nil))))|(apply D_pc q3;rfl;exact .same rfl (.same rfl (.niln rfl (.same rfl .nil))))|(apply D_pc q4;rfl;exact .same rfl (.same rfl (.same rfl (.same rfl .nil))))|(apply D_pc q5;rfl;exact .same rfl (.same rfl (.niln rfl (.same rfl .nil))))|(apply D_pc q6;rfl;exact .same rfl (.same rfl (.same rfl (.same rfl .nil))))|(apply D_pc q8;rfl;exact .same rfl (.same rfl (.niln rfl (.same rfl .nil))))|(apply D_pc q9;rfl;exact .same rfl (.same rfl (.same rfl .nil)))|(apply D_pc qa;rfl;exact .same rfl (.same rfl (.same rfl .nil)))|(apply D_fld;rfl)|(apply D_ext;rfl;rfl)|(apply D_loadW;rfl;rfl)|(apply D_loadA;rfl;rfl)|(apply D_idxA0;rfl;rfl;omega;(first|omega|(simp;done)|(simp;omega)))|(apply D_lit;rfl;rfl;rfl;rfl)|exact D_build rfl)
 | refine W_seq ?_
 | refine W_region ?_
 | refine WL_nil ?_
 | refine tn ?_
 | refine W_ret ?_
 | (refine idR ?_;refine ret1 rfl rfl rfl ?_)
 | (refine idA ?_;refine m_var rfl rfl rfl rfl rfl rfl rfl ?_)
 | refine Le.bool ?_
 | (refine idW ?_;refine W_draw0 rfl ?_)
 | (apply d1 (hd:=rfl);case hop=>first|(apply D_move;rfl)|(apply D_assign;rfl)|(apply D_pc q0;rfl;exact .nil)|(apply D_pc alive_pc;rfl;exact .nil)|exact D_sc (D_eqA rfl rfl rfl rfl rfl rfl rfl) g1|(apply D_load1;rfl)|(apply D_fld;rfl)|(apply D_pickT;rfl;rfl)|(apply D_pickF;rfl;rfl)|(apply D_int;rfl;rfl;rfl)|(apply D_lenM;rfl)|(apply D_not;rfl)|(apply D_loadW;rfl;rfl)|(apply D_idxAn;rfl;rfl;(first|omega|(simp;done)))|(apply D_idxA0;rfl;rfl;omega;(first|omega|(simp;done)|(simp;omega))))
 | (refine idDg ?_;first|refine dg0t rfl rfl rfl ?_|refine dgr rfl rfl ?_|refine dgs rfl rfl (fun _=>?_) (fun _=>?_))
 | (refine WD_nil (by first|decide +kernel|kernel_rfl|rfl) ?_)
  all_goals first|rfl|contradiction|(show bNot false = true;simp [bNot];done)|skip
end Go.Proofs
