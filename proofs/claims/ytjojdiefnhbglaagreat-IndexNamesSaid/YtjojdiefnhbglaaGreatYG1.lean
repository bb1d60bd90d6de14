/- A prefix of a key is what a datom begins with. -/
import Derived.Test.YtjojdiefnhbglaaGreatYI4
set_option linter.all false
namespace Go.Proofs
open Go.AL Go.Sort
attribute [local irreducible] Go.AL.W Go.AL.WL Go.AL.WD Go.AL.POp Go.AL.PPOp Go.AL.POpS Go.AL.PC Go.AL.AC Go.AL.YW Go.AL.Ret Go.AL.Le Go.AL.thn Go.AL.inBlk Go.AL.scp
instance : Xt Tryz.prog 252 Extern.BytealgCompare.compare:=⟨run_callFunc_extern Tryz.func252 (by kernel_rfl) (by kernel_rfl) (by kernel_rfl) (by kernel_rfl)⟩
instance (p : Prop) : BP (dP p) p (¬ p):=⟨fun h=>by rwa [dP_t] at h,fun h=>by rwa [dP_f] at h⟩
instance (s : List UInt8) : BP (wordB s) (WordP s) (¬ WordP s):=⟨fun h=>by unfold wordB at h;simpa using h,fun h=>by unfold wordB at h;simpa using h⟩
instance (v : Val) : BP (mayB v) (MayP v) (¬ MayP v):=⟨fun h=>by unfold mayB at h;rwa [dP_t] at h,fun h=>by unfold mayB at h;rwa [dP_f] at h⟩
theorem beg_key {o : Int} {l : List Prt} {d : Dat} (h1 : preE o l = 0) (h2 : dkeyE o d = 0) (il : ∀ p,p ∈ l → prtI p) (id : prtI (prtV d.v)) (in' : i64P d.e ∧ i64P d.a ∧ i64P d.t ∧ i64P d.fr ∧ i64P d.to) : begP o l d ↔ preB o l <+: dkeyB o d:=by
  have hp:=preE_P h1
  have ho:=hp.1
  have hm : dmayP d ∧ hasP o d:=by
    rw [dkeyE,if_pos ho] at h2
    split at h2
    · assumption
    · cases h2
  have hk : ∀ p,p ∈ l → PartP p:=by
    rw [preE,if_pos hp,keyE] at h1
    split at h1
    · assumption
    · cases h1
  have e1 : preB o l = l.flatMap partB:=by rw [preB,if_pos hp,keyB,if_pos hk]
  have e2 : dkeyB o d = (part7 o d).flatMap partB:=by rw [dkeyB,if_pos ho,if_pos hm]
  have hl7 : l.length ≤ (part7 o d).length:=by rw [part7_len];exact Nat.le_trans hp.2.1 (by decide)
  have h0 : i64P val0.n:=by unfold i64P val0;decide
  have hi : ∀ p,p ∈ part7 o d → prtI p:=by
    intro p hp
    simp only [part7,List.mem_cons,List.not_mem_nil,or_false] at hp
    have hadd : i64P (if d.add then 0 else 1):=by unfold i64P;split <;> decide
    rcases hp with rfl|rfl|rfl|rfl|rfl|rfl|rfl
    · unfold fst1;split <;> (try split) <;> (try split) <;> first|exact id|exact ⟨in'.1,h0⟩|exact ⟨in'.2.1,h0⟩
    · unfold fst2;split <;> (try split) <;> (try split) <;> first|exact id|exact ⟨in'.1,h0⟩|exact ⟨in'.2.1,h0⟩
    · unfold fst3;split <;> (try split) <;> (try split) <;> first|exact id|exact ⟨in'.1,h0⟩|exact ⟨in'.2.1,h0⟩
    · exact ⟨in'.2.2.1,h0⟩
    · exact ⟨hadd,h0⟩
    · exact ⟨in'.2.2.2.1,h0⟩
    · exact ⟨in'.2.2.2.2,h0⟩
  rw [e1,e2,key_prefix l (part7 o d) hl7 (fun i h h'=>(hp.2.2 i h h').trans (part7_flag o d i h').symm) (fun p hp=>⟨hk p hp,il p hp⟩) (fun p hp=>⟨part7_P hm.1.2.2.2.2.1 p hp,hi p hp⟩)]
  unfold begP
  exact ⟨fun h=>h.2.2,fun h=>⟨h1,hm.2,h⟩⟩
end Go.Proofs

namespace Go.Proofs
open Go.AL Go.Sort
attribute [local irreducible] Go.AL.W Go.AL.WL Go.AL.WD Go.AL.POp Go.AL.PPOp Go.AL.POpS Go.AL.PC Go.AL.AC Go.AL.YW Go.AL.Ret Go.AL.Le Go.AL.thn Go.AL.inBlk Go.AL.scp
def one1 : Val:=⟨1,1,[]⟩
def few1 : Dat:=⟨20,10,⟨1,1,[]⟩,1,true,-9223372036854775808,9223372036854775807⟩
def few2 : Dat:=⟨20,10,⟨1,1,[]⟩,2,false,0,5⟩
def few3 : Dat:=⟨21,10,⟨1,2,[]⟩,1,true,-9223372036854775808,9223372036854775807⟩
def fewL : List Dat:=[few1,few2,few3]
set_option maxHeartbeats 8000000 in
theorem few_pc [GlobF Tryz.prog] : PC Tryz.prog 23 [] (sl9 fewL):=by
  refine PC.of_body Tryz.func23 Tryz.ntmps23 rfl rfl rfl ?_
  repeat' first
 | (apply p1 (hd:=rfl);case hop=>first|(apply D_assign;rfl)|(apply D_loadW;rfl;rfl)|(apply D_lit;rfl;rfl;rfl;rfl)|exact D_build rfl)
 | refine W_seq ?_
 | refine W_region ?_
 | refine WL_nil ?_
 | refine tn ?_
 | refine W_ret ?_
 | (refine idR ?_;refine ret1 rfl rfl rfl ?_)
 | (refine idA ?_;refine m_var rfl rfl rfl rfl rfl rfl rfl ?_)
  all_goals first|exact Le.of_eq rfl|rfl|skip
theorem may_n (n : Int) : mayB ⟨1,n,[]⟩ = true:=by unfold mayB;rw [dP_t];exact .inr (.inl ⟨.inl rfl,rfl⟩)
theorem few_may : ∀ d,d ∈ fewL → dmayP d:=fun d hd=>by
  simp only [fewL,List.mem_cons,List.not_mem_nil,or_false] at hd
  rcases hd with rfl|rfl|rfl <;> exact ⟨by decide,by decide,by decide,by decide,may_n _,by decide,by decide,by decide⟩
theorem few_ok : okL fewL:=fun d hd=>⟨few_may d hd,by
  simp only [fewL,List.mem_cons,List.not_mem_nil,or_false] at hd
  rcases hd with rfl|rfl|rfl <;> (unfold datI i64P;decide)⟩
theorem few_s : ∀ d,d ∈ fewL → d.v.s.length < 9223372036854775808:=fun d hd=>by
  simp only [fewL,List.mem_cons,List.not_mem_nil,or_false] at hd
  rcases hd with rfl|rfl|rfl <;> decide
theorem few_sort (o : Int) (ho : o = 1 ∨ o = 3) : dsortL o fewL = fewL:=by
  have h1 : 1 ≤ o ∧ o ≤ 4:=by omega
  have h2 : ∀ d,hasB o d = true:=fun d=>(hasB_t o d).2 (.inl (by omega))
  unfold dsortL
  rw [if_pos h1,List.filter_eq_self.2 fun d _=>h2 d]
  refine (sortC_eq (wc_cmpD o) (cmpD_z o) ?_ fun x=>Iff.rfl).symm
  unfold Rise fewL
  rcases ho with rfl|rfl
  · refine .cons (fun y hy=>?_) (.cons (fun y hy=>?_) (List.pairwise_singleton _ _))
    · simp only [List.mem_cons,List.not_mem_nil,or_false] at hy
      rcases hy with rfl|rfl <;> decide
    · simp only [List.mem_cons,List.not_mem_nil,or_false] at hy
      subst hy;decide
  · refine .cons (fun y hy=>?_) (.cons (fun y hy=>?_) (List.pairwise_singleton _ _))
    · simp only [List.mem_cons,List.not_mem_nil,or_false] at hy
      rcases hy with rfl|rfl <;> decide
    · simp only [List.mem_cons,List.not_mem_nil,or_false] at hy
      subst hy;decide
theorem few_key (o : Int) (ho : o = 1 ∨ o = 3) (d : Dat) (hd : d ∈ fewL) : dkeyB o d = (part7 o d).flatMap partB:=by
  unfold dkeyB
  rw [if_pos (by omega),if_pos ⟨few_may d hd,.inl (by omega)⟩]
def pA1 : List Prt:=[prtN 10,prtV one1]
def pA2 : List Prt:=[prtN 20]
theorem pA1_p : preP 3 pA1:=⟨by decide,by decide,fun i h h7=>by
  have : i = 0 ∨ i = 1:=by simp [pA1] at h;omega
  rcases this with rfl|rfl <;> rfl⟩
theorem pA2_p : preP 1 pA2:=⟨by decide,by decide,fun i h h7=>by
  have : i = 0:=by simp [pA2] at h;omega
  subst this;rfl⟩
theorem pA1_k : ∀ p,p ∈ pA1 → PartP p:=fun p hp=>by
  simp only [pA1,List.mem_cons,List.not_mem_nil,or_false] at hp
  rcases hp with rfl|rfl
  · exact fun h=>by cases h
  · exact fun _=>may_n 1
theorem pA2_k : ∀ p,p ∈ pA2 → PartP p:=fun p hp=>by
  simp only [pA2,List.mem_cons,List.not_mem_nil,or_false] at hp
  subst hp;exact fun h=>by cases h
theorem see1 {v : Vw} {d : Dat} (h : seeP v d) : seeB v d = true:=dP_t.mpr h
theorem see0 {v : Vw} {d : Dat} (h : ¬ seeP v d) : seeB v d = false:=dP_f.mpr h
theorem dats1 : datsE 3 pA1 ⟨0,0,0,false,false⟩ = 0 ∧ datsL 3 pA1 ⟨0,0,0,false,false⟩ fewL = [few1,few2]:=by
  have e0 : preE 3 pA1 = 0:=by unfold preE keyE;rw [if_pos pA1_p,if_pos pA1_k]
  have e1 : datsE 3 pA1 ⟨0,0,0,false,false⟩ = 0:=by unfold datsE;rw [if_neg (by rw [e0];decide),if_pos (by unfold okV;decide)]
  refine ⟨e1,?_⟩
  unfold datsL preL
  rw [if_pos e1,few_sort 3 (.inr rfl),show preB 3 pA1 = pA1.flatMap partB by unfold preB keyB;rw [if_pos pA1_p,if_pos pA1_k]]
  rw [List.filter_congr (p:=fun d=>(pA1.flatMap partB).isPrefixOf (dkeyB 3 d)) (q:=fun d=>(pA1.flatMap partB).isPrefixOf ((part7 3 d).flatMap partB)) fun d hd=>by rw [few_key 3 (.inr rfl) d hd]]
  rw [show fewL.filter (fun d=>(pA1.flatMap partB).isPrefixOf ((part7 3 d).flatMap partB)) = [few1,few2] by unfold fewL;rw [List.filter_cons,if_pos (by decide +kernel),List.filter_cons,if_pos (by decide +kernel),List.filter_cons,if_neg (by decide +kernel)];rfl]
  rw [List.filter_cons,if_pos (see1 (by unfold seeP few1;decide)),List.filter_cons,if_pos (see1 (by unfold seeP few2;decide))];rfl
theorem dats2 : datsE 1 pA2 ⟨1,0,0,false,false⟩ = 0 ∧ datsL 1 pA2 ⟨1,0,0,false,false⟩ fewL = [few1]:=by
  have e0 : preE 1 pA2 = 0:=by unfold preE keyE;rw [if_pos pA2_p,if_pos pA2_k]
  have e1 : datsE 1 pA2 ⟨1,0,0,false,false⟩ = 0:=by unfold datsE;rw [if_neg (by rw [e0];decide),if_pos (by unfold okV;decide)]
  refine ⟨e1,?_⟩
  unfold datsL preL
  rw [if_pos e1,few_sort 1 (.inl rfl),show preB 1 pA2 = pA2.flatMap partB by unfold preB keyB;rw [if_pos pA2_p,if_pos pA2_k]]
  rw [List.filter_congr (p:=fun d=>(pA2.flatMap partB).isPrefixOf (dkeyB 1 d)) (q:=fun d=>(pA2.flatMap partB).isPrefixOf ((part7 1 d).flatMap partB)) fun d hd=>by rw [few_key 1 (.inl rfl) d hd]]
  rw [show fewL.filter (fun d=>(pA2.flatMap partB).isPrefixOf ((part7 1 d).flatMap partB)) = [few1,few2] by unfold fewL;rw [List.filter_cons,if_pos (by decide +kernel),List.filter_cons,if_pos (by decide +kernel),List.filter_cons,if_neg (by decide +kernel)];rfl]
  rw [List.filter_cons,if_pos (see1 (by unfold seeP few1;decide)),List.filter_cons,if_neg (by rw [see0 (by unfold seeP few2;decide)];decide)];rfl
set_option maxHeartbeats 16000000 in
theorem alive_pc [GlobF Tryz.prog] : PC Tryz.prog 19 [] (.sc (.bool true)):=by
  have hT : IxOf fewL (addsT (fun _=>none) fewL):=by have:=IxOf.init.adds fewL (by decide);simpa using this
  obtain ⟨T,eT⟩ : ∃ T,T = addsT (fun _=>none) fewL:=⟨_,rfl⟩
  rw [← eT] at hT
  have q1:=iadd_pc none [] fewL IxOf.init (by decide) few_s (xA (some T)) 0 (fun _=>⟨by rw [eT];rfl,rfl⟩) (fun ⟨x,hx,h⟩=>absurd (few_may x hx) h)
  have q2:=idatoms_pc (some T) fewL hT few_ok (by decide) 3 pA1 ⟨0,0,0,false,false⟩ (by decide) (fun q hq=>by simp only [pA1,List.mem_cons,List.not_mem_nil,or_false] at hq;rcases hq with rfl|rfl <;> decide)
  have q3:=idatoms_pc (some T) fewL hT few_ok (by decide) 1 pA2 ⟨1,0,0,false,false⟩ (by decide) (fun q hq=>by simp only [pA2,List.mem_cons,List.not_mem_nil,or_false] at hq;subst hq;decide)
  rw [dats1.1,dats1.2] at q2
  rw [dats2.1,dats2.2] at q3
  have g1 : Value.bool (lEq (encD few1) (encD few1)) = .bool true:=by rw [(lEq_t _ _).mpr rfl]
  have g2 : Value.bool (lEq (encD few2) (encD few2)) = .bool true:=by rw [(lEq_t _ _).mpr rfl]
  rw [xA_no,xA_so] at q1
  rw [xA_so] at q2 q3
  have q0 : PC Tryz.prog 23 [] (.sl none 9 [dC few1,dC few2,dC few3]):=few_pc
  refine PC.of_body Tryz.func19 Tryz.ntmps19 rfl rfl rfl ?_
  repeat' first
 | (apply p1 (hd:=rfl);case hop=>first|(apply D_move;rfl)|(apply D_assign;rfl)|(apply D_pc q0;rfl;exact .nil)|(apply D_pc q1;rfl;exact .same rfl (.same rfl .nil))|(apply D_pc q2;rfl;exact .same rfl (.same rfl (.same rfl (.same rfl .nil))))|(apply D_pc q3;rfl;exact .same rfl (.same rfl (.same rfl (.same rfl .nil))))|(apply D_ext;rfl;rfl)|(apply D_lit;rfl;rfl;rfl;rfl)|exact D_build rfl)
 | refine W_seq ?_
 | refine W_region ?_
 | refine WL_nil ?_
 | refine tn ?_
 | refine W_ret ?_
 | (refine idR ?_;refine ret1 rfl rfl rfl ?_)
 | refine Le.bool ?_
 | (refine idW ?_;refine W_draw0 rfl ?_)
 | (apply d1 (hd:=rfl);case hop=>first|(apply D_move;rfl)|(apply D_assign;rfl)|(apply D_pc q0;rfl;exact .nil)|exact D_sc (D_eqA rfl rfl rfl rfl rfl rfl rfl) g1|exact D_sc (D_eqA rfl rfl rfl rfl rfl rfl rfl) g2|(apply D_pickT;rfl;rfl)|(apply D_pickF;rfl;rfl)|(apply D_int;rfl;rfl;rfl)|(apply D_lenM;rfl)|(apply D_loadW;rfl;rfl)|(apply D_idxAn;rfl;rfl;(first|omega|(simp;done)))|(apply D_idxA0;rfl;rfl;omega;(first|omega|(simp;done)|(simp;omega))))
 | (refine idDg ?_;first|refine dg0t rfl rfl rfl ?_|refine dgr rfl rfl ?_|refine dgs rfl rfl (fun _=>?_) (fun _=>?_))
 | (refine WD_nil (by first|decide +kernel|kernel_rfl|rfl) ?_)
  all_goals first|rfl|contradiction|skip
end Go.Proofs

namespace Go.Proofs
open Go.AL Go.Sort
attribute [local irreducible] Go.AL.W Go.AL.WL Go.AL.WD Go.AL.POp Go.AL.PPOp Go.AL.POpS Go.AL.PC Go.AL.AC Go.AL.YW Go.AL.Ret Go.AL.Le Go.AL.thn Go.AL.inBlk Go.AL.scp
end Go.Proofs

namespace Go.Proofs
open Go.AL Go.Sort
attribute [local irreducible] Go.AL.W Go.AL.WL Go.AL.WD Go.AL.POp Go.AL.PPOp Go.AL.POpS Go.AL.PC Go.AL.AC Go.AL.YW Go.AL.Ret Go.AL.Le Go.AL.thn Go.AL.inBlk Go.AL.scp
noncomputable def begB (o : Int) (p : List Prt) (v : Vw) (d : Dat) : Bool:=seeB v d && dP (begP o p d)
theorem datI_v {d : Dat} (h : datI d) : prtI (prtV d.v):=⟨(show i64P 0 by unfold i64P;decide),h.2.2.1⟩
theorem dats_sorted {o : Int} {p : List Prt} {v : Vw} {L : List Dat} (h0 : datsE o p v = 0) (hL : okL L) (ip : ∀ q,q ∈ p → prtI q) : datsL o p v L = dsortL o (L.filter (begB o p v)):=by
  have hp : preE o p = 0:=by
    unfold datsE at h0
    split at h0
    · rename_i h;exact absurd h0 h
    · rename_i h;simpa using h
  have ho:=preE_o hp
  unfold datsL preL
  rw [if_pos h0]
  refine rise_eq (wc_cmpD o) (List.Pairwise.filter _ (List.Pairwise.filter _ (dsort_rise ho L))) (dsort_rise ho _) fun d=>?_
  rw [List.mem_filter,List.mem_filter,dsort_mem ho,dsort_mem ho,List.mem_filter,List.isPrefixOf_iff_prefix]
  have key : d ∈ L → hasP o d → (preB o p <+: dkeyB o d ↔ begP o p d):=fun h1 h2=>by
    have hk : dkeyE o d = 0:=(key_ok ho).2 ⟨(hL d h1).1,h2⟩
    have hi:=(hL d h1).2
    exact (beg_key hp hk ip (datI_v hi) ⟨hi.1,hi.2.1,hi.2.2.2.1,hi.2.2.2.2.1,hi.2.2.2.2.2⟩).symm
  unfold begB
  rw [Bool.and_eq_true,dP_t]
  constructor
  · rintro ⟨⟨⟨h1,h2⟩,h3⟩,h4⟩;exact ⟨⟨h1,h4,(key h1 h2).1 h3⟩,h2⟩
  · rintro ⟨⟨h1,h4,h3⟩,h2⟩;exact ⟨⟨⟨h1,h2⟩,(key h1 h2).2 h3⟩,h4⟩
end Go.Proofs
