/- The law IndexWhole. -/
import Derived.Test.YtjojdiefnhbglaaGreatYI11
set_option linter.all false
namespace Go.Proofs
open Go.AL Go.Sort
attribute [local irreducible] Go.AL.W Go.AL.WL Go.AL.WD Go.AL.POp Go.AL.PPOp Go.AL.POpS Go.AL.PC Go.AL.AC Go.AL.YW Go.AL.Ret Go.AL.Le Go.AL.thn Go.AL.inBlk Go.AL.scp
theorem allF_of {l : List Fac} (h : riseF l) (hm : ∀ f,f ∈ l → mayF f) : allF l:=fun i hi _ =>
  ⟨hm _ (List.getElem_mem hi),fun h0=>List.pairwise_iff_getElem.1 h (i - 1) i (by omega) hi (by omega)⟩
theorem begP_key {o : Int} {p : List Prt} {d d' : Dat} (hp : p.length ≤ 3) (he : d.e = d'.e) (ha : d.a = d'.a) (hv : d.v = d'.v) : begP o p d ↔ begP o p d':=by
  obtain ⟨e,a,v,t,ad,fr,to⟩:=d
  obtain ⟨e',a',v',t',ad',fr',to'⟩:=d'
  simp only at he ha hv
  subst he;subst ha;subst hv
  unfold begP
  refine and_congr_right fun _=>and_congr Iff.rfl ?_
  have key : ∀ i (h7 : i < 7),i < 3 → (part7 o ⟨e,a,v,t,ad,fr,to⟩)[i]'h7 = (part7 o ⟨e,a,v,t',ad',fr',to'⟩)[i]'h7:=fun i h7 h3=>by
    match i,h3 with
    | 0,_=>rfl
    | 1,_=>rfl
    | 2,_=>rfl
  exact ⟨fun h i hi h7=>by rw [← key i h7 (by omega)];exact h i hi h7,fun h i hi h7=>by rw [key i h7 (by omega)];exact h i hi h7⟩
theorem pre_ok {o : Int} {d : Dat} {k : Nat} (ho : 1 ≤ o ∧ o ≤ 4) (hd : dmayP d) (hk : k ≤ 3) : preE o ((part7 o d).take k) = 0:=by
  have hP : preP o ((part7 o d).take k):=⟨ho,by rw [List.length_take];omega,fun i h h7=>by rw [List.getElem_take];exact part7_flag o d i h7⟩
  unfold preE
  rw [if_pos hP]
  unfold keyE
  rw [if_pos]
  exact fun q hq=>part7_all (C:=PartP) (fun _=>hd.2.2.2.2.1) (fun n h=>by cases h) q (List.mem_of_mem_take hq)
noncomputable def begF (o : Int) (p : List Prt) (f : Fac) : Bool:=dP (begP o p (asD f))
theorem datsL_mem {o : Int} {p : List Prt} {v : Vw} {l : List Dat} (hE : datsE o p v = 0) (hL : okL l) (ip : ∀ q,q ∈ p → prtI q) (ho : 1 ≤ o ∧ o ≤ 4) {d : Dat} : d ∈ datsL o p v l ↔ d ∈ l ∧ seeP v d ∧ begP o p d:=by
  rw [dats_sorted hE hL ip,dsort_mem ho,List.mem_filter]
  unfold begB seeB
  rw [Bool.and_eq_true,dP_t,dP_t]
  exact ⟨fun h=>⟨h.1.1,h.1.2⟩,fun h=>⟨⟨h.1,h.2⟩,h.2.2.2.1⟩⟩
theorem whole_fold {o : Int} {p : List Prt} {v : Vw} {l : List Dat} {F : List Fac} (hE : datsE o p v = 0) (hL : okL l) (ip : ∀ q,q ∈ p → prtI q) (ho : 1 ≤ o ∧ o ≤ 4) (hp : p.length ≤ 3) (hrg : rgD l) (h0 : 0 ≤ v.up) (hF : foldR (vdatL l v) = some F) :
    foldR (datsL o p v l) = some (F.filter (begF o p)):=by
  have hm:=fun {d}=>datsL_mem (d:=d) hE hL ip ho
  have hv : ∀ d,d ∈ vdatL l v ↔ d ∈ l ∧ seeP v d:=fun d=>by
    unfold vdatL
    rw [dsort_iff,List.mem_filter]
    unfold viewB
    rw [dP_t]
    unfold viewP seeP
    exact and_congr_right fun _=>and_congr_right fun _=>⟨fun h=>h.imp (fun h=>by omega) id,fun h=>h.imp (fun h=>by omega) id⟩
  have hrV : rgD (vdatL l v):=fun d h=>hrg d ((hv d).1 h).1
  have hok:=foldR_ok (vdatL l v) hrV
  rw [hF] at hok
  obtain ⟨k1,k2,k3,k4,k5⟩:=hok
  have hri:=allF_rise k2
  have hDV : ∀ d,d ∈ datsL o p v l → d ∈ vdatL l v:=fun d h=>(hv d).2 ⟨(hm.1 h).1,(hm.1 h).2.1⟩
  have hVD : ∀ d,d ∈ vdatL l v → begP o p d → d ∈ datsL o p v l:=fun d h hb=>hm.2 ⟨((hv d).1 h).1,((hv d).1 h).2,hb⟩
  refine fold_is (fun d h=>hrg d (hm.1 h).1) (fun d h=>(hL d (hm.1 h).1).1) ?_ ?_ fun k y=>?_
  · rintro ⟨d,hd,d',hd',h⟩
    exact k4 ⟨d,hDV d hd,d',hDV d' hd',h⟩
  · exact allF_of (List.Pairwise.filter _ hri) fun f hf=>may_of k2 (List.mem_filter.1 hf).1
  · constructor
    · rintro ⟨f,hf,hk,hy⟩
      obtain ⟨hf1,hf2⟩:=List.mem_filter.1 hf
      unfold begF at hf2
      rw [dP_t] at hf2
      obtain ⟨d,hd,hdk,ha,hc,hmx⟩:=(k5 k y).1 ((find_rise hri k y).2 ⟨f,hf1,hk,hy⟩)
      obtain ⟨a1,a2,a3⟩:=(cmpF_z _ _).1 hdk
      obtain ⟨b1,b2,b3⟩:=(cmpF_z _ _).1 hk
      have hbd : begP o p d:=(begP_key hp (a1.trans b1.symm) (a2.trans b2.symm) (a3.trans b3.symm)).2 hf2
      exact ⟨d,hVD d hd hbd,hdk,ha,hc,fun d' h1 h2 h3=>hmx d' (hDV d' h1) h2 h3⟩
    · rintro ⟨d,hd,hdk,ha,hc,hmx⟩
      have hbd:=(hm.1 hd).2.2
      obtain ⟨a1,a2,a3⟩:=(cmpF_z _ _).1 hdk
      have hV : holdK (vdatL l v) k y:=⟨d,hDV d hd,hdk,ha,hc,fun d' h1 h2 h3=>by
        obtain ⟨c1,c2,c3⟩:=(cmpF_z _ _).1 h2
        exact hmx d' (hVD d' h1 ((begP_key hp (a1.trans c1.symm) (a2.trans c2.symm) (a3.trans c3.symm)).1 hbd)) h2 h3⟩
      obtain ⟨f,hf,hk,hy⟩:=(find_rise hri k y).1 ((k5 k y).2 hV)
      obtain ⟨b1,b2,b3⟩:=(cmpF_z _ _).1 hk
      refine ⟨f,List.mem_filter.2 ⟨hf,?_⟩,hk,hy⟩
      unfold begF
      rw [dP_t]
      exact (begP_key hp (a1.trans b1.symm) (a2.trans b2.symm) (a3.trans b3.symm)).1 hbd
theorem whole_ok {o : Int} {p : List Prt} {v : Vw} {l : List Dat} (hpre : preE o p = 0) (hL : okL l) (ip : ∀ q,q ∈ p → prtI q) (ho : 1 ≤ o ∧ o ≤ 4) (hp : p.length ≤ 3) (hrg : rgD l) (hno : v.no = false) (hV : vofE l v = 0) :
    factsE o p v l = 0 ∧ (factsL o p v l).Perm ((vofF l v).filter (begF o p)):=by
  have hvw : dP (vwP v) = true:=by
    unfold vofE at hV
    cases h : dP (vwP v)
    · rw [h] at hV;simp at hV
    · rfl
  have hvw' : vwP v:=by rwa [dP_t] at hvw
  have hF : ∃ F,foldR (vdatL l v) = some F:=by
    unfold vofE at hV
    rw [hvw,hno] at hV
    cases h : foldR (vdatL l v) with
    | some F=>exact ⟨F,rfl⟩
    | none=>rw [h] at hV;simp at hV
  obtain ⟨F,hF⟩:=hF
  have hE : datsE o p v = 0:=by
    unfold datsE
    rw [if_neg (by simpa using hpre),if_pos]
    unfold vwP at hvw'
    unfold okV
    omega
  have hf:=whole_fold hE hL ip ho hp hrg (by unfold vwP at hvw';omega) hF
  have hfE : factsE o p v l = 0:=by
    unfold factsE
    rw [if_neg (by simpa using hE),if_neg (by rintro (h|h);omega;rw [hno] at h;cases h),hf];rfl
  refine ⟨hfE,?_⟩
  have hok:=foldR_ok (vdatL l v) (fun d h=>hrg d (vdat_mem h))
  rw [hF] at hok
  obtain ⟨-,k2,-⟩:=hok
  have hvF : vofF l v = if v.one = true then atL F v.at_ else F:=by
    unfold vofF vofL
    rw [hvw,hno,hF]
    cases h : v.one <;> simp [← dP_T k2]
  have hU : factsU o p v l = (vofF l v).filter (begF o p):=by
    unfold factsU
    rw [hf,hvF]
    cases h : v.one
    · simp
    · simp only [if_true,Option.getD_some]
      unfold atL
      rw [List.filter_filter,List.filter_filter]
      congr 1
      funext f
      exact Bool.and_comm _ _
  unfold factsL
  rw [if_pos hfE,hU]
  refine sortIF_perm (riseF_dst (List.Pairwise.filter _ ?_))
  rw [hvF]
  split
  · exact List.Pairwise.filter _ (allF_rise k2)
  · exact allF_rise k2
end Go.Proofs

namespace Go.Proofs
open Go.AL Go.Sort
attribute [local irreducible] Go.AL.W Go.AL.WL Go.AL.WD Go.AL.POp Go.AL.PPOp Go.AL.POpS Go.AL.PC Go.AL.AC Go.AL.YW Go.AL.Ret Go.AL.Le Go.AL.thn Go.AL.inBlk Go.AL.scp
theorem filt_snoc {α : Type} (q : α → Bool) (l : List α) (i : Nat) (h : i < l.length) : ((l.take (i + 1)).filter q).length = ((l.take i).filter q).length + (if q l[i] = true then 1 else 0):=by
  rw [List.take_succ_eq_append_getElem h,List.filter_append,List.length_append,List.filter_cons]
  by_cases hq : q l[i] = true
  · simp [hq]
  · simp [hq]
theorem prt_of {o : Int} {d : Dat} (h : datI d) : ∀ q,q ∈ part7 o d → prtI q:=by
  intro q hq
  have z : i64P 0:=by unfold i64P;decide
  have z1 : i64P 1:=by unfold i64P;decide
  have hN : ∀ n,i64P n → prtI (prtN n):=fun n hn=>⟨hn,z⟩
  have hV : prtI (prtV d.v):=datI_v h
  simp only [part7,List.mem_cons,List.not_mem_nil,or_false] at hq
  rcases hq with rfl|rfl|rfl|rfl|rfl|rfl|rfl
  · unfold fst1;split <;> (try split) <;> (try split) <;> first|exact hV|exact hN _ h.1|exact hN _ h.2.1
  · unfold fst2;split <;> (try split) <;> (try split) <;> first|exact hV|exact hN _ h.1|exact hN _ h.2.1
  · unfold fst3;split <;> (try split) <;> (try split) <;> first|exact hV|exact hN _ h.1|exact hN _ h.2.1
  · exact hN _ h.2.2.2.1
  · split
    · exact hN _ z
    · exact hN _ z1
  · exact hN _ h.2.2.2.2.1
  · exact hN _ h.2.2.2.2.2
set_option maxHeartbeats 64000000 in
theorem indexWhole_pc [GlobF Tryz.prog] (l : List Dat) (o n_ w_ : Int) (v : Vw) (hwl : (l.map wtD1).sum ≤ 1048576) (hil : ∀ x,x ∈ l → datI x) :
    PC Tryz.prog 4 [sl9 l,.sc (.int .i64 o),.sc (.int .i64 n_),.sc (.int .i64 w_),eW v] (.sc (.bool true)):=by
  obtain ⟨l1,l2⟩:=wt_sl hwl
  have hgl:=great_pc l (by omega)
  refine PC.of_body Tryz.func4 Tryz.ntmps4 rfl rfl rfl ?_
  by_cases c1 : 4000 < grS 0 l
  · rw [if_pos c1] at hgl
    repeat' first
 | (apply p1 (hd:=rfl);case hop=>first|(apply D_move;rfl)|(apply D_assign;rfl)|(apply D_pc alive_pc;rfl;exact .nil)|(apply D_pc hgl;rfl;exact .same rfl .nil)|(apply D_load1;rfl)|(apply D_fld;rfl)|(apply D_pickT;rfl;rfl)|(apply D_pickF;rfl;rfl)|(apply D_int;rfl;rfl;rfl)|(apply D_lenM;rfl)|(apply D_not;rfl)|(apply D_loadW;rfl;rfl)|(apply D_box;rfl;rfl)|(apply D_idxA;rfl;rfl;omega;(first|omega|(simp;done)|(simp;omega)))|(apply D_rem;rfl;rfl;first|omega|((repeat rw [w64 _ (by omega) (by omega)]);omega)|decide))
 | refine W_seq ?_
 | refine W_region ?_
 | (refine idC ?_;refine cs rfl (fun _=>?_) (fun _=>?_))
 | refine WL_nil ?_
 | (refine idG ?_;first|refine g0f rfl rfl rfl ?_|refine gr rfl rfl ?_|refine gs rfl rfl (fun _=>?_) (fun _=>?_))
 | refine tn ?_
 | refine tr ?_
 | refine W_skip ?_
 | refine W_ret ?_
 | (refine idR ?_;refine ret1 rfl rfl rfl ?_)
 | (refine idA ?_;refine m_var rfl rfl rfl rfl rfl rfl rfl ?_)
 | (refine Le.bool ?_)
    all_goals first|rfl|contradiction|(exfalso;omega)|skip
  rw [if_neg c1] at hgl
  have h00 : Value.bool (iLt 0 0) = .bool false:=by rw [(iLt_f _ _).mpr (by omega)]
  have hnT : Value.bool (bNot true) = .bool false:=by simp [bNot]
  obtain ⟨w1,w2⟩:=gr_few hwl c1
  have hbl : ∀ x,x ∈ l → x.v.s.length < 9223372036854775808:=fun x hx=>by have:=w2 x hx;omega
  by_cases c0 : l.length = 0
  · have g0 : Value.bool (iEq (l.length : Int) 0) = .bool true:=by rw [(iEq_t _ _).mpr (by omega)]
    repeat' first
 | (apply p1 (hd:=rfl);case hop=>first|(apply D_move;rfl)|(apply D_assign;rfl)|(apply D_pc alive_pc;rfl;exact .nil)|exact D_sc (D_int rfl rfl rfl) h00|exact D_sc (D_int rfl rfl rfl) g0|(apply D_pc hgl;rfl;exact .same rfl .nil)|(apply D_pickT;rfl;rfl)|(apply D_pickF;rfl;rfl)|(apply D_lenM;rfl)|(apply D_box;rfl;rfl))
 | refine W_seq ?_
 | refine W_region ?_
 | (refine idC ?_;refine cs rfl (fun _=>?_) (fun _=>?_))
 | refine WL_nil ?_
 | (refine idG ?_;first|refine g0f rfl rfl rfl ?_|refine gr rfl rfl ?_)
 | refine tn ?_
 | refine tr ?_
 | refine W_skip ?_
 | refine W_ret ?_
 | (refine idR ?_;refine ret1 rfl rfl rfl ?_)
 | (refine Le.bool ?_)
    all_goals first|rfl|contradiction|(exfalso;omega)|skip
  have g0 : Value.bool (iEq (l.length : Int) 0) = .bool false:=by rw [(iEq_f _ _).mpr (by omega)]
  by_cases ho : 1 ≤ o ∧ o ≤ 4
  rotate_left
  · by_cases ho1 : o < 1
    · have g1 : Value.bool (iLt o 1) = .bool true:=by rw [(iLt_t _ _).mpr ho1]
      repeat' first
 | (apply p1 (hd:=rfl);case hop=>first|(apply D_move;rfl)|(apply D_assign;rfl)|(apply D_pc alive_pc;rfl;exact .nil)|exact D_sc (D_int rfl rfl rfl) h00|exact D_sc (D_int rfl rfl rfl) g0|exact D_sc (D_int rfl rfl rfl) g1|(apply D_pc hgl;rfl;exact .same rfl .nil)|(apply D_pickT;rfl;rfl)|(apply D_pickF;rfl;rfl)|(apply D_int;rfl;rfl;rfl)|(apply D_lenM;rfl)|(apply D_box;rfl;rfl)|(apply D_rem;rfl;rfl;first|omega|((repeat rw [w64 _ (by omega) (by omega)]);omega)|decide))
 | refine W_seq ?_
 | refine W_region ?_
 | (refine idC ?_;refine cs rfl (fun _=>?_) (fun _=>?_))
 | refine WL_nil ?_
 | (refine idG ?_;first|refine g0f rfl rfl rfl ?_|refine gr rfl rfl ?_)
 | refine tn ?_
 | refine tr ?_
 | refine W_skip ?_
 | refine W_ret ?_
 | (refine idR ?_;refine ret1 rfl rfl rfl ?_)
 | (refine Le.bool ?_)
      all_goals first|rfl|contradiction|(exfalso;omega)|skip
    · have g1 : Value.bool (iLt o 1) = .bool false:=by rw [(iLt_f _ _).mpr (by omega)]
      have g2 : Value.bool (iLt 4 o) = .bool true:=by rw [(iLt_t _ _).mpr (by omega)]
      repeat' first
 | (apply p1 (hd:=rfl);case hop=>first|(apply D_move;rfl)|(apply D_assign;rfl)|(apply D_pc alive_pc;rfl;exact .nil)|exact D_sc (D_int rfl rfl rfl) h00|exact D_sc (D_int rfl rfl rfl) g0|exact D_sc (D_int rfl rfl rfl) g1|exact D_sc (D_int rfl rfl rfl) g2|(apply D_pc hgl;rfl;exact .same rfl .nil)|(apply D_pickT;rfl;rfl)|(apply D_pickF;rfl;rfl)|(apply D_int;rfl;rfl;rfl)|(apply D_lenM;rfl)|(apply D_box;rfl;rfl)|(apply D_rem;rfl;rfl;first|omega|((repeat rw [w64 _ (by omega) (by omega)]);omega)|decide))
 | refine W_seq ?_
 | refine W_region ?_
 | (refine idC ?_;refine cs rfl (fun _=>?_) (fun _=>?_))
 | refine WL_nil ?_
 | (refine idG ?_;first|refine g0f rfl rfl rfl ?_|refine gr rfl rfl ?_)
 | refine tn ?_
 | refine tr ?_
 | refine W_skip ?_
 | refine W_ret ?_
 | (refine idR ?_;refine ret1 rfl rfl rfl ?_)
 | (refine Le.bool ?_)
      all_goals first|rfl|contradiction|(exfalso;omega)|skip
  have g1 : Value.bool (iLt o 1) = .bool false:=by rw [(iLt_f _ _).mpr (by omega)]
  have g2 : Value.bool (iLt 4 o) = .bool false:=by rw [(iLt_f _ _).mpr (by omega)]
  obtain ⟨up,af,at_,one,no⟩:=v
  cases no
  rotate_left
  · repeat' first
 | (apply p1 (hd:=rfl);case hop=>first|(apply D_move;rfl)|(apply D_assign;rfl)|(apply D_pc alive_pc;rfl;exact .nil)|exact D_sc (D_int rfl rfl rfl) h00|exact D_sc (D_int rfl rfl rfl) g0|exact D_sc (D_int rfl rfl rfl) g1|exact D_sc (D_int rfl rfl rfl) g2|(apply D_pc hgl;rfl;exact .same rfl .nil)|(apply D_load1;rfl)|(apply D_fld;rfl)|(apply D_pickT;rfl;rfl)|(apply D_pickF;rfl;rfl)|(apply D_int;rfl;rfl;rfl)|(apply D_lenM;rfl)|(apply D_box;rfl;rfl)|(apply D_rem;rfl;rfl;first|omega|((repeat rw [w64 _ (by omega) (by omega)]);omega)|decide))
 | refine W_seq ?_
 | refine W_region ?_
 | (refine idC ?_;refine cs rfl (fun _=>?_) (fun _=>?_))
 | refine WL_nil ?_
 | (refine idG ?_;first|refine g0f rfl rfl rfl ?_|refine gr rfl rfl ?_)
 | refine tn ?_
 | refine tr ?_
 | refine W_skip ?_
 | refine W_ret ?_
 | (refine idR ?_;refine ret1 rfl rfl rfl ?_)
 | (refine Le.bool ?_)
    all_goals first|rfl|contradiction|(exfalso;omega)|skip
  have hb1 : -(l.length : Int) < w_.tmod l.length ∧ w_.tmod l.length < l.length:=by
    constructor
    · have:=Int.lt_tmod_of_pos w_ (b:=(l.length : Int)) (by omega);omega
    · have:=Int.tmod_lt_of_pos w_ (b:=(l.length : Int)) (by omega);omega
  have hr1 : (l.length : Int) ≠ 0:=by omega
  obtain ⟨M,hM⟩ : ∃ M : Nat,(M : Int) = w_.tmod l.length + l.length:=⟨(w_.tmod l.length + l.length).toNat,by omega⟩
  have hw1 : Value.int .i64 (IntKind.i64.wrap (w_.tmod l.length + l.length)) = .int .i64 (M : Int):=by rw [w64 _ (by omega) (by omega),hM]
  obtain ⟨i0,hi0⟩ : ∃ n : Nat,n = M % l.length:=⟨_,rfl⟩
  have hnl : i0 < l.length:=by rw [hi0];exact Nat.mod_lt _ (by omega)
  have hw2 : Value.int .i64 ((M : Int).tmod l.length) = .int .i64 (i0 : Int):=by
    rw [Int.tmod_eq_emod_of_nonneg (by omega),hi0];rfl
  have hc1 : -4 < n_.tmod 4 ∧ n_.tmod 4 < 4:=⟨by have:=Int.lt_tmod_of_pos n_ (b:=4) (by omega);omega,Int.tmod_lt_of_pos n_ (by omega)⟩
  obtain ⟨K,hK⟩ : ∃ K : Nat,(K : Int) = n_.tmod 4 + 4:=⟨(n_.tmod 4 + 4).toNat,by omega⟩
  have hw3 : Value.int .i64 (IntKind.i64.wrap (n_.tmod 4 + 4)) = .int .i64 (K : Int):=by rw [w64 _ (by omega) (by omega),hK]
  obtain ⟨k,hk⟩ : ∃ k : Nat,k = K % 4:=⟨_,rfl⟩
  have hk3 : k ≤ 3:=by omega
  have hw4 : Value.int .i64 ((K : Int).tmod 4) = .int .i64 (k : Int):=by
    rw [Int.tmod_eq_emod_of_nonneg (by omega),hk];rfl
  have hpt:=parts1_pc o (l[i0]'hnl)
  have hp7:=part7_len o (l[i0]'hnl)
  by_cases c3 : ∀ x,x ∈ l → dmayP x
  rotate_left
  · obtain ⟨x0,hx0,hx1⟩ : ∃ x,x ∈ l ∧ ¬ dmayP x:=Classical.byContradiction fun h=>c3 fun x hx=>Classical.byContradiction fun h2=>h ⟨x,hx,h2⟩
    have q1:=iadd_pc none [] l IxOf.init (by simp;omega) hbl (.sc (.pointer none)) 110 (fun h=>absurd h c3) (fun _=>⟨rfl,rfl⟩)
    have hrg : rgD l:=rg_datI hil
    have q2:=vof_pc l ⟨up,af,at_,one,false⟩ (by omega) hbl hrg
    generalize vofF l ⟨up,af,at_,one,false⟩ = V at *
    generalize vofE l ⟨up,af,at_,one,false⟩ = E at *
    rw [xA_no] at q1
    generalize part7 o (l[i0]'hnl) = Q at *
    repeat' first
 | (apply p1 (hd:=rfl);case hop=>first|(apply D_move;rfl)|(apply D_assign;rfl)|(apply D_pc alive_pc;rfl;exact .nil)|exact D_sc (D_int rfl rfl rfl) h00|exact D_sc (D_int rfl rfl rfl) g0|exact D_sc (D_int rfl rfl rfl) g1|exact D_sc (D_int rfl rfl rfl) g2|exact D_sc (D_int rfl rfl rfl) hw1|exact D_sc (D_rem rfl rfl hr1) hw2|exact D_sc (D_int rfl rfl rfl) hw3|exact D_sc (D_rem rfl rfl (by decide)) hw4|exact D_rem rfl rfl hr1|exact D_rem rfl rfl (by decide)|exact D_sc (D_not rfl) hnT|(apply D_pc hgl;rfl;exact .same rfl .nil)|(apply D_pc hpt;rfl;exact .same rfl (.same rfl .nil))|(apply D_pc q1;rfl;exact .same rfl (.same rfl .nil))|(apply D_pc q2;rfl;exact .same rfl (.same rfl .nil))|(apply D_load1;rfl)|(apply D_fld;rfl)|(apply D_pickT;rfl;rfl)|(apply D_pickF;rfl;rfl)|(apply D_int;rfl;rfl;rfl)|(apply D_lenM;rfl)|(apply D_ext;rfl;rfl)|(apply D_loadW;rfl;rfl)|(apply D_box;rfl;rfl)|(apply D_idxAn;rfl;rfl;(first|omega|(simp;done)))|(apply D_slVhM;rfl;rfl;all_goals first|omega|((repeat rw [w64 _ (by omega) (by omega)]);omega)|decide))
 | refine W_seq ?_
 | refine W_region ?_
 | (refine idC ?_;refine cs rfl (fun _=>?_) (fun _=>?_))
 | refine WL_nil ?_
 | (refine idG ?_;first|refine g0f rfl rfl rfl ?_|refine gr rfl rfl ?_|refine gs rfl rfl (fun _=>?_) (fun _=>?_))
 | refine tn ?_
 | refine tr ?_
 | refine W_skip ?_
 | refine W_ret ?_
 | (refine idR ?_;refine ret1 rfl rfl rfl ?_)
 | (refine idA ?_;refine m_var rfl rfl rfl rfl rfl rfl rfl ?_)
 | (refine Le.bool ?_)
    all_goals first|rfl|contradiction|(exfalso;omega)|skip
  have hL : okL l:=fun x hx=>⟨c3 x hx,hil x hx⟩
  have hrg : rgD l:=rg_datI hil
  have hT1 : IxOf l (addsT (fun _=>none) l):=by have:=IxOf.init.adds l (by simp;omega);simpa using this
  obtain ⟨T1,e1⟩ : ∃ T1,T1 = addsT (fun _=>none) l:=⟨_,rfl⟩
  rw [← e1] at hT1
  have q1:=iadd_pc none [] l IxOf.init (by simp;omega) hbl (xA (some T1)) 0 (fun _=>⟨by rw [e1];rfl,rfl⟩) (fun ⟨x,hx,h⟩=>absurd (c3 x hx) h)
  have q2:=vof_pc l ⟨up,af,at_,one,false⟩ (by omega) hbl hrg
  rw [xA_no,xA_so] at q1
  by_cases c4 : vofE l ⟨up,af,at_,one,false⟩ = 0
  rotate_left
  · generalize vofF l ⟨up,af,at_,one,false⟩ = V at *
    generalize vofE l ⟨up,af,at_,one,false⟩ = E at *
    have g4 : Value.bool (bNot (iEq E 0)) = .bool true:=by rw [(iEq_f _ _).mpr c4];simp [bNot]
    generalize part7 o (l[i0]'hnl) = Q at *
    repeat' first
 | (apply p1 (hd:=rfl);case hop=>first|(apply D_move;rfl)|(apply D_assign;rfl)|(apply D_pc alive_pc;rfl;exact .nil)|exact D_sc (D_int rfl rfl rfl) h00|exact D_sc (D_int rfl rfl rfl) g0|exact D_sc (D_int rfl rfl rfl) g1|exact D_sc (D_int rfl rfl rfl) g2|exact D_sc (D_int rfl rfl rfl) hw1|exact D_sc (D_rem rfl rfl hr1) hw2|exact D_sc (D_int rfl rfl rfl) hw3|exact D_sc (D_rem rfl rfl (by decide)) hw4|exact D_rem rfl rfl hr1|exact D_rem rfl rfl (by decide)|exact D_sc (D_not rfl) hnT|(apply D_pc hgl;rfl;exact .same rfl .nil)|(apply D_pc hpt;rfl;exact .same rfl (.same rfl .nil))|(apply D_pc q1;rfl;exact .same rfl (.same rfl .nil))|(apply D_pc q2;rfl;exact .same rfl (.same rfl .nil))|exact D_sc (D_int rfl rfl rfl) g4|(apply D_load1;rfl)|(apply D_fld;rfl)|(apply D_pickT;rfl;rfl)|(apply D_pickF;rfl;rfl)|(apply D_int;rfl;rfl;rfl)|(apply D_lenM;rfl)|(apply D_ext;rfl;rfl)|(apply D_loadW;rfl;rfl)|(apply D_box;rfl;rfl)|(apply D_idxAn;rfl;rfl;(first|omega|(simp;done)))|(apply D_slVhM;rfl;rfl;all_goals first|omega|((repeat rw [w64 _ (by omega) (by omega)]);omega)|decide))
 | refine W_seq ?_
 | refine W_region ?_
 | (refine idC ?_;refine cs rfl (fun _=>?_) (fun _=>?_))
 | refine WL_nil ?_
 | (refine idG ?_;first|refine g0f rfl rfl rfl ?_|refine gr rfl rfl ?_|refine gs rfl rfl (fun _=>?_) (fun _=>?_))
 | refine tn ?_
 | refine tr ?_
 | refine W_skip ?_
 | refine W_ret ?_
 | (refine idR ?_;refine ret1 rfl rfl rfl ?_)
 | (refine idA ?_;refine m_var rfl rfl rfl rfl rfl rfl rfl ?_)
 | (refine Le.bool ?_)
    all_goals first|rfl|contradiction|(exfalso;omega)|skip
  have hd0:=c3 _ (List.getElem_mem hnl)
  have hi0':=hil _ (List.getElem_mem hnl)
  have hpre:=pre_ok (k:=k) ho hd0 hk3
  have hpI : ∀ q,q ∈ (part7 o (l[i0]'hnl)).take k → prtI q:=fun q hq=>prt_of hi0' q (List.mem_of_mem_take hq)
  have hpS : ∀ q,q ∈ (part7 o (l[i0]'hnl)).take k → q.v.s.length < 9223372036854775808:=fun q hq=>part7_all (C:=fun q=>q.v.s.length < 9223372036854775808) (hbl _ (List.getElem_mem hnl)) (fun n=>by simp [prtN,val0]) q (List.mem_of_mem_take hq)
  have hpL : ((part7 o (l[i0]'hnl)).take k).length ≤ 3:=by rw [List.length_take];omega
  obtain ⟨f1,f2⟩:=whole_ok hpre hL hpI ho hpL hrg rfl c4
  have q3:=ifacts_pc (some T1) l hT1 hL (by omega) o _ ⟨up,af,at_,one,false⟩ (by omega) hpS hbl hrg
  have hbg:=fun f : Fac=>begins1_pc o ((part7 o (l[i0]'hnl)).take k) (asD f) (by omega) hpS
  rw [xA_so,f1] at q3
  rw [c4] at q2
  obtain ⟨b1,b2⟩:=factsL_bnd o ((part7 o (l[i0]'hnl)).take k) ⟨up,af,at_,one,false⟩ l
  have b3 : (vofF l ⟨up,af,at_,one,false⟩).length ≤ l.length:=by
    have h1:=foldR_len (vdatL l ⟨up,af,at_,one,false⟩)
    have h2:=vdat_len l ⟨up,af,at_,one,false⟩
    unfold vofF vofL
    split
    · cases hF : foldR (vdatL l ⟨up,af,at_,one,false⟩) with
      | none=>simp
      | some F =>
        rw [hF] at h1
        simp only [Option.getD_some] at h1
        simp only [Option.map_some,Option.getD_some]
        split
        · exact Nat.le_trans (List.length_filter_le _ _) (by omega)
        · omega
    · simp
  have hbF : ∀ f,dP (begP o ((part7 o (l[i0]'hnl)).take k) (asD f)) = begF o ((part7 o (l[i0]'hnl)).take k) f:=fun _=>rfl
  simp only [hbF] at hbg
  generalize begF o ((part7 o (l[i0]'hnl)).take k) = B at *
  generalize factsL o ((part7 o (l[i0]'hnl)).take k) ⟨up,af,at_,one,false⟩ l = A at *
  generalize vofF l ⟨up,af,at_,one,false⟩ = V at *
  generalize part7 o (l[i0]'hnl) = Q at *
  have hlen:=f2.length_eq
  repeat' first
 | (apply p1 (hd:=rfl);case hop=>first|(apply D_move;rfl)|(apply D_assign;rfl)|(apply D_pc alive_pc;rfl;exact .nil)|exact D_sc (D_int rfl rfl rfl) h00|exact D_sc (D_int rfl rfl rfl) g0|exact D_sc (D_int rfl rfl rfl) g1|exact D_sc (D_int rfl rfl rfl) g2|exact D_sc (D_int rfl rfl rfl) hw1|exact D_sc (D_rem rfl rfl hr1) hw2|exact D_sc (D_int rfl rfl rfl) hw3|exact D_sc (D_rem rfl rfl (by decide)) hw4|exact D_rem rfl rfl hr1|exact D_rem rfl rfl (by decide)|exact D_sc (D_not rfl) hnT|(apply D_pc hgl;rfl;exact .same rfl .nil)|(apply D_pc hpt;rfl;exact .same rfl (.same rfl .nil))|(apply D_pc q1;rfl;exact .same rfl (.same rfl .nil))|(apply D_pc q2;rfl;exact .same rfl (.same rfl .nil))|(apply D_pc q3;rfl;exact .same rfl (.same rfl (.same rfl (.same rfl .nil))))|(apply D_load1;rfl)|(apply D_fld;rfl)|(apply D_pickT;rfl;rfl)|(apply D_pickF;rfl;rfl)|(apply D_int;rfl;rfl;rfl)|(apply D_lenM;rfl)|(apply D_ext;rfl;rfl)|(apply D_loadW;rfl;rfl)|(apply D_box;rfl;rfl)|(apply D_idxAn;rfl;rfl;(first|omega|(simp;done)))|(apply D_slVhM;rfl;rfl;all_goals first|omega|((repeat rw [w64 _ (by omega) (by omega)]);omega)|decide))
 | refine W_seq ?_
 | refine W_region ?_
 | (refine idC ?_;refine cs rfl (fun _=>?_) (fun _=>?_))
 | refine WL_nil ?_
 | (refine idG ?_;first|refine g0f rfl rfl rfl ?_|refine gr rfl rfl ?_|refine gs rfl rfl (fun _=>?_) (fun _=>?_))
 | refine tn ?_
 | refine tr ?_
 | refine W_skip ?_
 | refine W_block ?_
 | refine W_ret ?_
 | (refine idR ?_;refine ret1 rfl rfl rfl ?_)
 | (refine idA ?_;refine m_var rfl rfl rfl rfl rfl rfl rfl ?_)
 | (refine Le.bool ?_)
  all_goals try (exfalso;first|contradiction|omega)
  refine W_loopL (X:=Nat) (fun i=>[(1,.sc (.int .i64 o)),(11,.sc (.bool true)),(13,.sl none 5 ((Q.take k).map pC)),(17,sl6 V),(19,sl6 A),(21,.sc (.int .i64 (((V.take i).filter B).length : Int))),(22,.sc (.int .i64 (i : Int)))]) (fun _=>[])
    (fun i=>i ≤ V.length) (fun i=>V.length - i) 0 (Nat.zero_le _) ⟨rfl,rfl,rfl,rfl,rfl,rfl,rfl,trivial⟩ rfl ?_
  intro i hi
  have hcl : ((V.take i).filter B).length ≤ i:=Nat.le_trans (List.length_filter_le _ _) (by rw [List.length_take];omega)
  by_cases hil2 : i < V.length
  rotate_left
  · have e : i = V.length:=by omega
    subst e
    rw [List.take_length] at *
    have g5 : Value.bool (iEq ((V.filter B).length : Int) (A.length : Int)) = .bool true:=by rw [(iEq_t _ _).mpr (by omega)]
    generalize V.filter B = VB at *
    repeat' first
 | (apply p1 (hd:=rfl);case hop=>first|(apply D_move;rfl)|(apply D_assign;rfl)|exact D_sc (D_int rfl rfl rfl) g5|(apply D_pickT;rfl;rfl)|(apply D_int;rfl;rfl;rfl)|(apply D_lenM;rfl))
 | refine W_seq ?_
 | refine W_region ?_
 | (refine idC ?_;refine cs rfl (fun _=>?_) (fun _=>?_))
 | refine WL_nil ?_
 | (refine idG ?_;refine gr rfl rfl ?_)
 | refine tn ?_
 | refine te ?_
 | (refine idB ?_;refine bh rfl ?_)
 | refine W_skip ?_
 | refine W_block ?_
 | refine W_exit ?_
 | refine W_ret ?_
 | (refine idR ?_;refine ret1 rfl rfl rfl ?_)
 | refine Le.bool ?_
 | (refine idW ?_;refine W_draw0 rfl ?_)
 | (apply d1 (hd:=rfl);case hop=>first|(apply D_move;rfl)|(apply D_load1;rfl)|(apply D_fld;rfl)|(apply D_loadA;rfl;rfl)|(apply D_idxAn;rfl;rfl;(first|omega|(simp;done)))|exact D_build rfl)
 | (fail)
    all_goals first|rfl|contradiction|(exfalso;omega)|skip
  have hb:=hbg (V[i]'hil2)
  have hsn:=filt_snoc B V i hil2
  cases hB : B (V[i]'hil2)
  · rw [hB,if_neg (by decide)] at hsn
    rw [hB] at hb
    generalize (V.take i).filter B = C at *
    repeat' first
 | (apply p1 (hd:=rfl);case hop=>first|(apply D_move;rfl)|(apply D_assign;rfl)|(apply D_pickT;rfl;rfl)|(apply D_int;rfl;rfl;rfl)|(apply D_lenM;rfl))
 | refine W_seq ?_
 | refine W_region ?_
 | (refine idC ?_;refine cs rfl (fun _=>?_) (fun _=>?_))
 | refine WL_nil ?_
 | (refine idG ?_;refine gr rfl rfl ?_)
 | refine tn ?_
 | refine te ?_
 | (refine idB ?_;refine bh rfl ?_)
 | refine W_skip ?_
 | refine W_block ?_
 | refine W_exit ?_
 | refine W_ret ?_
 | (refine idR ?_;refine ret1 rfl rfl rfl ?_)
 | refine Le.bool ?_
 | (refine idW ?_;refine W_draw0 rfl ?_)
 | (apply d1 (hd:=rfl);case hop=>first|(apply D_move;rfl)|(apply D_pc hb;rfl;exact .same rfl (.same rfl (.same rfl .nil)))|(apply D_load1;rfl)|(apply D_fld;rfl)|(apply D_not;rfl)|(apply D_loadA;rfl;rfl)|(apply D_idxAn;rfl;rfl;(first|omega|(simp;done)))|exact D_build rfl)
 | (refine WD_nil (by first|decide +kernel|kernel_rfl|rfl) ?_)
    all_goals first
      | (exfalso;omega)
      | contradiction
      | exact ⟨rfl,i + 1,by omega,by omega,⟨rfl,rfl,rfl,rfl,rfl,by rw [hsn];rfl,ieq (wsucc i (by omega)),trivial⟩,rfl⟩
      | skip
  · have hmem : V[i]'hil2 ∈ A:=(f2.mem_iff).2 (List.mem_filter.2 ⟨List.getElem_mem hil2,hB⟩)
    rw [hB,if_pos rfl] at hsn
    rw [hB] at hb
    generalize (V.take i).filter B = C at *
    repeat' first
 | (apply p1 (hd:=rfl);case hop=>first|(apply D_move;rfl)|(apply D_assign;rfl)|(apply D_pickT;rfl;rfl)|(apply D_int;rfl;rfl;rfl)|(apply D_lenM;rfl))
 | refine W_seq ?_
 | refine W_region ?_
 | (refine idC ?_;refine cs rfl (fun _=>?_) (fun _=>?_))
 | refine WL_nil ?_
 | (refine idG ?_;refine gr rfl rfl ?_)
 | refine tn ?_
 | refine te ?_
 | (refine idB ?_;refine bh rfl ?_)
 | refine W_skip ?_
 | refine W_block ?_
 | refine W_exit ?_
 | refine W_ret ?_
 | (refine idR ?_;refine ret1 rfl rfl rfl ?_)
 | refine Le.bool ?_
 | (refine idW ?_;refine W_draw0 rfl ?_)
 | (apply d1 (hd:=rfl);case hop=>first|(apply D_move;rfl)|(apply D_pc hb;rfl;exact .same rfl (.same rfl (.same rfl .nil)))|(apply D_load1;rfl)|(apply D_fld;rfl)|(apply D_not;rfl)|(apply D_loadA;rfl;rfl)|(apply D_idxAn;rfl;rfl;(first|omega|(simp;done)))|exact D_build rfl)
 | (refine WD_nil (by first|decide +kernel|kernel_rfl|rfl) ?_)
    all_goals try (exfalso;first|contradiction|omega)
    refine W_loopL (X:=Nat × Bool) (fun c=>[(1,.sc (.int .i64 o)),(11,.sc (.bool true)),(13,.sl none 5 ((Q.take k).map pC)),(17,sl6 V),(19,sl6 A),(21,.sc (.int .i64 ((C.length + 1 : Nat) : Int))),(22,.sc (.int .i64 (i : Int))),(23,.sc (.bool c.2)),(24,.sc (.int .i64 (c.1 : Int)))]) (fun _=>[])
      (fun c=>c.1 ≤ A.length ∧ (c.2 = true ↔ ∃ (j : Nat) (h : j < A.length),j < c.1 ∧ A[j] = V[i]'hil2)) (fun c=>A.length - c.1) (0,false) ⟨Nat.zero_le _,⟨fun h=>absurd h (by decide),fun ⟨j,h,hj,_⟩=>absurd hj (Nat.not_lt_zero j)⟩⟩ ⟨rfl,rfl,rfl,rfl,rfl,ieq (wsucc C.length (by omega)),rfl,rfl,rfl,trivial⟩ rfl ?_
    rintro ⟨j,fd⟩ ⟨hj,hfd⟩
    dsimp only at hj hfd
    dsimp only
    have hi1 : Value.int .i64 (IntKind.i64.wrap ((i : Int) + 1)) = .int .i64 ((i + 1 : Nat) : Int):=by rw [wsucc i (by omega)]
    by_cases hjl : j < A.length
    · have hj1 : Value.int .i64 (IntKind.i64.wrap ((j : Int) + 1)) = .int .i64 ((j + 1 : Nat) : Int):=by rw [wsucc j (by omega)]
      have hwA : (A.take (j + 1)).drop j = [A[j]'hjl]:=by rw [List.take_succ_eq_append_getElem hjl,List.drop_append_of_le_length (by rw [List.length_take];omega),List.drop_of_length_le (by rw [List.length_take];omega)];rfl
      have hwV : (V.take (i + 1)).drop i = [V[i]'hil2]:=by rw [List.take_succ_eq_append_getElem hil2,List.drop_append_of_le_length (by rw [List.length_take];omega),List.drop_of_length_le (by rw [List.length_take];omega)];rfl
      have hsm:=fsame_pc ((A.take (j + 1)).drop j) ((V.take (i + 1)).drop i) (by rw [hwA];simp) (fun f hf=>by rw [hwA] at hf;rw [List.mem_singleton.1 hf];have:=b2 _ (List.getElem_mem hjl);omega)
      by_cases heq : A[j]'hjl = V[i]'hil2
      · rw [← dP_T (by rw [hwA,hwV,heq])] at hsm
        have hnx : true = true ↔ ∃ (j' : Nat) (h : j' < A.length),j' < j + 1 ∧ A[j'] = V[i]'hil2:=⟨fun _=>⟨j,hjl,by omega,heq⟩,fun _=>rfl⟩
        cases fd
        all_goals
          repeat' first
 | (apply p1 (hd:=rfl);case hop=>first|(apply D_move;rfl)|(apply D_assign;rfl)|exact D_sc (D_int rfl rfl rfl) hi1|exact D_sc (D_int rfl rfl rfl) hj1|(apply D_int;rfl;rfl;rfl)|(apply D_lenM;rfl)|(apply D_not;rfl))
 | refine W_seq ?_
 | refine W_region ?_
 | (refine idC ?_;refine cs rfl (fun _=>?_) (fun _=>?_))
 | refine WL_nil ?_
 | refine tn ?_
 | refine tr ?_
 | refine br ?_
 | refine bn ?_
 | refine te ?_
 | (refine idB ?_;refine bh rfl ?_)
 | refine W_skip ?_
 | refine W_block ?_
 | refine W_exit ?_
 | refine W_ret ?_
 | (refine idR ?_;refine ret1 rfl rfl rfl ?_)
 | refine Le.bool ?_
 | (refine idW ?_;refine W_draw0 rfl ?_)
 | (apply d1 (hd:=rfl);case hop=>first|(apply D_move;rfl)|(apply D_assign;rfl)|(apply D_pc hsm;rfl;exact .same rfl (.same rfl .nil))|exact D_sc (D_int rfl rfl rfl) hi1|exact D_sc (D_int rfl rfl rfl) hj1|(apply D_pickT;rfl;rfl)|(apply D_pickF;rfl;rfl)|(apply D_slVM;rfl;rfl;rfl;all_goals first|omega|((repeat rw [w64 _ (by omega) (by omega)]);omega)|decide))
 | (refine idDg ?_;first|refine dg0f rfl rfl rfl ?_|refine dgr rfl rfl ?_)
 | (refine WD_nil (by first|decide +kernel|kernel_rfl|rfl) ?_)
        all_goals first
          | (exfalso;omega)
          | contradiction
          | exact ⟨rfl,(j + 1,true),⟨by show j + 1 ≤ _;omega,hnx⟩,by show A.length - (j + 1) < A.length - j;omega,⟨rfl,rfl,rfl,rfl,rfl,rfl,rfl,rfl,rfl,trivial⟩,rfl⟩
          | skip
      · rw [← dP_F (by rw [hwA,hwV];intro h;exact heq (by simpa using h))] at hsm
        have hnx : fd = true ↔ ∃ (j' : Nat) (h : j' < A.length),j' < j + 1 ∧ A[j'] = V[i]'hil2:=by
          rw [hfd]
          constructor
          · rintro ⟨a,h1,h2,h3⟩;exact ⟨a,h1,by omega,h3⟩
          · rintro ⟨a,h1,h2,h3⟩
            by_cases e : a = j
            · subst e;exact absurd h3 heq
            · exact ⟨a,h1,by omega,h3⟩
        cases fd
        all_goals
          repeat' first
 | (apply p1 (hd:=rfl);case hop=>first|(apply D_move;rfl)|(apply D_assign;rfl)|exact D_sc (D_int rfl rfl rfl) hi1|exact D_sc (D_int rfl rfl rfl) hj1|(apply D_int;rfl;rfl;rfl)|(apply D_lenM;rfl)|(apply D_not;rfl))
 | refine W_seq ?_
 | refine W_region ?_
 | (refine idC ?_;refine cs rfl (fun _=>?_) (fun _=>?_))
 | refine WL_nil ?_
 | refine tn ?_
 | refine tr ?_
 | refine br ?_
 | refine bn ?_
 | refine te ?_
 | (refine idB ?_;refine bh rfl ?_)
 | refine W_skip ?_
 | refine W_block ?_
 | refine W_exit ?_
 | refine W_ret ?_
 | (refine idR ?_;refine ret1 rfl rfl rfl ?_)
 | refine Le.bool ?_
 | (refine idW ?_;refine W_draw0 rfl ?_)
 | (apply d1 (hd:=rfl);case hop=>first|(apply D_move;rfl)|(apply D_assign;rfl)|(apply D_pc hsm;rfl;exact .same rfl (.same rfl .nil))|exact D_sc (D_int rfl rfl rfl) hi1|exact D_sc (D_int rfl rfl rfl) hj1|(apply D_pickT;rfl;rfl)|(apply D_pickF;rfl;rfl)|(apply D_slVM;rfl;rfl;rfl;all_goals first|omega|((repeat rw [w64 _ (by omega) (by omega)]);omega)|decide))
 | (refine idDg ?_;first|refine dg0f rfl rfl rfl ?_|refine dgr rfl rfl ?_)
 | (refine WD_nil (by first|decide +kernel|kernel_rfl|rfl) ?_)
        all_goals first
          | (exfalso;omega)
          | contradiction
          | exact ⟨rfl,(j + 1,_),⟨by show j + 1 ≤ _;omega,hnx⟩,by show A.length - (j + 1) < A.length - j;omega,⟨rfl,rfl,rfl,rfl,rfl,rfl,rfl,rfl,rfl,trivial⟩,rfl⟩
          | skip
    · have ej : j = A.length:=by omega
      have hft : fd = true:=hfd.2 (by
        obtain ⟨a,ha,he⟩:=List.getElem_of_mem hmem
        exact ⟨a,ha,by omega,he⟩)
      subst hft
      repeat' first
 | (apply p1 (hd:=rfl);case hop=>first|(apply D_move;rfl)|(apply D_assign;rfl)|exact D_sc (D_not rfl) hnT|(apply D_int;rfl;rfl;rfl)|(apply D_lenM;rfl))
 | refine W_seq ?_
 | refine W_region ?_
 | (refine idC ?_;refine cs rfl (fun _=>?_) (fun _=>?_))
 | refine WL_nil ?_
 | refine tn ?_
 | refine tr ?_
 | refine br ?_
 | refine bn ?_
 | refine te ?_
 | (refine idB ?_;refine bh rfl ?_)
 | refine W_skip ?_
 | refine W_block ?_
 | refine W_exit ?_
 | refine W_ret ?_
 | (refine idR ?_;refine ret1 rfl rfl rfl ?_)
 | refine Le.bool ?_
 | (refine idW ?_;refine W_draw0 rfl ?_)
 | (apply d1 (hd:=rfl);case hop=>first|(apply D_move;rfl)|(apply D_assign;rfl)|(apply D_pickT;rfl;rfl))
 | (refine idDg ?_;refine dg0f rfl rfl rfl ?_)
 | (refine WD_nil (by first|decide +kernel|kernel_rfl|rfl) ?_)
      all_goals first
        | (exfalso;omega)
        | contradiction
        | exact ⟨rfl,i + 1,by omega,by omega,⟨rfl,rfl,rfl,rfl,rfl,by rw [hsn];rfl,ieq (wsucc i (by omega)),trivial⟩,rfl⟩
        | skip
end Go.Proofs
