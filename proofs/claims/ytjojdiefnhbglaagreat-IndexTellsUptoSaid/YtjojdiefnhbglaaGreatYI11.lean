/- Contracts of index's facts, the document's: the facts of a prefix and a view. -/
import Derived.Test.YtjojdiefnhbglaaGreatYI10
set_option linter.all false
namespace Go.Proofs
open Go.AL Go.Sort
attribute [local irreducible] Go.AL.W Go.AL.WL Go.AL.WD Go.AL.POp Go.AL.PPOp Go.AL.POpS Go.AL.PC Go.AL.AC Go.AL.YW Go.AL.Ret Go.AL.Le Go.AL.thn Go.AL.inBlk Go.AL.scp
set_option maxHeartbeats 4000000 in
theorem rahead_pc [GlobF Tryz.prog] (o : Int) (ho : 1 ≤ o ∧ o ≤ 4) (f g : Fac) (hs : f.v.s.length < 9223372036854775808) : PC Tryz.prog 53 [.sc (.int .i64 o),eF f,eF g] (.sc (.bool (iLt (cmpIF o f g) 0))):=by
  have hd:=dcmp1c_pc o ho (asD f) (asD g) hs
  refine PC.of_body Tryz.func53 Tryz.ntmps53 rfl rfl rfl ?_
  repeat' first
 | (apply p1 (hd:=rfl);case hop=>first|(apply D_move;rfl)|(apply D_assign;rfl)|(apply D_pc hd;rfl;exact .same rfl (.same rfl (.same rfl .nil)))|(apply D_load1;rfl)|(apply D_fld;rfl)|(apply D_int;rfl;rfl;rfl)|(apply D_loadW;rfl;rfl)|(apply D_loadA;rfl;rfl)|(apply D_box;rfl;rfl)|exact D_build rfl)
 | refine W_seq ?_
 | refine W_region ?_
 | refine WL_nil ?_
 | refine tn ?_
 | refine W_ret ?_
 | (refine idR ?_;refine ret1 rfl rfl rfl ?_)
 | (refine idA ?_;refine m_var rfl rfl rfl rfl rfl rfl rfl ?_)
 | (refine Le.bool ?_)
  all_goals first|rfl|skip
theorem tw_atF (q : Fac → Bool) : ∀ (l : List Fac) (m : Nat),m ≤ l.length → (∀ (j : Nat) (h : j < l.length),j < m → q l[j] = true) → (∀ h : m < l.length,q l[m] = false) → l.takeWhile q = l.take m ∧ l.dropWhile q = l.drop m
  | [],m,hm,_,_=>by simp
  | x :: l,0,_,_,h2=>by
    have:=h2 (by simp)
    simp at this
    simp [List.takeWhile_cons,List.dropWhile_cons,this]
  | x :: l,m + 1,hm,h1,h2=>by
    have hx:=h1 0 (by simp) (by omega)
    simp at hx
    obtain ⟨a,b⟩:=tw_atF q l m (by simpa using hm) (fun j h hj=>by have:=h1 (j + 1) (by simpa using h) (by omega);simpa using this) (fun h=>by have:=h2 (by simpa using h);simpa using this)
    simp [List.takeWhile_cons,List.dropWhile_cons,hx,a,b]
theorem insF_at {o : Int} {O : List Fac} {x : Fac} {n : Nat} (hn : n ≤ O.length) (h1 : ∀ (j : Nat) (h : j < O.length),j < n → cmpIF o O[j] x < 0) (h2 : ∀ h : n < O.length,0 ≤ cmpIF o O[n] x) : insF o O x = O.take n ++ [x] ++ O.drop n:=by
  obtain ⟨a,b⟩:=tw_atF (fun g=>decide (cmpIF o g x < 0)) O n hn (fun j h hj=>by simpa using h1 j h hj) (fun h=>by have:=h2 h;simp;omega)
  unfold insF;rw [a,b]
theorem foldl_insF_len (o : Int) : ∀ (F out : List Fac),(F.foldl (insF o) out).length = out.length + F.length
  | [],out=>rfl
  | f :: F,out=>by
    rw [List.foldl_cons,foldl_insF_len o F,(insF_perm o out f).length_eq];simp;omega
theorem foldl_insF_mem (o : Int) : ∀ (F out : List Fac) (g : Fac),g ∈ F.foldl (insF o) out → g ∈ out ∨ g ∈ F
  | [],out,g,h=>.inl h
  | f :: F,out,g,h=>by
    rcases foldl_insF_mem o F _ g h with h|h
    · rcases List.mem_cons.1 (((insF_perm o out f).mem_iff).1 h) with rfl|h
      · exact .inr (.head _)
      · exact .inl h
    · exact .inr (.tail _ h)
set_option maxHeartbeats 32000000 in
theorem rfacts_pc [GlobF Tryz.prog] (l : List Dat) (o : Int) (p : List Prt) (v : Vw) (hL : okL l) (hl : l.length ≤ 1048576) (hb : ∀ d,d ∈ l → d.v.s.length < 9223372036854775808) (hp : p.length < 9223372036854775808) (hs : ∀ q,q ∈ p → q.v.s.length < 9223372036854775808) (ip : ∀ q,q ∈ p → prtI q) (hrg : rgD l) :
    PC Tryz.prog 16 [sl9 l,.sc (.int .i64 o),.sl none 5 (p.map pC),eW v] (.tu [sl6 (factsL o p v l),.sc (.int .i64 (factsE o p v l))]):=by
  have hd:=rdatoms_pc l o p v hL hl hb hp hs ip
  refine PC.of_body Tryz.func16 Tryz.ntmps16 rfl rfl rfl ?_
  by_cases c1 : datsE o p v = 0
  rotate_left
  · have e1 : factsE o p v l = datsE o p v:=by unfold factsE;rw [if_pos c1]
    rw [show factsL o p v l = [] by unfold factsL;rw [e1,if_neg c1],e1]
    repeat' first
 | (apply p1 (hd:=rfl);case hop=>first|(apply D_move;rfl)|(apply D_assign;rfl)|(apply D_pc hd;rfl;exact .same rfl (.same rfl (.same rfl (.same rfl .nil))))|(apply D_load1;rfl)|(apply D_fld;rfl)|(apply D_pickT;rfl;rfl)|(apply D_pickF;rfl;rfl)|(apply D_int;rfl;rfl;rfl)|(apply D_lenM;rfl)|(apply D_ext;rfl;rfl)|(apply D_loadW;rfl;rfl)|(apply D_box;rfl;rfl))
 | refine W_seq ?_
 | refine W_region ?_
 | (refine idC ?_;refine cs rfl (fun _=>?_) (fun _=>?_))
 | refine WL_nil ?_
 | (refine idG ?_;first|refine g0f rfl rfl rfl ?_|refine gr rfl rfl ?_|refine gs rfl rfl (fun _=>?_) (fun _=>?_))
 | refine tn ?_
 | refine tr ?_
 | refine W_skip ?_
 | refine W_ret ?_
 | (refine idR ?_;refine ret2 rfl rfl rfl rfl ?_ ?_)
 | (refine Le.int ?_)
    all_goals first|exact Le.nil rfl|rfl|contradiction|skip
  have ho : 1 ≤ o ∧ o ≤ 4:=preE_o (by
    unfold datsE at c1
    split at c1
    · rename_i h;exact absurd c1 h
    · rename_i h;simpa using h)
  rw [c1] at hd
  by_cases c2 : 3 < p.length
  · have e1 : factsE o p v l = 2:=by unfold factsE;rw [if_neg (by simpa using c1),if_pos (.inl c2)]
    rw [show factsL o p v l = [] by unfold factsL;rw [e1,if_neg (by decide)],e1]
    repeat' first
 | (apply p1 (hd:=rfl);case hop=>first|(apply D_move;rfl)|(apply D_assign;rfl)|(apply D_pc hd;rfl;exact .same rfl (.same rfl (.same rfl (.same rfl .nil))))|(apply D_load1;rfl)|(apply D_fld;rfl)|(apply D_pickT;rfl;rfl)|(apply D_pickF;rfl;rfl)|(apply D_int;rfl;rfl;rfl)|(apply D_lenM;rfl)|(apply D_ext;rfl;rfl)|(apply D_loadW;rfl;rfl)|(apply D_box;rfl;rfl))
 | refine W_seq ?_
 | refine W_region ?_
 | (refine idC ?_;refine cs rfl (fun _=>?_) (fun _=>?_))
 | refine WL_nil ?_
 | (refine idG ?_;first|refine g0f rfl rfl rfl ?_|refine gr rfl rfl ?_|refine gs rfl rfl (fun _=>?_) (fun _=>?_))
 | refine tn ?_
 | refine tr ?_
 | refine W_skip ?_
 | refine W_ret ?_
 | (refine idR ?_;refine ret2 rfl rfl rfl rfl ?_ ?_)
 | (refine Le.int ?_)
    all_goals first|exact Le.nil rfl|rfl|contradiction|(exfalso;omega)|skip
  obtain ⟨up,af,at_,one,no⟩:=v
  cases no
  rotate_left
  · have e1 : factsE o p ⟨up,af,at_,one,true⟩ l = 2:=by unfold factsE;rw [if_neg (by simpa using c1),if_pos (.inr rfl)]
    rw [show factsL o p ⟨up,af,at_,one,true⟩ l = [] by unfold factsL;rw [e1,if_neg (by decide)],e1]
    repeat' first
 | (apply p1 (hd:=rfl);case hop=>first|(apply D_move;rfl)|(apply D_assign;rfl)|(apply D_pc hd;rfl;exact .same rfl (.same rfl (.same rfl (.same rfl .nil))))|(apply D_load1;rfl)|(apply D_fld;rfl)|(apply D_pickT;rfl;rfl)|(apply D_pickF;rfl;rfl)|(apply D_int;rfl;rfl;rfl)|(apply D_lenM;rfl)|(apply D_ext;rfl;rfl)|(apply D_loadW;rfl;rfl)|(apply D_box;rfl;rfl))
 | refine W_seq ?_
 | refine W_region ?_
 | (refine idC ?_;refine cs rfl (fun _=>?_) (fun _=>?_))
 | refine WL_nil ?_
 | (refine idG ?_;first|refine g0f rfl rfl rfl ?_|refine gr rfl rfl ?_|refine gs rfl rfl (fun _=>?_) (fun _=>?_))
 | refine tn ?_
 | refine tr ?_
 | refine W_skip ?_
 | refine W_ret ?_
 | (refine idR ?_;refine ret2 rfl rfl rfl rfl ?_ ?_)
 | (refine Le.int ?_)
    all_goals first|exact Le.nil rfl|rfl|contradiction|(exfalso;omega)|skip
  have hsub : ∀ d,d ∈ datsL o p ⟨up,af,at_,one,false⟩ l → d ∈ l:=fun d h=>datsL_sub h
  have hlen : (datsL o p ⟨up,af,at_,one,false⟩ l).length ≤ l.length:=datsL_len
  have e1 : factsE o p ⟨up,af,at_,one,false⟩ l = if (foldR (datsL o p ⟨up,af,at_,one,false⟩ l)).isSome then 0 else 60:=by unfold factsE;rw [if_neg (by simpa using c1),if_neg (by rintro (h|h);exact c2 h;cases h)]
  have e2 : factsU o p ⟨up,af,at_,one,false⟩ l = if one = true then atL ((foldR (datsL o p ⟨up,af,at_,one,false⟩ l)).getD []) at_ else (foldR (datsL o p ⟨up,af,at_,one,false⟩ l)).getD []:=rfl
  have e3 : factsL o p ⟨up,af,at_,one,false⟩ l = if factsE o p ⟨up,af,at_,one,false⟩ l = 0 then sortIF o (factsU o p ⟨up,af,at_,one,false⟩ l) else []:=rfl
  rw [e3,e2,e1]
  generalize datsL o p ⟨up,af,at_,one,false⟩ l = D at *
  have hf:=rfold_pc D (by omega) (fun d h=>hb d (hsub d h)) (fun d h=>hrg d (hsub d h))
  have hok:=foldR_ok D (fun d h=>hrg d (hsub d h))
  have hfl:=foldR_len D
  cases hF : foldR D with
  | none =>
    rw [hF] at hf
    repeat' first
 | (apply p1 (hd:=rfl);case hop=>first|(apply D_move;rfl)|(apply D_assign;rfl)|(apply D_pc hd;rfl;exact .same rfl (.same rfl (.same rfl (.same rfl .nil))))|(apply D_pc hf;rfl;exact .same rfl .nil)|(apply D_load1;rfl)|(apply D_fld;rfl)|(apply D_pickT;rfl;rfl)|(apply D_pickF;rfl;rfl)|(apply D_int;rfl;rfl;rfl)|(apply D_lenM;rfl)|(apply D_ext;rfl;rfl)|(apply D_loadW;rfl;rfl)|(apply D_box;rfl;rfl))
 | refine W_seq ?_
 | refine W_region ?_
 | (refine idC ?_;first|refine c0 rfl ?_|refine cs rfl (fun _=>?_) (fun _=>?_))
 | refine WL_nil ?_
 | (refine idG ?_;first|refine g0f rfl rfl rfl ?_|refine gr rfl rfl ?_|refine gs rfl rfl (fun _=>?_) (fun _=>?_))
 | refine tn ?_
 | refine tr ?_
 | refine W_skip ?_
 | refine W_block ?_
 | refine W_ret ?_
 | (refine idR ?_;refine ret2 rfl rfl rfl rfl ?_ ?_)
 | (refine Le.int ?_)
    all_goals first|exact Le.nil rfl|rfl|contradiction|(exfalso;omega)|skip
  | some F =>
    rw [hF] at hf hok hfl
    obtain ⟨-,hA,-⟩:=hok
    simp only [Option.getD_some] at hf hfl
    have hbn : bndG F:=fun f hf=>⟨fac_sl hA hf,by have:=hfl.2 f hf;omega⟩
    have hat:=rat_pc F at_ (by omega) hbn.f
    rw [← dP_T hA,if_pos rfl,if_pos rfl] at hat
    simp only [Option.getD_some,Option.isSome_some,if_true]
    have hUl : (if one = true then atL F at_ else F).length ≤ F.length:=by
      split
      · exact List.length_filter_le _ _
      · exact Nat.le_refl _
    have hUs : ∀ f,f ∈ (if one = true then atL F at_ else F) → f.v.s.length < 9223372036854775808:=fun f hf=>by
      split at hf
      · exact fac_sl hA (List.mem_filter.1 hf).1
      · exact fac_sl hA hf
    cases one
    all_goals
      simp only [if_true,Bool.false_eq_true,if_false] at hUl hUs ⊢
      repeat' first
 | (apply p1 (hd:=rfl);case hop=>first|(apply D_move;rfl)|(apply D_assign;rfl)|(apply D_pc hd;rfl;exact .same rfl (.same rfl (.same rfl (.same rfl .nil))))|(apply D_pc hf;rfl;exact .same rfl .nil)|(apply D_pc hat;rfl;exact .same rfl (.same rfl .nil))|(apply D_load1;rfl)|(apply D_fld;rfl)|(apply D_pickT;rfl;rfl)|(apply D_pickF;rfl;rfl)|(apply D_int;rfl;rfl;rfl)|(apply D_lenM;rfl)|(apply D_ext;rfl;rfl)|(apply D_loadW;rfl;rfl)|(apply D_box;rfl;rfl))
 | refine W_seq ?_
 | refine W_region ?_
 | (refine idC ?_;first|refine c0 rfl ?_|refine cs rfl (fun _=>?_) (fun _=>?_))
 | refine WL_nil ?_
 | (refine idG ?_;first|refine g0f rfl rfl rfl ?_|refine gr rfl rfl ?_|refine gs rfl rfl (fun _=>?_) (fun _=>?_))
 | refine tn ?_
 | refine tr ?_
 | refine W_skip ?_
 | refine W_block ?_
 | refine W_ret ?_
 | (refine idR ?_;refine ret2 rfl rfl rfl rfl ?_ ?_)
 | (refine Le.int ?_)
      all_goals try (exfalso;first|contradiction|omega)
    · generalize F = U at *
      have hUb : U.length ≤ 1048576:=by omega
      refine W_adopt 14 6 54 rfl ?_
      refine W_ren (rg':=[(1,.sc (.int .i64 o)),(12,sl6 U),(14,.sl none 6 (([] : List Fac).map fC)),(15,.sc (.int .i64 0))]) (h':=[]) [] ⟨by decide,fun r hr=>absurd hr (Nat.not_lt_zero r),fun r hr=>(by cases hr),⟨⟨_,rfl,.pur⟩,⟨_,rfl,.pur⟩,⟨_,rfl,.slN⟩,⟨_,rfl,.pur⟩,trivial⟩,trivial⟩ ?_
      refine W_loopR (X:=Nat) (fun i=>[(1,.sc (.int .i64 o)),(12,sl6 U),(14,sl6 ((U.take i).foldl (insF o) [])),(15,.sc (.int .i64 (i : Int)))]) (fun _=>[])
        (fun i=>i ≤ U.length) (fun i=>U.length - i) 0 (Nat.zero_le _) ⟨rfl,rfl,rfl,rfl,trivial⟩ rfl ?_
      intro i hi
      by_cases hil : i < U.length
      rotate_left 1
      · have e : i = U.length:=by omega
        subst e
        rw [List.take_length]
        unfold sortIF
        generalize U.foldl (insF o) [] = O at *
        repeat' first
 | (apply p1 (hd:=rfl);case hop=>first|(apply D_move;rfl)|(apply D_assign;rfl)|(apply D_int;rfl;rfl;rfl)|(apply D_lenM;rfl))
 | refine W_seq ?_
 | refine W_region ?_
 | (refine idC ?_;refine cs rfl (fun _=>?_) (fun _=>?_))
 | refine WL_nil ?_
 | refine tn ?_
 | refine te ?_
 | (refine idB ?_;refine bh rfl ?_)
 | refine W_skip ?_
 | refine W_block ?_
 | refine W_exit ?_
 | refine W_ret ?_
 | (refine idR ?_;refine ret2 rfl rfl rfl rfl ?_ ?_)
 | (refine Le.int ?_)
        all_goals first
          | (exfalso;omega)
          | exact Le.of_eq rfl
          | rfl
          | skip
      have hsn : (U.take (i + 1)).foldl (insF o) [] = insF o ((U.take i).foldl (insF o) []) (U[i]'hil):=by
        rw [List.take_succ_eq_append_getElem hil,List.foldl_append];rfl
      have hOl:=foldl_insF_len o (U.take i) []
      rw [List.length_take] at hOl
      have hOs : ∀ f,f ∈ (U.take i).foldl (insF o) [] → f.v.s.length < 9223372036854775808:=fun f hf=>by
        rcases foldl_insF_mem o _ _ f hf with h|h
        · cases h
        · exact hUs f (List.mem_of_mem_take h)
      generalize (U.take i).foldl (insF o) [] = O at *
      have hOb : O.length = i:=by simp at hOl;omega
      repeat' first
 | (apply p1 (hd:=rfl);case hop=>first|(apply D_move;rfl)|(apply D_assign;rfl)|(apply D_int;rfl;rfl;rfl)|(apply D_lenM;rfl))
 | refine W_seq ?_
 | refine W_region ?_
 | (refine idC ?_;refine cs rfl (fun _=>?_) (fun _=>?_))
 | refine WL_nil ?_
 | refine tn ?_
 | refine te ?_
 | (refine idB ?_;refine bh rfl ?_)
 | refine W_skip ?_
 | refine W_block ?_
 | refine W_exit ?_
 | refine W_ret ?_
 | (refine idR ?_;refine ret2 rfl rfl rfl rfl ?_ ?_)
 | (refine Le.int ?_)
      all_goals first
        | (exfalso;omega)
        | skip
      refine W_loopL (X:=Nat) (fun n=>[(1,.sc (.int .i64 o)),(12,sl6 U),(14,sl6 O),(15,.sc (.int .i64 (i : Int))),(16,.sc (.int .i64 (n : Int)))]) (fun _=>[])
        (fun n=>n ≤ O.length ∧ ∀ (j : Nat) (h : j < O.length),j < n → cmpIF o O[j] (U[i]'hil) < 0) (fun n=>O.length - n) 0 ⟨Nat.zero_le _,fun j h hj=>absurd hj (Nat.not_lt_zero j)⟩ ⟨rfl,rfl,rfl,rfl,rfl,trivial⟩ rfl ?_
      rintro n ⟨hn,hz⟩
      have e2 : (∀ h : n < O.length,0 ≤ cmpIF o O[n] (U[i]'hil)) → (insF o O (U[i]'hil)).map fC = [] ++ (O.take (n : Int).toNat).map fC ++ [fC (U[i]'hil)] ++ (O.drop (n : Int).toNat).map fC:=fun h=>by
        rw [insF_at hn hz h];simp
      by_cases hnl : n < O.length
      · have ha:=rahead_pc o ho (O[n]'hnl) (U[i]'hil) (hOs _ (List.getElem_mem hnl))
        by_cases hc : cmpIF o (O[n]'hnl) (U[i]'hil) < 0
        · rw [(iLt_t _ _).mpr hc] at ha
          repeat' first
 | (apply p1 (hd:=rfl);case hop=>first|(apply D_move;rfl)|(apply D_assign;rfl)|(apply D_int;rfl;rfl;rfl)|(apply D_slVhM;rfl;rfl;all_goals first|omega|((repeat rw [w64 _ (by omega) (by omega)]);omega)|decide))
 | refine W_seq ?_
 | refine W_region ?_
 | (refine idC ?_;first|refine c0 rfl ?_|refine cs rfl (fun _=>?_) (fun _=>?_))
 | refine WL_nil ?_
 | refine tn ?_
 | refine bn ?_
 | refine te ?_
 | (refine idB ?_;refine bh rfl ?_)
 | refine W_skip ?_
 | refine W_block ?_
 | refine W_exit ?_
 | (refine idW ?_;refine W_draw0 rfl ?_)
 | (apply d1 (hd:=rfl);case hop=>first|(apply D_move;rfl)|(apply D_pc ha;rfl;exact .same rfl (.same rfl (.same rfl .nil)))|(apply D_pickT;rfl;rfl)|(apply D_pickF;rfl;rfl)|(apply D_int;rfl;rfl;rfl)|(apply D_lenM;rfl)|(apply D_loadW;rfl;rfl)|(apply D_idxAn;rfl;rfl;(first|omega|(simp;done))))
 | (refine idDg ?_;first|refine dg0t rfl rfl rfl ?_|refine dgr rfl rfl ?_|refine dgs rfl rfl (fun _=>?_) (fun _=>?_))
 | (refine WD_nil (by first|decide +kernel|kernel_rfl|rfl) ?_)
          all_goals first
            | (exfalso;omega)
            | contradiction
            | (refine ⟨rfl,n + 1,⟨by omega,fun j h hj=>?_⟩,by omega,⟨rfl,rfl,rfl,rfl,ieq (wsucc n (by omega)),trivial⟩,rfl⟩
               by_cases e : j = n
               · subst e;exact hc
               · exact hz j h (by omega))
            | skip
        · rw [(iLt_f _ _).mpr (by omega)] at ha
          replace e2:=e2 fun _=>by omega
          repeat' first
 | (refine W_adopt 17 6 54 rfl ?_)
 | (apply p1 (hd:=rfl);case hop=>first|(apply D_move;rfl)|(apply D_assign;rfl)|(apply D_int;rfl;rfl;rfl)|(apply D_loadW;rfl;rfl)|(apply D_idxAn;rfl;rfl;(first|omega|(simp;done)))|(apply D_lit;rfl;rfl;rfl;rfl)|(apply D_slVhM;rfl;rfl;all_goals first|omega|((repeat rw [w64 _ (by omega) (by omega)]);omega)|decide)|(apply D_slVlM;rfl;rfl;all_goals first|omega|((repeat rw [w64 _ (by omega) (by omega)]);omega)|decide))
 | refine W_seq ?_
 | refine W_region ?_
 | (refine idC ?_;refine c0 rfl ?_)
 | refine WL_nil ?_
 | refine tn ?_
 | refine bn ?_
 | refine te ?_
 | (refine idB ?_;refine bh rfl ?_)
 | refine W_exit ?_
 | (refine idAp ?_;refine m_app rfl rfl (by rfl) ?_ rfl rfl ?_ ?_ rfl ?_;(first|rfl|focus (simp;done));(focus (simp only [List.length_map,List.length_append,List.length_cons,List.length_nil,List.length_take,List.length_drop];omega));(focus (simp only [List.length_map,List.length_append,List.length_cons,List.length_nil,List.length_take,List.length_drop];omega)))
 | (refine idW ?_;refine W_draw0 rfl ?_)
 | (apply d1 (hd:=rfl);case hop=>first|(apply D_move;rfl)|(apply D_pc ha;rfl;exact .same rfl (.same rfl (.same rfl .nil)))|(apply D_pickT;rfl;rfl)|(apply D_pickF;rfl;rfl)|(apply D_int;rfl;rfl;rfl)|(apply D_lenM;rfl)|(apply D_loadW;rfl;rfl)|(apply D_idxAn;rfl;rfl;(first|omega|(simp;done))))
 | (refine idDg ?_;first|refine dg0t rfl rfl rfl ?_|refine dgr rfl rfl ?_|refine dgs rfl rfl (fun _=>?_) (fun _=>?_))
 | (refine WD_nil (by first|decide +kernel|kernel_rfl|rfl) ?_)
          all_goals first
            | (exfalso;omega)
            | contradiction
            | (refine ⟨rfl,i + 1,by omega,by omega,[],?_⟩
               refine ⟨by decide,fun r hr=>absurd hr (Nat.not_lt_zero r),fun r hr=>(by cases hr),⟨⟨_,rfl,.pur⟩,⟨_,rfl,.pur⟩,⟨_,rfl,?_⟩,⟨_,rfl,?_⟩,trivial⟩,trivial⟩
               · rw [hsn];show Mv _ _ (.sl none 6 ((insF o O (U[i]'hil)).map fC));rw [e2];exact .slN
               · rw [wsucc i (by omega)];exact .pur)
            | skip
      · replace e2:=e2 fun h=>absurd h hnl
        repeat' first
 | (refine W_adopt 17 6 54 rfl ?_)
 | (apply p1 (hd:=rfl);case hop=>first|(apply D_move;rfl)|(apply D_assign;rfl)|(apply D_int;rfl;rfl;rfl)|(apply D_loadW;rfl;rfl)|(apply D_idxAn;rfl;rfl;(first|omega|(simp;done)))|(apply D_lit;rfl;rfl;rfl;rfl)|(apply D_slVhM;rfl;rfl;all_goals first|omega|((repeat rw [w64 _ (by omega) (by omega)]);omega)|decide)|(apply D_slVlM;rfl;rfl;all_goals first|omega|((repeat rw [w64 _ (by omega) (by omega)]);omega)|decide))
 | refine W_seq ?_
 | refine W_region ?_
 | (refine idC ?_;refine c0 rfl ?_)
 | refine WL_nil ?_
 | refine tn ?_
 | refine bn ?_
 | refine te ?_
 | (refine idB ?_;refine bh rfl ?_)
 | refine W_exit ?_
 | (refine idAp ?_;refine m_app rfl rfl (by rfl) ?_ rfl rfl ?_ ?_ rfl ?_;(first|rfl|focus (simp;done));(focus (simp only [List.length_map,List.length_append,List.length_cons,List.length_nil,List.length_take,List.length_drop];omega));(focus (simp only [List.length_map,List.length_append,List.length_cons,List.length_nil,List.length_take,List.length_drop];omega)))
 | (refine idW ?_;refine W_draw0 rfl ?_)
 | (apply d1 (hd:=rfl);case hop=>first|(apply D_move;rfl)|(apply D_pickF;rfl;rfl)|(apply D_int;rfl;rfl;rfl)|(apply D_lenM;rfl)|(apply D_loadW;rfl;rfl)|(apply D_idxAn;rfl;rfl;(first|omega|(simp;done))))
 | (refine idDg ?_;first|refine dg0t rfl rfl rfl ?_|refine dgr rfl rfl ?_|refine dgs rfl rfl (fun _=>?_) (fun _=>?_))
 | (refine WD_nil (by first|decide +kernel|kernel_rfl|rfl) ?_)
        all_goals first
          | (exfalso;omega)
          | contradiction
          | (refine ⟨rfl,i + 1,by omega,by omega,[],?_⟩
             refine ⟨by decide,fun r hr=>absurd hr (Nat.not_lt_zero r),fun r hr=>(by cases hr),⟨⟨_,rfl,.pur⟩,⟨_,rfl,.pur⟩,⟨_,rfl,?_⟩,⟨_,rfl,?_⟩,trivial⟩,trivial⟩
             · rw [hsn];show Mv _ _ (.sl none 6 ((insF o O (U[i]'hil)).map fC));rw [e2];exact .slN
             · rw [wsucc i (by omega)];exact .pur)
          | skip
    · generalize atL F at_ = U at *
      have hUb : U.length ≤ 1048576:=by omega
      refine W_adopt 14 6 54 rfl ?_
      refine W_ren (rg':=[(1,.sc (.int .i64 o)),(12,sl6 U),(14,.sl none 6 (([] : List Fac).map fC)),(15,.sc (.int .i64 0))]) (h':=[]) [] ⟨by decide,fun r hr=>absurd hr (Nat.not_lt_zero r),fun r hr=>(by cases hr),⟨⟨_,rfl,.pur⟩,⟨_,rfl,.pur⟩,⟨_,rfl,.slN⟩,⟨_,rfl,.pur⟩,trivial⟩,trivial⟩ ?_
      refine W_loopR (X:=Nat) (fun i=>[(1,.sc (.int .i64 o)),(12,sl6 U),(14,sl6 ((U.take i).foldl (insF o) [])),(15,.sc (.int .i64 (i : Int)))]) (fun _=>[])
        (fun i=>i ≤ U.length) (fun i=>U.length - i) 0 (Nat.zero_le _) ⟨rfl,rfl,rfl,rfl,trivial⟩ rfl ?_
      intro i hi
      by_cases hil : i < U.length
      rotate_left 1
      · have e : i = U.length:=by omega
        subst e
        rw [List.take_length]
        unfold sortIF
        generalize U.foldl (insF o) [] = O at *
        repeat' first
 | (apply p1 (hd:=rfl);case hop=>first|(apply D_move;rfl)|(apply D_assign;rfl)|(apply D_int;rfl;rfl;rfl)|(apply D_lenM;rfl))
 | refine W_seq ?_
 | refine W_region ?_
 | (refine idC ?_;refine cs rfl (fun _=>?_) (fun _=>?_))
 | refine WL_nil ?_
 | refine tn ?_
 | refine te ?_
 | (refine idB ?_;refine bh rfl ?_)
 | refine W_skip ?_
 | refine W_block ?_
 | refine W_exit ?_
 | refine W_ret ?_
 | (refine idR ?_;refine ret2 rfl rfl rfl rfl ?_ ?_)
 | (refine Le.int ?_)
        all_goals first
          | (exfalso;omega)
          | exact Le.of_eq rfl
          | rfl
          | skip
      have hsn : (U.take (i + 1)).foldl (insF o) [] = insF o ((U.take i).foldl (insF o) []) (U[i]'hil):=by
        rw [List.take_succ_eq_append_getElem hil,List.foldl_append];rfl
      have hOl:=foldl_insF_len o (U.take i) []
      rw [List.length_take] at hOl
      have hOs : ∀ f,f ∈ (U.take i).foldl (insF o) [] → f.v.s.length < 9223372036854775808:=fun f hf=>by
        rcases foldl_insF_mem o _ _ f hf with h|h
        · cases h
        · exact hUs f (List.mem_of_mem_take h)
      generalize (U.take i).foldl (insF o) [] = O at *
      have hOb : O.length = i:=by simp at hOl;omega
      repeat' first
 | (apply p1 (hd:=rfl);case hop=>first|(apply D_move;rfl)|(apply D_assign;rfl)|(apply D_int;rfl;rfl;rfl)|(apply D_lenM;rfl))
 | refine W_seq ?_
 | refine W_region ?_
 | (refine idC ?_;refine cs rfl (fun _=>?_) (fun _=>?_))
 | refine WL_nil ?_
 | refine tn ?_
 | refine te ?_
 | (refine idB ?_;refine bh rfl ?_)
 | refine W_skip ?_
 | refine W_block ?_
 | refine W_exit ?_
 | refine W_ret ?_
 | (refine idR ?_;refine ret2 rfl rfl rfl rfl ?_ ?_)
 | (refine Le.int ?_)
      all_goals first
        | (exfalso;omega)
        | skip
      refine W_loopL (X:=Nat) (fun n=>[(1,.sc (.int .i64 o)),(12,sl6 U),(14,sl6 O),(15,.sc (.int .i64 (i : Int))),(16,.sc (.int .i64 (n : Int)))]) (fun _=>[])
        (fun n=>n ≤ O.length ∧ ∀ (j : Nat) (h : j < O.length),j < n → cmpIF o O[j] (U[i]'hil) < 0) (fun n=>O.length - n) 0 ⟨Nat.zero_le _,fun j h hj=>absurd hj (Nat.not_lt_zero j)⟩ ⟨rfl,rfl,rfl,rfl,rfl,trivial⟩ rfl ?_
      rintro n ⟨hn,hz⟩
      have e2 : (∀ h : n < O.length,0 ≤ cmpIF o O[n] (U[i]'hil)) → (insF o O (U[i]'hil)).map fC = [] ++ (O.take (n : Int).toNat).map fC ++ [fC (U[i]'hil)] ++ (O.drop (n : Int).toNat).map fC:=fun h=>by
        rw [insF_at hn hz h];simp
      by_cases hnl : n < O.length
      · have ha:=rahead_pc o ho (O[n]'hnl) (U[i]'hil) (hOs _ (List.getElem_mem hnl))
        by_cases hc : cmpIF o (O[n]'hnl) (U[i]'hil) < 0
        · rw [(iLt_t _ _).mpr hc] at ha
          repeat' first
 | (apply p1 (hd:=rfl);case hop=>first|(apply D_move;rfl)|(apply D_assign;rfl)|(apply D_int;rfl;rfl;rfl)|(apply D_slVhM;rfl;rfl;all_goals first|omega|((repeat rw [w64 _ (by omega) (by omega)]);omega)|decide))
 | refine W_seq ?_
 | refine W_region ?_
 | (refine idC ?_;first|refine c0 rfl ?_|refine cs rfl (fun _=>?_) (fun _=>?_))
 | refine WL_nil ?_
 | refine tn ?_
 | refine bn ?_
 | refine te ?_
 | (refine idB ?_;refine bh rfl ?_)
 | refine W_skip ?_
 | refine W_block ?_
 | refine W_exit ?_
 | (refine idW ?_;refine W_draw0 rfl ?_)
 | (apply d1 (hd:=rfl);case hop=>first|(apply D_move;rfl)|(apply D_pc ha;rfl;exact .same rfl (.same rfl (.same rfl .nil)))|(apply D_pickT;rfl;rfl)|(apply D_pickF;rfl;rfl)|(apply D_int;rfl;rfl;rfl)|(apply D_lenM;rfl)|(apply D_loadW;rfl;rfl)|(apply D_idxAn;rfl;rfl;(first|omega|(simp;done))))
 | (refine idDg ?_;first|refine dg0t rfl rfl rfl ?_|refine dgr rfl rfl ?_|refine dgs rfl rfl (fun _=>?_) (fun _=>?_))
 | (refine WD_nil (by first|decide +kernel|kernel_rfl|rfl) ?_)
          all_goals first
            | (exfalso;omega)
            | contradiction
            | (refine ⟨rfl,n + 1,⟨by omega,fun j h hj=>?_⟩,by omega,⟨rfl,rfl,rfl,rfl,ieq (wsucc n (by omega)),trivial⟩,rfl⟩
               by_cases e : j = n
               · subst e;exact hc
               · exact hz j h (by omega))
            | skip
        · rw [(iLt_f _ _).mpr (by omega)] at ha
          replace e2:=e2 fun _=>by omega
          repeat' first
 | (refine W_adopt 17 6 54 rfl ?_)
 | (apply p1 (hd:=rfl);case hop=>first|(apply D_move;rfl)|(apply D_assign;rfl)|(apply D_int;rfl;rfl;rfl)|(apply D_loadW;rfl;rfl)|(apply D_idxAn;rfl;rfl;(first|omega|(simp;done)))|(apply D_lit;rfl;rfl;rfl;rfl)|(apply D_slVhM;rfl;rfl;all_goals first|omega|((repeat rw [w64 _ (by omega) (by omega)]);omega)|decide)|(apply D_slVlM;rfl;rfl;all_goals first|omega|((repeat rw [w64 _ (by omega) (by omega)]);omega)|decide))
 | refine W_seq ?_
 | refine W_region ?_
 | (refine idC ?_;refine c0 rfl ?_)
 | refine WL_nil ?_
 | refine tn ?_
 | refine bn ?_
 | refine te ?_
 | (refine idB ?_;refine bh rfl ?_)
 | refine W_exit ?_
 | (refine idAp ?_;refine m_app rfl rfl (by rfl) ?_ rfl rfl ?_ ?_ rfl ?_;(first|rfl|focus (simp;done));(focus (simp only [List.length_map,List.length_append,List.length_cons,List.length_nil,List.length_take,List.length_drop];omega));(focus (simp only [List.length_map,List.length_append,List.length_cons,List.length_nil,List.length_take,List.length_drop];omega)))
 | (refine idW ?_;refine W_draw0 rfl ?_)
 | (apply d1 (hd:=rfl);case hop=>first|(apply D_move;rfl)|(apply D_pc ha;rfl;exact .same rfl (.same rfl (.same rfl .nil)))|(apply D_pickT;rfl;rfl)|(apply D_pickF;rfl;rfl)|(apply D_int;rfl;rfl;rfl)|(apply D_lenM;rfl)|(apply D_loadW;rfl;rfl)|(apply D_idxAn;rfl;rfl;(first|omega|(simp;done))))
 | (refine idDg ?_;first|refine dg0t rfl rfl rfl ?_|refine dgr rfl rfl ?_|refine dgs rfl rfl (fun _=>?_) (fun _=>?_))
 | (refine WD_nil (by first|decide +kernel|kernel_rfl|rfl) ?_)
          all_goals first
            | (exfalso;omega)
            | contradiction
            | (refine ⟨rfl,i + 1,by omega,by omega,[],?_⟩
               refine ⟨by decide,fun r hr=>absurd hr (Nat.not_lt_zero r),fun r hr=>(by cases hr),⟨⟨_,rfl,.pur⟩,⟨_,rfl,.pur⟩,⟨_,rfl,?_⟩,⟨_,rfl,?_⟩,trivial⟩,trivial⟩
               · rw [hsn];show Mv _ _ (.sl none 6 ((insF o O (U[i]'hil)).map fC));rw [e2];exact .slN
               · rw [wsucc i (by omega)];exact .pur)
            | skip
      · replace e2:=e2 fun h=>absurd h hnl
        repeat' first
 | (refine W_adopt 17 6 54 rfl ?_)
 | (apply p1 (hd:=rfl);case hop=>first|(apply D_move;rfl)|(apply D_assign;rfl)|(apply D_int;rfl;rfl;rfl)|(apply D_loadW;rfl;rfl)|(apply D_idxAn;rfl;rfl;(first|omega|(simp;done)))|(apply D_lit;rfl;rfl;rfl;rfl)|(apply D_slVhM;rfl;rfl;all_goals first|omega|((repeat rw [w64 _ (by omega) (by omega)]);omega)|decide)|(apply D_slVlM;rfl;rfl;all_goals first|omega|((repeat rw [w64 _ (by omega) (by omega)]);omega)|decide))
 | refine W_seq ?_
 | refine W_region ?_
 | (refine idC ?_;refine c0 rfl ?_)
 | refine WL_nil ?_
 | refine tn ?_
 | refine bn ?_
 | refine te ?_
 | (refine idB ?_;refine bh rfl ?_)
 | refine W_exit ?_
 | (refine idAp ?_;refine m_app rfl rfl (by rfl) ?_ rfl rfl ?_ ?_ rfl ?_;(first|rfl|focus (simp;done));(focus (simp only [List.length_map,List.length_append,List.length_cons,List.length_nil,List.length_take,List.length_drop];omega));(focus (simp only [List.length_map,List.length_append,List.length_cons,List.length_nil,List.length_take,List.length_drop];omega)))
 | (refine idW ?_;refine W_draw0 rfl ?_)
 | (apply d1 (hd:=rfl);case hop=>first|(apply D_move;rfl)|(apply D_pickF;rfl;rfl)|(apply D_int;rfl;rfl;rfl)|(apply D_lenM;rfl)|(apply D_loadW;rfl;rfl)|(apply D_idxAn;rfl;rfl;(first|omega|(simp;done))))
 | (refine idDg ?_;first|refine dg0t rfl rfl rfl ?_|refine dgr rfl rfl ?_|refine dgs rfl rfl (fun _=>?_) (fun _=>?_))
 | (refine WD_nil (by first|decide +kernel|kernel_rfl|rfl) ?_)
        all_goals first
          | (exfalso;omega)
          | contradiction
          | (refine ⟨rfl,i + 1,by omega,by omega,[],?_⟩
             refine ⟨by decide,fun r hr=>absurd hr (Nat.not_lt_zero r),fun r hr=>(by cases hr),⟨⟨_,rfl,.pur⟩,⟨_,rfl,.pur⟩,⟨_,rfl,?_⟩,⟨_,rfl,?_⟩,trivial⟩,trivial⟩
             · rw [hsn];show Mv _ _ (.sl none 6 ((insF o O (U[i]'hil)).map fC));rw [e2];exact .slN
             · rw [wsucc i (by omega)];exact .pur)
          | skip
end Go.Proofs

namespace Go.Proofs
open Go.AL Go.Sort
attribute [local irreducible] Go.AL.W Go.AL.WL Go.AL.WD Go.AL.POp Go.AL.PPOp Go.AL.POpS Go.AL.PC Go.AL.AC Go.AL.YW Go.AL.Ret Go.AL.Le Go.AL.thn Go.AL.inBlk Go.AL.scp
def wgP : Int → List Prt → Int
  | n,[]=>n
  | n,q :: t=>wgP (IntKind.i64.wrap (IntKind.i64.wrap (n + 20) + q.v.s.length)) t
theorem wgP_snoc (n : Int) (l : List Prt) (q : Prt) : wgP n (l ++ [q]) = IntKind.i64.wrap (IntKind.i64.wrap (wgP n l + 20) + q.v.s.length):=by
  induction l generalizing n with
  | nil=>rfl
  | cons x t ih=>rw [List.cons_append];simp only [wgP];exact ih _
set_option maxHeartbeats 4000000 in
theorem heavy_pc [GlobF Tryz.prog] (l : List Prt) (hl : l.length < 9223372036854775808) : PC Tryz.prog 11 [.sl none 5 (l.map pC)] (.sc (.bool (iLt 4000 (wgP 0 l)))):=by
  refine PC.of_body Tryz.func11 Tryz.ntmps11 rfl rfl rfl ?_
  repeat' first
 | (apply p1 (hd:=rfl);case hop=>first|(apply D_assign;rfl))
 | refine W_seq ?_
 | refine W_region ?_
 | refine WL_nil ?_
 | refine tn ?_
 | (refine W_block ?_)
  refine W_loopL (X:=Nat) (fun i=>[(0,.sl none 5 (l.map pC)),(3,.sc (.int .i64 (wgP 0 (l.take i)))),(4,.sc (.int .i64 (i : Int)))]) (fun _=>[])
    (fun i=>i ≤ l.length) (fun i=>l.length - i) 0 (Nat.zero_le _) ⟨rfl,rfl,rfl,trivial⟩ rfl ?_
  intro i hi
  repeat' first
 | (apply p1 (hd:=rfl);case hop=>first|(apply D_move;rfl)|(apply D_assign;rfl)|(apply D_load1;rfl)|(apply D_fld;rfl)|(apply D_int;rfl;rfl;rfl)|(apply D_lenM;rfl)|(apply D_len_str;rfl)|(apply D_idxAn;rfl;rfl;(first|omega|(simp;done))))
 | refine W_seq ?_
 | refine W_region ?_
 | (refine idC ?_;refine cs rfl (fun _=>?_) (fun _=>?_))
 | refine WL_nil ?_
 | refine tn ?_
 | refine bn ?_
 | refine te ?_
 | (refine idB ?_;refine bh rfl ?_)
 | refine W_skip ?_
 | refine W_block ?_
 | refine W_exit ?_
 | refine W_ret ?_
 | (refine idR ?_;refine ret1 rfl rfl rfl ?_)
 | (refine Le.bool ?_)
  · have hi1 : i < l.length:=by omega
    refine ⟨rfl,i + 1,by omega,by omega,⟨rfl,ieq ?_,ieq (wsucc i (by omega)),trivial⟩,rfl⟩
    rw [List.take_succ_eq_append_getElem hi1,wgP_snoc]
  · have e : i = l.length:=by omega
    subst e
    rw [List.take_length]
theorem rg_datI {l : List Dat} (h : ∀ x,x ∈ l → datI x) : rgD l:=fun x hx=>by
  have h1:=(h x hx).2.2.2.2.1.1
  have h2:=(h x hx).2.2.2.2.2.2
  exact ⟨h1,Int.lt_add_one_iff.1 h2⟩
theorem factsL_bnd (o : Int) (p : List Prt) (v : Vw) (L : List Dat) : (factsL o p v L).length ≤ L.length ∧ ∀ f,f ∈ factsL o p v L → f.sp.length ≤ 2 * L.length:=by
  have h1:=foldR_len (datsL o p v L)
  have h2:=datsL_len (o:=o) (p:=p) (v:=v) (L:=L)
  unfold factsL
  split
  · have hU : (factsU o p v L).length ≤ L.length ∧ ∀ f,f ∈ factsU o p v L → f.sp.length ≤ 2 * L.length:=by
      unfold factsU
      split
      · exact ⟨Nat.le_trans (List.length_filter_le _ _) (by omega),fun f hf=>by have:=h1.2 f (List.mem_filter.1 hf).1;omega⟩
      · exact ⟨by omega,fun f hf=>by have:=h1.2 f hf;omega⟩
    refine ⟨?_,fun f hf=>?_⟩
    · unfold sortIF;rw [foldl_insF_len];simp only [List.length_nil];omega
    · rcases foldl_insF_mem o _ _ f hf with h|h
      · cases h
      · exact hU.2 f h
  · exact ⟨by simp,fun f hf=>by cases hf⟩
set_option maxHeartbeats 64000000 in
theorem indexTells_pc [GlobF Tryz.prog] (l : List Dat) (o : Int) (p : List Prt) (v : Vw) (hwl : (l.map wtD1).sum ≤ 1048576) (hil : ∀ x,x ∈ l → datI x) (hp : p.length < 9223372036854775808) (hs : ∀ q,q ∈ p → q.v.s.length < 9223372036854775808) (ip : ∀ q,q ∈ p → prtI q) :
    PC Tryz.prog 3 [sl9 l,.sc (.int .i64 o),.sl none 5 (p.map pC),eW v] (.sc (.bool true)):=by
  obtain ⟨l1,l2⟩:=wt_sl hwl
  have hgl:=great_pc l (by omega)
  have hhv:=heavy_pc p hp
  refine PC.of_body Tryz.func3 Tryz.ntmps3 rfl rfl rfl ?_
  by_cases c1 : 4000 < grS 0 l
  · rw [if_pos c1] at hgl
    repeat' first
 | (apply p1 (hd:=rfl);case hop=>first|(apply D_move;rfl)|(apply D_assign;rfl)|(apply D_pc hgl;rfl;exact .same rfl .nil)|(apply D_pc hhv;rfl;exact .same rfl .nil)|(apply D_pickT;rfl;rfl)|(apply D_pickF;rfl;rfl)|(apply D_int;rfl;rfl;rfl)|(apply D_box;rfl;rfl))
 | refine W_seq ?_
 | refine W_region ?_
 | (refine idC ?_;refine cs rfl (fun _=>?_) (fun _=>?_))
 | refine WL_nil ?_
 | (refine idG ?_;first|refine g0f rfl rfl rfl ?_|refine gr rfl rfl ?_|refine gs rfl rfl (fun _=>?_) (fun _=>?_))
 | refine tn ?_
 | refine tr ?_
 | refine W_skip ?_
 | refine W_ret ?_
 | (refine idR ?_;refine ret1 rfl rfl rfl ?_)
 | (refine Le.bool ?_)
    all_goals first|rfl|contradiction|(exfalso;omega)|skip
  rw [if_neg c1] at hgl
  have h00 : Value.bool (iLt 0 0) = .bool false:=by rw [(iLt_f _ _).mpr (by omega)]
  obtain ⟨w1,w2⟩:=gr_few hwl c1
  have hbl : ∀ x,x ∈ l → x.v.s.length < 9223372036854775808:=fun x hx=>by have:=w2 x hx;omega
  by_cases c2 : 4000 < wgP 0 p
  · rw [(iLt_t _ _).mpr c2] at hhv
    repeat' first
 | (apply p1 (hd:=rfl);case hop=>first|(apply D_move;rfl)|(apply D_assign;rfl)|(apply D_pc hgl;rfl;exact .same rfl .nil)|exact D_sc (D_int rfl rfl rfl) h00|(apply D_pc hhv;rfl;exact .same rfl .nil)|(apply D_pickF;rfl;rfl)|(apply D_box;rfl;rfl))
 | refine W_seq ?_
 | refine W_region ?_
 | (refine idC ?_;refine cs rfl (fun _=>?_) (fun _=>?_))
 | refine WL_nil ?_
 | (refine idG ?_;refine gr rfl rfl ?_)
 | refine tn ?_
 | refine tr ?_
 | refine W_skip ?_
 | refine W_ret ?_
 | (refine idR ?_;refine ret1 rfl rfl rfl ?_)
 | (refine Le.bool ?_)
    all_goals first|rfl|contradiction|(exfalso;omega)|skip
  rw [(iLt_f _ _).mpr (by omega)] at hhv
  by_cases c3 : ∀ x,x ∈ l → dmayP x
  rotate_left
  · obtain ⟨x0,hx0,hx1⟩ : ∃ x,x ∈ l ∧ ¬ dmayP x:=Classical.byContradiction fun h=>c3 fun x hx=>Classical.byContradiction fun h2=>h ⟨x,hx,h2⟩
    have q1:=iadd_pc none [] l IxOf.init (by simp;omega) hbl (.sc (.pointer none)) 110 (fun h=>absurd h c3) (fun _=>⟨rfl,rfl⟩)
    rw [xA_no] at q1
    repeat' first
 | (apply p1 (hd:=rfl);case hop=>first|(apply D_move;rfl)|(apply D_assign;rfl)|(apply D_pc hgl;rfl;exact .same rfl .nil)|exact D_sc (D_int rfl rfl rfl) h00|(apply D_pc hhv;rfl;exact .same rfl .nil)|(apply D_pc q1;rfl;exact .same rfl (.same rfl .nil))|(apply D_pickF;rfl;rfl)|(apply D_int;rfl;rfl;rfl)|(apply D_ext;rfl;rfl)|(apply D_loadW;rfl;rfl)|(apply D_box;rfl;rfl))
 | refine W_seq ?_
 | refine W_region ?_
 | (refine idC ?_;first|refine c0 rfl ?_|refine cs rfl (fun _=>?_) (fun _=>?_))
 | refine WL_nil ?_
 | (refine idG ?_;refine gr rfl rfl ?_)
 | refine tn ?_
 | refine tr ?_
 | refine W_skip ?_
 | refine W_ret ?_
 | (refine idR ?_;refine ret1 rfl rfl rfl ?_)
 | (refine Le.bool ?_)
    all_goals first|rfl|contradiction|(exfalso;omega)|skip
  have hT1 : IxOf l (addsT (fun _=>none) l):=by have:=IxOf.init.adds l (by simp;omega);simpa using this
  obtain ⟨T1,e1⟩ : ∃ T1,T1 = addsT (fun _=>none) l:=⟨_,rfl⟩
  rw [← e1] at hT1
  have q1:=iadd_pc none [] l IxOf.init (by simp;omega) hbl (xA (some T1)) 0 (fun _=>⟨by rw [e1];rfl,rfl⟩) (fun ⟨x,hx,h⟩=>absurd (c3 x hx) h)
  have hL1 : okL l:=fun x hx=>⟨c3 x hx,hil x hx⟩
  have hrg : rgD l:=rg_datI hil
  have q2:=idatoms_pc (some T1) l hT1 hL1 (by omega) o p v (by omega) hs
  have q3:=rdatoms_pc l o p v hL1 (by omega) hbl (by omega) hs ip
  have q4:=ifacts_pc (some T1) l hT1 hL1 (by omega) o p v (by omega) hs hbl hrg
  have q5:=rfacts_pc l o p v hL1 (by omega) hbl (by omega) hs ip hrg
  have q6:=dsame_pc (datsL o p v l) (datsL o p v l) (by have:=datsL_len (o:=o) (p:=p) (v:=v) (L:=l);omega)
  rw [decide_eq_true rfl] at q6
  have q7 : PC Tryz.prog 18 [sl6 (factsL o p v l),sl6 (factsL o p v l)] (.sc (.bool true)):=by
    obtain ⟨b1,b2⟩:=factsL_bnd o p v l
    have:=fsame_pc (factsL o p v l) (factsL o p v l) (by omega) (fun f hf=>by have:=b2 f hf;omega)
    rwa [← dP_T rfl] at this
  rw [xA_no,xA_so] at q1
  rw [xA_so] at q2 q4
  have g1 : Value.bool (iEq (datsE o p v) (datsE o p v)) = .bool true:=by rw [(iEq_t _ _).mpr rfl]
  have g2 : Value.bool (iEq (factsE o p v l) (factsE o p v l)) = .bool true:=by rw [(iEq_t _ _).mpr rfl]
  generalize datsL o p v l = D at *
  generalize factsL o p v l = F at *
  generalize datsE o p v = E1 at *
  generalize factsE o p v l = E2 at *
  repeat' first
 | (apply p1 (hd:=rfl);case hop=>first|(apply D_move;rfl)|(apply D_assign;rfl)|(apply D_pc hgl;rfl;exact .same rfl .nil)|exact D_sc (D_int rfl rfl rfl) h00|(apply D_pc hhv;rfl;exact .same rfl .nil)|(apply D_pc q1;rfl;exact .same rfl (.same rfl .nil))|(apply D_pc q2;rfl;exact .same rfl (.same rfl (.same rfl (.same rfl .nil))))|(apply D_pc q3;rfl;exact .same rfl (.same rfl (.same rfl (.same rfl .nil))))|(apply D_pc q4;rfl;exact .same rfl (.same rfl (.same rfl (.same rfl .nil))))|(apply D_pc q5;rfl;exact .same rfl (.same rfl (.same rfl (.same rfl .nil))))|(apply D_pc q6;rfl;exact .same rfl (.same rfl .nil))|(apply D_pc q7;rfl;exact .same rfl (.same rfl .nil))|exact D_sc (D_int rfl rfl rfl) g1|exact D_sc (D_int rfl rfl rfl) g2|(apply D_pickT;rfl;rfl)|(apply D_pickF;rfl;rfl)|(apply D_int;rfl;rfl;rfl)|(apply D_ext;rfl;rfl)|(apply D_loadW;rfl;rfl)|(apply D_box;rfl;rfl))
 | refine W_seq ?_
 | refine W_region ?_
 | (refine idC ?_;first|refine c0 rfl ?_|refine cs rfl (fun _=>?_) (fun _=>?_))
 | refine WL_nil ?_
 | (refine idG ?_;refine gr rfl rfl ?_)
 | refine tn ?_
 | refine tr ?_
 | refine W_skip ?_
 | refine W_ret ?_
 | (refine idR ?_;refine ret1 rfl rfl rfl ?_)
 | (refine Le.bool ?_)
  all_goals first|rfl|contradiction|(exfalso;omega)|skip
end Go.Proofs
