/- Contracts of stats' functions: what is counted by attribute. -/
import Derived.Test.YtjojdiefnhbglaaGreatYP1
set_option linter.all false
namespace Go.Proofs
open Go.AL Go.Sort
attribute [local irreducible] Go.AL.W Go.AL.WL Go.AL.WD Go.AL.POp Go.AL.PPOp Go.AL.POpS Go.AL.PC Go.AL.AC Go.AL.YW Go.AL.Ret Go.AL.Le Go.AL.thn Go.AL.inBlk Go.AL.scp
noncomputable def attG (F : List Fac) (g : List Dat) : Att:={ oneA g with fn:=getM (g.headD dat0).a ((F.map Fac.a).foldl cntM []) }
noncomputable def attsP (l : List Dat) (F : List Fac) : List Att:=(grpL grA (dsortL 2 l)).map (attG F)
noncomputable def attsE (l : List Dat) : Int:=if dP (allD l) then (if (foldR l).isSome then 0 else 60) else 40
noncomputable def attsL (l : List Dat) : List Att:=if attsE l = 0 then attsP l ((foldR l).getD []) else []
abbrev HA (b : Nat) (M : List (Int × Int)) (o : List Att) (X1 X2 : AObj) : List AObj:=[mapA kvI b M,.cells [.sl (some 2) 12 (o.map atC)],.tail o.length 12 71,X1,X2]
theorem HA_snoc (b : Nat) (M : List (Int × Int)) (o : List Att) (x : Att) (X1 X2 : AObj) : HA b M (o ++ [x]) X1 X2 = [mapA kvI b M,.cells [.sl (some 2) 12 (o.map atC ++ [atC x])],.tail ((o.map atC).length + 1) 12 71,X1,X2]:=by simp [HA]
set_option maxHeartbeats 32000000 in
theorem attrs_pc [GlobF Tryz.prog] (l : List Dat) (hl : l.length < 1048576) (hs : ∀ d,d ∈ l → d.v.s.length < 9223372036854775808) (hrg : rgD l) : PC Tryz.prog 26 [sl9 l] (.tu [.sl none 12 ((attsL l).map atC),.sc (.int .i64 (attsE l))]):=by
  have hsd:=ssorted_pc 2 l (by omega) hs
  have hf:=fold_pc l (by omega) hs hrg
  have hfl:=foldR_len l
  have hL : attsL l = if attsE l = 0 then attsP l ((foldR l).getD []) else []:=rfl
  have hE : attsE l = if dP (allD l) then (if (foldR l).isSome then 0 else 60) else 40:=rfl
  rw [hL,hE]
  unfold sortS at hsd
  have hdl:=dsortL_len 2 l
  by_cases ha : allD l
  rotate_left 1
  · rw [← dP_F ha] at hsd ⊢
    rw [if_neg (by decide),if_neg (by decide)] at hsd
    refine PC.of_body Tryz.func26 Tryz.ntmps26 rfl rfl rfl ?_
    repeat' first
 | (apply p1 (hd:=rfl);case hop=>first|(apply D_move;rfl)|(apply D_assign;rfl)|(apply D_pc hsd;rfl;exact .same rfl (.same rfl .nil))|(apply D_int;rfl;rfl;rfl)|(apply D_ext;rfl;rfl))
 | refine W_seq ?_
 | refine W_region ?_
 | (refine idC ?_;refine cs rfl (fun _=>?_) (fun _=>?_))
 | refine WL_nil ?_
 | refine tn ?_
 | refine tr ?_
 | refine W_skip ?_
 | refine W_ret ?_
 | (refine idR ?_;refine ret2 rfl rfl rfl rfl ?_ ?_)
 | (refine Le.int ?_)
    all_goals first|contradiction|exact Le.nil rfl|rfl|skip
  rw [← dP_T ha] at hsd ⊢
  rw [if_pos rfl,if_pos rfl] at hsd
  cases hF : foldR l with
  | none =>
    rw [hF] at hf
    refine PC.of_body Tryz.func26 Tryz.ntmps26 rfl rfl rfl ?_
    repeat' first
 | (apply p1 (hd:=rfl);case hop=>first|(apply D_move;rfl)|(apply D_assign;rfl)|(apply D_pc hsd;rfl;exact .same rfl (.same rfl .nil))|(apply D_pc hf;rfl;exact .same rfl .nil)|(apply D_int;rfl;rfl;rfl)|(apply D_ext;rfl;rfl))
 | refine W_seq ?_
 | refine W_region ?_
 | (refine idC ?_;refine cs rfl (fun _=>?_) (fun _=>?_))
 | refine WL_nil ?_
 | refine tn ?_
 | refine tr ?_
 | refine W_skip ?_
 | refine W_ret ?_
 | (refine idR ?_;refine ret2 rfl rfl rfl rfl ?_ ?_)
 | (refine Le.int ?_)
    all_goals first|contradiction|exact Le.nil rfl|rfl|skip
  | some F =>
    rw [hF] at hf hfl
    simp only [Option.getD_some] at hf hfl
    simp only [Option.getD_some,Option.isSome_some,if_true]
    unfold attsP
    generalize dsortL 2 l = D at *
    refine PC.of_body Tryz.func26 Tryz.ntmps26 rfl rfl rfl ?_
    repeat' first
 | (refine m_mkMap rfl ?_;intro b)
 | (apply p1 (hd:=rfl);case hop=>first|(apply D_move;rfl)|(apply D_assign;rfl)|(apply D_pc hsd;rfl;exact .same rfl (.same rfl .nil))|(apply D_pc hf;rfl;exact .same rfl .nil)|(apply D_int;rfl;rfl;rfl)|(apply D_lenM;rfl)|(apply D_ext;rfl;rfl))
 | refine W_seq ?_
 | refine W_region ?_
 | (refine idC ?_;refine cs rfl (fun _=>?_) (fun _=>?_))
 | refine WL_nil ?_
 | refine tn ?_
 | refine tr ?_
 | refine W_skip ?_
 | refine W_block ?_
 | refine W_ret ?_
 | (refine idR ?_;refine ret2 rfl rfl rfl rfl ?_ ?_)
 | (refine idA ?_;refine m_var rfl rfl rfl rfl rfl rfl rfl ?_)
 | (refine Le.int ?_)
    all_goals try contradiction
    refine W_loopL (X:=Nat) (fun i=>[(4,sl9 D),(7,.ep [.sc (.map (some b))]),(29,sl6 F),(30,.sc (.int .i64 (F.length : Int))),(31,.sc (.int .i64 (i : Int)))]) (fun i=>[mapA kvI b (((F.take i).map Fac.a).foldl cntM [])])
      (fun i=>i ≤ F.length) (fun i=>F.length - i) 0 (Nat.zero_le _) ⟨rfl,rfl,rfl,rfl,rfl,trivial⟩ rfl ?_
    intro i hi
    by_cases hil : i < F.length
    · have hsm : ((F.take (i + 1)).map Fac.a).foldl cntM [] = cntM (((F.take i).map Fac.a).foldl cntM []) (F[i]'hil).a:=by
        rw [List.take_succ_eq_append_getElem hil,List.map_append,List.foldl_append];rfl
      generalize ((F.take i).map Fac.a).foldl cntM [] = MM at *
      repeat' first
 | (refine p1L (D_mapG (kv:=kvI) rfl rfl (r:=0) rfl) rfl ?_)
 | (refine pS (S_mapU (kv:=kvI) rfl rfl rfl (r:=0) rfl) ?_)
 | (apply p1 (hd:=rfl);case hop=>first|(apply D_move;rfl)|(apply D_load1;rfl)|(apply D_fld;rfl)|(apply D_int;rfl;rfl;rfl)|(apply D_loadW;rfl;rfl)|(apply D_idxAn;rfl;rfl;(first|omega|(simp;done))))
 | refine W_seq ?_
 | refine W_region ?_
 | (refine idC ?_;refine cs rfl (fun _=>?_) (fun _=>?_))
 | refine WL_nil ?_
 | refine tn ?_
 | refine bn ?_
 | refine te ?_
 | (refine idB ?_;refine bh rfl ?_)
 | refine W_skip ?_
 | refine W_block ?_
 | refine W_exit ?_
 | (refine idA ?_;first|refine m_var rfl rfl rfl rfl rfl rfl rfl ?_|refine m_alloc rfl ?_)
      all_goals first
        | contradiction
        | (exfalso;omega)
        | (refine ⟨rfl,i + 1,by omega,by omega,⟨rfl,rfl,rfl,rfl,ieq (wsucc i (by omega)),trivial⟩,?_⟩
           rw [hsm];rfl)
        | skip
    · have e : i = F.length:=by omega
      subst e
      rw [List.take_length] at *
      have hG : ∀ g,attG F g = { oneA g with fn:=getM (g.headD dat0).a ((F.map Fac.a).foldl cntM []) }:=fun g=>rfl
      generalize (F.map Fac.a).foldl cntM [] = MM at *
      repeat' first
 | (apply p1 (hd:=rfl);case hop=>first|(apply D_move;rfl)|(apply D_pc (sgroups_pc D);rfl;exact .same rfl .nil)|(apply D_load1;rfl)|(apply D_fld;rfl)|(apply D_int;rfl;rfl;rfl)|(apply D_loadW;rfl;rfl)|(apply D_idxAn;rfl;rfl;(first|omega|(simp;done))))
 | refine W_seq ?_
 | refine W_region ?_
 | (refine idC ?_;refine cs rfl (fun _=>?_) (fun _=>?_))
 | refine WL_nil ?_
 | refine tn ?_
 | refine te ?_
 | (refine idB ?_;refine bh rfl ?_)
 | refine W_skip ?_
 | refine W_block ?_
 | refine W_exit ?_
 | (refine idA ?_;first|refine m_var rfl rfl rfl rfl rfl rfl rfl ?_|refine m_alloc rfl ?_)
      all_goals try (exfalso;omega)
      refine W_adoptC 1 0 12 71 rfl rfl ?_
      refine W_rangeX (.inl rfl) fun l1 X hX=>?_
      refine AC.mono (sgroups1_ac D l1 (fun r h=>∃ o ex,h = HA b MM o (.raw (.deferred (some []))) (X .ready none) ++ ex ∧ (grpL grA D).map (attG F) = o ++ (grpL grA r).map (attG F) ∧ o.length + r.length ≤ D.length ∧ ∃ k,r = D.drop k) (by omega) ⟨[],[],rfl,rfl,by simp,0,rfl⟩ ?_) ?_
      · rintro r h n ⟨o,ex,rfl,hJ,hlen,k,hk⟩ hn0 hn1 hg
        refine YW.round (r:=4) (ps:=[43]) ((show _ = some (X .ready none) from rfl).trans (congrArg some (hX .ready none))) rfl rfl ?_
        repeat' first
 | (apply p1 (hd:=rfl);case hop=>first|(apply D_assign;rfl))
 | refine W_region ?_
 | (refine WL_nil ?_)
        refine ⟨rfl,(show _ = some (X .ready none) from rfl).trans (congrArg some (hX .ready none)),?_⟩
        refine W_hq (h':=HA b MM o (.raw (.deferred (some []))) (X .busy none) ++ ex) (by rw [hX .busy none];rfl) ?_
        generalize hgd : r.take n = g at *
        have hgl : g.length = n:=by rw [← hgd];simp;omega
        have hon:=one_pc g (by omega) (by omega)
        rw [hg,List.map_cons,hG,headD_at g dat0 (by omega)] at hJ
        have hoa : (oneA g).a = (g[0]'(by omega)).a:=by unfold oneA;exact congrArg Dat.a (headD_at g dat0 (by omega))
        have hof : (oneA g).fn = 0:=rfl
        rw [← hoa] at hJ
        generalize oneA g = x at *
        repeat' first
 | (refine m_alloc (d:=12) rfl ?_)
 | (refine p1L (D_mapG (kv:=kvI) rfl rfl (r:=0) rfl) rfl ?_)
 | (apply p1 (hd:=rfl);case hop=>first|(apply D_move;rfl)|(apply D_pc hon;rfl;exact .same rfl .nil)|(apply D_load1;rfl)|(apply D_lit;rfl;rfl;rfl;rfl)|exact D_fldB rfl)
 | refine W_seq ?_
 | refine W_region ?_
 | refine WL_nil ?_
 | refine tn ?_
 | refine bn ?_
 | refine W_block ?_
 | (refine idLd ?_;first|refine p1L (D_loadB1 rfl rfl rfl) rfl ?_|refine p1L (D_loadB1 rfl (by (repeat first|assumption|exact get_last|(refine get_last2 ?_;focus (simp;done))|apply get_set|apply get_app|(apply get_ne;focus omega)|(apply get_ne;focus (simp only [List.length_set,List.length_append,List.length_cons,List.length_nil];omega)));done) (by rfl)) rfl ?_|refine p1L (D_loadBA rfl (by (repeat first|assumption|exact get_last|(refine get_last2 ?_;focus (simp;done))|apply get_set|apply get_app|(apply get_ne;focus omega)|(apply get_ne;focus (simp only [List.length_set,List.length_append,List.length_cons,List.length_nil];omega)));done) (by rfl)) rfl ?_)
 | (refine idS ?_;first|refine pS (S_store rfl rfl rfl rfl rfl rfl rfl) ?_|refine pS (S_store rfl rfl rfl (by (repeat first|assumption|exact get_last|(refine get_last2 ?_;focus (simp;done))|apply get_set|apply get_app|(apply get_ne;focus omega)|(apply get_ne;focus (simp only [List.length_set,List.length_append,List.length_cons,List.length_nil];omega)));done) (by rfl) (by rfl) (by rfl)) ?_)
 | (refine idAp ?_;refine m_appB rfl rfl rfl (by first|rfl|assumption|exact get_set (by assumption)|exact get_set (get_set (by assumption))|exact get_set (get_set (get_set (by assumption)))|((repeat first|assumption|exact get_last|(refine get_last2 ?_;focus (simp;done))|apply get_set|apply get_app|(apply get_ne;focus omega));done)) ?_ rfl rfl ?_ ?_ rfl ?_;(first|rfl|focus (simp only [List.length_map,List.length_append,List.length_cons,List.length_nil];omega)|focus (simp;done)|focus (simp;omega));(first|focus (simp only [List.length_map,List.length_append,List.length_cons,List.length_nil];omega)|focus (simp;done)|focus (simp;omega));(first|focus (simp only [List.length_map,List.length_append,List.length_cons,List.length_nil];omega)|focus (simp;done)|focus (simp;omega)))
        refine roundQ_hq (P:=Tryz.prog) (h':=HA b MM (o ++ [⟨x.a,x.n,x.ad,x.en,x.vn,getM x.a MM,x.lo,x.hi⟩]) (.raw (.deferred (some []))) (X .busy none) ++ (ex ++ [.cells (atC ⟨x.a,x.n,x.ad,x.en,x.vn,getM x.a MM,x.lo,x.hi⟩)])) (by rw [set_last,set_last,HA_snoc];rfl) ?_
        refine ⟨rfl,⟨_,_,(show _ = some (X .busy none) from rfl).trans (congrArg some (hX .busy none))⟩,rfl,?_⟩
        dsimp only
        rw [← hX .ready none]
        refine ⟨o ++ [⟨x.a,x.n,x.ad,x.en,x.vn,getM x.a MM,x.lo,x.hi⟩],ex ++ [.cells (atC ⟨x.a,x.n,x.ad,x.en,x.vn,getM x.a MM,x.lo,x.hi⟩)],rfl,by rw [hJ,List.append_assoc];rfl,?_,k + n,by rw [hk,List.drop_drop]⟩
        rw [List.length_append,List.length_singleton,List.length_drop];omega
      · rintro _ h' ⟨o,ex,rfl,hJ,_⟩
        rw [grpL_nil,List.map_nil,List.append_nil] at hJ
        refine ⟨_,_,(show _ = some (X .ready none) from rfl).trans (congrArg some (hX _ _)),by decide,?_⟩
        rw [hJ]
        repeat' first
 | (apply p1 (hd:=rfl);case hop=>first|(apply D_assign;rfl))
 | refine W_seq ?_
 | refine W_region ?_
 | refine WL_nil ?_
 | refine tn ?_
 | refine bn ?_
 | refine W_ret ?_
 | (refine idR ?_;first|refine rL2 rfl (by first|exact trivial|exact ⟨rfl,trivial⟩) (by first|exact ResO.tmp rfl|exact ResO.cellBA rfl rfl rfl|exact ResO.cellB1 rfl rfl rfl|exact ResO.cellEA rfl rfl|exact ResO.cellE1 rfl) (by first|exact ResO.tmp rfl|exact ResO.cellBA rfl rfl rfl|exact ResO.cellB1 rfl rfl rfl|exact ResO.cellEA rfl rfl|exact ResO.cellE1 rfl) ?_ ?_)
 | (refine idLd ?_;refine p1L (D_loadB1 rfl rfl rfl) rfl ?_)
 | (refine Le.int ?_)
        all_goals first|exact Le.tokq rfl|rfl|skip
end Go.Proofs
