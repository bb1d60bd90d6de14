/- The law StatsAttrs. -/
import Derived.Test.YtjojdiefnhbglaaGreatYS4
set_option linter.all false
namespace Go.Proofs
open Go.AL Go.Sort
attribute [local irreducible] Go.AL.W Go.AL.WL Go.AL.WD Go.AL.POp Go.AL.PPOp Go.AL.POpS Go.AL.PC Go.AL.AC Go.AL.YW Go.AL.Ret Go.AL.Le Go.AL.thn Go.AL.inBlk Go.AL.scp
theorem cmpD2_le {x y : Dat} (h : cmpD 2 x y < 0) : x.a ≤ y.a:=by
  have e : cmpD 2 x y = if cmpI x.a y.a = 0 then cmpPs [fst2 2 x,fst3 2 x,prtN x.t,prtN (if x.add then 0 else 1),prtN x.fr,prtN x.to] [fst2 2 y,fst3 2 y,prtN y.t,prtN (if y.add then 0 else 1),prtN y.fr,prtN y.to] else cmpI x.a y.a:=by
    unfold cmpD part7
    simp only [cmpPs]
    rfl
  rw [e] at h
  split at h
  · rename_i h0
    have:=zzI _ _ h0;omega
  · have:=ltI.1 h;omega
theorem dsort_perm (l : List Dat) : (dsortL 2 l).Perm (dsortL 1 l):=by
  have hn : ∀ o,1 ≤ o ∧ o ≤ 4 → (dsortL o l).Nodup:=fun o ho=>(dsort_rise ho l).imp fun {a b} h e=>by
    subst e
    have:=(wc_cmpD o).refl a
    omega
  refine (List.perm_ext_iff_of_nodup (hn 2 (by decide)) (hn 1 (by decide))).2 fun d=>?_
  rw [dsort_mem (by decide),dsort_mem (by decide)]
  exact and_congr_right fun _=>⟨fun _=>.inl (by decide),fun _=>.inl (by decide)⟩
theorem atts_eq (l : List Dat) (F : List Fac) (hF : F.length < 9223372036854775807) : attsP l F = attsR (dsortL 1 l) F:=by
  have hp:=dsort_perm l
  have hs : (dsortL 2 l).Pairwise (fun a b=>a.a ≤ b.a):=(dsort_rise (by decide) l).imp fun h=>cmpD2_le h
  unfold attsP attsR
  rw [grpA_all (attG F) _ _ (Nat.le_refl _) hs]
  have hk : insL cmpI ((dsortL 2 l).map Dat.a) = insL cmpI ((dsortL 1 l).map Dat.a):=insI_congr fun x=>(hp.map Dat.a).mem_iff
  rw [hk]
  refine List.map_congr_left fun x hx=>?_
  rw [insI_mem] at hx
  obtain ⟨d,hd,rfl⟩:=List.mem_map.1 hx
  have hf : ((dsortL 2 l).filter (ofA d.a)).Perm ((dsortL 1 l).filter (ofA d.a)):=hp.filter _
  have hm : ∀ y,y ∈ (dsortL 2 l).filter (ofA d.a) ↔ y ∈ (dsortL 1 l).filter (ofA d.a):=fun y=>hf.mem_iff
  have hd2 : d ∈ (dsortL 2 l).filter (ofA d.a):=(hm d).2 (List.mem_filter.2 ⟨hd,by unfold ofA;exact decide_eq_true rfl⟩)
  have hpos : 0 < ((dsortL 2 l).filter (ofA d.a)).length:=List.length_pos_of_mem hd2
  have hh : (((dsortL 2 l).filter (ofA d.a)).headD dat0).a = d.a:=by
    rw [headD_at _ _ hpos]
    have:=(List.mem_filter.1 (List.getElem_mem hpos)).2
    unfold ofA at this;exact of_decide_eq_true this
  have h1 : addN ((dsortL 2 l).filter (ofA d.a)) = addN ((dsortL 1 l).filter (ofA d.a)):=(hf.filter _).length_eq
  have h2 : insL cmpI (((dsortL 2 l).filter (ofA d.a)).map Dat.e) = insL cmpI (((dsortL 1 l).filter (ofA d.a)).map Dat.e):=insI_congr fun y=>(hf.map Dat.e).mem_iff
  have h3:=valS_congr hm
  have h4 : getM d.a ((F.map Fac.a).foldl cntM []) = ((F.filter (ofF d.a)).length : Int):=by
    rw [cntM_get d.a (F.map Fac.a) [] (Int.le_refl _) (by simp only [getM,List.length_map];omega)]
    simp only [getM,Int.zero_add]
    congr 1
    rw [List.filter_map,List.length_map];rfl
  unfold attG oneA attR
  rw [hh,h1,h2,h3,h4,hf.length_eq]
set_option maxHeartbeats 4000000 in
theorem great29_pc [GlobF Tryz.prog] (l : List Dat) (hl : l.length < 9223372036854775808) : PC Tryz.prog 25 [sl9 l] (.sc (.bool (dP (200 < l.length ∨ 4000 < grS 0 l)))):=by
  by_cases h : 200 < l.length
  · rw [← dP_T (.inl h)]
    have g : Value.bool (iLt 200 (l.length : Int)) = .bool true:=by rw [(iLt_t _ _).mpr (by omega)]
    refine PC.of_body Tryz.func25 Tryz.ntmps25 rfl rfl rfl ?_
    repeat' first
 | (apply p1 (hd:=rfl);case hop=>first|(apply D_move;rfl)|(apply D_assign;rfl)|exact D_sc (D_int rfl rfl rfl) g|(apply D_pickT;rfl;rfl)|(apply D_lenM;rfl))
 | refine W_seq ?_
 | refine W_region ?_
 | refine WL_nil ?_
 | (refine idG ?_;refine g0f rfl rfl rfl ?_)
 | refine tn ?_
 | refine W_ret ?_
 | (refine idR ?_;refine ret1 rfl rfl rfl ?_)
 | (refine Le.bool ?_)
    all_goals first|rfl|contradiction|skip
  · have g : Value.bool (iLt 200 (l.length : Int)) = .bool false:=by rw [(iLt_f _ _).mpr (by omega)]
    have hg:=great_pc l (by omega)
    by_cases h2 : 4000 < grS 0 l
    · rw [← dP_T (.inr h2)]
      rw [if_pos h2] at hg
      have g2 : iLt 0 1 = true:=(iLt_t _ _).mpr (by decide)
      refine PC.of_body Tryz.func25 Tryz.ntmps25 rfl rfl rfl ?_
      repeat' first
 | (apply p1 (hd:=rfl);case hop=>first|(apply D_move;rfl)|(apply D_assign;rfl)|exact D_sc (D_int rfl rfl rfl) g|(apply D_pc hg;rfl;exact .same rfl .nil)|(apply D_pickF;rfl;rfl)|(apply D_int;rfl;rfl;rfl)|(apply D_lenM;rfl))
 | refine W_seq ?_
 | refine W_region ?_
 | refine WL_nil ?_
 | (refine idG ?_;refine gr rfl rfl ?_)
 | refine tn ?_
 | refine W_ret ?_
 | (refine idR ?_;refine ret1 rfl rfl rfl ?_)
 | (refine Le.bool ?_)
      all_goals first|rfl|contradiction|exact g2|skip
    · rw [← dP_F (fun e=>e.elim h h2)]
      rw [if_neg h2] at hg
      have g2 : iLt 0 0 = false:=(iLt_f _ _).mpr (by decide)
      refine PC.of_body Tryz.func25 Tryz.ntmps25 rfl rfl rfl ?_
      repeat' first
 | (apply p1 (hd:=rfl);case hop=>first|(apply D_move;rfl)|(apply D_assign;rfl)|exact D_sc (D_int rfl rfl rfl) g|(apply D_pc hg;rfl;exact .same rfl .nil)|(apply D_pickF;rfl;rfl)|(apply D_int;rfl;rfl;rfl)|(apply D_lenM;rfl))
 | refine W_seq ?_
 | refine W_region ?_
 | refine WL_nil ?_
 | (refine idG ?_;refine gr rfl rfl ?_)
 | refine tn ?_
 | refine W_ret ?_
 | (refine idR ?_;refine ret1 rfl rfl rfl ?_)
 | (refine Le.bool ?_)
      all_goals first|rfl|contradiction|exact g2|skip
theorem atts_len (l : List Dat) (F : List Fac) : (attsR (dsortL 1 l) F).length ≤ l.length:=by
  unfold attsR
  rw [List.length_map]
  have:=insL_len cmpI ((dsortL 1 l).map Dat.a) _ (Nat.le_refl _)
  rw [List.take_length,List.length_map] at this
  exact Nat.le_trans this (dsortL_len 1 l)
set_option maxHeartbeats 64000000 in
theorem statsAttrs_pc [GlobF Tryz.prog] (l : List Dat) (hl : l.length < 9223372036854775808) (hs : ∀ d,d ∈ l → d.v.s.length < 9223372036854775808) (hrg : rgD l) : PC Tryz.prog 6 [sl9 l] (.sc (.bool true)):=by
  have hg:=great29_pc l hl
  by_cases hc : 200 < l.length ∨ 4000 < grS 0 l
  · rw [← dP_T hc] at hg
    refine PC.of_body Tryz.func6 Tryz.ntmps6 rfl rfl rfl ?_
    repeat' first
 | (apply p1 (hd:=rfl);case hop=>first|(apply D_move;rfl)|(apply D_assign;rfl)|(apply D_pc hg;rfl;exact .same rfl .nil))
 | refine W_seq ?_
 | refine W_region ?_
 | (refine idC ?_;refine c1 rfl ?_)
 | refine WL_nil ?_
 | refine tn ?_
 | refine tr ?_
 | refine W_ret ?_
 | (refine idR ?_;refine ret1 rfl rfl rfl ?_)
 | (refine Le.bool ?_)
    all_goals first|rfl|contradiction|skip
  rw [← dP_F hc] at hg
  have hl2 : l.length ≤ 200:=Nat.le_of_not_lt fun h=>hc (.inl h)
  have q1:=attrs_pc l (by omega) hs hrg
  have q2:=rattrs_pc l (by omega) hs hrg
  have hfl:=(foldR_len l).1
  have hE : rattsL l = attsL l:=by unfold rattsL attsL;rw [atts_eq l _ (by omega)]
  rw [hE] at q2
  have gz : ∀ v : Int,Value.bool (bNot (iEq v v)) = .bool false:=fun v=>by rw [(iEq_t _ _).mpr rfl];simp [bNot]
  have gv : ∀ L : List Value,Value.bool (bNot (lEq L L)) = .bool false:=fun L=>by rw [(lEq_t _ _).mpr rfl];simp [bNot]
  have hAl : (attsL l).length ≤ 200:=by
    rw [← hE]
    unfold rattsL
    split
    · exact Nat.le_trans (atts_len l _) hl2
    · simp
  generalize attsL l = A at *
  generalize attsE l = E at *
  refine PC.of_body Tryz.func6 Tryz.ntmps6 rfl rfl rfl ?_
  repeat' first
 | (apply p1 (hd:=rfl);case hop=>first|(apply D_move;rfl)|(apply D_assign;rfl)|(apply D_pc hg;rfl;exact .same rfl .nil)|(apply D_pc q1;rfl;exact .same rfl .nil)|(apply D_pc q2;rfl;exact .same rfl .nil)|exact D_sc (D_int rfl rfl rfl) (gz _)|(apply D_pickF;rfl;rfl)|(apply D_lenM;rfl)|(apply D_ext;rfl;rfl))
 | refine W_seq ?_
 | refine W_region ?_
 | (refine idC ?_;refine c0 rfl ?_)
 | refine WL_nil ?_
 | (refine idG ?_;refine gr rfl rfl ?_)
 | refine tn ?_
 | refine W_skip ?_
 | (refine W_block ?_)
  all_goals try contradiction
  refine W_loopR (X:=Nat) (fun i=>[(3,.sl none 12 (A.map atC)),(5,.sl none 12 (A.map atC)),(33,.sc (.int .i64 (A.length : Int))),(34,.sc (.int .i64 (i : Int)))]) (fun _=>[])
    (fun i=>i ≤ A.length) (fun i=>A.length - i) 0 (Nat.zero_le _) ⟨rfl,rfl,rfl,rfl,trivial⟩ rfl ?_
  intro i hi
  by_cases hil : i < A.length
  · repeat' first
 | (apply p1 (hd:=rfl);case hop=>first|(apply D_move;rfl)|(apply D_assign;rfl)|exact D_sc (D_int rfl rfl rfl) (gz _)|exact D_sc (D_neA rfl rfl rfl rfl rfl rfl rfl) (gv _)|(apply D_pickF;rfl;rfl)|(apply D_int;rfl;rfl;rfl)|exact D_fldB rfl)
 | refine W_seq ?_
 | refine W_region ?_
 | (refine idC ?_;first|refine c0 rfl ?_|refine cs rfl (fun _=>?_) (fun _=>?_))
 | refine WL_nil ?_
 | (refine idG ?_;refine gr rfl rfl ?_)
 | refine tn ?_
 | refine bn ?_
 | refine te ?_
 | (refine idB ?_;refine bh rfl ?_)
 | refine W_skip ?_
 | refine W_block ?_
 | refine W_exit ?_
 | refine W_ret ?_
 | (refine idR ?_;refine ret1 rfl rfl rfl ?_)
 | (refine idLd ?_;first|refine p1L (D_loadB1 rfl rfl rfl) rfl ?_|refine p1L (D_loadBA rfl rfl rfl) rfl ?_)
 | refine Le.bool ?_
 | (refine idW ?_;refine W_draw2 rfl ?_)
 | (apply d1 (hd:=rfl);case hop=>first|(apply D_move;rfl)|(apply D_loadW;rfl;rfl)|(apply D_idxAn;rfl;rfl;(first|omega|(simp;done))))
 | (refine idDn ?_;first|refine dS (S_store rfl rfl rfl rfl rfl rfl rfl) rfl ?_|refine dV (S_alloc 0 rfl) rfl rfl ?_|refine dV (S_alloc 1 rfl) rfl rfl ?_)
 | (refine WD_nil (by first|decide +kernel|kernel_rfl|rfl) ?_)
    all_goals first
      | contradiction
      | (exfalso;omega)
      | (refine ⟨rfl,i + 1,by omega,by omega,[],renN ⟨⟨_,rfl,.pur⟩,⟨_,rfl,.pur⟩,⟨_,rfl,.pur⟩,⟨_,rfl,?_⟩,trivial⟩⟩
         rw [wsucc i (by omega)];exact .pur)
      | skip
  · repeat' first
 | (apply p1 (hd:=rfl);case hop=>first|(apply D_move;rfl)|(apply D_assign;rfl)|(apply D_pickT;rfl;rfl)|(apply D_pickF;rfl;rfl)|(apply D_int;rfl;rfl;rfl)|exact D_fldB rfl|exact D_neA rfl rfl rfl rfl rfl rfl rfl)
 | refine W_seq ?_
 | refine W_region ?_
 | (refine idC ?_;first|refine c1 rfl ?_|refine cs rfl (fun _=>?_) (fun _=>?_))
 | refine WL_nil ?_
 | (refine idG ?_;first|refine g0f rfl rfl rfl ?_|refine gr rfl rfl ?_|refine gs rfl rfl (fun _=>?_) (fun _=>?_))
 | refine tn ?_
 | refine tr ?_
 | refine br ?_
 | refine bn ?_
 | refine te ?_
 | (refine idB ?_;refine bh rfl ?_)
 | refine W_skip ?_
 | refine W_block ?_
 | refine W_exit ?_
 | refine W_ret ?_
 | (refine idR ?_;refine ret1 rfl rfl rfl ?_)
 | (refine idLd ?_;first|refine p1L (D_loadB1 rfl rfl rfl) rfl ?_|refine p1L (D_loadBA rfl rfl rfl) rfl ?_)
 | refine Le.bool ?_
 | (refine idW ?_;refine W_draw2 rfl ?_)
 | (apply d1 (hd:=rfl);case hop=>first|(apply D_move;rfl)|(apply D_loadW;rfl;rfl)|(apply D_idxAn;rfl;rfl;(first|omega|(simp;done))))
 | (refine idDn ?_;first|refine dS (S_store rfl rfl rfl rfl rfl rfl rfl) rfl ?_|refine dV (S_alloc 0 rfl) rfl rfl ?_|refine dV (S_alloc 1 rfl) rfl rfl ?_)
 | (refine WD_nil (by first|decide +kernel|kernel_rfl|rfl) ?_)
    all_goals first
      | contradiction
      | (exfalso;omega)
      | rfl
      | skip
end Go.Proofs
