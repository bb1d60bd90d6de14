/- The statement StatsNames: what the code does, example by example. -/
import Derived.Test.YtjojdiefnhbglaaGreatYN8
import Derived.Test.YtjojdiefnhbglaaGreatYH2
import Derived.Test.YtjojdiefnhbglaaGreatOps11
import Derived.Test.YtjojdiefnhbglaaGreatOps41
set_option linter.all false
namespace Go.Proofs
open Go.AL Go.Sort
attribute [local irreducible] Go.AL.W Go.AL.WL Go.AL.WD Go.AL.POp Go.AL.PPOp Go.AL.POpS Go.AL.PC Go.AL.AC Go.AL.YW Go.AL.Ret Go.AL.Le Go.AL.thn Go.AL.inBlk Go.AL.scp
def al5 : Dat:=⟨20,10,⟨1,1,[]⟩,1,false,-9223372036854775808,9223372036854775807⟩
def boL : List Dat:=[al1,al2,al3,al4,al5]
def zeD : Dat:=⟨0,0,⟨0,0,[]⟩,0,false,0,0⟩
def zeF : Fac:=⟨0,0,⟨0,0,[]⟩,[]⟩
theorem some29_ac [GlobF Tryz.prog] {h : List AObj} : AC Tryz.prog 37 [] h (fun v h'=>v = rowA h.length 4 ∧ h' = h ++ [.row 9 48 (alL.map dC)]):=by
  refine AC.of_body Tryz.func37 Tryz.ntmps37 rfl rfl rfl ?_
  repeat' first
 | (refine m_litG rfl rfl rfl rfl rfl rfl ?_)
 | (apply p1 (hd:=rfl);case hop=>first|(apply D_assign;rfl)|(apply D_loadW;rfl;rfl)|exact D_build rfl)
 | refine W_seq ?_
 | refine W_region ?_
 | refine WL_nil ?_
 | refine tn ?_
 | refine W_ret ?_
 | (refine idA ?_;refine m_var rfl rfl rfl rfl rfl rfl rfl ?_)
  exact retK1 (.inl rfl) rfl rfl (ResO.tmp rfl) ⟨rfl,rfl⟩
theorem bo_mem {d : Dat} (h : d ∈ boL) : d ∈ alL ∨ d = al5:=by
  simp only [boL,alL,List.mem_cons,List.not_mem_nil,or_false] at h ⊢
  rcases h with h|h|h|h|h <;> simp [h]
theorem bo_rg : rgD boL:=fun d hd=>by
  rcases bo_mem hd with h|rfl
  · exact al_rg d h
  · exact ⟨by decide,by decide⟩
theorem bo_s : ∀ d,d ∈ boL → d.v.s.length < 9223372036854775808:=fun d hd=>by
  rcases bo_mem hd with h|rfl
  · exact al_s d h
  · decide
theorem bo_may : ∀ d,d ∈ boL → dmayP d:=fun d hd=>by
  rcases bo_mem hd with h|rfl
  · exact al_may d h
  · exact ⟨by decide,by decide,by decide,by decide,alN_may,by decide,by decide,by decide⟩
theorem bo_fold : foldR boL = none:=fold_not bo_rg ⟨al1,.head _,al5,.tail _ (.tail _ (.tail _ (.tail _ (.head _)))),⟨rfl,rfl,rfl⟩,rfl,rfl,rfl,0,⟨by decide,by decide⟩,⟨by decide,by decide⟩⟩
theorem bo_E : attsE boL = 60:=by
  have h : dP (allD boL) = true:=(dP_T (p:=allD boL) bo_may).symm
  unfold attsE
  rw [bo_fold,h];rfl
theorem ze_no : ¬ allD [zeD]:=fun h=>by
  have:=(h zeD (.head _)).2.2.2.2.2.1
  revert this;decide
theorem ze_E : attsE [zeD] = 40:=by
  unfold attsE
  rw [← dP_F ze_no];rfl
theorem nil_D : allD ([] : List Dat):=fun d h=>by cases h
theorem nil_E : attsE [] = 0:=by
  unfold attsE
  have hf : foldR [] = some []:=fold_is (l:=[]) (F:=[]) (fun d h=>by cases h) (fun d h=>by cases h) (fun ⟨d,h,_⟩=>by cases h) (fun i hi=>by simp at hi) fun k y=>⟨fun ⟨f,h,_⟩=>(by cases h),fun ⟨d,h,_⟩=>(by cases h)⟩
  rw [← dP_T nil_D,hf];rfl
theorem sort_nil (o : Int) : dsortL o [] = []:=List.eq_nil_of_length_eq_zero (by have:=dsortL_len o [];simpa using this)
theorem atts_nil : attsL [] = []:=by
  unfold attsL
  rw [if_pos nil_E]
  unfold attsP
  rw [sort_nil,grpL_nil];rfl
theorem al_D : allD alL:=al_may
theorem al_T : txsL (dsortL 1 alL) = [⟨1,2,0⟩,⟨2,1,1⟩]:=by rw [al_sort];simp [txsL,putX,bumpT,al1,al2,al3,al4]
theorem al_K : kindsL (sortS 1 alL) = [0,3,0,1,0,0,0,0]:=by
  unfold sortS
  rw [← dP_T al_D,if_pos rfl,al_sort];simp [kindsL,kst,al1,al2,al3,al4]
theorem al_B : bytP 4 alL = 0 ∧ bytE 4 alL = 0:=by
  have h : dsortL 4 alL = []:=by
    unfold dsortL
    rw [if_pos (by decide)]
    have : alL.filter (hasB 4) = []:=List.filter_eq_nil_iff.2 fun d hd e=>by
      rw [hasB_t] at e
      rcases al_mem hd with rfl|rfl|rfl|rfl <;> (rcases e with e|e <;> revert e <;> decide)
    rw [this]
    exact (sortC_eq (wc_cmpD 4) (cmpD_z 4) .nil fun x=>by simp).symm
  unfold bytP bytE sortS
  rw [if_pos (show (1 : Int) ≤ 4 ∧ (4 : Int) ≤ 4 by decide),if_pos (show (1 : Int) ≤ 4 ∧ (4 : Int) ≤ 4 by decide),← dP_T al_D,if_pos rfl,h]
  exact ⟨rfl,rfl⟩
theorem al_all : allF [alF1,alF2,alF3]:=by
  intro i hi _
  have hrise : riseF [alF1,alF2,alF3]:=by
    refine .cons (fun y hy=>?_) (.cons (fun y hy=>?_) (List.pairwise_singleton _ _))
    · simp only [List.mem_cons,List.not_mem_nil,or_false] at hy
      rcases hy with rfl|rfl <;> decide
    · simp only [List.mem_cons,List.not_mem_nil,or_false] at hy
      subst hy;decide
  refine ⟨?_,fun h0=>List.pairwise_iff_getElem.1 hrise (i - 1) i (by omega) hi (by omega)⟩
  have : ([alF1,alF2,alF3] : List Fac)[i] ∈ [alF1,alF2,alF3]:=List.getElem_mem hi
  generalize ([alF1,alF2,alF3] : List Fac)[i] = f at *
  simp only [List.mem_cons,List.not_mem_nil,or_false] at this
  rcases this with rfl|rfl|rfl
  all_goals refine ⟨⟨by decide,by decide,by decide,by decide,by first|exact alN_may|exact alT_may,by decide,by decide,by decide⟩,by decide,fun s hs=>?_,List.pairwise_singleton _ _⟩
  all_goals
    rw [List.mem_singleton.1 hs];decide
theorem ze_all : ¬ allF [zeF]:=fun h=>by
  have:=(h 0 (by simp) (by simp)).1.1.2.2.2.2.1
  revert this
  show ¬ mayB ⟨0,0,[]⟩ = true
  unfold mayB
  rw [dP_t]
  unfold MayP
  simp
theorem al_cur : curveR [alF1,alF2,alF3] (insL cmpI (atsL [alF1,alF2,alF3])) = [⟨-9223372036854775808,2⟩,⟨0,3⟩,⟨5,2⟩,⟨9,1⟩]:=by
  have e : insL cmpI (atsL [alF1,alF2,alF3]) = [-9223372036854775808,0,5,9,9223372036854775807]:=by decide +kernel
  have s1 : ∀ y,inS alF1.sp y ↔ -9223372036854775808 ≤ y ∧ y < 5:=one_in _ _
  have s2 : ∀ y,inS alF2.sp y ↔ -9223372036854775808 ≤ y ∧ y < 9223372036854775807:=one_in _ _
  have s3 : ∀ y,inS alF3.sp y ↔ 0 ≤ y ∧ y < 9:=one_in _ _
  have c1 : (cntL [alF1,alF2,alF3] (-9223372036854775808) : Int) = 2:=by
    unfold cntL
    simp only [List.filter_cons,List.filter_nil,dP_t,s1,s2,s3]
    simp
  have c2 : (cntL [alF1,alF2,alF3] (0) : Int) = 3:=by
    unfold cntL
    simp only [List.filter_cons,List.filter_nil,dP_t,s1,s2,s3]
    simp
  have c3 : (cntL [alF1,alF2,alF3] (5) : Int) = 2:=by
    unfold cntL
    simp only [List.filter_cons,List.filter_nil,dP_t,s1,s2,s3]
    simp
  have c4 : (cntL [alF1,alF2,alF3] (9) : Int) = 1:=by
    unfold cntL
    simp only [List.filter_cons,List.filter_nil,dP_t,s1,s2,s3]
    simp
  rw [e]
  unfold curveR
  simp only [List.foldl_cons,List.foldl_nil]
  simp [pushP,c1,c2,c3,c4,lastM,tMx]
end Go.Proofs

namespace Go.Proofs
open Go.AL Go.Sort
attribute [local irreducible] Go.AL.W Go.AL.WL Go.AL.WD Go.AL.POp Go.AL.PPOp Go.AL.POpS Go.AL.PC Go.AL.AC Go.AL.YW Go.AL.Ret Go.AL.Le Go.AL.thn Go.AL.inBlk Go.AL.scp
theorem fack {a b c d e : AV} : Wkn (.ag [a,b,c,d,e,.sc (.slice none 0 0)]) (.ag [a,b,c,d,e,.sl none 2 []]) :=
  Wkn.ag ⟨.refl _,.refl _,.refl _,.refl _,.refl _,.nil,trivial⟩
set_option maxHeartbeats 64000000 in
theorem statsNames_pc [GlobF Tryz.prog] : PC Tryz.prog 9 [] (.sc (.bool true)):=by
  have hal:=alive29_pc
  have htx:=txs_pc alL (by decide) al_s
  rw [al_T,← dP_T al_D,if_pos rfl,if_pos rfl] at htx
  have hkd:=kinds_pc alL (by decide) al_s
  rw [al_K,← dP_T al_D,if_pos rfl] at hkd
  have hfo:=fold_pc alL (by decide) al_s al_rg
  rw [al_fold] at hfo
  have hcu:=curve_pc [alF1,alF2,alF3] (by decide) (fun f hf=>by simp only [List.mem_cons,List.not_mem_nil,or_false] at hf;rcases hf with rfl|rfl|rfl <;> exact ⟨by decide,by decide⟩) (fun f hf=>by simp only [List.mem_cons,List.not_mem_nil,or_false] at hf;rcases hf with rfl|rfl|rfl <;> decide) (fun f hf s hs=>by simp only [List.mem_cons,List.not_mem_nil,or_false] at hf;rcases hf with rfl|rfl|rfl <;> (rw [List.mem_singleton.1 hs];decide))
  rw [al_cur,← dP_T al_all,if_pos rfl,if_pos rfl] at hcu
  have hh1:=holds_pc [⟨-9223372036854775808,2⟩,⟨0,3⟩,⟨5,2⟩,⟨9,1⟩] 4 (by decide)
  have hh2:=holds_pc [⟨-9223372036854775808,2⟩,⟨0,3⟩,⟨5,2⟩,⟨9,1⟩] (-9223372036854775808) (by decide)
  have hh3:=holds_pc [] 0 (by decide)
  rw [show hldF [⟨-9223372036854775808,2⟩,⟨0,3⟩,⟨5,2⟩,⟨9,1⟩] 4 = 3 by decide] at hh1
  rw [show hldF [⟨-9223372036854775808,2⟩,⟨0,3⟩,⟨5,2⟩,⟨9,1⟩] (-9223372036854775808) = 2 by decide] at hh2
  rw [show hldF [] 0 = 0 from rfl] at hh3
  have zes : ∀ d,d ∈ [zeD] → d.v.s.length < 9223372036854775808:=fun d hd=>by rw [List.mem_singleton.1 hd];decide
  have hat1:=attrs_pc [zeD] (by decide) zes (fun d hd=>by rw [List.mem_singleton.1 hd];exact ⟨by decide,by decide⟩)
  rw [ze_E,show attsL [zeD] = [] by unfold attsL;rw [ze_E];rfl] at hat1
  have hat2:=attrs_pc boL (by decide) bo_s bo_rg
  rw [bo_E,show attsL boL = [] by unfold attsL;rw [bo_E];rfl] at hat2
  have htz:=txs_pc [zeD] (by decide) zes
  rw [← dP_F ze_no,if_neg (by decide),if_neg (by decide)] at htz
  have hkz:=kinds_pc [zeD] (by decide) zes
  rw [← dP_F ze_no,if_neg (by decide),show kindsL (sortS 1 [zeD]) = [0,0,0,0,0,0,0,0] by unfold sortS;rw [← dP_F ze_no];rfl] at hkz
  have hbz:=bytes_pc 1 [zeD] (by decide) zes
  rw [bytE_no ze_no] at hbz
  generalize bytP 1 [zeD] = BZ at hbz
  have hb5:=bytes_pc 5 [] (by decide) (fun d hd=>by cases hd)
  rw [show bytE 5 [] = 2 by unfold bytE;rw [if_neg (by decide)],show bytP 5 [] = 0 by unfold bytP;rw [if_neg (by decide)]] at hb5
  have hcz:=curve_pc [zeF] (by decide) (fun f hf=>by rw [List.mem_singleton.1 hf];exact ⟨by decide,by decide⟩) (fun f hf=>by rw [List.mem_singleton.1 hf];decide) (fun f hf s hs=>by rw [List.mem_singleton.1 hf] at hs;cases hs)
  rw [← dP_F ze_all,if_neg (by decide),if_neg (by decide)] at hcz
  have hatn:=attrs_pc [] (by decide) (fun d hd=>by cases hd) (fun d hd=>by cases hd)
  rw [nil_E,atts_nil] at hatn
  have hb4:=bytes_pc 4 alL (by decide) al_s
  rw [al_B.1,al_B.2] at hb4
  have hiE : ∀ v : Int,Value.bool (iEq v v) = .bool true:=fun v=>by rw [(iEq_t _ _).mpr rfl]
  have hlE : ∀ L : List Value,Value.bool (lEq L L) = .bool true:=fun v=>by rw [(lEq_t _ _).mpr rfl]
  refine PC.of_body Tryz.func9 Tryz.ntmps9 rfl rfl rfl ?_
  repeat' first
 | (refine m_call (d:=133) some29_ac rfl rfl rfl ?_;rintro _ _ ⟨rfl,rfl⟩)
 | (refine m_appG (d:=138) (els:=alL.map dC) (els':=[dC al1]) rfl rfl rfl rfl (by simp) rfl (by simp [alL]) (by simp [alL]) rfl ?_)
 | (refine p1L (D_ixRowN (j:=4) rfl rfl rfl rfl (by decide)) rfl ?_)
 | (refine pS (S_storeG (boL.map dC) rfl rfl rfl rfl rfl rfl (by simp [alL]) (by simp [alL,boL]) (fun x hx=>by obtain ⟨p,_,rfl⟩:=List.mem_map.1 hx;rfl) rfl (by simp [alL])) ?_)
 | (apply p1 (hd:=rfl);case hop=>first|(apply D_move;rfl)|(apply D_assign;rfl)|(apply D_idxA0;rfl;rfl;omega;(show (_ : Nat) < 4;decide))|exact D_sc (D_int rfl rfl rfl) (hiE _)|exact D_sc (D_eqA rfl rfl rfl rfl rfl rfl rfl) (hlE _)|(apply D_pc some29_pc;rfl;exact .nil)|(apply D_pc htx;rfl;exact .same rfl .nil)|(apply D_pc hkd;rfl;exact .same rfl .nil)|(apply D_pc hfo;rfl;exact .same rfl .nil)|(apply D_pc hcu;rfl;exact .same rfl .nil)|(apply D_pc hh1;rfl;exact .same rfl (.same rfl .nil))|(apply D_pc hh2;rfl;exact .same rfl (.same rfl .nil))|(apply D_pc hh3;rfl;exact .niln rfl (.same rfl .nil))|(apply D_pc hat1;rfl;exact .same rfl .nil)|(apply D_pickT;rfl;rfl)|(apply D_lenM;rfl)|(apply D_ext;rfl;rfl)|(apply D_loadW;rfl;rfl)|(apply D_idxAn;rfl;rfl;(first|omega|(simp;done)))|(apply D_lit;rfl;rfl;rfl;rfl)|exact D_build rfl|exact D_buildA rfl|exact D_fldB rfl)
 | refine W_seq ?_
 | refine W_region ?_
 | refine WL_nil ?_
 | (refine idG ?_;refine gr rfl rfl ?_)
 | refine tn ?_
 | (refine idA ?_;refine m_var rfl rfl rfl rfl rfl rfl rfl ?_)
  all_goals try contradiction
  refine WL_rowM 148 1 (els:=boL.map dC) rfl rfl rfl (by decide) ?_
  intro sp2
  refine WL_frz 148 1 9 (els:=boL.map dC) (sp:=sp2) rfl rfl (by decide) (fun e he=>by obtain ⟨p,_,rfl⟩:=List.mem_map.1 he;rfl) ?_
  repeat' first
 | (apply p1 (hd:=rfl);case hop=>first|(apply D_move;rfl)|(apply D_assign;rfl)|exact D_sc (D_int rfl rfl rfl) (hiE _)|exact PPOp.wk (D_build rfl) fack|(apply D_pc some29_pc;rfl;exact .nil)|(apply D_pc hal;rfl;exact .nil)|(apply D_pc hat2;rfl;exact .same rfl .nil)|(apply D_pc htz;rfl;exact .same rfl .nil)|(apply D_pc hkz;rfl;exact .same rfl .nil)|(apply D_pc hbz;rfl;exact .same rfl (.same rfl .nil))|(apply D_pc hb5;rfl;exact .same rfl (.niln rfl .nil))|(apply D_pc hcz;rfl;exact .same rfl .nil)|(apply D_pc hatn;rfl;exact .niln rfl .nil)|(apply D_pc hb4;rfl;exact .same rfl (.same rfl .nil))|(apply D_pickT;rfl;rfl)|(apply D_lenM;rfl)|(apply D_ext;rfl;rfl)|(apply D_lit;rfl;rfl;rfl;rfl))
 | refine W_seq ?_
 | refine W_region ?_
 | refine WL_nil ?_
 | (refine idG ?_;refine gr rfl rfl ?_)
 | refine tn ?_
 | refine W_ret ?_
 | (refine idR ?_;refine ret1 rfl rfl rfl ?_)
 | (refine idA ?_;refine m_var rfl rfl rfl rfl rfl rfl rfl ?_)
 | (refine Le.bool ?_)
  all_goals first|contradiction|rfl|skip
end Go.Proofs
