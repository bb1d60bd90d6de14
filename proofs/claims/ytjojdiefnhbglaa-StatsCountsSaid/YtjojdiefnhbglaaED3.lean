
/- Contracts of the document's datoms: keys, prefixes, sorted; how two stand. -/
import Derived.Test.YtjojdiefnhbglaaED2
import Derived.Test.YtjojdiefnhbglaaED1
import Derived.Test.YtjojdiefnhbglaaEC1
set_option linter.all false
namespace Go.Proofs
open Go.AL Go.Sort
attribute [local irreducible] Go.AL.W Go.AL.WL Go.AL.WD Go.AL.POp Go.AL.PPOp Go.AL.POpS Go.AL.PC Go.AL.AC Go.AL.YW Go.AL.Ret Go.AL.Le Go.AL.thn Go.AL.inBlk Go.AL.scp
instance : Xt Try.prog 173 Extern.BytealgCompare.compare:=⟨run_callFunc_extern Try.func173 (by kernel_rfl) (by kernel_rfl) (by kernel_rfl) (by kernel_rfl)⟩
instance (p : Prop) : BP (dP p) p (¬ p):=⟨fun h=>by rwa [dP_t] at h,fun h=>by rwa [dP_f] at h⟩
instance (s : List UInt8) : BP (wordB s) (WordP s) (¬ WordP s):=⟨fun h=>by unfold wordB at h;simpa using h,fun h=>by unfold wordB at h;simpa using h⟩
instance (v : Val) : BP (mayB v) (MayP v) (¬ MayP v):=⟨fun h=>by unfold mayB at h;rwa [dP_t] at h,fun h=>by unfold mayB at h;rwa [dP_f] at h⟩
set_option maxHeartbeats 4000000 in
theorem num1_pc [GlobF Try.prog] (n : Int) : PC Try.prog 106 [.sc (.int .i64 n)] (.sl none 1 ((num8 n).map byteC)):=by
  refine PC.of_body Try.func106 Try.ntmps106 rfl rfl rfl ?_
  repeat' first
 | (apply p1 (hd:=rfl);case hop=>first|(apply D_move;rfl)|(apply D_assign;rfl)|(apply D_int;rfl;rfl;rfl)|(apply D_conv_int;rfl))
 | refine W_seq ?_
 | refine W_region ?_
 | refine WL_nil ?_
 | refine tn ?_
 | (refine W_block ?_)
  refine W_adopt 4 1 5 rfl ?_
  have h0 : IntKind.u64.wrap (IntKind.u64.wrap n + 9223372036854775808) = (num64 n : Int):=by
    rw [num64_i]
    simp only [IntKind.wrap,IntKind.bits,IntKind.signed,Bool.false_and,Bool.false_eq_true,if_false]
    omega
  have hV:=num64_lt n
  unfold num8
  generalize hN : num64 n = V at *
  refine W_loopR (X:=Nat) (fun i=>[(3,.sc (.int .u64 ((V / 256 ^ i : Nat) : Int))),(4,.sl (some 0) 1 ((lowb V i).map byteC)),(5,.sc (.int .i64 (i : Int)))]) (fun i=>[.tail i 1 5])
    (fun i=>i ≤ 8) (fun i=>8 - i) 0 (by omega) ⟨ieq (by rw [h0];simp),rfl,rfl,trivial⟩ rfl ?_
  intro i hi
  have hl:=lowb_len V i
  repeat' first
 | refine m_lit (d:=16) rfl rfl rfl rfl rfl rfl ?_
 | (apply p1 (hd:=rfl);case hop=>first|(apply D_move;rfl)|(apply D_assign;rfl)|(apply D_int;rfl;rfl;rfl)|(apply D_conv_int;rfl)|(apply D_quo;rfl;rfl;first|omega|((repeat rw [w64 _ (by omega) (by omega)]);omega)|decide)|(apply D_rem;rfl;rfl;first|omega|((repeat rw [w64 _ (by omega) (by omega)]);omega)|decide))
 | refine W_seq ?_
 | refine W_region ?_
 | (refine idC ?_;refine cs rfl (fun _=>?_) (fun _=>?_))
 | refine WL_nil ?_
 | refine tn ?_
 | refine bn ?_
 | refine te ?_
 | (refine idB ?_;refine bh rfl ?_)
 | refine W_skip ?_
 | refine W_block ?_
 | refine W_exit ?_
 | refine W_ret ?_
 | (refine idR ?_;refine ret1 rfl rfl rfl ?_)
 | (refine idAp ?_;refine m_app rfl rfl (by first|rfl|assumption|exact get_set (by assumption)|exact get_set (get_set (by assumption))|exact get_set (get_set (get_set (by assumption)))|((repeat first|assumption|exact get_last|(refine get_last2 ?_;focus (simp;done))|apply get_set|apply get_app|(apply get_ne;focus omega));done)) ?_ rfl rfl ?_ ?_ rfl ?_;(first|rfl|focus (simp only [List.length_map,List.length_append,List.length_cons,List.length_nil];omega)|focus (simp;done)|focus (simp;omega));(first|focus (simp only [List.length_map,List.length_append,List.length_cons,List.length_nil];omega)|focus (simp;done)|focus (simp;omega));(first|focus (simp only [List.length_map,List.length_append,List.length_cons,List.length_nil];omega)|focus (simp;done)|focus (simp;omega)))
  · rename_i hlt
    refine ⟨rfl,i + 1,by omega,by omega,[1],?_⟩
    have hq : V / 256 ^ i < 18446744073709551616:=Nat.lt_of_le_of_lt (Nat.div_le_self _ _) hV
    refine ⟨by decide,fun r hr=>absurd hr (Nat.not_lt_zero r),fun r hr=>(by cases hr),⟨⟨_,rfl,?_⟩,⟨_,rfl,?_⟩,⟨_,rfl,?_⟩,trivial⟩,⟨⟨_,rfl,?_⟩,trivial⟩⟩
    · have e : IntKind.u64.wrap (((V / 256 ^ i : Nat) : Int).tdiv 256) = ((V / 256 ^ (i + 1) : Nat) : Int):=by
        rw [Int.tdiv_eq_ediv_of_nonneg (Int.natCast_nonneg _),show ((V / 256 ^ i : Nat) : Int) / 256 = ((V / 256 ^ (i + 1) : Nat) : Int) by rw [Nat.pow_succ,← Nat.div_div_eq_div_mul];rfl]
        exact u64w _ (Nat.lt_of_le_of_lt (Nat.div_le_self _ _) hV)
      rw [e];exact .pur
    · have e : IntKind.u8.wrap (((V / 256 ^ i : Nat) : Int).tmod 256) = ((nb V i).toNat : Int):=by
        unfold nb
        rw [Int.tmod_eq_emod_of_nonneg (Int.natCast_nonneg _),show ((V / 256 ^ i : Nat) : Int) % 256 = ((V / 256 ^ i % 256 : Nat) : Int) from rfl,u8w]
        simp
      rw [e]
      exact .sl (r:=0) rfl
    · rw [wsucc i (by omega)];exact .pur
    · rw [show ([[AV.sc (.int .u8 (IntKind.u8.wrap (((V / 256 ^ i : Nat) : Int).tmod 256)))]] : List (List AV)).length + (List.map byteC (lowb V i)).length = i + 1 by simp [hl];omega]
      exact .tail _ _ _
  · have : i = 8:=by omega
    subst this
    exact Le.of_tok rfl
noncomputable def valE (v : Val) : List UInt8:=if mayB v then valB v else []
set_option maxHeartbeats 4000000 in
theorem value1_pc [GlobF Try.prog] (v : Val) (hl : v.s.length < 9223372036854775808) : PC Try.prog 107 [eV v] (.tu [.sl none 1 ((valE v).map byteC),.sc (.int .i64 (if mayB v then 0 else 10))]):=by
  have h8:=u8iw v.kind
  have h9:=u8iw v.n
  have hn:=num8_len v.n
  refine PC.of_body Try.func107 Try.ntmps107 rfl rfl rfl ?_
  repeat' first
 | refine m_lit (d:=14) rfl rfl rfl rfl rfl rfl ?_
 | (apply p1 (hd:=rfl);case hop=>first|(apply D_move;rfl)|(apply D_assign;rfl)|(apply D_pc (may1_pc v hl);rfl;exact .same rfl .nil)|(apply D_pc (num1_pc _);rfl;exact .same rfl .nil)|(apply D_load1;rfl)|(apply D_fld;rfl)|(apply D_pickT;rfl;rfl)|(apply D_pickF;rfl;rfl)|(apply D_int;rfl;rfl;rfl)|(apply D_not;rfl)|(apply D_loadW;rfl;rfl)|(apply D_box;rfl;rfl)|(apply D_conv_int;rfl)|(apply D_lit;rfl;rfl;rfl;rfl))
 | refine W_seq ?_
 | refine W_region ?_
 | (refine idC ?_;first|refine c1 rfl ?_|refine cs rfl (fun _=>?_) (fun _=>?_))
 | refine WL_nil ?_
 | (refine idG ?_;first|refine g0f rfl rfl rfl ?_|refine gr rfl rfl ?_|refine gs rfl rfl (fun _=>?_) (fun _=>?_))
 | refine tn ?_
 | refine tr ?_
 | refine W_skip ?_
 | refine W_block ?_
 | refine W_ret ?_
 | (refine idR ?_;refine ret2 rfl rfl rfl rfl ?_ ?_)
 | refine Le.int ?_
 | (refine idAp ?_;refine m_app rfl rfl (by first|rfl|assumption|exact get_set (by assumption)|exact get_set (get_set (by assumption))|exact get_set (get_set (get_set (by assumption)))|((repeat first|assumption|exact get_last|(refine get_last2 ?_;focus (simp;done))|apply get_set|apply get_app|(apply get_ne;focus omega));done)) ?_ rfl rfl ?_ ?_ rfl ?_;(first|rfl|focus (simp only [List.length_map,List.length_append,List.length_cons,List.length_nil,num8_len];omega)|focus (simp;done)|focus (simp;omega));(first|focus (simp only [List.length_map,List.length_append,List.length_cons,List.length_nil,num8_len];omega)|focus (simp;done)|focus (simp;omega));(first|focus (simp only [List.length_map,List.length_append,List.length_cons,List.length_nil,num8_len];omega)|focus (simp;done)|focus (simp;omega)))
  all_goals first
    | (rename_i hm;have hm' : mayB v = false:=(dP_f (p:=MayP v)).symm ▸ hm;first|exact Le.nil (by simp [valE,hm'])|(simp [hm'];done)|(rw [show valE v = [] by simp [valE,hm']];exact Le.nil rfl))
    | (have hm' : mayB v = true:=(dP_t (p:=MayP v)).symm ▸ (by assumption)
       first
         | (simp [hm'];done)
         | (refine Le.tokq ?_;simp only [h8,h9];simp [valE,valB,hm', *];done)
         | skip)
  have hm' : mayB v = true:=(dP_t (p:=MayP v)).symm ▸ (by assumption)
  have hlen:=may_len hm'
  have e0 : v.kind = 3 ∨ v.kind = 4 ∨ v.kind = 7:=by
    have : MayP v:=by assumption
    simp only [MayP] at this;omega
  have ev : valE v = [u8i v.kind] ++ textB v.s:=by simp [valE,valB,hm',e0, *]
  refine W_loopL (X:=Nat) (fun i=>[(1,.ep (vC v)),(5,.sl (some 0) 1 ([[.sc (.int .u8 (u8i v.kind).toNat)]] ++ (esc (v.s.take i)).map byteC)),(6,.sc (.int .i64 (i : Int)))]) (fun i=>[.tail (1 + (esc (v.s.take i)).length) 1 5])
    (fun i=>i ≤ v.s.length) (fun i=>v.s.length - i) 0 (by omega) ⟨rfl,sleq (by simp [esc,h8]),rfl,trivial⟩ (by simp [esc]) ?_
  intro i hi
  have hl':=esc_take_len v.s i
  repeat' first
 | (apply p1 (hd:=rfl);case hop=>first|(apply D_move;rfl)|(apply D_assign;rfl)|(apply D_load1;rfl)|(apply D_fld;rfl)|(apply D_int;rfl;rfl;rfl)|(apply D_len_str;rfl)|(apply D_idxSn;rfl;rfl;(first|omega|(simp;done)))|(apply D_lit;rfl;rfl;rfl;rfl))
 | refine W_seq ?_
 | refine W_region ?_
 | (refine idC ?_;refine cs rfl (fun _=>?_) (fun _=>?_))
 | refine WL_nil ?_
 | refine tn ?_
 | refine bn ?_
 | refine te ?_
 | (refine idB ?_;refine bh rfl ?_)
 | refine W_skip ?_
 | refine W_block ?_
 | refine W_exit ?_
 | refine W_ret ?_
 | (refine idR ?_;refine ret2 rfl rfl rfl rfl ?_ ?_)
 | refine Le.int ?_
 | (refine idAp ?_;refine m_app rfl rfl (by first|rfl|assumption|exact get_set (by assumption)|exact get_set (get_set (by assumption))|exact get_set (get_set (get_set (by assumption)))|((repeat first|assumption|exact get_last|(refine get_last2 ?_;focus (simp;done))|apply get_set|apply get_app|(apply get_ne;focus omega));done)) ?_ rfl rfl ?_ ?_ rfl ?_;(first|rfl|focus (simp only [List.length_map,List.length_append,List.length_cons,List.length_nil];omega)|focus (simp;done)|focus (simp;omega));(first|focus (simp only [List.length_map,List.length_append,List.length_cons,List.length_nil];omega)|focus (simp;done)|focus (simp;omega));(first|focus (simp only [List.length_map,List.length_append,List.length_cons,List.length_nil];omega)|focus (simp;done)|focus (simp;omega)))
  · rename_i h1 h2
    have h1' : i < v.s.length:=by omega
    have e : esc (v.s.take (i + 1)) = esc (v.s.take i) ++ [0,255]:=by rw [esc_succ v.s i h1',if_pos (u8z h2)]
    refine ⟨rfl,i + 1,by omega,by omega,⟨rfl,sleq ?_,ieq (wsucc i (by omega)),trivial⟩,?_⟩
    · rw [e];simp
    · rw [e];simp;omega
  · rename_i h1 h2
    have h1' : i < v.s.length:=by omega
    have e : esc (v.s.take (i + 1)) = esc (v.s.take i) ++ [v.s[i]]:=by rw [esc_succ v.s i h1',if_neg (u8nz h2)]
    refine ⟨rfl,i + 1,by omega,by omega,⟨rfl,sleq ?_,ieq (wsucc i (by omega)),trivial⟩,?_⟩
    · rw [e];simp
    · rw [e];simp;omega
  · have : i = v.s.length:=by omega
    subst this
    rw [List.take_length] at *
    rw [ev]
    exact Le.tokq (by simp [textB])
  · simp [hm']
theorem valE_len (v : Val) : (valE v).length ≤ 2009:=by
  unfold valE
  split
  · rename_i h;have:=may_len h;have:=valB_len v;omega
  · simp
set_option maxHeartbeats 4000000 in
theorem key1_pc [GlobF Try.prog] (l : List Prt) (hl : l.length < 1048576) (hs : ∀ p,p ∈ l → p.v.s.length < 9223372036854775808) : PC Try.prog 79 [.sl none 5 (l.map pC)] (.tu [.sl none 1 ((keyB l).map byteC),.sc (.int .i64 (keyE l))]):=by
  refine PC.of_body Try.func79 Try.ntmps79 rfl rfl rfl ?_
  repeat' first
 | (apply p1 (hd:=rfl);case hop=>first|(apply D_assign;rfl))
 | refine W_seq ?_
 | refine W_region ?_
 | refine WL_nil ?_
 | refine tn ?_
 | (refine W_block ?_)
  refine W_adopt 4 1 5 rfl ?_
  refine W_loopL (X:=Nat) (fun i=>[(0,.sl none 5 (l.map pC)),(4,.sl (some 0) 1 (((l.take i).flatMap partB).map byteC)),(5,.sc (.int .i64 (i : Int)))]) (fun i=>[.tail ((l.take i).flatMap partB).length 1 5])
    (fun i=>i ≤ l.length ∧ ∀ p,p ∈ l.take i → PartP p) (fun i=>l.length - i) 0 ⟨by omega,fun p hp=>by simp at hp⟩ ⟨rfl,rfl,rfl,trivial⟩ rfl ?_
  rintro i ⟨hi,hz⟩
  have hf:=flat_len2 hz
  have ht : (l.take i).length ≤ l.length:=by simp only [List.length_take];omega
  repeat' first
 | (apply p1 (hd:=rfl);case hop=>first|(apply D_move;rfl)|(apply D_assign;rfl)|(apply D_pc (num1_pc _);rfl;exact .same rfl .nil)|(apply D_pc (value1_pc _ (hs _ (List.getElem_mem _)));rfl;exact .same rfl .nil)|(apply D_load1;rfl)|(apply D_fld;rfl)|(apply D_int;rfl;rfl;rfl)|(apply D_lenM;rfl)|(apply D_ext;rfl;rfl)|(apply D_not;rfl)|(apply D_loadW;rfl;rfl)|(apply D_idxAn;rfl;rfl;(first|omega|(simp;done))))
 | refine W_seq ?_
 | refine W_region ?_
 | (refine idC ?_;refine cs rfl (fun _=>?_) (fun _=>?_))
 | refine WL_nil ?_
 | refine tn ?_
 | refine tr ?_
 | refine br ?_
 | refine te ?_
 | (refine idB ?_;refine bh rfl ?_)
 | refine W_skip ?_
 | refine W_block ?_
 | refine W_exit ?_
 | refine W_ret ?_
 | (refine idR ?_;refine ret2 rfl rfl rfl rfl ?_ ?_)
 | refine Le.int ?_
 | (refine idAp ?_;refine m_app rfl rfl (by first|rfl|assumption|exact get_set (by assumption)|exact get_set (get_set (by assumption))|exact get_set (get_set (get_set (by assumption)))|((repeat first|assumption|exact get_last|(refine get_last2 ?_;focus (simp;done))|apply get_set|apply get_app|(apply get_ne;focus omega));done)) ?_ rfl rfl ?_ ?_ rfl ?_;(first|rfl|focus (simp only [List.length_map,List.length_append,List.length_cons,List.length_nil,num8_len];omega)|focus (simp;done)|focus (simp;omega));(first|focus (simp only [List.length_map,List.length_append,List.length_cons,List.length_nil,num8_len];omega)|focus (simp;done)|focus (simp;omega));(first|focus (simp only [List.length_map,List.length_append,List.length_cons,List.length_nil,num8_len];omega)|focus (simp;done)|focus (simp;omega)))
  · rename_i h1 h2
    have h1' : i < l.length:=by omega
    have e : partB l[i] = num8 l[i].n:=by simp [partB,h2]
    refine ⟨rfl,i + 1,⟨by omega,take_all h1' hz (fun h=>by rw [h2] at h;cases h)⟩,by omega,⟨rfl,sleq ?_,ieq (wsucc i (by omega)),trivial⟩,?_⟩
    · rw [flat_succ l i h1',e,List.map_append]
    · rw [flat_succ l i h1',e,List.length_append];simp
  · rename_i h1 h2 h3
    have : ¬ ∀ p,p ∈ l → PartP p:=fun h=>by
      have:=h _ (List.getElem_mem (show i < l.length by omega)) h2
      simp [this] at h3
    rw [show keyB l = [] by simp only [keyB,if_neg this]]
    exact Le.nil rfl
  · rename_i h1 h2 h3
    have : ¬ ∀ p,p ∈ l → PartP p:=fun h=>by
      have:=h _ (List.getElem_mem (show i < l.length by omega)) h2
      simp [this] at h3
    rw [show keyE l = 10 by simp only [keyE,if_neg this]]
    split
    · rename_i h4;rw [if_pos h4] at h3;exact absurd rfl h3
    · rfl
  · rename_i h1 h2 h3
    have h1' : i < l.length:=by omega
    have hm : mayB l[i].v = true:=by
      cases hm : mayB l[i].v
      · simp [hm] at h3
      · rfl
    have hv:=valE_len l[i].v
    have e : partB l[i] = valE l[i].v:=by simp [partB,h2,valE,hm]
    repeat' first
 | (apply p1 (hd:=rfl);case hop=>first|(apply D_move;rfl)|(apply D_assign;rfl)|(apply D_int;rfl;rfl;rfl))
 | refine W_region ?_
 | refine WL_nil ?_
 | refine tn ?_
 | refine bn ?_
 | (refine idAp ?_;refine m_app rfl rfl (by first|rfl|assumption|exact get_set (by assumption)|exact get_set (get_set (by assumption))|exact get_set (get_set (get_set (by assumption)))|((repeat first|assumption|exact get_last|(refine get_last2 ?_;focus (simp;done))|apply get_set|apply get_app|(apply get_ne;focus omega));done)) ?_ rfl rfl ?_ ?_ rfl ?_;(first|rfl|focus (simp only [List.length_map,List.length_append,List.length_cons,List.length_nil];omega)|focus (simp;done)|focus (simp;omega));(first|focus (simp only [List.length_map,List.length_append,List.length_cons,List.length_nil];omega)|focus (simp;done)|focus (simp;omega));(first|focus (simp only [List.length_map,List.length_append,List.length_cons,List.length_nil];omega)|focus (simp;done)|focus (simp;omega)))
    refine ⟨rfl,i + 1,⟨by omega,take_all h1' hz (fun _=>hm)⟩,by omega,⟨rfl,sleq ?_,ieq (wsucc i (by omega)),trivial⟩,?_⟩
    · rw [flat_succ l i h1',e,List.map_append]
    · rw [flat_succ l i h1',e,List.length_append];simp
  · have : i = l.length:=by omega
    subst this
    rw [List.take_length] at *
    rw [show keyB l = l.flatMap partB by simp only [keyB,if_pos hz]]
    exact Le.of_tok rfl
  · have : i = l.length:=by omega
    subst this
    rw [List.take_length] at *
    simp only [keyE,if_pos hz]
def shapeS (o : Int) : List UInt8:=if o = 1 then [101,97,118] else if o = 2 then [97,101,118] else if o = 3 then [97,118,101] else [118,97,101]
set_option maxHeartbeats 1000000 in
theorem shape_pc [GlobF Try.prog] (o : Int) : PC Try.prog 105 [.sc (.int .i64 o)] (str (shapeS o)):=by
  refine PC.of_body Try.func105 Try.ntmps105 rfl rfl rfl ?_
  repeat' first
 | (apply p1 (hd:=rfl);case hop=>first|(apply D_move;rfl)|(apply D_assign;rfl)|(apply D_int;rfl;rfl;rfl))
 | refine W_seq ?_
 | refine W_region ?_
 | (refine idC ?_;refine cs rfl (fun _=>?_) (fun _=>?_))
 | refine WL_nil ?_
 | refine tn ?_
 | refine tr ?_
 | refine br ?_
 | refine bn ?_
 | refine W_skip ?_
 | refine W_block ?_
 | refine W_ret ?_
 | (refine idR ?_;refine ret1 rfl rfl rfl ?_)
 | (refine Le.str ?_)
  all_goals simp [shapeS, *]
set_option maxHeartbeats 1000000 in
theorem dhas1_pc [GlobF Try.prog] (o : Int) (d : Dat) : PC Try.prog 72 [.sc (.int .i64 o),eD d] (.sc (.bool (dP (hasP o d)))):=by
  refine PC.of_body Try.func72 Try.ntmps72 rfl rfl rfl ?_
  repeat' first
 | (apply p1 (hd:=rfl);case hop=>first|(apply D_move;rfl)|(apply D_assign;rfl)|(apply D_load1;rfl)|(apply D_fld;rfl)|(apply D_pickT;rfl;rfl)|(apply D_pickF;rfl;rfl)|(apply D_int;rfl;rfl;rfl)|(apply D_box;rfl;rfl))
 | refine W_seq ?_
 | refine W_region ?_
 | refine WL_nil ?_
 | (refine idG ?_;first|refine g0t rfl rfl rfl ?_|refine g0f rfl rfl rfl ?_|refine g0u rfl rfl rfl ?_|refine gr rfl rfl ?_|refine gs rfl rfl (fun _=>?_) (fun _=>?_))
 | refine tn ?_
 | refine W_ret ?_
 | (refine idR ?_;refine ret1 rfl rfl rfl ?_)
 | (refine Le.bool ?_)
  all_goals (refine dP_eq ?_;unfold hasP;first|(simp [iEq_t];omega)|(simp only [iEq_t];omega))
theorem shape_cases (o : Int) : o = 1 ∨ o = 2 ∨ o = 3 ∨ (shapeS o = [118,97,101] ∧ ∀ d,part7 o d = part7 4 d):=by
  by_cases h1 : o = 1
  · exact .inl h1
  by_cases h2 : o = 2
  · exact .inr (.inl h2)
  by_cases h3 : o = 3
  · exact .inr (.inr (.inl h3))
  · exact .inr (.inr (.inr ⟨by simp [shapeS, *],fun d=>by simp [part7,fst1,fst2,fst3, *]⟩))
set_option maxHeartbeats 4000000 in
theorem parts1_pc [GlobF Try.prog] (o : Int) (d : Dat) : PC Try.prog 78 [.sc (.int .i64 o),eD d] (.sl none 5 ((part7 o d).map pC)):=by
  have key : ∀ (a b c : UInt8) (q : List Prt),PC Try.prog 105 [.sc (.int .i64 o)] (str [a,b,c]) → ((([a,b,c],q) : List UInt8 × List Prt) = ([101,97,118],[prtN d.e,prtN d.a,prtV d.v]) ∨ (([a,b,c],q) : List UInt8 × List Prt) = ([97,101,118],[prtN d.a,prtN d.e,prtV d.v]) ∨
      (([a,b,c],q) : List UInt8 × List Prt) = ([97,118,101],[prtN d.a,prtV d.v,prtN d.e]) ∨ (([a,b,c],q) : List UInt8 × List Prt) = ([118,97,101],[prtV d.v,prtN d.a,prtN d.e])) →
      part7 o d = q ++ [prtN d.t,prtN (if d.add then 0 else 1),prtN d.fr,prtN d.to] → PC Try.prog 78 [.sc (.int .i64 o),eD d] (.sl none 5 ((part7 o d).map pC)):=by
    intro a b c q hsh hq h7
    refine PC.of_body Try.func78 Try.ntmps78 rfl rfl rfl ?_
    repeat' first
 | (apply p1 (hd:=rfl);case hop=>first|(apply D_move;rfl)|(apply D_assign;rfl)|(apply D_pc hsh;rfl;exact .same rfl .nil)|(apply D_box;rfl;rfl))
 | refine W_seq ?_
 | refine W_region ?_
 | refine WL_nil ?_
 | refine tn ?_
 | (refine W_block ?_)
    refine W_adopt 6 5 79 rfl ?_
    have hql : q.length = 3:=by rcases hq with h|h|h|h <;> (cases h;rfl)
    refine W_loopL (X:=Nat) (fun i=>[(3,.ep (dC d)),(5,str [a,b,c]),(6,.sl (some 0) 5 ((q.take i).map pC)),(7,.sc (.int .i64 (i : Int)))]) (fun i=>[.tail i 5 79])
      (fun i=>i ≤ 3) (fun i=>3 - i) 0 (by omega) ⟨rfl,rfl,rfl,rfl,trivial⟩ rfl ?_
    intro i hi
    have hc : i = 0 ∨ i = 1 ∨ i = 2 ∨ i = 3:=by omega
    rcases hq with hq|hq|hq|hq <;> cases hq <;> rcases hc with rfl|rfl|rfl|rfl
    all_goals
      repeat' first
 | (apply p1 (hd:=rfl);case hop=>first|(apply D_move;rfl)|(apply D_assign;rfl)|(apply D_load1;rfl)|(apply D_fld;rfl)|(apply D_int;rfl;rfl;rfl)|(apply D_loadA;rfl;rfl)|(apply D_idxSn;rfl;rfl;(first|omega|(simp;done)))|(apply D_lit;rfl;rfl;rfl;rfl)|exact D_build rfl)
 | refine W_seq ?_
 | refine W_region ?_
 | (refine idC ?_;refine cs rfl (fun _=>?_) (fun _=>?_))
 | refine WL_nil ?_
 | refine tn ?_
 | refine bn ?_
 | refine te ?_
 | (refine idB ?_;refine bh rfl ?_)
 | refine W_skip ?_
 | refine W_block ?_
 | refine W_exit ?_
 | refine W_ret ?_
 | (refine idR ?_;refine ret1 rfl rfl rfl ?_)
 | (refine idAp ?_;refine m_appB rfl rfl rfl (by first|rfl|assumption|exact get_set (by assumption)|exact get_set (get_set (by assumption))|exact get_set (get_set (get_set (by assumption)))|((repeat first|assumption|exact get_last|(refine get_last2 ?_;focus (simp;done))|apply get_set|apply get_app|(apply get_ne;focus omega));done)) ?_ rfl rfl ?_ ?_ rfl ?_;(first|rfl|focus (simp only [List.length_map,List.length_append,List.length_cons,List.length_nil];omega)|focus (simp;done)|focus (simp;omega));(first|focus (simp only [List.length_map,List.length_append,List.length_cons,List.length_nil];omega)|focus (simp;done)|focus (simp;omega));(first|focus (simp only [List.length_map,List.length_append,List.length_cons,List.length_nil];omega)|focus (simp;done)|focus (simp;omega)))
    all_goals first
      | omega
      | contradiction
      | skip
    all_goals first
      | exact ⟨rfl,1,by omega,by omega,⟨rfl,rfl,rfl,ieq (wsucc _ (by omega)),trivial⟩,rfl⟩
      | exact ⟨rfl,2,by omega,by omega,⟨rfl,rfl,rfl,ieq (wsucc _ (by omega)),trivial⟩,rfl⟩
      | exact ⟨rfl,3,by omega,by omega,⟨rfl,rfl,rfl,ieq (wsucc _ (by omega)),trivial⟩,rfl⟩
      | (have h : d.add = true:=by assumption
         rw [h7,if_pos h];exact Le.tokq rfl)
      | (have h : d.add = false:=by assumption
         rw [h7,if_neg (by rw [h];exact Bool.false_ne_true)];exact Le.tokq rfl)
  rcases shape_cases o with rfl|rfl|rfl | ⟨h1,h2⟩
  · exact key _ _ _ _ (shape_pc 1) (.inl rfl) rfl
  · exact key _ _ _ _ (shape_pc 2) (.inr (.inl rfl)) rfl
  · exact key _ _ _ _ (shape_pc 3) (.inr (.inr (.inl rfl))) rfl
  · exact key _ _ _ _ (h1 ▸ shape_pc o) (.inr (.inr (.inr rfl))) (by rw [h2];rfl)
set_option maxHeartbeats 4000000 in
theorem cmp2_pc [GlobF Try.prog] (a b : List Prt) (ha : a.length < 9223372036854775808) (hs : ∀ p,p ∈ a → p.v.s.length < 9223372036854775808) : PC Try.prog 80 [.sl none 5 (a.map pC),.sl none 5 (b.map pC)] (.sc (.int .i64 (cmpPs a b))):=by
  refine PC.of_body Try.func80 Try.ntmps80 rfl rfl rfl ?_
  repeat' first
 | (apply p1 (hd:=rfl);case hop=>first|(apply D_assign;rfl))
 | refine W_seq ?_
 | refine W_region ?_
 | refine WL_nil ?_
 | refine tn ?_
 | (refine W_block ?_)
  refine W_loopL (X:=Nat) (fun i=>[(0,.sl none 5 (a.map pC)),(1,.sl none 5 (b.map pC)),(5,.sc (.int .i64 (i : Int)))]) (fun _=>[])
    (fun i=>i ≤ a.length ∧ ∀ (j : Nat) (h : j < a.length) (h' : j < b.length),j < i → standI a[j] b[j] = 0) (fun i=>a.length - i) 0 ⟨by omega,fun j h h' hj=>absurd hj (Nat.not_lt_zero j)⟩ ⟨rfl,rfl,rfl,trivial⟩ rfl ?_
  rintro i ⟨hi,hz⟩
  repeat' first
 | (apply p1 (hd:=rfl);case hop=>first|(apply D_move;rfl)|(apply D_assign;rfl)|(apply D_load1;rfl)|(apply D_fld;rfl)|(apply D_pickT;rfl;rfl)|(apply D_pickF;rfl;rfl)|(apply D_int;rfl;rfl;rfl)|(apply D_lenM;rfl)|(apply D_idxAn;rfl;rfl;(first|omega|(simp;done))))
 | refine W_seq ?_
 | refine W_region ?_
 | (refine idC ?_;first|refine c0 rfl ?_|refine cs rfl (fun _=>?_) (fun _=>?_))
 | refine WL_nil ?_
 | (refine idG ?_;first|refine g0t rfl rfl rfl ?_|refine gr rfl rfl ?_|refine gs rfl rfl (fun _=>?_) (fun _=>?_))
 | refine tn ?_
 | refine tr ?_
 | refine br ?_
 | refine bn ?_
 | refine te ?_
 | (refine idB ?_;refine bh rfl ?_)
 | refine W_skip ?_
 | refine W_block ?_
 | refine W_exit ?_
 | refine W_ret ?_
 | (refine idR ?_;refine ret1 rfl rfl rfl ?_)
 | refine Le.int ?_
 | (refine idW ?_;refine W_draw0 rfl ?_)
 | (apply d1 (hd:=rfl);case hop=>first|(apply D_move;rfl)|(apply D_assign;rfl)|(apply D_pc (compare1_pc _ _ (hs _ (List.getElem_mem _)));rfl;exact .same rfl (.same rfl .nil))|(apply D_load1;rfl)|(apply D_fld;rfl)|(apply D_int;rfl;rfl;rfl)|(apply D_loadW;rfl;rfl)|(apply D_idxAn;rfl;rfl;(first|omega|(simp;done))))
 | (refine WD_nil (by first|decide +kernel|kernel_rfl|rfl) ?_)
  · rename_i h1 h2 h3 h4
    have e : standI a[i] b[i] = cmpV a[i].v b[i].v:=by simp [standI,h3]
    rw [← e] at h4 ⊢
    exact (cmpPs_at i (by omega) (by omega) hz h4).symm
  · rename_i h1 h2 h3 h4
    have e : standI a[i] b[i] = 0:=by simp [standI,h3,h4]
    refine ⟨rfl,i + 1,⟨by omega,fun j h h' hj=>?_⟩,by omega,⟨rfl,rfl,ieq (wsucc i (by omega)),trivial⟩,rfl⟩
    by_cases q : j = i
    · subst q;exact e
    · exact hz j h h' (by omega)
  · rename_i h1 h2 h3 h4
    have e : standI a[i] b[i] = -1:=by simp [standI,h3,cmpI,h4]
    rw [cmpPs_at i (by omega) (by omega) hz (by rw [e];decide),e]
  · rename_i h1 h2 h3 h4 h5
    have e : standI a[i] b[i] = 1:=by simp only [standI,h3,cmpI,Bool.false_eq_true,if_false];rw [if_neg (by omega),if_pos h5]
    rw [cmpPs_at i (by omega) (by omega) hz (by rw [e];decide),e]
  · rename_i h1 h2 h3 h4 h5
    have e : standI a[i] b[i] = 0:=by simp only [standI,h3,cmpI,Bool.false_eq_true,if_false];rw [if_neg (by omega),if_neg (by omega)]
    refine ⟨rfl,i + 1,⟨by omega,fun j h h' hj=>?_⟩,by omega,⟨rfl,rfl,ieq (wsucc i (by omega)),trivial⟩,rfl⟩
    by_cases q : j = i
    · subst q;exact e
    · exact hz j h h' (by omega)
  · exact (cmpPs_end i (.inr (by omega)) hz).symm
  · exact (cmpPs_end i (.inl (by omega)) hz).symm
set_option maxHeartbeats 4000000 in
theorem dkey1_pc [GlobF Try.prog] (o : Int) (d : Dat) (hl : d.v.s.length < 9223372036854775808) : PC Try.prog 39 [.sc (.int .i64 o),eD d] (.tu [.sl none 1 ((dkeyB o d).map byteC),.sc (.int .i64 (dkeyE o d))]):=by
  refine PC.of_body Try.func39 Try.ntmps39 rfl rfl rfl ?_
  repeat' first
 | (apply p1 (hd:=rfl);case hop=>first|(apply D_move;rfl)|(apply D_assign;rfl)|(apply D_pc (dmay1_pc d hl);rfl;exact .same rfl .nil)|(apply D_pc (dhas1_pc o d);rfl;exact .same rfl (.same rfl .nil))|(apply D_pc (parts1_pc o d);rfl;exact .same rfl (.same rfl .nil))|(apply D_pc (key1_pc (part7 o d) (by rw [part7_len];decide) (part7_all hl (fun n=>(by decide : (0 : Nat) < 9223372036854775808))));rfl;exact .same rfl .nil)|(apply D_pickT;rfl;rfl)|(apply D_pickF;rfl;rfl)|(apply D_int;rfl;rfl;rfl)|(apply D_ext;rfl;rfl)|(apply D_not;rfl)|(apply D_loadW;rfl;rfl)|(apply D_box;rfl;rfl))
 | refine W_seq ?_
 | refine W_region ?_
 | (refine idC ?_;first|refine c1 rfl ?_|refine cs rfl (fun _=>?_) (fun _=>?_))
 | refine WL_nil ?_
 | (refine idG ?_;first|refine g0f rfl rfl rfl ?_|refine gr rfl rfl ?_|refine gs rfl rfl (fun _=>?_) (fun _=>?_))
 | refine tn ?_
 | refine tr ?_
 | refine W_skip ?_
 | refine W_ret ?_
 | (refine idR ?_;refine ret2 rfl rfl rfl rfl ?_ ?_)
 | (refine Le.int ?_)
  all_goals first
    | (have ho : 1 ≤ o ∧ o ≤ 4:=by omega
       have hm : dmayP d:=by assumption
       have hh : hasP o d:=by assumption
       have:=part7_P (o:=o) hm.2.2.2.2.1
       first
         | (rw [show dkeyB o d = keyB (part7 o d) by simp only [dkeyB,keyB,if_pos this];simp [*]];exact Le.of_eq rfl)
         | (simp only [dkeyE,keyE,if_pos this];simp [*]))
    | (have ho : ¬ (1 ≤ o ∧ o ≤ 4):=by omega
       first
         | (rw [show dkeyB o d = [] by rw [dkeyB,if_neg ho]];exact Le.nil rfl)
         | (rw [dkeyE,if_neg ho]))
    | (have ho : 1 ≤ o ∧ o ≤ 4:=by omega
       have hn : ¬ (dmayP d ∧ hasP o d):=by
         rintro ⟨h1,h2⟩
         first|exact absurd h1 (by assumption)|exact absurd h2 (by assumption)
       first
         | (rw [show dkeyB o d = [] by rw [dkeyB,if_pos ho,if_neg hn]];exact Le.nil rfl)
         | (rw [dkeyE,if_pos ho,if_neg hn]))
noncomputable instance : DecidableEq Val:=fun _ _=>Classical.propDecidable _
set_option maxHeartbeats 4000000 in
theorem dcmp1_pc [GlobF Try.prog] (o : Int) (a b : Dat) (ha : a.v.s.length < 9223372036854775808) : PC Try.prog 40 [.sc (.int .i64 o),eD a,eD b] (.sc (.int .i64 (if 1 ≤ o ∧ o ≤ 4 then cmpPs (part7 o a) (part7 o b) else 0))):=by
  refine PC.of_body Try.func40 Try.ntmps40 rfl rfl rfl ?_
  repeat' first
 | (apply p1 (hd:=rfl);case hop=>first|(apply D_move;rfl)|(apply D_assign;rfl)|(apply D_pc (parts1_pc o a);rfl;exact .same rfl (.same rfl .nil))|(apply D_pc (parts1_pc o b);rfl;exact .same rfl (.same rfl .nil))|(apply D_pc (cmp2_pc (part7 o a) (part7 o b) (by rw [part7_len];decide) (part7_all ha (fun n=>(by decide : (0 : Nat) < 9223372036854775808))));rfl;exact .same rfl (.same rfl .nil))|(apply D_pickT;rfl;rfl)|(apply D_pickF;rfl;rfl)|(apply D_int;rfl;rfl;rfl)|(apply D_loadW;rfl;rfl)|(apply D_box;rfl;rfl))
 | refine W_seq ?_
 | refine W_region ?_
 | (refine idC ?_;first|refine c1 rfl ?_|refine cs rfl (fun _=>?_) (fun _=>?_))
 | refine WL_nil ?_
 | (refine idG ?_;first|refine g0f rfl rfl rfl ?_|refine gr rfl rfl ?_|refine gs rfl rfl (fun _=>?_) (fun _=>?_))
 | refine tn ?_
 | refine tr ?_
 | refine W_skip ?_
 | refine W_ret ?_
 | (refine idR ?_;refine ret1 rfl rfl rfl ?_)
 | (refine Le.int ?_)
  all_goals first
    | (rw [if_neg (by omega)])
    | (rw [if_pos (by omega)])
instance : Inhabited Val:=⟨val0⟩
def encD (d : Dat) : List Value:=[.int .i64 d.e,.int .i64 d.a,.int .i64 d.v.kind,.int .i64 d.v.n,.string ⟨d.v.s.toArray⟩,.int .i64 d.t,.bool d.add,.int .i64 d.fr,.int .i64 d.to]
instance : Inhabited Dat:=⟨dat0⟩
theorem encD_inj {a b : Dat} (h : encD a = encD b) : a = b:=by
  obtain ⟨e,c,⟨k,n,s⟩,t,ad,fr,to⟩:=a
  obtain ⟨e',c',⟨k',n',s'⟩,t',ad',fr',to'⟩:=b
  simp [encD] at h
  obtain ⟨h1,h2,h3,h4,h5,h6,h7,h8,h9⟩:=h
  subst h1;subst h2;subst h3;subst h4;subst h5;subst h6;subst h7;subst h8;subst h9;rfl
noncomputable def hasB (o : Int) (d : Dat) : Bool:=dP (hasP o d)
theorem filt_succ {α : Type} (p : α → Bool) (l : List α) (j : Nat) (h : j < l.length) : (l.take (j + 1)).filter p = (l.take j).filter p ++ (if p l[j] then [l[j]] else []):=by
  rw [List.take_succ_eq_append_getElem h,List.filter_append]
  congr 1
  simp only [List.filter_cons,List.filter_nil]
open Classical in
noncomputable def dsortL (o : Int) (l : List Dat) : List Dat:=if 1 ≤ o ∧ o ≤ 4 then sortC (cmpD o) (l.filter (hasB o)) else []
theorem dsortL_len (o : Int) (l : List Dat) : (dsortL o l).length ≤ l.length:=by
  unfold dsortL
  split
  · exact Nat.le_trans (sortC_len _ _) (List.length_filter_le _ _)
  · exact Nat.zero_le _
noncomputable instance : DecidableEq Dat:=fun _ _=>Classical.propDecidable _
theorem has1b_pc [GlobF Try.prog] (o : Int) (d : Dat) : PC Try.prog 72 [.sc (.int .i64 o),eD d] (.sc (.bool (hasB o d))):=dhas1_pc o d
theorem dcmp1c_pc [GlobF Try.prog] (o : Int) (ho : 1 ≤ o ∧ o ≤ 4) (a b : Dat) (ha : a.v.s.length < 9223372036854775808) : PC Try.prog 40 [.sc (.int .i64 o),eD a,eD b] (.sc (.int .i64 (cmpD o a b))):=by
  have:=dcmp1_pc o a b ha
  rw [if_pos ho] at this;exact this
theorem insL_app {α : Type} (c : α → α → Int) (m : List α) (x : α) : insL c (m ++ [x]) = insC c x (insL c m):=by unfold insL;rw [List.foldl_append];rfl
theorem insL_le {α : Type} (c : α → α → Int) (m : List α) : (insL c m).length ≤ m.length:=by
  have:=insL_len c m m.length (Nat.le_refl _)
  rwa [List.take_length] at this
theorem insD_mem (o : Int) (l : List Dat) (p : Dat) : p ∈ insL (cmpD o) l → p ∈ l:=by
  unfold insL
  rw [fold_sortC (wc_cmpD o) (cmpD_z o),sortC_mem];exact id
theorem insD_eq (o : Int) (l : List Dat) (ho : 1 ≤ o ∧ o ≤ 4) : insL (cmpD o) (l.filter (hasB o)) = dsortL o l:=by
  rw [dsortL,if_pos ho];exact fold_sortC (wc_cmpD o) (cmpD_z o) _
attribute [local irreducible] insL insC cmpD dsortL hasB in
set_option maxHeartbeats 8000000 in
theorem dsort1_pc [GlobF Try.prog] (o : Int) (l : List Dat) (hl : l.length * 80 ≤ 140737488355328) (hs : ∀ p,p ∈ l → p.v.s.length < 9223372036854775808) : PC Try.prog 36 [.sc (.int .i64 o),.sl none 9 (l.map dC)] (.sl none 9 ((dsortL o l).map dC)):=by
  by_cases ho : 1 ≤ o ∧ o ≤ 4
  rotate_left 1
  · rw [dsortL,if_neg ho]
    refine PC.of_body Try.func36 Try.ntmps36 rfl rfl rfl ?_
    repeat' first
 | (apply p1 (hd:=rfl);case hop=>first|(apply D_move;rfl)|(apply D_assign;rfl)|(apply D_pickT;rfl;rfl)|(apply D_pickF;rfl;rfl)|(apply D_int;rfl;rfl;rfl))
 | refine W_seq ?_
 | refine W_region ?_
 | (refine idC ?_;first|refine c1 rfl ?_|refine cs rfl (fun _=>?_) (fun _=>?_))
 | refine WL_nil ?_
 | (refine idG ?_;first|refine g0f rfl rfl rfl ?_|refine gr rfl rfl ?_|refine gs rfl rfl (fun _=>?_) (fun _=>?_))
 | refine tn ?_
 | refine tr ?_
 | refine W_skip ?_
 | refine W_block ?_
 | refine W_ret ?_
 | (refine idR ?_;refine ret1 rfl rfl rfl ?_)
    all_goals first
      | exact Le.nil rfl
      | (exfalso;apply ho;omega)
  rw [← insD_eq o l ho]
  refine PC.of_body Try.func36 Try.ntmps36 rfl rfl rfl ?_
  repeat' first
 | (apply p1 (hd:=rfl);case hop=>first|(apply D_move;rfl)|(apply D_assign;rfl)|(apply D_pickT;rfl;rfl)|(apply D_pickF;rfl;rfl)|(apply D_int;rfl;rfl;rfl))
 | refine W_seq ?_
 | refine W_region ?_
 | (refine idC ?_;first|refine c1 rfl ?_|refine cs rfl (fun _=>?_) (fun _=>?_))
 | refine WL_nil ?_
 | (refine idG ?_;first|refine g0f rfl rfl rfl ?_|refine gr rfl rfl ?_|refine gs rfl rfl (fun _=>?_) (fun _=>?_))
 | refine tn ?_
 | refine tr ?_
 | refine W_skip ?_
 | refine W_block ?_
 | refine W_ret ?_
 | (refine idR ?_;refine ret1 rfl rfl rfl ?_)
  · exfalso;omega
  · exfalso;omega
  refine W_adopt 5 9 36 rfl ?_
  refine W_ren (rg':=[(0,.sc (.int .i64 o)),(1,.sl none 9 (l.map dC)),(5,.sl none 9 (([] : List Dat).map dC)),(6,.sc (.int .i64 0))]) (h':=[]) [] ⟨by decide,fun r hr=>absurd hr (Nat.not_lt_zero r),fun r hr=>(by cases hr),⟨⟨_,rfl,.pur⟩,⟨_,rfl,.pur⟩,⟨_,rfl,.slN⟩,⟨_,rfl,.pur⟩,trivial⟩,trivial⟩ ?_
  refine W_loopR (X:=Nat) (fun i=>[(0,.sc (.int .i64 o)),(1,.sl none 9 (l.map dC)),(5,.sl none 9 ((insL (cmpD o) ((l.take i).filter (hasB o))).map dC)),(6,.sc (.int .i64 (i : Int)))]) (fun _=>[])
    (fun i=>i ≤ l.length) (fun i=>l.length - i) 0 (Nat.zero_le _) ⟨rfl,rfl,by simp [insL,lookO],rfl,trivial⟩ rfl ?_
  intro i hi
  have hlen : (insL (cmpD o) ((l.take i).filter (hasB o))).length ≤ i:=by
    have h1:=insL_le (cmpD o) ((l.take i).filter (hasB o))
    have h2:=List.length_filter_le (hasB o) (l.take i)
    have h3 : (l.take i).length ≤ i:=by rw [List.length_take];omega
    omega
  have hsn : ∀ h : i < l.length,insL (cmpD o) ((l.take (i + 1)).filter (hasB o)) = if hasB o l[i] then insC (cmpD o) l[i] (insL (cmpD o) ((l.take i).filter (hasB o))) else insL (cmpD o) ((l.take i).filter (hasB o)):=fun h=>by
    rw [filt_succ (hasB o) l i h]
    split
    · rw [insL_app]
    · rw [List.append_nil]
  have hfin : i = l.length → insL (cmpD o) ((l.take i).filter (hasB o)) = insL (cmpD o) (l.filter (hasB o)):=fun e=>by rw [e,List.take_length]
  have hOs : ∀ p,p ∈ insL (cmpD o) ((l.take i).filter (hasB o)) → p.v.s.length < 9223372036854775808:=fun p hp=>hs p (List.mem_of_mem_take ((List.mem_filter.1 (insD_mem o _ p hp)).1))
  generalize insL (cmpD o) ((l.take i).filter (hasB o)) = O at *
  repeat' first
 | (apply p1 (hd:=rfl);case hop=>first|(apply D_move;rfl)|(apply D_assign;rfl)|(apply D_pc (has1b_pc o l[i]);rfl;exact .same rfl (.same rfl .nil))|(apply D_int;rfl;rfl;rfl)|(apply D_lenM;rfl)|(apply D_not;rfl)|(apply D_loadW;rfl;rfl)|(apply D_idxAn;rfl;rfl;(first|omega|(simp;done))))
 | refine W_seq ?_
 | refine W_region ?_
 | (refine idC ?_;refine cs rfl (fun _=>?_) (fun _=>?_))
 | refine WL_nil ?_
 | refine tn ?_
 | refine te ?_
 | (refine idB ?_;refine bh rfl ?_)
 | refine W_skip ?_
 | refine W_block ?_
 | refine W_exit ?_
 | refine W_ret ?_
 | (refine idR ?_;refine ret1 rfl rfl rfl ?_)
  · rename_i h1 hx
    have hi1 : i < l.length:=by omega
    have hsn:=hsn hi1
    rw [if_neg (by rw [hx];decide)] at hsn
    refine ⟨rfl,i + 1,by omega,by omega,[],?_⟩
    refine ⟨by decide,fun r hr=>absurd hr (Nat.not_lt_zero r),fun r hr=>(by cases hr),⟨⟨_,rfl,.pur⟩,⟨_,rfl,.pur⟩,⟨_,rfl,?_⟩,⟨_,rfl,?_⟩,trivial⟩,trivial⟩
    · rw [hsn];exact .slN
    · rw [wsucc i (by omega)];exact .pur
  · rename_i h1 hx
    have hi1 : i < l.length:=by omega
    have hsn:=hsn hi1
    rw [if_pos hx] at hsn
    refine W_loopL (X:=Nat) (fun n=>[(0,.sc (.int .i64 o)),(1,.sl none 9 (l.map dC)),(5,.sl none 9 (O.map dC)),(6,.sc (.int .i64 (i : Int))),(8,.sc (.int .i64 (n : Int)))]) (fun _=>[])
      (fun n=>n ≤ O.length ∧ ∀ (j : Nat) (h : j < O.length),j < n → cmpD o O[j] l[i] < 0) (fun n=>O.length - n) 0 ⟨Nat.zero_le _,fun j h hj=>absurd hj (Nat.not_lt_zero j)⟩ ⟨rfl,rfl,rfl,rfl,rfl,trivial⟩ rfl ?_
    rintro n ⟨hn,hz⟩
    have hat:=insC_at (c:=cmpD o) l[i] n O hn hz
    repeat' first
 | (refine W_adopt 9 9 36 rfl ?_)
 | (apply p1 (hd:=rfl);case hop=>first|(apply D_move;rfl)|(apply D_assign;rfl)|(apply D_int;rfl;rfl;rfl)|(apply D_loadW;rfl;rfl)|(apply D_idxAn;rfl;rfl;(first|omega|(simp;done)))|(apply D_lit;rfl;rfl;rfl;rfl)|(apply D_slVhM;rfl;rfl;all_goals first|omega|((repeat rw [w64 _ (by omega) (by omega)]);omega)|decide)|(apply D_slVlM;rfl;rfl;all_goals first|omega|((repeat rw [w64 _ (by omega) (by omega)]);omega)|decide))
 | refine W_seq ?_
 | refine W_region ?_
 | (refine idC ?_;first|refine c0 rfl ?_|refine cs rfl (fun _=>?_) (fun _=>?_))
 | refine WL_nil ?_
 | refine tn ?_
 | refine bn ?_
 | refine te ?_
 | (refine idB ?_;refine bh rfl ?_)
 | refine W_skip ?_
 | refine W_block ?_
 | refine W_exit ?_
 | (refine idAp ?_;refine m_app rfl rfl (by first|rfl|assumption|exact get_set (by assumption)|exact get_set (get_set (by assumption))|exact get_set (get_set (get_set (by assumption)))|((repeat first|assumption|exact get_last|(refine get_last2 ?_;focus (simp;done))|apply get_set|apply get_app|(apply get_ne;focus omega));done)) ?_ rfl rfl ?_ ?_ rfl ?_;(first|rfl|focus (simp only [List.length_map,List.length_append,List.length_cons,List.length_nil,List.length_take,List.length_drop];omega)|focus (simp;done)|focus (simp;omega));(first|focus (simp only [List.length_map,List.length_append,List.length_cons,List.length_nil,List.length_take,List.length_drop];omega)|focus (simp;done)|focus (simp;omega));(first|focus (simp only [List.length_map,List.length_append,List.length_cons,List.length_nil,List.length_take,List.length_drop];omega)|focus (simp;done)|focus (simp;omega)))
 | (refine idW ?_;refine W_draw0 rfl ?_)
 | (apply d1 (hd:=rfl);case hop=>first|(apply D_move;rfl)|(apply D_pc (dcmp1c_pc o ho _ _ (hOs _ (List.getElem_mem _)));rfl;exact .same rfl (.same rfl (.same rfl .nil)))|(apply D_pickT;rfl;rfl)|(apply D_pickF;rfl;rfl)|(apply D_int;rfl;rfl;rfl)|(apply D_lenM;rfl)|(apply D_loadW;rfl;rfl)|(apply D_idxAn;rfl;rfl;(first|omega|(simp;done))))
 | (refine idDg ?_;first|refine dg0t rfl rfl rfl ?_|refine dgr rfl rfl ?_|refine dgs rfl rfl (fun _=>?_) (fun _=>?_))
 | (refine WD_nil (by first|decide +kernel|kernel_rfl|rfl) ?_)
    all_goals first
      | (have hx : cmpD o O[n] l[i] < 0:=by assumption
         refine ⟨rfl,n + 1,⟨by omega,fun j h hj=>?_⟩,by omega,⟨rfl,rfl,rfl,rfl,ieq (wsucc n (by omega)),trivial⟩,rfl⟩
         by_cases e : j = n
         · subst e;exact hx
         · exact hz j h (by omega))
      | (exfalso;omega)
      | (have hx : cmpD o O[n] l[i] = 0:=by assumption
         have hnl : n < O.length:=by omega
         have e:=(hat.1 hnl (by omega)).1 hx
         refine ⟨rfl,i + 1,by omega,by omega,[],?_⟩
         refine ⟨by decide,fun r hr=>absurd hr (Nat.not_lt_zero r),fun r hr=>(by cases hr),⟨⟨_,rfl,.pur⟩,⟨_,rfl,.pur⟩,⟨_,rfl,?_⟩,⟨_,rfl,?_⟩,trivial⟩,trivial⟩
         · rw [hsn,e];exact .slN
         · rw [wsucc i (by omega)];exact .pur)
      | (have hx : cmpD o O[n] l[i] ≠ 0:=by assumption
         have hnl : n < O.length:=by omega
         have e:=(hat.1 hnl (by omega)).2 hx
         refine ⟨rfl,i + 1,by omega,by omega,[],?_⟩
         refine ⟨by decide,fun r hr=>absurd hr (Nat.not_lt_zero r),fun r hr=>(by cases hr),⟨⟨_,rfl,.pur⟩,⟨_,rfl,.pur⟩,⟨_,rfl,?_⟩,⟨_,rfl,?_⟩,trivial⟩,trivial⟩
         · have e2 : (insL (cmpD o) ((l.take (i + 1)).filter (hasB o))).map dC = [] ++ (O.take (n : Int).toNat).map dC ++ [dC l[i]] ++ (O.drop (n : Int).toNat).map dC:=by rw [hsn,e];simp
           rw [e2];exact .slN
         · rw [wsucc i (by omega)];exact .pur)
      | (have hnl : n = O.length:=by omega
         have e:=hat.2 hnl
         refine ⟨rfl,i + 1,by omega,by omega,[],?_⟩
         refine ⟨by decide,fun r hr=>absurd hr (Nat.not_lt_zero r),fun r hr=>(by cases hr),⟨⟨_,rfl,.pur⟩,⟨_,rfl,.pur⟩,⟨_,rfl,?_⟩,⟨_,rfl,?_⟩,trivial⟩,trivial⟩
         · have e2 : (insL (cmpD o) ((l.take (i + 1)).filter (hasB o))).map dC = [] ++ (O.take (n : Int).toNat).map dC ++ [dC l[i]] ++ (O.drop (n : Int).toNat).map dC:=by rw [hsn,e,hnl];simp
           rw [e2];exact .slN
         · rw [wsucc i (by omega)];exact .pur)
  · rw [← hfin (by omega)]
    exact Le.of_eq rfl
def grS : Int → List Dat → Int
  | n,[]=>n
  | n,d :: t=>grS (IntKind.i64.wrap (IntKind.i64.wrap (n + 20) + d.v.s.length)) t
theorem grS_snoc (n : Int) (l : List Dat) (d : Dat) : grS n (l ++ [d]) = IntKind.i64.wrap (IntKind.i64.wrap (grS n l + 20) + d.v.s.length):=by
  induction l generalizing n with
  | nil=>rfl
  | cons x t ih=>rw [List.cons_append];simp only [grS];exact ih _
set_option maxHeartbeats 4000000 in
theorem great_pc [GlobF Try.prog] (l : List Dat) (hl : l.length < 4611686018427387904) : PC Try.prog 8 [.sl none 9 (l.map dC)] (.sc (.int .i64 (if 4000 < grS 0 l then 1 else 0))):=by
  refine PC.of_body Try.func8 Try.ntmps8 rfl rfl rfl ?_
  repeat' first
 | (apply p1 (hd:=rfl);case hop=>first|(apply D_assign;rfl))
 | refine W_seq ?_
 | refine W_region ?_
 | refine WL_nil ?_
 | refine tn ?_
 | (refine W_block ?_)
  refine W_loopL (X:=Nat) (fun i=>[(0,.sl none 9 (l.map dC)),(3,.sc (.int .i64 (grS 0 (l.take i)))),(4,.sc (.int .i64 (i : Int)))]) (fun _=>[])
    (fun i=>i ≤ l.length) (fun i=>l.length - i) 0 (Nat.zero_le _) ⟨rfl,rfl,rfl,trivial⟩ rfl ?_
  intro i hi
  repeat' first
 | (apply p1 (hd:=rfl);case hop=>first|(apply D_move;rfl)|(apply D_assign;rfl)|(apply D_load1;rfl)|(apply D_fld;rfl)|(apply D_int;rfl;rfl;rfl)|(apply D_lenM;rfl)|(apply D_len_str;rfl)|(apply D_idxAn;rfl;rfl;(first|omega|(simp;done))))
 | refine W_seq ?_
 | refine W_region ?_
 | (refine idC ?_;refine cs rfl (fun _=>?_) (fun _=>?_))
 | refine WL_nil ?_
 | refine tn ?_
 | refine tr ?_
 | refine bn ?_
 | refine te ?_
 | (refine idB ?_;refine bh rfl ?_)
 | refine W_skip ?_
 | refine W_block ?_
 | refine W_exit ?_
 | refine W_ret ?_
 | (refine idR ?_;refine ret1 rfl rfl rfl ?_)
 | (refine Le.int ?_)
  · have hi1 : i < l.length:=by omega
    refine ⟨rfl,i + 1,by omega,by omega,⟨rfl,ieq ?_,ieq (wsucc i (by omega)),trivial⟩,rfl⟩
    rw [List.take_succ_eq_append_getElem hi1,grS_snoc]
  · rename_i h1 h2
    have e : i = l.length:=by omega
    subst e
    rw [List.take_length] at h2
    rw [if_pos (by omega)]
  · rename_i h1 h2
    have e : i = l.length:=by omega
    subst e
    rw [List.take_length] at h2
    rw [if_neg (by omega)]
end Go.Proofs

namespace Go.Proofs
open Go.AL Go.Sort
theorem cbz (a b : List UInt8) (h : cbB a b = 0) : a = b:=(cmpB_z a b).1 h
theorem cb_self (a : List UInt8) : cbB a a = 0:=(cmpB_z a a).2 rfl
theorem cblt {x y z : List UInt8} (h1 : cbB x y ≤ 0) (h2 : cbB y z ≤ 0) (h3 : cbB x y < 0 ∨ cbB y z < 0) : cbB x z < 0:=wc_cb.lt h1 h2 h3
theorem cb_gt0 {a b : List UInt8} : 0 < cbB a b ↔ cbB b a < 0:=(wc_cb.anti b a).symm
def keysT (t : Tr) : List (List UInt8):=(toL t).map (·.1)
def RiseT (t : Tr) : Prop:=Rise cbB (keysT t)
theorem keys_nd (k v : List UInt8) (l r : Tr) (d m : Int) : keysT (.nd k v l r d m) = keysT l ++ k :: keysT r:=by
  unfold keysT;rw [toL,List.map_append,List.map_cons]
theorem keys_len (t : Tr) : (keysT t).length = sz t:=by unfold keysT;rw [List.length_map,toL_len]
theorem rise_nd {k v : List UInt8} {l r : Tr} {d m : Int} (h : RiseT (.nd k v l r d m)) : RiseT l ∧ RiseT r ∧ (∀ x,x ∈ keysT l → cbB x k < 0) ∧ (∀ x,x ∈ keysT r → cbB k x < 0):=by
  unfold RiseT Rise at *
  rw [keys_nd] at h
  obtain ⟨h1,h2,h3⟩:=List.pairwise_append.1 h
  obtain ⟨h4,h5⟩:=List.pairwise_cons.1 h2
  exact ⟨h1,h5,fun x hx=>h3 x hx k (.head _),fun x hx=>h4 x hx⟩
theorem insC_left {k a : List UInt8} (h : cbB k a < 0) : ∀ (A B : List (List UInt8)),insC cbB k (A ++ a :: B) = insC cbB k A ++ a :: B
  | [],B=>by
    have h1 : 0 < cbB a k:=cb_gt0.2 h
    simp only [List.nil_append,insC]
    rw [if_neg (by omega),if_neg (by omega)];rfl
  | x :: A,B=>by
    have ih:=insC_left h A B
    simp only [List.cons_append,insC]
    split
    · rw [ih];rfl
    · split <;> rfl
theorem insC_right {k a : List UInt8} (h : cbB a k < 0) : ∀ (A B : List (List UInt8)),(∀ x,x ∈ A → cbB x a < 0) → insC cbB k (A ++ a :: B) = A ++ a :: insC cbB k B
  | [],B,_=>by simp only [List.nil_append,insC];rw [if_pos h]
  | x :: A,B,hA=>by
    have ih:=insC_right h A B fun y hy=>hA y (.tail _ hy)
    have hx : cbB x k < 0:=cblt (by have:=hA x (.head _);omega) (by omega) (.inr h)
    simp only [List.cons_append,insC]
    rw [if_pos hx,ih]
theorem insC_same {a : List UInt8} : ∀ (A B : List (List UInt8)),(∀ x,x ∈ A → cbB x a < 0) → insC cbB a (A ++ a :: B) = A ++ a :: B
  | [],B,_=>by
    simp only [List.nil_append,insC]
    rw [if_neg (by rw [cb_self];omega),if_pos (cb_self a)]
  | x :: A,B,hA=>by
    have ih:=insC_same A B fun y hy=>hA y (.tail _ hy)
    simp only [List.cons_append,insC]
    rw [if_pos (hA x (.head _)),ih]
theorem put_keys (key val : List UInt8) : ∀ {t : Tr},okT t → RiseT t → sz t < 1152921504606846976 → keysT (putT key val t) = insC cbB key (keysT t)
  | .no,_,_,_=>by rw [put_no];simp [keysT,toL,insC]
  | .nd k v l r d m,h,hr,hs=>by
    obtain ⟨r1,r2,r3,r4⟩:=rise_nd hr
    unfold okT at h
    simp only [sz] at hs
    have il:=put_keys key val h.2.2.1 r1 (by omega)
    have ir:=put_keys key val h.2.2.2 r2 (by omega)
    obtain ⟨a1,a2,a3⟩:=put_ok key val h.2.2.1 (by omega)
    obtain ⟨b1,b2,b3⟩:=put_ok key val h.2.2.2 (by omega)
    rw [put_nd,keys_nd]
    by_cases c1 : cbB key k < 0
    · rw [if_pos c1]
      obtain ⟨_,_,e⟩:=level_ok (k:=k) (v:=v) a1 h.2.2.2 (by omega)
      unfold keysT
      rw [e,List.map_append,List.map_cons]
      show keysT (putT key val l) ++ k :: keysT r = _
      rw [il];exact (insC_left c1 _ _).symm
    · rw [if_neg c1]
      by_cases c2 : 0 < cbB key k
      · rw [if_pos c2]
        obtain ⟨_,_,e⟩:=level_ok (k:=k) (v:=v) h.2.2.1 b1 (by omega)
        unfold keysT
        rw [e,List.map_append,List.map_cons]
        show keysT l ++ k :: keysT (putT key val r) = _
        rw [ir];exact (insC_right (cb_gt0.1 c2) _ _ r3).symm
      · rw [if_neg c2]
        have e0 : key = k:=cbz _ _ (by omega)
        subst e0
        obtain ⟨_,_,e,_⟩:=join_ok (k:=key) (v:=val) h.2.2.1 h.2.2.2 (by omega)
        unfold keysT
        rw [e,List.map_append,List.map_cons]
        exact (insC_same _ _ r3).symm
theorem put_rise (key val : List UInt8) {t : Tr} (h : okT t) (hr : RiseT t) (hs : sz t < 1152921504606846976) : RiseT (putT key val t):=by
  unfold RiseT;rw [put_keys key val h hr hs];exact insC_rise wc_cb cbz key hr
def NoV : Tr → Prop
  | .no=>True
  | .nd _ v l r _ _=>v = [] ∧ NoV l ∧ NoV r
theorem noV_iff : ∀ {t : Tr},NoV t ↔ ∀ p,p ∈ toL t → p.2 = []
  | .no=>by simp [NoV,toL]
  | .nd k v l r d m=>by
    rw [NoV,noV_iff (t:=l),noV_iff (t:=r),toL]
    constructor
    · rintro ⟨h1,h2,h3⟩ p hp
      rcases List.mem_append.1 hp with hp|hp
      · exact h2 p hp
      · rcases List.mem_cons.1 hp with rfl|hp
        · exact h1
        · exact h3 p hp
    · intro h
      exact ⟨h (k,v) (List.mem_append_right _ (.head _)),fun p hp=>h p (List.mem_append_left _ hp),fun p hp=>h p (List.mem_append_right _ (.tail _ hp))⟩
theorem put_noV (key : List UInt8) : ∀ {t : Tr},okT t → NoV t → sz t < 1152921504606846976 → NoV (putT key [] t)
  | .no,_,_,_=>by rw [put_no];exact ⟨rfl,trivial,trivial⟩
  | .nd k v l r d m,h,hv,hs=>by
    unfold okT at h
    simp only [sz] at hs
    have il:=put_noV key h.2.2.1 hv.2.1 (by omega)
    have ir:=put_noV key h.2.2.2 hv.2.2 (by omega)
    obtain ⟨a1,a2,a3⟩:=put_ok key [] h.2.2.1 (by omega)
    obtain ⟨b1,b2,b3⟩:=put_ok key [] h.2.2.2 (by omega)
    have key2 : ∀ (x : Tr) (k v : List UInt8) (a b : Tr),toL x = toL a ++ (k,v) :: toL b → v = [] → NoV a → NoV b → NoV x:=fun x k v a b e h1 h2 h3=>by
      rw [noV_iff,e]
      intro p hp
      rcases List.mem_append.1 hp with hp|hp
      · exact noV_iff.1 h2 p hp
      · rcases List.mem_cons.1 hp with rfl|hp
        · exact h1
        · exact noV_iff.1 h3 p hp
    rw [put_nd]
    split
    · exact key2 _ _ _ _ _ (level_ok (k:=k) (v:=v) a1 h.2.2.2 (by omega)).2.2 hv.1 il hv.2.2
    · split
      · exact key2 _ _ _ _ _ (level_ok (k:=k) (v:=v) h.2.2.1 b1 (by omega)).2.2 hv.1 hv.2.1 ir
      · exact key2 _ _ _ _ _ (join_ok (k:=key) (v:=[]) h.2.2.1 h.2.2.2 (by omega)).2.2.1 rfl hv.2.1 hv.2.2
end Go.Proofs

namespace Go.Proofs
open Go.AL Go.Sort
structure TreeOf (o : Int) (L : List Dat) (t : Option Tr) : Prop where
  ok : okT (topT t)
  rise : RiseT (topT t)
  nov : NoV (topT t)
  keys : ∀ k,k ∈ keysT (topT t) ↔ ∃ d,d ∈ L ∧ dkeyE o d = 0 ∧ dkeyB o d = k
  len : sz (topT t) ≤ L.length
theorem TreeOf.skip {o : Int} {L : List Dat} {t : Option Tr} {d : Dat} (h : TreeOf o L t) (hd : dkeyE o d ≠ 0) : TreeOf o (L ++ [d]) t :=
  ⟨h.ok,h.rise,h.nov,fun k=>by
    rw [h.keys]
    constructor
    · rintro ⟨x,hx,h1⟩;exact ⟨x,List.mem_append_left _ hx,h1⟩
    · rintro ⟨x,hx,h1⟩
      rcases List.mem_append.1 hx with hx|hx
      · exact ⟨x,hx,h1⟩
      · rw [List.mem_singleton.1 hx] at h1;exact absurd h1.1 hd,by have:=h.len;simp;omega⟩
theorem TreeOf.put {o : Int} {L : List Dat} {t : Option Tr} {d : Dat} (h : TreeOf o L t) (hd : dkeyE o d = 0) (hl : L.length < 1152921504606846975) : TreeOf o (L ++ [d]) (some (putT (dkeyB o d) [] (topT t))):=by
  have hs : sz (topT t) < 1152921504606846976:=by have:=h.len;omega
  obtain ⟨a1,a2,a3⟩:=put_ok (dkeyB o d) [] h.ok hs
  refine ⟨a1,put_rise _ _ h.ok h.rise hs,put_noV _ h.ok h.nov hs,fun k=>?_,?_⟩
  · show k ∈ keysT (putT (dkeyB o d) [] (topT t)) ↔ _
    rw [put_keys _ _ h.ok h.rise hs,insC_mem cbz,h.keys]
    constructor
    · rintro (rfl | ⟨x,hx,h1⟩)
      · exact ⟨d,by simp,hd,rfl⟩
      · exact ⟨x,List.mem_append_left _ hx,h1⟩
    · rintro ⟨x,hx,h1,h2⟩
      rcases List.mem_append.1 hx with hx|hx
      · exact .inr ⟨x,hx,h1,h2⟩
      · rw [List.mem_singleton.1 hx] at h2;exact .inl h2.symm
  · have:=h.len
    show sz (putT (dkeyB o d) [] (topT t)) ≤ _
    simp;omega
theorem key_ok {o : Int} {d : Dat} (ho : 1 ≤ o ∧ o ≤ 4) : dkeyE o d = 0 ↔ dmayP d ∧ hasP o d:=by
  unfold dkeyE
  rw [if_pos ho]
  split
  · exact ⟨fun _=>by assumption,fun _=>rfl⟩
  · exact ⟨fun h=>absurd h (by decide),fun h=>absurd h (by assumption)⟩
theorem key_cmpD {o : Int} {a b : Dat} (ho : 1 ≤ o ∧ o ≤ 4) (ia : datI a) (ib : datI b) (ha : dkeyE o a = 0) (hb : dkeyE o b = 0) : cbB (dkeyB o a) (dkeyB o b) = cmpD o a b:=by
  have:=key_cmp ia ib ha hb
  rw [if_pos ho] at this
  exact this
def okL (L : List Dat) : Prop:=∀ d,d ∈ L → dmayP d ∧ datI d
theorem hasB_t (o : Int) (d : Dat) : hasB o d = true ↔ hasP o d:=by unfold hasB;rw [dP_t]
theorem dsort_mem {o : Int} (ho : 1 ≤ o ∧ o ≤ 4) (L : List Dat) (d : Dat) : d ∈ dsortL o L ↔ d ∈ L ∧ hasP o d:=by
  unfold dsortL
  rw [if_pos ho,sortC_mem,List.mem_filter,hasB_t]
theorem dsort_rise {o : Int} (ho : 1 ≤ o ∧ o ≤ 4) (L : List Dat) : Rise (cmpD o) (dsortL o L):=by
  unfold dsortL
  rw [if_pos ho];exact sortC_rise (wc_cmpD o) (cmpD_z o) _
theorem TreeOf.sorted {o : Int} {L : List Dat} {t : Option Tr} (h : TreeOf o L t) (ho : 1 ≤ o ∧ o ≤ 4) (hL : okL L) : keysT (topT t) = (dsortL o L).map (dkeyB o):=by
  have hk : ∀ d,d ∈ dsortL o L → dkeyE o d = 0 ∧ datI d:=fun d hd=>by
    obtain ⟨h1,h2⟩:=(dsort_mem ho L d).1 hd
    exact ⟨(key_ok ho).2 ⟨(hL d h1).1,h2⟩,(hL d h1).2⟩
  refine rise_eq wc_cb h.rise ?_ fun k=>?_
  · have key : ∀ l : List Dat,(∀ d,d ∈ l → dkeyE o d = 0 ∧ datI d) → Rise (cmpD o) l → Rise cbB (l.map (dkeyB o)):=by
      intro l
      induction l with
      | nil=>exact fun _ _=>List.Pairwise.nil
      | cons x l ih =>
        intro hx hr
        unfold Rise at *
        obtain ⟨h1,h2⟩:=List.pairwise_cons.1 hr
        refine List.pairwise_cons.2 ⟨fun k hk=>?_,ih (fun d hd=>hx d (.tail _ hd)) h2⟩
        obtain ⟨y,hy,rfl⟩:=List.mem_map.1 hk
        have e1:=hx x (.head _)
        have e2:=hx y (.tail _ hy)
        rw [key_cmpD ho e1.2 e2.2 e1.1 e2.1]
        exact h1 y hy
    exact key _ hk (dsort_rise ho L)
  · rw [h.keys,List.mem_map]
    constructor
    · rintro ⟨d,hd,h1,h2⟩
      exact ⟨d,(dsort_mem ho L d).2 ⟨hd,((key_ok ho).1 h1).2⟩,h2⟩
    · rintro ⟨d,hd,h2⟩
      exact ⟨d,((dsort_mem ho L d).1 hd).1,(hk d hd).1,h2⟩
theorem TreeOf.size {o : Int} {L : List Dat} {t : Option Tr} (h : TreeOf o L t) (ho : 1 ≤ o ∧ o ≤ 4) (hL : okL L) : sz (topT t) = (dsortL o L).length:=by
  rw [← keys_len,h.sorted ho hL,List.length_map]
end Go.Proofs

namespace Go.Proofs
open Go.AL Go.Sort
structure Pt where
  at_ : Int
  m : Int
theorem Pt.ext' {a b : Pt} (h1 : a.at_ = b.at_) (h2 : a.m = b.m) : a = b:=by
  cases a;cases b;cases h1;cases h2;rfl
end Go.Proofs
