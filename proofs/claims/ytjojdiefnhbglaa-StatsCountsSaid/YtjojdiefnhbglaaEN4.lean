/- Contracts of the document's stats: what is counted by transaction. -/
import Derived.Test.YtjojdiefnhbglaaOps37
import Derived.Test.YtjojdiefnhbglaaEF1
import Derived.Test.YtjojdiefnhbglaaOps7
import Derived.ChangeKeysEq
import Derived.Test.YtjojdiefnhbglaaOpen
import Derived.SizedLaws
import Derived.Test.YtjojdiefnhbglaaEC1
set_option linter.all false
namespace Go.Proofs
open Go.AL Go.Sort
attribute [local irreducible] Go.AL.W Go.AL.WL Go.AL.WD Go.AL.POp Go.AL.PPOp Go.AL.POpS Go.AL.PC Go.AL.AC Go.AL.YW Go.AL.Ret Go.AL.Le Go.AL.thn Go.AL.inBlk Go.AL.scp
def cR (D : List Dat) (x : Int) : Txn:=⟨x,(cntX x true D : Nat),(cntX x false D : Nat)⟩
theorem txR_map (D : List Dat) : txR D = (insL cmpI (D.map Dat.t)).map (cR D):=rfl
theorem cntX_take (x : Int) (b : Bool) (D : List Dat) (i : Nat) (h : i < D.length) : cntX x b (D.take (i + 1)) = cntX x b (D.take i) + (if D[i].t = x ∧ D[i].add = b then 1 else 0):=by
  rw [List.take_succ_eq_append_getElem h,cntX_snoc]
theorem cntX_le (x : Int) (b : Bool) (D : List Dat) : cntX x b D ≤ D.length:=List.length_filter_le _ _
set_option maxHeartbeats 64000000 in
theorem rtxs_pc [GlobF Try.prog] (l : List Dat) (hl : l.length < 1048576) (hs : ∀ d,d ∈ l → d.v.s.length < 9223372036854775808) :
    PC Try.prog 22 [sl9 l] (.tu [.sl none 3 ((if dP (allD l) then txR (dsortL 1 l) else []).map txC),.sc (.int .i64 (if dP (allD l) then 0 else 40))]):=by
  have hsd:=rall_pc l (by omega) hs
  unfold sortS at hsd
  have hdl:=dsortL_len 1 l
  by_cases ha : allD l
  rotate_left 1
  · rw [← dP_F ha] at hsd ⊢
    rw [if_neg (by decide),if_neg (by decide)] at hsd
    refine PC.of_body Try.func22 Try.ntmps22 rfl rfl rfl ?_
    repeat' first
 | (apply p1 (hd:=rfl);case hop=>first|(apply D_move;rfl)|(apply D_assign;rfl)|(apply D_pc hsd;rfl;exact .same rfl .nil)|(apply D_int;rfl;rfl;rfl)|(apply D_ext;rfl;rfl))
 | refine W_seq ?_
 | refine W_region ?_
 | (refine idC ?_;refine cs rfl (fun _=>?_) (fun _=>?_))
 | refine WL_nil ?_
 | refine tn ?_
 | refine tr ?_
 | refine W_skip ?_
 | refine W_block ?_
 | refine W_ret ?_
 | (refine idR ?_;refine ret2 rfl rfl rfl rfl ?_ ?_)
 | (refine Le.int ?_)
    all_goals first|contradiction|exact Le.nil rfl|rfl|skip
  rw [← dP_T ha] at hsd ⊢
  rw [if_pos rfl,if_pos rfl] at hsd
  rw [if_pos rfl,if_pos rfl]
  generalize dsortL 1 l = D at *
  have hnu:=rnumbers_pc (D.map Dat.t) (by rw [List.length_map];omega)
  have hml:=insL_len cmpI (D.map Dat.t) (D.map Dat.t).length (Nat.le_refl _)
  rw [List.take_length,List.length_map] at hml
  rw [txR_map]
  refine PC.of_body Try.func22 Try.ntmps22 rfl rfl rfl ?_
  repeat' first
 | (apply p1 (hd:=rfl);case hop=>first|(apply D_move;rfl)|(apply D_assign;rfl)|(apply D_pc hsd;rfl;exact .same rfl .nil)|(apply D_int;rfl;rfl;rfl)|(apply D_ext;rfl;rfl))
 | refine W_seq ?_
 | refine W_region ?_
 | (refine idC ?_;refine cs rfl (fun _=>?_) (fun _=>?_))
 | refine WL_nil ?_
 | refine tn ?_
 | refine tr ?_
 | refine W_skip ?_
 | refine W_block ?_
 | refine W_ret ?_
 | (refine idR ?_;refine ret2 rfl rfl rfl rfl ?_ ?_)
 | (refine Le.int ?_)
  all_goals try contradiction
  refine W_adopt 6 1 2 rfl ?_
  refine W_loopL (X:=Nat) (fun i=>[(4,sl9 D),(6,.sl (some 0) 1 ((D.take i).map fun d=>iC d.t)),(7,.sc (.int .i64 (i : Int)))]) (fun i=>[.tail ((D.take i).map fun d=>iC d.t).length 1 2])
    (fun i=>i ≤ D.length) (fun i=>D.length - i) 0 (Nat.zero_le _) ⟨rfl,rfl,rfl,trivial⟩ rfl ?_
  intro i hi
  by_cases hil : i < D.length
  · have hsn : (D.take (i + 1)).map (fun d=>iC d.t) = (D.take i).map (fun d=>iC d.t) ++ [iC (D[i]'hil).t]:=by
      rw [List.take_succ_eq_append_getElem hil,List.map_append];rfl
    have hvi : ((D.take i).map fun d=>iC d.t).length = i:=by rw [List.length_map,List.length_take];omega
    generalize (D.take i).map (fun d=>iC d.t) = VV at *
    repeat' first
 | (apply p1 (hd:=rfl);case hop=>first|(apply D_move;rfl)|(apply D_assign;rfl)|(apply D_load1;rfl)|(apply D_fld;rfl)|(apply D_int;rfl;rfl;rfl)|(apply D_lenM;rfl)|(apply D_idxAn;rfl;rfl;(first|omega|(simp;done)))|(apply D_lit;rfl;rfl;rfl;rfl))
 | refine W_seq ?_
 | refine W_region ?_
 | (refine idC ?_;refine cs rfl (fun _=>?_) (fun _=>?_))
 | refine WL_nil ?_
 | refine tn ?_
 | refine bn ?_
 | refine te ?_
 | (refine idB ?_;refine bh rfl ?_)
 | refine W_skip ?_
 | refine W_block ?_
 | refine W_exit ?_
 | (refine idAp ?_;refine m_app rfl rfl (by first|rfl|assumption|exact get_set (by assumption)|exact get_set (get_set (by assumption))|exact get_set (get_set (get_set (by assumption)))|((repeat first|assumption|exact get_last|(refine get_last2 ?_;focus (simp;done))|apply get_set|apply get_app|(apply get_ne;focus omega));done)) ?_ rfl rfl ?_ ?_ rfl ?_;(first|rfl|focus (simp only [List.length_map,List.length_append,List.length_cons,List.length_nil];omega)|focus (simp;done)|focus (simp;omega));(first|focus (simp only [List.length_map,List.length_append,List.length_cons,List.length_nil];omega)|focus (simp;done)|focus (simp;omega));(first|focus (simp only [List.length_map,List.length_append,List.length_cons,List.length_nil];omega)|focus (simp;done)|focus (simp;omega)))
    all_goals first
      | contradiction
      | (exfalso;omega)
      | (refine ⟨rfl,i + 1,by omega,by omega,⟨rfl,?_,ieq (wsucc i (by omega)),trivial⟩,?_⟩
         · rw [hsn];rfl
         · rw [hsn,List.length_append];rfl)
      | skip
  have ei : i = D.length:=by omega
  subst ei
  rw [List.take_length]
  rw [show (D.map fun d=>iC d.t) = (D.map Dat.t).map iC by rw [List.map_map];rfl]
  generalize hN : insL cmpI (D.map Dat.t) = Ns at *
  repeat' first
 | (apply p1 (hd:=rfl);case hop=>first|(apply D_move;rfl)|(apply D_assign;rfl)|(apply D_pc hnu;rfl;exact .tok rfl .nil)|(apply D_load1;rfl)|(apply D_fld;rfl)|(apply D_int;rfl;rfl;rfl)|(apply D_lenM;rfl)|(apply D_idxAn;rfl;rfl;(first|omega|(simp;done)))|(apply D_lit;rfl;rfl;rfl;rfl))
 | refine W_seq ?_
 | refine W_region ?_
 | (refine idC ?_;refine cs rfl (fun _=>?_) (fun _=>?_))
 | refine WL_nil ?_
 | refine tn ?_
 | refine bn ?_
 | refine te ?_
 | (refine idB ?_;refine bh rfl ?_)
 | refine W_skip ?_
 | refine W_block ?_
 | refine W_exit ?_
 | (refine idAp ?_;refine m_app rfl rfl (by first|rfl|assumption|exact get_set (by assumption)|exact get_set (get_set (by assumption))|exact get_set (get_set (get_set (by assumption)))|((repeat first|assumption|exact get_last|(refine get_last2 ?_;focus (simp;done))|apply get_set|apply get_app|(apply get_ne;focus omega));done)) ?_ rfl rfl ?_ ?_ rfl ?_;(first|rfl|focus (simp only [List.length_map,List.length_append,List.length_cons,List.length_nil];omega)|focus (simp;done)|focus (simp;omega));(first|focus (simp only [List.length_map,List.length_append,List.length_cons,List.length_nil];omega)|focus (simp;done)|focus (simp;omega));(first|focus (simp only [List.length_map,List.length_append,List.length_cons,List.length_nil];omega)|focus (simp;done)|focus (simp;omega)))
  all_goals try (exfalso;omega)
  refine W_adopt 8 3 74 rfl ?_
  refine W_ren (rg':=[(4,sl9 D),(6,slI Ns),(8,.sl (some 0) 3 (([] : List Txn).map txC)),(9,.sc (.int .i64 0))]) (h':=[.tail 0 3 74]) [1] (rent rfl ⟨⟨_,rfl,.pur⟩,⟨_,rfl,.pur⟩,⟨_,rfl,.sl rfl⟩,⟨_,rfl,.pur⟩,trivial⟩) ?_
  refine W_loopR (X:=Nat) (fun k=>[(4,sl9 D),(6,slI Ns),(8,.sl (some 0) 3 (((Ns.take k).map (cR D)).map txC)),(9,.sc (.int .i64 (k : Int)))]) (fun k=>[.tail ((Ns.take k).map (cR D)).length 3 74])
    (fun k=>k ≤ Ns.length) (fun k=>Ns.length - k) 0 (Nat.zero_le _) ⟨rfl,rfl,rfl,rfl,trivial⟩ rfl ?_
  intro k hk
  by_cases hkl : k < Ns.length
  rotate_left 1
  · have ek : k = Ns.length:=by omega
    subst ek
    rw [List.take_length]
    generalize Ns.map (cR D) = R at *
    repeat' first
 | (apply p1 (hd:=rfl);case hop=>first|(apply D_move;rfl)|(apply D_assign;rfl)|(apply D_load1;rfl)|(apply D_int;rfl;rfl;rfl)|(apply D_lenM;rfl)|(apply D_idxAn;rfl;rfl;(first|omega|(simp;done)))|exact D_build rfl)
 | refine W_seq ?_
 | refine W_region ?_
 | (refine idC ?_;refine cs rfl (fun _=>?_) (fun _=>?_))
 | refine WL_nil ?_
 | refine tn ?_
 | refine te ?_
 | (refine idB ?_;refine bh rfl ?_)
 | refine W_skip ?_
 | refine W_block ?_
 | refine W_exit ?_
 | refine W_ret ?_
 | (refine idR ?_;refine ret2 rfl rfl rfl rfl ?_ ?_)
 | (refine idA ?_;refine m_var rfl rfl rfl rfl rfl rfl rfl ?_)
 | (refine Le.int ?_)
    all_goals first
      | contradiction
      | (exfalso;omega)
      | exact Le.tokq rfl
      | rfl
      | skip
  have hsn : (Ns.take (k + 1)).map (cR D) = (Ns.take k).map (cR D) ++ [cR D (Ns[k]'hkl)]:=by
    rw [List.take_succ_eq_append_getElem hkl,List.map_append];rfl
  have hol : ((Ns.take k).map (cR D)).length = k:=by rw [List.length_map,List.length_take];omega
  generalize (Ns.take k).map (cR D) = O at *
  repeat' first
 | (refine m_alloc (d:=10) rfl ?_)
 | (apply p1 (hd:=rfl);case hop=>first|(apply D_move;rfl)|(apply D_assign;rfl)|(apply D_load1;rfl)|(apply D_int;rfl;rfl;rfl)|(apply D_lenM;rfl)|(apply D_idxAn;rfl;rfl;(first|omega|(simp;done)))|exact D_build rfl)
 | refine W_seq ?_
 | refine W_region ?_
 | (refine idC ?_;refine cs rfl (fun _=>?_) (fun _=>?_))
 | refine WL_nil ?_
 | refine tn ?_
 | refine te ?_
 | (refine idB ?_;refine bh rfl ?_)
 | refine W_skip ?_
 | refine W_block ?_
 | refine W_exit ?_
 | refine W_ret ?_
 | (refine idR ?_;refine ret2 rfl rfl rfl rfl ?_ ?_)
 | (refine idS ?_;refine pS (S_store rfl rfl rfl rfl rfl rfl rfl) ?_)
 | (refine Le.int ?_)
  all_goals try (exfalso;omega)
  refine W_loopL (X:=Nat) (fun i=>[(4,sl9 D),(6,slI Ns),(8,.sl (some 0) 3 (O.map txC)),(9,.sc (.int .i64 (k : Int))),(10,.bp 1 0),(11,.sc (.int .i64 (i : Int)))])
    (fun i=>[.tail O.length 3 74,.cells (txC (cR (D.take i) (Ns[k]'hkl)))])
    (fun i=>i ≤ D.length) (fun i=>D.length - i) 0 (Nat.zero_le _) ⟨rfl,rfl,rfl,rfl,rfl,rfl,trivial⟩ rfl ?_
  intro i hi
  have hc1:=cntX_le (Ns[k]'hkl) true (D.take i)
  have hc2:=cntX_le (Ns[k]'hkl) false (D.take i)
  rw [List.length_take] at hc1 hc2
  by_cases hil : i < D.length
  · have ht1:=cntX_take (Ns[k]'hkl) true D i hil
    have ht2:=cntX_take (Ns[k]'hkl) false D i hil
    have hcr : cR (D.take (i + 1)) (Ns[k]'hkl) = ⟨Ns[k]'hkl,(cntX (Ns[k]'hkl) true (D.take (i + 1)) : Nat),(cntX (Ns[k]'hkl) false (D.take (i + 1)) : Nat)⟩:=rfl
    have hcr0 : cR (D.take i) (Ns[k]'hkl) = ⟨Ns[k]'hkl,(cntX (Ns[k]'hkl) true (D.take i) : Nat),(cntX (Ns[k]'hkl) false (D.take i) : Nat)⟩:=rfl
    rw [ht1,ht2] at hcr
    rw [hcr0]
    generalize cntX (Ns[k]'hkl) true (D.take i) = A at *
    generalize cntX (Ns[k]'hkl) false (D.take i) = U at *
    have hwa : IntKind.i64.wrap ((A : Int) + 1) = ((A + 1 : Nat) : Int):=wsucc _ (by omega)
    have hwu : IntKind.i64.wrap ((U : Int) + 1) = ((U + 1 : Nat) : Int):=wsucc _ (by omega)
    by_cases hc : (D[i]'hil).t = Ns[k]'hkl
    · have g1 : Value.bool (iEq (D[i]'hil).t (Ns[k]'hkl)) = .bool true:=by rw [(iEq_t _ _).mpr hc]
      cases hadd : (D[i]'hil).add with
      | true =>
        rw [if_pos ⟨hc,hadd⟩,if_neg (by rw [hadd];simp)] at hcr
        simp only [Nat.add_zero] at hcr
        have gb : Value.bool (D[i]'hil).add = .bool true:=by rw [hadd]
        repeat' first
 | (apply p1 (hd:=rfl);case hop=>first|(apply D_move;rfl)|(apply D_assign;rfl)|(apply D_int;rfl;rfl;rfl)|(apply D_lenM;rfl)|(apply D_lit;rfl;rfl;rfl;rfl)|exact D_fldB rfl)
 | refine W_seq ?_
 | refine W_region ?_
 | (refine idC ?_;first|refine c1 rfl ?_|refine cs rfl (fun _=>?_) (fun _=>?_))
 | refine WL_nil ?_
 | refine tn ?_
 | refine bn ?_
 | refine te ?_
 | (refine idB ?_;refine bh rfl ?_)
 | refine W_skip ?_
 | refine W_block ?_
 | refine W_exit ?_
 | (refine idLd ?_;first|refine p1L (D_loadB1 rfl rfl rfl) rfl ?_|refine p1L (D_loadBA rfl rfl rfl) rfl ?_)
 | (refine idS ?_;refine pS (S_store rfl rfl rfl rfl rfl rfl rfl) ?_)
 | (refine idAp ?_;refine m_appB rfl rfl rfl (by first|rfl|assumption|exact get_set (by assumption)|exact get_set (get_set (by assumption))|exact get_set (get_set (get_set (by assumption)))|((repeat first|assumption|exact get_last|(refine get_last2 ?_;focus (simp;done))|apply get_set|apply get_app|(apply get_ne;focus omega));done)) ?_ rfl rfl ?_ ?_ rfl ?_;(first|rfl|focus (simp only [List.length_map,List.length_append,List.length_cons,List.length_nil];omega)|focus (simp;done)|focus (simp;omega));(first|focus (simp only [List.length_map,List.length_append,List.length_cons,List.length_nil];omega)|focus (simp;done)|focus (simp;omega));(first|focus (simp only [List.length_map,List.length_append,List.length_cons,List.length_nil];omega)|focus (simp;done)|focus (simp;omega)))
 | (refine idW ?_;refine W_draw0 rfl ?_)
 | (apply d1 (hd:=rfl);case hop=>first|(apply D_move;rfl)|exact D_sc (D_int rfl rfl rfl) g1|exact D_sc (D_load1 rfl) gb|(apply D_load1;rfl)|(apply D_fld;rfl)|(apply D_pickT;rfl;rfl)|(apply D_not;rfl)|(apply D_idxAn;rfl;rfl;(first|omega|(simp;done))))
 | (refine idDg ?_;refine dgr rfl rfl ?_)
 | (refine WD_nil (by first|decide +kernel|kernel_rfl|rfl) ?_)
        all_goals first
          | contradiction
          | (exfalso;omega)
          | (refine ⟨rfl,i + 1,by omega,by omega,⟨rfl,rfl,rfl,rfl,rfl,ieq (wsucc i (by omega)),trivial⟩,?_⟩
             rw [hcr,← hwa];rfl)
          | skip
      | false =>
        rw [if_neg (by rw [hadd];simp),if_pos ⟨hc,hadd⟩] at hcr
        simp only [Nat.add_zero] at hcr
        have gb : Value.bool (D[i]'hil).add = .bool false:=by rw [hadd]
        repeat' first
 | (apply p1 (hd:=rfl);case hop=>first|(apply D_move;rfl)|(apply D_assign;rfl)|(apply D_int;rfl;rfl;rfl)|(apply D_lenM;rfl)|(apply D_lit;rfl;rfl;rfl;rfl)|exact D_fldB rfl)
 | refine W_seq ?_
 | refine W_region ?_
 | (refine idC ?_;first|refine c0 rfl ?_|refine cs rfl (fun _=>?_) (fun _=>?_))
 | refine WL_nil ?_
 | refine tn ?_
 | refine bn ?_
 | refine te ?_
 | (refine idB ?_;refine bh rfl ?_)
 | refine W_skip ?_
 | refine W_block ?_
 | refine W_exit ?_
 | (refine idLd ?_;first|refine p1L (D_loadB1 rfl rfl rfl) rfl ?_|refine p1L (D_loadBA rfl rfl rfl) rfl ?_)
 | (refine idS ?_;refine pS (S_store rfl rfl rfl rfl rfl rfl rfl) ?_)
 | (refine idAp ?_;refine m_appB rfl rfl rfl (by first|rfl|assumption|exact get_set (by assumption)|exact get_set (get_set (by assumption))|exact get_set (get_set (get_set (by assumption)))|((repeat first|assumption|exact get_last|(refine get_last2 ?_;focus (simp;done))|apply get_set|apply get_app|(apply get_ne;focus omega));done)) ?_ rfl rfl ?_ ?_ rfl ?_;(first|rfl|focus (simp only [List.length_map,List.length_append,List.length_cons,List.length_nil];omega)|focus (simp;done)|focus (simp;omega));(first|focus (simp only [List.length_map,List.length_append,List.length_cons,List.length_nil];omega)|focus (simp;done)|focus (simp;omega));(first|focus (simp only [List.length_map,List.length_append,List.length_cons,List.length_nil];omega)|focus (simp;done)|focus (simp;omega)))
 | (refine idW ?_;refine W_draw0 rfl ?_)
 | (apply d1 (hd:=rfl);case hop=>first|(apply D_move;rfl)|exact D_sc (D_int rfl rfl rfl) g1|exact D_sc (D_load1 rfl) gb|(apply D_load1;rfl)|(apply D_fld;rfl)|(apply D_pickT;rfl;rfl)|(apply D_not;rfl)|(apply D_idxAn;rfl;rfl;(first|omega|(simp;done))))
 | (refine idDg ?_;refine dgr rfl rfl ?_)
 | (refine WD_nil (by first|decide +kernel|kernel_rfl|rfl) ?_)
        all_goals first
          | contradiction
          | (exfalso;omega)
          | (refine ⟨rfl,i + 1,by omega,by omega,⟨rfl,rfl,rfl,rfl,rfl,ieq (wsucc i (by omega)),trivial⟩,?_⟩
             rw [hcr,← hwu];rfl)
          | skip
    · have g1 : Value.bool (iEq (D[i]'hil).t (Ns[k]'hkl)) = .bool false:=by rw [(iEq_f _ _).mpr hc]
      rw [if_neg (fun e=>hc e.1),if_neg (fun e=>hc e.1)] at hcr
      simp only [Nat.add_zero] at hcr
      repeat' first
 | (apply p1 (hd:=rfl);case hop=>first|(apply D_move;rfl)|(apply D_assign;rfl)|(apply D_int;rfl;rfl;rfl)|(apply D_lenM;rfl)|(apply D_lit;rfl;rfl;rfl;rfl))
 | refine W_seq ?_
 | refine W_region ?_
 | (refine idC ?_;first|refine c0 rfl ?_|refine cs rfl (fun _=>?_) (fun _=>?_))
 | refine WL_nil ?_
 | refine tn ?_
 | refine bn ?_
 | refine te ?_
 | (refine idB ?_;refine bh rfl ?_)
 | refine W_skip ?_
 | refine W_block ?_
 | refine W_exit ?_
 | (refine idLd ?_;refine p1L (D_loadBA rfl rfl rfl) rfl ?_)
 | (refine idAp ?_;refine m_appB rfl rfl rfl (by first|rfl|assumption|exact get_set (by assumption)|exact get_set (get_set (by assumption))|exact get_set (get_set (get_set (by assumption)))|((repeat first|assumption|exact get_last|(refine get_last2 ?_;focus (simp;done))|apply get_set|apply get_app|(apply get_ne;focus omega));done)) ?_ rfl rfl ?_ ?_ rfl ?_;(first|rfl|focus (simp only [List.length_map,List.length_append,List.length_cons,List.length_nil];omega)|focus (simp;done)|focus (simp;omega));(first|focus (simp only [List.length_map,List.length_append,List.length_cons,List.length_nil];omega)|focus (simp;done)|focus (simp;omega));(first|focus (simp only [List.length_map,List.length_append,List.length_cons,List.length_nil];omega)|focus (simp;done)|focus (simp;omega)))
 | (refine idW ?_;refine W_draw0 rfl ?_)
 | (apply d1 (hd:=rfl);case hop=>first|(apply D_move;rfl)|exact D_sc (D_int rfl rfl rfl) g1|(apply D_load1;rfl)|(apply D_fld;rfl)|(apply D_pickF;rfl;rfl)|(apply D_idxAn;rfl;rfl;(first|omega|(simp;done))))
 | (refine idDg ?_;refine dg0t rfl rfl rfl ?_)
 | (refine WD_nil (by first|decide +kernel|kernel_rfl|rfl) ?_)
      all_goals first
        | contradiction
        | (exfalso;omega)
        | (refine ⟨rfl,i + 1,by omega,by omega,⟨rfl,rfl,rfl,rfl,rfl,ieq (wsucc i (by omega)),trivial⟩,?_⟩
           first|(rw [hcr];done)|(rw [hcr];rfl))
        | skip
  have ei : i = D.length:=by omega
  subst ei
  rw [List.take_length] at *
  repeat' first
 | (refine m_app (d:=99) (els:=O.map txC) (els':=[txC (cR D (Ns[k]'hkl))]) rfl rfl rfl (by simp) rfl rfl (by simp only [List.length_map,List.length_cons,List.length_nil];omega) (by simp only [List.length_map,List.length_cons,List.length_nil];omega) rfl ?_)
 | (apply p1 (hd:=rfl);case hop=>first|(apply D_move;rfl)|(apply D_assign;rfl)|(apply D_int;rfl;rfl;rfl)|(apply D_lenM;rfl)|(apply D_lit;rfl;rfl;rfl;rfl)|exact D_fldB rfl)
 | refine W_seq ?_
 | refine W_region ?_
 | (refine idC ?_;first|refine c0 rfl ?_|refine cs rfl (fun _=>?_) (fun _=>?_))
 | refine WL_nil ?_
 | refine tn ?_
 | refine bn ?_
 | refine te ?_
 | (refine idB ?_;refine bh rfl ?_)
 | refine W_skip ?_
 | refine W_block ?_
 | refine W_exit ?_
 | (refine idLd ?_;first|refine p1L (D_loadB1 rfl rfl rfl) rfl ?_|refine p1L (D_loadBA rfl rfl rfl) rfl ?_)
 | (refine idS ?_;refine pS (S_store rfl rfl rfl rfl rfl rfl rfl) ?_)
 | (refine idW ?_;refine W_draw0 rfl ?_)
 | (apply d1 (hd:=rfl);case hop=>first|(apply D_move;rfl)|(apply D_load1;rfl)|(apply D_fld;rfl)|(apply D_pickT;rfl;rfl)|(apply D_pickF;rfl;rfl)|(apply D_int;rfl;rfl;rfl)|(apply D_not;rfl)|(apply D_idxAn;rfl;rfl;(first|omega|(simp;done))))
 | (refine idDg ?_;first|refine dg0t rfl rfl rfl ?_|refine dgr rfl rfl ?_|refine dgs rfl rfl (fun _=>?_) (fun _=>?_))
 | (refine WD_nil (by first|decide +kernel|kernel_rfl|rfl) ?_)
  all_goals first
    | contradiction
    | (exfalso;omega)
    | (refine ⟨rfl,k + 1,by omega,by omega,[0],rent ?_ ⟨⟨_,rfl,.pur⟩,⟨_,rfl,.pur⟩,⟨_,rfl,?_⟩,⟨_,rfl,?_⟩,trivial⟩⟩
       · first|(rw [hsn,List.length_append,List.length_map];rfl)|(rw [hsn,List.length_append];simp)|skip
       · rw [hsn,List.map_append];exact .sl rfl
       · rw [wsucc k (by omega)];exact .pur)
    | skip
end Go.Proofs

namespace Go.Proofs
open Go.AL Go.Sort
attribute [local irreducible] Go.AL.W Go.AL.WL Go.AL.WD Go.AL.POp Go.AL.PPOp Go.AL.POpS Go.AL.PC Go.AL.AC Go.AL.YW Go.AL.Ret Go.AL.Le Go.AL.thn Go.AL.inBlk Go.AL.scp
def kst (v : List Int) (i : Nat) : List Int:=v.set i (v.getD i 0 + 1)
def kindsL (l : List Dat) : List Int:=l.foldl (fun v d=>kst v d.v.kind.toNat) [0,0,0,0,0,0,0,0]
theorem kst_len (v : List Int) (i : Nat) : (kst v i).length = v.length:=by simp [kst]
theorem kinds_len (l : List Dat) : (kindsL l).length = 8:=by
  unfold kindsL
  suffices h : ∀ (m : List Dat) (v : List Int),v.length = 8 → (m.foldl (fun v d=>kst v d.v.kind.toNat) v).length = 8 from h l _ rfl
  intro m
  induction m with
  | nil=>intro v h;exact h
  | cons d m ih=>intro v h;exact ih _ (by rw [kst_len];exact h)
theorem kinds_take (l : List Dat) (i : Nat) (h : i < l.length) : kindsL (l.take (i + 1)) = kst (kindsL (l.take i)) l[i].v.kind.toNat:=by
  unfold kindsL;rw [List.take_succ_eq_append_getElem h,List.foldl_append];rfl
theorem kinds_bnd (l : List Dat) : ∀ i,0 ≤ (kindsL l).getD i 0 ∧ (kindsL l).getD i 0 ≤ l.length:=by
  unfold kindsL
  suffices h : ∀ (m : List Dat) (v : List Int) (n : Nat),(∀ i,0 ≤ v.getD i 0 ∧ v.getD i 0 ≤ n) → ∀ i,0 ≤ (m.foldl (fun v d=>kst v d.v.kind.toNat) v).getD i 0 ∧ (m.foldl (fun v d=>kst v d.v.kind.toNat) v).getD i 0 ≤ (n + m.length : Nat) by
    have:=h l [0,0,0,0,0,0,0,0] 0 (fun i=>by
      rcases i with _|_|_|_|_|_|_|_|i <;> simp)
    simpa using this
  intro m
  induction m with
  | nil=>intro v n h i;simpa using h i
  | cons d m ih =>
    intro v n h i
    have:=ih (kst v d.v.kind.toNat) (n + 1) (fun j=>by
      have h0:=h j
      unfold kst
      rw [List.getD_eq_getElem?_getD,List.getElem?_set]
      split
      · next e =>
        subst e
        have h1:=h d.v.kind.toNat
        split
        · simp only [Option.getD_some];omega
        · simp only [Option.getD_none];omega
      · rw [← List.getD_eq_getElem?_getD];omega) i
    simp only [List.length_cons,List.foldl_cons]
    refine ⟨this.1,Int.le_trans this.2 (by omega)⟩
theorem eight {v : List Int} (h : v.length = 8) : ∃ a b c d e f g i,v = [a,b,c,d,e,f,g,i]:=by
  rcases v with _ | ⟨a,_ | ⟨b,_ | ⟨c,_ | ⟨d,_ | ⟨e,_ | ⟨f,_ | ⟨g,_ | ⟨i,_ | ⟨k,v⟩⟩⟩⟩⟩⟩⟩⟩⟩ <;> simp at h
  exact ⟨_,_,_,_,_,_,_,_,rfl⟩
abbrev kC (v : List Int) : List AV:=v.map fun n=>.sc (.int .i64 n)
instance (v : List Int) : PurL (kC v):=⟨fun x hx=>by obtain ⟨n,_,rfl⟩:=List.mem_map.1 hx;exact Pur.h⟩
theorem kC_get {v : List Int} {i : Nat} (h : i < v.length) : (kC v)[i]? = some (.sc (.int .i64 (v.getD i 0))):=by
  rw [List.getElem?_map,List.getElem?_eq_getElem h,List.getD_eq_getElem?_getD,List.getElem?_eq_getElem h];rfl
theorem kC_set {v : List Int} {i : Nat} (h : i < v.length) : (kC v).take i ++ [.sc (.int .i64 (v.getD i 0 + 1))] ++ (kC v).drop (i + 1) = kC (kst v i):=by
  unfold kst kC
  rw [List.map_set,List.set_eq_take_append_cons_drop,if_pos (by simpa using h)]
  simp
theorem kind_rng {v : Val} (h : mayB v = true) : 1 ≤ v.kind ∧ v.kind ≤ 7:=by
  simp only [mayB,dP_t,MayP] at h
  omega
theorem sortS_kind {l : List Dat} {d : Dat} (h : d ∈ sortS 1 l) : 1 ≤ d.v.kind ∧ d.v.kind ≤ 7:=by
  unfold sortS at h
  split at h
  · next ha =>
    rw [dP_t] at ha
    exact kind_rng (ha d ((dsort_mem (by decide) l d).1 h).1).2.2.2.2.1
  · cases h
theorem sortS_len (o : Int) (l : List Dat) : (sortS o l).length ≤ l.length:=by
  unfold sortS
  split
  · exact dsortL_len o l
  · simp
set_option maxHeartbeats 16000000 in
theorem kinds_pc [GlobF Try.prog] (l : List Dat) (hl : l.length < 1048576) (hs : ∀ d,d ∈ l → d.v.s.length < 9223372036854775808) : PC Try.prog 23 [sl9 l] (.tu [.ag (kC (kindsL (sortS 1 l))),.sc (.int .i64 (if dP (allD l) then 0 else 40))]):=by
  have hsd:=ssorted_pc 1 l (by omega) hs
  have hk:=fun d=>sortS_kind (l:=l) (d:=d)
  have hDl:=sortS_len 1 l
  generalize sortS 1 l = D at *
  generalize (if dP (allD l) = true then (0 : Int) else 40) = E at *
  refine PC.of_body Try.func23 Try.ntmps23 rfl rfl rfl ?_
  repeat' first
 | (refine m_alloc (d:=2) rfl ?_)
 | (refine m_alloc (d:=4) rfl ?_)
 | (apply p1 (hd:=rfl);case hop=>first|(apply D_move;rfl)|(apply D_assign;rfl)|(apply D_pc hsd;rfl;exact .same rfl (.same rfl .nil))|(apply D_lenM;rfl)|(apply D_ext;rfl;rfl))
 | refine W_seq ?_
 | refine W_region ?_
 | refine WL_nil ?_
 | refine tn ?_
 | (refine W_block ?_)
  refine W_loopL (X:=Nat) (fun i=>[(2,.bp 0 0),(4,.bp 1 0),(6,.sc (.int .i64 E)),(14,sl9 D),(15,.sc (.int .i64 (D.length : Int))),(16,.sc (.int .i64 (i : Int)))]) (fun i=>[.cells (kC [0,0,0,0,0,0,0,0]),.cells (kC (kindsL (D.take i)))])
    (fun i=>i ≤ D.length) (fun i=>D.length - i) 0 (Nat.zero_le _) ⟨rfl,rfl,rfl,rfl,rfl,rfl,trivial⟩ rfl ?_
  intro i hi
  have hkl:=kinds_len (D.take i)
  have hkb:=kinds_bnd (D.take i)
  rw [List.length_take] at hkb
  by_cases hil : i < D.length
  · have ht:=kinds_take D i hil
    obtain ⟨r1,r2⟩:=hk _ (List.getElem_mem hil)
    have hb:=hkb (D[i]'hil).v.kind.toNat
    generalize kindsL (D.take i) = V at *
    have hkl8 : (D[i]'hil).v.kind.toNat < V.length:=by omega
    have hix : 0 + (D[i]'hil).v.kind.toNat * 1 = (D[i]'hil).v.kind.toNat:=by omega
    have hg : (kC V)[0 + (D[i]'hil).v.kind.toNat * 1]? = some (.sc (.int .i64 (V.getD (D[i]'hil).v.kind.toNat 0))):=by rw [hix];exact kC_get hkl8
    have hst : (kC V).take (0 + (D[i]'hil).v.kind.toNat * 1) ++ [.sc (.int .i64 (V.getD (D[i]'hil).v.kind.toNat 0 + 1))] ++ (kC V).drop (0 + (D[i]'hil).v.kind.toNat * 1 + 1) = kC (kst V (D[i]'hil).v.kind.toNat):=by rw [hix];exact kC_set hkl8
    have hble : Nat.ble (0 + (D[i]'hil).v.kind.toNat * 1 + 1) (kC V).length = true:=by rw [hix];simp [kC];omega
    have f1 : Value.int .i64 (IntKind.i64.wrap (V.getD (D[i]'hil).v.kind.toNat 0 + 1)) = .int .i64 (V.getD (D[i]'hil).v.kind.toNat 0 + 1):=by rw [w64 _ (by omega) (by omega)]
    repeat' first
 | (refine p1L (D_loadB1 rfl rfl hg) rfl ?_)
 | (refine pS (S_store rfl rfl rfl rfl rfl rfl hble) ?_)
 | (apply p1 (hd:=rfl);case hop=>first|(apply D_move;rfl)|exact D_sc (D_int rfl rfl rfl) f1|(apply D_load1;rfl)|(apply D_fld;rfl)|(apply D_int;rfl;rfl;rfl)|(apply D_loadW;rfl;rfl)|(apply D_idxAn;rfl;rfl;(first|omega|(simp;done)))|(apply D_ixPB;rfl;rfl;all_goals first|omega|((repeat rw [w64 _ (by omega) (by omega)]);omega)|decide))
 | refine W_seq ?_
 | refine W_region ?_
 | (refine idC ?_;refine cs rfl (fun _=>?_) (fun _=>?_))
 | refine WL_nil ?_
 | refine tn ?_
 | refine bn ?_
 | refine te ?_
 | (refine idB ?_;refine bh rfl ?_)
 | refine W_skip ?_
 | refine W_block ?_
 | refine W_exit ?_
 | (refine idA ?_;refine m_var rfl rfl rfl rfl rfl rfl rfl ?_)
    all_goals first|contradiction|(exfalso;omega)|skip
    refine ⟨rfl,i + 1,by omega,by omega,⟨rfl,rfl,rfl,rfl,rfl,ieq (wsucc i (by omega)),trivial⟩,?_⟩
    rw [ht,← hst];rfl
  · have ei : i = D.length:=by omega
    subst ei
    rw [List.take_length] at *
    obtain ⟨v0,v1,v2,v3,v4,v5,v6,v7,hV⟩:=eight hkl
    rw [hV]
    repeat' first
 | (apply p1 (hd:=rfl);case hop=>first|(apply D_move;rfl)|(apply D_assign;rfl)|(apply D_load1;rfl)|(apply D_fld;rfl)|(apply D_int;rfl;rfl;rfl)|(apply D_loadW;rfl;rfl)|(apply D_idxAn;rfl;rfl;(first|omega|(simp;done)))|(apply D_ixPB;rfl;rfl;all_goals first|omega|((repeat rw [w64 _ (by omega) (by omega)]);omega)|decide))
 | refine W_seq ?_
 | refine W_region ?_
 | (refine idC ?_;refine cs rfl (fun _=>?_) (fun _=>?_))
 | refine WL_nil ?_
 | refine tn ?_
 | refine te ?_
 | (refine idB ?_;refine bh rfl ?_)
 | refine W_skip ?_
 | refine W_block ?_
 | refine W_exit ?_
 | refine W_ret ?_
 | (refine idR ?_;first|refine rL2 rfl (by first|exact trivial|exact ⟨rfl,trivial⟩) (by first|exact ResO.tmp rfl|exact ResO.cellBA rfl rfl rfl|exact ResO.cellB1 rfl rfl rfl|exact ResO.cellEA rfl rfl|exact ResO.cellE1 rfl) (by first|exact ResO.tmp rfl|exact ResO.cellBA rfl rfl rfl|exact ResO.cellB1 rfl rfl rfl|exact ResO.cellEA rfl rfl|exact ResO.cellE1 rfl) ?_ ?_)
 | (refine idLd ?_;refine p1L (D_loadBA rfl rfl rfl) rfl ?_)
 | (refine idA ?_;refine m_var rfl rfl rfl rfl rfl rfl rfl ?_)
 | (refine idS ?_;refine pS (S_store rfl rfl rfl rfl rfl rfl rfl) ?_)
 | (refine Le.int ?_)
    all_goals first|contradiction|(exfalso;omega)|exact Le.of_eq rfl|rfl|skip
end Go.Proofs

namespace Go.Proofs
open Go.AL Go.Sort
attribute [local irreducible] Go.AL.W Go.AL.WL Go.AL.WD Go.AL.POp Go.AL.PPOp Go.AL.POpS Go.AL.PC Go.AL.AC Go.AL.YW Go.AL.Ret Go.AL.Le Go.AL.thn Go.AL.inBlk Go.AL.scp
noncomputable def kLen (o : Int) (l : List Dat) : Nat:=(l.map fun d=>(dkeyB o d).length).sum
def wr64 (x : Int) : Int:=IntKind.i64.wrap x
theorem wr64_add (a b : Int) : IntKind.i64.wrap (wr64 a + b) = wr64 (a + b):=by
  unfold wr64;rw [IntKind.wrap_i64,IntKind.wrap_i64,IntKind.wrap_i64];omega
theorem kLen_take (o : Int) (l : List Dat) (i : Nat) (h : i < l.length) : kLen o (l.take (i + 1)) = kLen o (l.take i) + (dkeyB o l[i]).length:=by
  unfold kLen;rw [List.take_succ_eq_append_getElem h,List.map_append,List.sum_append];simp
theorem kLen_perm {o : Int} {l m : List Dat} (h : l.Perm m) : kLen o l = kLen o m:=(h.map _).sum_nat
noncomputable def bytP (o : Int) (l : List Dat) : Int:=if 1 ≤ o ∧ o ≤ 4 then wr64 (kLen o (sortS o l) : Nat) else 0
open Classical in
noncomputable def bytE (o : Int) (l : List Dat) : Int:=if 1 ≤ o ∧ o ≤ 4 then (if dP (allD l) then 0 else 40) else 2
theorem sortS_sz {o : Int} {l : List Dat} (hs : ∀ d,d ∈ l → d.v.s.length < 9223372036854775808) : ∀ d,d ∈ sortS o l → d.v.s.length < 9223372036854775808:=fun d h=>by
  unfold sortS at h
  split at h
  · unfold dsortL at h
    split at h
    · next ho=>exact hs d ((dsort_mem ho l d).1 (by unfold dsortL;rw [if_pos ho];exact h)).1
    · cases h
  · cases h
set_option maxHeartbeats 16000000 in
theorem bytes_pc [GlobF Try.prog] (o : Int) (l : List Dat) (hl : l.length < 1048576) (hs : ∀ d,d ∈ l → d.v.s.length < 9223372036854775808) : PC Try.prog 25 [.sc (.int .i64 o),sl9 l] (.tu [.sc (.int .i64 (bytP o l)),.sc (.int .i64 (bytE o l))]):=by
  have hsd:=ssorted_pc o l (by omega) hs
  have hDs:=sortS_sz (o:=o) hs
  have hDl : (sortS o l).length ≤ l.length:=by
    unfold sortS
    split
    · exact dsortL_len o l
    · simp
  have hP : bytP o l = if 1 ≤ o ∧ o ≤ 4 then wr64 (kLen o (sortS o l) : Nat) else 0:=rfl
  have hE : bytE o l = if 1 ≤ o ∧ o ≤ 4 then (if dP (allD l) then 0 else 40) else 2:=rfl
  rw [hP,hE]
  generalize sortS o l = D at *
  generalize (if dP (allD l) = true then (0 : Int) else 40) = E at *
  by_cases ho : 1 ≤ o ∧ o ≤ 4
  rotate_left 1
  · rw [if_neg ho,if_neg ho]
    refine PC.of_body Try.func25 Try.ntmps25 rfl rfl rfl ?_
    repeat' first
 | (apply p1 (hd:=rfl);case hop=>first|(apply D_move;rfl)|(apply D_assign;rfl)|(apply D_pickT;rfl;rfl)|(apply D_pickF;rfl;rfl)|(apply D_int;rfl;rfl;rfl))
 | refine W_seq ?_
 | refine W_region ?_
 | (refine idC ?_;first|refine c1 rfl ?_|refine cs rfl (fun _=>?_) (fun _=>?_))
 | refine WL_nil ?_
 | (refine idG ?_;first|refine g0f rfl rfl rfl ?_|refine gr rfl rfl ?_|refine gs rfl rfl (fun _=>?_) (fun _=>?_))
 | refine tn ?_
 | refine tr ?_
 | refine W_skip ?_
 | refine W_ret ?_
 | (refine idR ?_;refine ret2 rfl rfl rfl rfl ?_ ?_)
 | (refine Le.int ?_)
    all_goals try (exfalso;omega)
    all_goals rfl
  rw [if_pos ho,if_pos ho]
  refine PC.of_body Try.func25 Try.ntmps25 rfl rfl rfl ?_
  repeat' first
 | (apply p1 (hd:=rfl);case hop=>first|(apply D_move;rfl)|(apply D_assign;rfl)|(apply D_pc hsd;rfl;exact .same rfl (.same rfl .nil))|(apply D_pickT;rfl;rfl)|(apply D_pickF;rfl;rfl)|(apply D_int;rfl;rfl;rfl)|(apply D_lenM;rfl)|(apply D_ext;rfl;rfl))
 | refine W_seq ?_
 | refine W_region ?_
 | (refine idC ?_;first|refine c1 rfl ?_|refine cs rfl (fun _=>?_) (fun _=>?_))
 | refine WL_nil ?_
 | (refine idG ?_;first|refine g0f rfl rfl rfl ?_|refine gr rfl rfl ?_|refine gs rfl rfl (fun _=>?_) (fun _=>?_))
 | refine tn ?_
 | refine tr ?_
 | refine W_skip ?_
 | refine W_block ?_
 | refine W_ret ?_
 | (refine idR ?_;refine ret2 rfl rfl rfl rfl ?_ ?_)
 | (refine Le.int ?_)
  all_goals try (exfalso;omega)
  refine W_loopL (X:=Nat) (fun i=>[(0,.sc (.int .i64 o)),(7,.sc (.int .i64 E)),(8,.sc (.int .i64 (wr64 (kLen o (D.take i) : Nat)))),(25,sl9 D),(26,.sc (.int .i64 (D.length : Int))),(27,.sc (.int .i64 (i : Int)))]) (fun _=>[])
    (fun i=>i ≤ D.length) (fun i=>D.length - i) 0 (Nat.zero_le _) ⟨rfl,rfl,rfl,rfl,rfl,rfl,trivial⟩ rfl ?_
  intro i hi
  by_cases hil : i < D.length
  · have ht:=kLen_take o D i hil
    have hk:=dkey_pc o (D[i]'hil) (hDs _ (List.getElem_mem hil))
    have hw : Value.int .i64 (IntKind.i64.wrap (wr64 (kLen o (D.take i) : Nat) + ((dkeyB o (D[i]'hil)).map byteC).length)) = .int .i64 (wr64 (kLen o (D.take (i + 1)) : Nat)):=by
      rw [wr64_add,ht,List.length_map];rfl
    generalize (dkeyB o (D[i]'hil)).map byteC = KB at *
    repeat' first
 | (apply p1 (hd:=rfl);case hop=>first|(apply D_move;rfl)|(apply D_assign;rfl)|exact D_sc (D_int rfl rfl rfl) hw|(apply D_pc hk;rfl;exact .same rfl (.same rfl .nil))|(apply D_int;rfl;rfl;rfl)|(apply D_len_sl;rfl)|(apply D_ext;rfl;rfl)|(apply D_loadW;rfl;rfl)|(apply D_idxAn;rfl;rfl;(first|omega|(simp;done))))
 | refine W_seq ?_
 | refine W_region ?_
 | (refine idC ?_;refine cs rfl (fun _=>?_) (fun _=>?_))
 | refine WL_nil ?_
 | refine tn ?_
 | refine bn ?_
 | refine te ?_
 | (refine idB ?_;refine bh rfl ?_)
 | refine W_skip ?_
 | refine W_block ?_
 | refine W_exit ?_
 | refine W_ret ?_
 | (refine idR ?_;refine ret2 rfl rfl rfl rfl ?_ ?_)
 | (refine idA ?_;refine m_var rfl rfl rfl rfl rfl rfl rfl ?_)
 | (refine Le.int ?_)
    all_goals first
      | contradiction
      | (exfalso;omega)
      | exact ⟨rfl,i + 1,by omega,by omega,⟨rfl,rfl,rfl,rfl,rfl,ieq (wsucc i (by omega)),trivial⟩,rfl⟩
      | skip
  · have ei : i = D.length:=by omega
    subst ei
    rw [List.take_length]
    repeat' first
 | (apply p1 (hd:=rfl);case hop=>first|(apply D_move;rfl)|(apply D_assign;rfl)|(apply D_int;rfl;rfl;rfl)|(apply D_loadW;rfl;rfl)|(apply D_idxAn;rfl;rfl;(first|omega|(simp;done))))
 | refine W_seq ?_
 | refine W_region ?_
 | (refine idC ?_;refine cs rfl (fun _=>?_) (fun _=>?_))
 | refine WL_nil ?_
 | refine tn ?_
 | refine te ?_
 | (refine idB ?_;refine bh rfl ?_)
 | refine W_skip ?_
 | refine W_block ?_
 | refine W_exit ?_
 | refine W_ret ?_
 | (refine idR ?_;refine ret2 rfl rfl rfl rfl ?_ ?_)
 | (refine idA ?_;refine m_var rfl rfl rfl rfl rfl rfl rfl ?_)
 | (refine Le.int ?_)
    all_goals first|contradiction|(exfalso;omega)|rfl|skip
end Go.Proofs

namespace Go.AL
section
variable {P : Program}
theorem eqItems_run {e m : Nat} {l : LK} (he : EqF P e [l] m) {d : Nat} (hd : m ≤ d) (w : World) (xs ys : List Value) : ∀ n j : Nat,lksB (List.replicate n l) (xs.drop j) = true → lksB (List.replicate n l) (ys.drop j) = true →
    (Op.eqItems d e 1 xs.toArray ys.toArray (List.range' j n)).run P w = .ok (lEq (xs.drop j) (ys.drop j)) w
  | 0,j,hx,hy=>by
    have e : ∀ {l : List Value},lksB [] l = true → l = []:=fun {l} h=>by cases l <;> simp [lksB] at h ⊢
    rw [e hx,e hy]
    have : lEq [] [] = true:=by rw [lEq_t]
    rw [this];rfl
  | n + 1,j,hx,hy=>by
    obtain ⟨x1,x2⟩:=lksB_app (L:=[l]) hx
    obtain ⟨y1,y2⟩:=lksB_app (L:=[l]) hy
    obtain ⟨a,b,p1,p2,p3⟩:=he.h w xs ys j x1 y1
    have p3':=p3 d hd
    rw [List.drop_drop] at x2 y2
    have ih:=eqItems_run he hd w xs ys n (j + 1) x2 y2
    have split : ∀ (l : List Value),l.drop j = (l.drop j).take 1 ++ l.drop (j + 1):=fun l=>by
      rw [← List.drop_drop,List.take_append_drop]
    have hl : ((xs.drop j).take [l].length).length = ((ys.drop j).take [l].length).length:=by rw [lksB_len x1,lksB_len y1]
    have key : lEq (xs.drop j) (ys.drop j) = (lEq ((xs.drop j).take [l].length) ((ys.drop j).take [l].length) && lEq (xs.drop (j + 1)) (ys.drop (j + 1))):=by
      refine (lEq_iff ?_).symm
      rw [Bool.and_eq_true,lEq_t,lEq_t]
      constructor
      · rintro ⟨h1,h2⟩;rw [split xs,split ys,h2];exact congrArg (· ++ _) h1
      · intro h
        rw [split xs,split ys] at h
        exact List.append_inj h hl
    rw [key,List.range'_succ]
    simp only [Op.eqItems,Nat.mul_one,Sem.run_bind,p1,p2,p3',Result.andThen_ok]
    cases lEq ((xs.drop j).take [l].length) ((ys.drop j).take [l].length)
    · simp
    · simpa using ih
theorem eqf_arr {t e n m : Nat} {l : LK} (hu : P.underlying t = some (.array n e)) (hi : (P.info? e).isSome = true) (hc : P.cellsOf e = 1) (hag : ∀ w,(isAgg t).run P w = .ok true w) (hs : ∀ w,(sizeOf t).run P w = .ok n w) (he : EqF P e [l] m) : EqF P t (List.replicate n l) (m + 1):=⟨fun w xs ys off hx hy=>by
  obtain ⟨i,hi⟩:=Option.isSome_iff_exists.1 hi
  rw [List.length_replicate] at hx hy ⊢
  have ex : ∀ (l : List Value),l.toArray.extract off (off + n) = ((l.drop off).take n).toArray:=fun l=>by
    apply Array.ext'
    rw [Array.toList_extract]
    simp [List.extract]
  refine ⟨.agg ((xs.drop off).take n).toArray,.agg ((ys.drop off).take n).toArray,by simp [part,hag w,hs w],by simp [part,hag w,hs w],fun d hd=>?_⟩
  obtain ⟨d,rfl⟩ : ∃ d',d = d' + 1:=⟨d - 1,by omega⟩
  rw [run_equalIn_array w d _ _ hu hi,hc,List.range_eq_range']
  have:=eqItems_run he (d:=d) (by omega) w ((xs.drop off).take n) ((ys.drop off).take n) n 0 (by simpa using hx) (by simpa using hy)
  simpa using this⟩
end
end Go.AL

namespace Go.Proofs
open Go.AL Go.Sort
attribute [local irreducible] Go.AL.W Go.AL.WL Go.AL.WD Go.AL.POp Go.AL.PPOp Go.AL.POpS Go.AL.PC Go.AL.AC Go.AL.YW Go.AL.Ret Go.AL.Le Go.AL.thn Go.AL.inBlk Go.AL.scp
instance : EqF Try.prog 63 [.i .i64,.i .i64,.i .i64,.i .i64,.i .i64,.i .i64,.i .i64,.i .i64] 2:=eqf_arr (n:=8) (l:=.i .i64) Try.underlying63 (by kernel_rfl) (by kernel_rfl) Try.isAgg63 Try.sizeOf63 inferInstance
instance : EqG Try.prog 63:=⟨by kernel_rfl⟩
set_option maxHeartbeats 16000000 in
theorem rkinds_pc [GlobF Try.prog] (l : List Dat) (hl : l.length < 1048576) (hs : ∀ d,d ∈ l → d.v.s.length < 9223372036854775808) : PC Try.prog 24 [sl9 l] (.tu [.ag (kC (kindsL (sortS 1 l))),.sc (.int .i64 (if dP (allD l) then 0 else 40))]):=by
  have hsd:=rall_pc l (by omega) hs
  have hk:=fun d=>sortS_kind (l:=l) (d:=d)
  have hDl:=sortS_len 1 l
  generalize sortS 1 l = D at *
  generalize (if dP (allD l) = true then (0 : Int) else 40) = E at *
  refine PC.of_body Try.func24 Try.ntmps24 rfl rfl rfl ?_
  repeat' first
 | (refine m_alloc (d:=2) rfl ?_)
 | (refine m_alloc (d:=4) rfl ?_)
 | (apply p1 (hd:=rfl);case hop=>first|(apply D_move;rfl)|(apply D_assign;rfl)|(apply D_pc hsd;rfl;exact .same rfl .nil)|(apply D_ext;rfl;rfl))
 | refine W_seq ?_
 | refine W_region ?_
 | refine WL_nil ?_
 | refine tn ?_
 | (refine W_block ?_)
  refine W_loopL (X:=Nat) (fun i=>[(2,.bp 0 0),(4,.bp 1 0),(5,sl9 D),(6,.sc (.int .i64 E)),(7,.sc (.int .i64 (i : Int)))]) (fun i=>[.cells (kC [0,0,0,0,0,0,0,0]),.cells (kC (kindsL (D.take i)))])
    (fun i=>i ≤ D.length) (fun i=>D.length - i) 0 (Nat.zero_le _) ⟨rfl,rfl,rfl,rfl,rfl,trivial⟩ rfl ?_
  intro i hi
  have hkl:=kinds_len (D.take i)
  have hkb:=kinds_bnd (D.take i)
  rw [List.length_take] at hkb
  by_cases hil : i < D.length
  · have ht:=kinds_take D i hil
    obtain ⟨r1,r2⟩:=hk _ (List.getElem_mem hil)
    have hb:=hkb (D[i]'hil).v.kind.toNat
    generalize kindsL (D.take i) = V at *
    have hkl8 : (D[i]'hil).v.kind.toNat < V.length:=by omega
    have hix : 0 + (D[i]'hil).v.kind.toNat * 1 = (D[i]'hil).v.kind.toNat:=by omega
    have hg : (kC V)[0 + (D[i]'hil).v.kind.toNat * 1]? = some (.sc (.int .i64 (V.getD (D[i]'hil).v.kind.toNat 0))):=by rw [hix];exact kC_get hkl8
    have hst : (kC V).take (0 + (D[i]'hil).v.kind.toNat * 1) ++ [.sc (.int .i64 (V.getD (D[i]'hil).v.kind.toNat 0 + 1))] ++ (kC V).drop (0 + (D[i]'hil).v.kind.toNat * 1 + 1) = kC (kst V (D[i]'hil).v.kind.toNat):=by rw [hix];exact kC_set hkl8
    have hble : Nat.ble (0 + (D[i]'hil).v.kind.toNat * 1 + 1) (kC V).length = true:=by rw [hix];simp [kC];omega
    have f1 : Value.int .i64 (IntKind.i64.wrap (V.getD (D[i]'hil).v.kind.toNat 0 + 1)) = .int .i64 (V.getD (D[i]'hil).v.kind.toNat 0 + 1):=by rw [w64 _ (by omega) (by omega)]
    repeat' first
 | (refine p1L (D_loadB1 rfl rfl hg) rfl ?_)
 | (refine pS (S_store rfl rfl rfl rfl rfl rfl hble) ?_)
 | (apply p1 (hd:=rfl);case hop=>first|(apply D_move;rfl)|(apply D_assign;rfl)|exact D_sc (D_int rfl rfl rfl) f1|(apply D_load1;rfl)|(apply D_fld;rfl)|(apply D_int;rfl;rfl;rfl)|(apply D_lenM;rfl)|(apply D_idxAn;rfl;rfl;(first|omega|(simp;done)))|(apply D_ixPB;rfl;rfl;all_goals first|omega|((repeat rw [w64 _ (by omega) (by omega)]);omega)|decide))
 | refine W_seq ?_
 | refine W_region ?_
 | (refine idC ?_;refine cs rfl (fun _=>?_) (fun _=>?_))
 | refine WL_nil ?_
 | refine tn ?_
 | refine bn ?_
 | refine te ?_
 | (refine idB ?_;refine bh rfl ?_)
 | refine W_skip ?_
 | refine W_block ?_
 | (refine W_exit ?_)
    all_goals first|contradiction|(exfalso;omega)|skip
    refine ⟨rfl,i + 1,by omega,by omega,⟨rfl,rfl,rfl,rfl,ieq (wsucc i (by omega)),trivial⟩,?_⟩
    rw [ht,← hst];rfl
  · have ei : i = D.length:=by omega
    subst ei
    rw [List.take_length] at *
    obtain ⟨v0,v1,v2,v3,v4,v5,v6,v7,hV⟩:=eight hkl
    rw [hV]
    repeat' first
 | (apply p1 (hd:=rfl);case hop=>first|(apply D_move;rfl)|(apply D_assign;rfl)|(apply D_load1;rfl)|(apply D_fld;rfl)|(apply D_int;rfl;rfl;rfl)|(apply D_lenM;rfl)|(apply D_idxAn;rfl;rfl;(first|omega|(simp;done)))|(apply D_ixPB;rfl;rfl;all_goals first|omega|((repeat rw [w64 _ (by omega) (by omega)]);omega)|decide))
 | refine W_seq ?_
 | refine W_region ?_
 | (refine idC ?_;refine cs rfl (fun _=>?_) (fun _=>?_))
 | refine WL_nil ?_
 | refine tn ?_
 | refine te ?_
 | (refine idB ?_;refine bh rfl ?_)
 | refine W_skip ?_
 | refine W_block ?_
 | refine W_exit ?_
 | refine W_ret ?_
 | (refine idR ?_;first|refine rL2 rfl (by first|exact trivial|exact ⟨rfl,trivial⟩) (by first|exact ResO.tmp rfl|exact ResO.cellBA rfl rfl rfl|exact ResO.cellB1 rfl rfl rfl|exact ResO.cellEA rfl rfl|exact ResO.cellE1 rfl) (by first|exact ResO.tmp rfl|exact ResO.cellBA rfl rfl rfl|exact ResO.cellB1 rfl rfl rfl|exact ResO.cellEA rfl rfl|exact ResO.cellE1 rfl) ?_ ?_)
 | (refine idLd ?_;refine p1L (D_loadBA rfl rfl rfl) rfl ?_)
 | (refine idS ?_;refine pS (S_store rfl rfl rfl rfl rfl rfl rfl) ?_)
 | (refine Le.int ?_)
    all_goals first|contradiction|(exfalso;omega)|exact Le.of_eq rfl|rfl|skip
noncomputable def bytR (o : Int) (l : List Dat) : Int:=if 1 ≤ o ∧ o ≤ 4 then wr64 (kLen o (sortS 1 l) : Nat) else 0
theorem key_no {o : Int} {d : Dat} (h : dkeyE o d ≠ 0) : dkeyB o d = []:=by
  unfold dkeyE at h
  unfold dkeyB
  split
  · next ho =>
    rw [if_pos ho] at h
    split
    · next hd=>rw [if_pos hd] at h;exact absurd rfl h
    · rfl
  · rfl
theorem bytR_eq (o : Int) (l : List Dat) : bytR o l = bytP o l:=by
  unfold bytR bytP
  split
  · next ho =>
    unfold sortS
    split
    · have hp : (dsortL o l).Perm ((dsortL 1 l).filter fun d=>dP (hasP o d)):=by
        have hn : ∀ o,1 ≤ o ∧ o ≤ 4 → (dsortL o l).Nodup:=fun o ho=>(dsort_rise ho l).imp fun {a b} h e=>by
          subst e
          have:=(wc_cmpD o).refl a
          omega
        refine (List.perm_ext_iff_of_nodup (hn o ho) ((hn 1 (by decide)).filter _)).2 fun d=>?_
        rw [dsort_mem ho,List.mem_filter,dsort_mem (by decide),dP_t]
        exact ⟨fun h=>⟨⟨h.1,.inl (by decide)⟩,h.2⟩,fun h=>⟨h.1.1,h.2⟩⟩
      rw [kLen_perm hp]
      have hz : ∀ m : List Dat,kLen o (m.filter fun d=>dP (hasP o d)) = kLen o m:=fun m=>by
        induction m with
        | nil=>rfl
        | cons d m ih =>
          rw [List.filter_cons]
          by_cases h : hasP o d
          · rw [if_pos (dP_t.mpr h)]
            unfold kLen at ih ⊢
            simp only [List.map_cons,List.sum_cons,ih]
          · rw [if_neg (fun e=>h (dP_t.mp e)),ih]
            have hb : dkeyB o d = []:=by
              unfold dkeyB
              rw [if_pos ho,if_neg fun e=>h e.2]
            unfold kLen
            simp only [List.map_cons,List.sum_cons,hb,List.length_nil,Nat.zero_add]
      rw [hz]
    · rfl
  · rfl
set_option maxHeartbeats 16000000 in
theorem rbytes_pc [GlobF Try.prog] (o : Int) (l : List Dat) (hl : l.length < 1048576) (hs : ∀ d,d ∈ l → d.v.s.length < 9223372036854775808) : PC Try.prog 26 [.sc (.int .i64 o),sl9 l] (.tu [.sc (.int .i64 (bytR o l)),.sc (.int .i64 (bytE o l))]):=by
  have hsd:=rall_pc l (by omega) hs
  have hDs:=sortS_sz (o:=1) hs
  have hDl:=sortS_len 1 l
  have hP : bytR o l = if 1 ≤ o ∧ o ≤ 4 then wr64 (kLen o (sortS 1 l) : Nat) else 0:=rfl
  have hE : bytE o l = if 1 ≤ o ∧ o ≤ 4 then (if dP (allD l) then 0 else 40) else 2:=rfl
  rw [hP,hE]
  generalize sortS 1 l = D at *
  generalize (if dP (allD l) = true then (0 : Int) else 40) = E at *
  by_cases ho : 1 ≤ o ∧ o ≤ 4
  rotate_left 1
  · rw [if_neg ho,if_neg ho]
    refine PC.of_body Try.func26 Try.ntmps26 rfl rfl rfl ?_
    repeat' first
 | (apply p1 (hd:=rfl);case hop=>first|(apply D_move;rfl)|(apply D_assign;rfl)|(apply D_pickT;rfl;rfl)|(apply D_pickF;rfl;rfl)|(apply D_int;rfl;rfl;rfl))
 | refine W_seq ?_
 | refine W_region ?_
 | (refine idC ?_;first|refine c1 rfl ?_|refine cs rfl (fun _=>?_) (fun _=>?_))
 | refine WL_nil ?_
 | (refine idG ?_;first|refine g0f rfl rfl rfl ?_|refine gr rfl rfl ?_|refine gs rfl rfl (fun _=>?_) (fun _=>?_))
 | refine tn ?_
 | refine tr ?_
 | refine W_skip ?_
 | refine W_ret ?_
 | (refine idR ?_;refine ret2 rfl rfl rfl rfl ?_ ?_)
 | (refine Le.int ?_)
    all_goals try (exfalso;omega)
    all_goals rfl
  rw [if_pos ho,if_pos ho]
  refine PC.of_body Try.func26 Try.ntmps26 rfl rfl rfl ?_
  repeat' first
 | (apply p1 (hd:=rfl);case hop=>first|(apply D_move;rfl)|(apply D_assign;rfl)|(apply D_pc hsd;rfl;exact .same rfl .nil)|(apply D_pickT;rfl;rfl)|(apply D_pickF;rfl;rfl)|(apply D_int;rfl;rfl;rfl)|(apply D_ext;rfl;rfl))
 | refine W_seq ?_
 | refine W_region ?_
 | (refine idC ?_;first|refine c1 rfl ?_|refine cs rfl (fun _=>?_) (fun _=>?_))
 | refine WL_nil ?_
 | (refine idG ?_;first|refine g0f rfl rfl rfl ?_|refine gr rfl rfl ?_|refine gs rfl rfl (fun _=>?_) (fun _=>?_))
 | refine tn ?_
 | refine tr ?_
 | refine W_skip ?_
 | refine W_block ?_
 | refine W_ret ?_
 | (refine idR ?_;refine ret2 rfl rfl rfl rfl ?_ ?_)
 | (refine Le.int ?_)
  all_goals try (exfalso;omega)
  refine W_loopL (X:=Nat) (fun i=>[(0,.sc (.int .i64 o)),(6,sl9 D),(7,.sc (.int .i64 E)),(8,.sc (.int .i64 (wr64 (kLen o (D.take i) : Nat)))),(9,.sc (.int .i64 (i : Int)))]) (fun _=>[])
    (fun i=>i ≤ D.length) (fun i=>D.length - i) 0 (Nat.zero_le _) ⟨rfl,rfl,rfl,rfl,rfl,trivial⟩ rfl ?_
  intro i hi
  by_cases hil : i < D.length
  · have ht:=kLen_take o D i hil
    have hk:=dkey1_pc o (D[i]'hil) (hDs _ (List.getElem_mem hil))
    by_cases hke : dkeyE o (D[i]'hil) = 0
    · have g0 : Value.bool (iEq (dkeyE o (D[i]'hil)) 0) = .bool true:=by rw [(iEq_t _ _).mpr hke]
      have hw : Value.int .i64 (IntKind.i64.wrap (wr64 (kLen o (D.take i) : Nat) + ((dkeyB o (D[i]'hil)).map byteC).length)) = .int .i64 (wr64 (kLen o (D.take (i + 1)) : Nat)):=by
        rw [wr64_add,ht,List.length_map];rfl
      generalize (dkeyB o (D[i]'hil)).map byteC = KB at *
      repeat' first
 | (apply p1 (hd:=rfl);case hop=>first|(apply D_move;rfl)|(apply D_assign;rfl)|exact D_sc (D_int rfl rfl rfl) hw|exact D_sc (D_int rfl rfl rfl) g0|(apply D_pc hk;rfl;exact .same rfl (.same rfl .nil))|(apply D_int;rfl;rfl;rfl)|(apply D_lenM;rfl)|(apply D_len_sl;rfl)|(apply D_ext;rfl;rfl)|(apply D_loadW;rfl;rfl)|(apply D_idxAn;rfl;rfl;(first|omega|(simp;done))))
 | refine W_seq ?_
 | refine W_region ?_
 | (refine idC ?_;first|refine c1 rfl ?_|refine cs rfl (fun _=>?_) (fun _=>?_))
 | refine WL_nil ?_
 | refine tn ?_
 | refine bn ?_
 | refine te ?_
 | (refine idB ?_;refine bh rfl ?_)
 | refine W_skip ?_
 | refine W_block ?_
 | refine W_exit ?_
 | refine W_ret ?_
 | (refine idR ?_;refine ret2 rfl rfl rfl rfl ?_ ?_)
 | (refine Le.int ?_)
      all_goals first
        | contradiction
        | (exfalso;omega)
        | exact ⟨rfl,i + 1,by omega,by omega,⟨rfl,rfl,rfl,rfl,ieq (wsucc i (by omega)),trivial⟩,rfl⟩
        | skip
    · have g0 : Value.bool (iEq (dkeyE o (D[i]'hil)) 0) = .bool false:=by rw [(iEq_f _ _).mpr hke]
      rw [key_no hke,List.length_nil,Nat.add_zero] at ht
      have hh : lookO [(0,AV.sc (.int .i64 (wr64 (kLen o (D.take i) : Nat))))] 0 = some (.sc (.int .i64 (wr64 (kLen o (D.take (i + 1)) : Nat)))):=by rw [ht];rfl
      repeat' first
 | (apply p1 (hd:=rfl);case hop=>first|(apply D_move;rfl)|(apply D_assign;rfl)|exact D_sc (D_int rfl rfl rfl) g0|(apply D_pc hk;rfl;exact .same rfl (.same rfl .nil))|(apply D_int;rfl;rfl;rfl)|(apply D_lenM;rfl)|(apply D_ext;rfl;rfl)|(apply D_loadW;rfl;rfl)|(apply D_idxAn;rfl;rfl;(first|omega|(simp;done))))
 | refine W_seq ?_
 | refine W_region ?_
 | (refine idC ?_;first|refine c0 rfl ?_|refine cs rfl (fun _=>?_) (fun _=>?_))
 | refine WL_nil ?_
 | refine tn ?_
 | refine bn ?_
 | refine te ?_
 | (refine idB ?_;refine bh rfl ?_)
 | refine W_skip ?_
 | refine W_block ?_
 | refine W_exit ?_
 | refine W_ret ?_
 | (refine idR ?_;refine ret2 rfl rfl rfl rfl ?_ ?_)
 | (refine Le.int ?_)
      all_goals first
        | contradiction
        | (exfalso;omega)
        | exact ⟨rfl,i + 1,by omega,by omega,⟨rfl,rfl,rfl,hh,ieq (wsucc i (by omega)),trivial⟩,rfl⟩
        | skip
  · have ei : i = D.length:=by omega
    subst ei
    rw [List.take_length]
    repeat' first
 | (apply p1 (hd:=rfl);case hop=>first|(apply D_move;rfl)|(apply D_assign;rfl)|(apply D_int;rfl;rfl;rfl)|(apply D_lenM;rfl)|(apply D_loadW;rfl;rfl)|(apply D_idxAn;rfl;rfl;(first|omega|(simp;done))))
 | refine W_seq ?_
 | refine W_region ?_
 | (refine idC ?_;refine cs rfl (fun _=>?_) (fun _=>?_))
 | refine WL_nil ?_
 | refine tn ?_
 | refine te ?_
 | (refine idB ?_;refine bh rfl ?_)
 | refine W_skip ?_
 | refine W_block ?_
 | refine W_exit ?_
 | refine W_ret ?_
 | (refine idR ?_;refine ret2 rfl rfl rfl rfl ?_ ?_)
 | (refine Le.int ?_)
    all_goals first|contradiction|(exfalso;omega)|rfl|skip
set_option maxHeartbeats 16000000 in
theorem statsCounts_pc [GlobF Try.prog] (l : List Dat) (o : Int) (hl : l.length < 9223372036854775808) (hs : ∀ d,d ∈ l → d.v.s.length < 9223372036854775808) : PC Try.prog 6 [sl9 l,.sc (.int .i64 o)] (.sc (.bool true)):=by
  have hg:=great29_pc l hl
  by_cases hc : 200 < l.length ∨ 4000 < grS 0 l
  · rw [← dP_T hc] at hg
    refine PC.of_body Try.func6 Try.ntmps6 rfl rfl rfl ?_
    repeat' first
 | (apply p1 (hd:=rfl);case hop=>first|(apply D_move;rfl)|(apply D_assign;rfl)|(apply D_pc hg;rfl;exact .same rfl .nil))
 | refine W_seq ?_
 | refine W_region ?_
 | (refine idC ?_;refine c1 rfl ?_)
 | refine WL_nil ?_
 | refine tn ?_
 | refine tr ?_
 | refine W_ret ?_
 | (refine idR ?_;refine ret1 rfl rfl rfl ?_)
 | (refine Le.bool ?_)
    all_goals first|rfl|contradiction|skip
  rw [← dP_F hc] at hg
  have hl2 : l.length ≤ 200:=Nat.le_of_not_lt fun h=>hc (.inl h)
  have q1:=txs_pc l (by omega) hs
  have q2:=rtxs_pc l (by omega) hs
  have q3:=kinds_pc l (by omega) hs
  have q4:=rkinds_pc l (by omega) hs
  have q5:=bytes_pc o l (by omega) hs
  have q6:=rbytes_pc o l (by omega) hs
  rw [bytR_eq] at q6
  rw [← txs_eq] at q2
  have hkl:=kinds_len (sortS 1 l)
  obtain ⟨v0,v1,v2,v3,v4,v5,v6,v7,hV⟩:=eight hkl
  rw [hV] at q3 q4
  have hAl : (if dP (allD l) = true then txsL (dsortL 1 l) else []).length ≤ 200:=by
    split
    · exact Nat.le_trans (txsL_ok _ _ rfl).1 (Nat.le_trans (dsortL_len 1 l) hl2)
    · simp
  generalize (if dP (allD l) = true then txsL (dsortL 1 l) else []) = A at *
  generalize (if dP (allD l) = true then (0 : Int) else 40) = E at *
  generalize bytP o l = BP at *
  generalize bytE o l = BE at *
  have gz : ∀ v : Int,Value.bool (bNot (iEq v v)) = .bool false:=fun v=>by rw [(iEq_t _ _).mpr rfl];simp [bNot]
  have gv : ∀ L : List Value,Value.bool (bNot (lEq L L)) = .bool false:=fun L=>by rw [(lEq_t _ _).mpr rfl];simp [bNot]
  refine PC.of_body Try.func6 Try.ntmps6 rfl rfl rfl ?_
  repeat' first
 | (apply p1 (hd:=rfl);case hop=>first|(apply D_move;rfl)|(apply D_assign;rfl)|(apply D_pc hg;rfl;exact .same rfl .nil)|(apply D_pc q1;rfl;exact .same rfl .nil)|(apply D_pc q2;rfl;exact .same rfl .nil)|(apply D_pc q3;rfl;exact .same rfl .nil)|(apply D_pc q4;rfl;exact .same rfl .nil)|(apply D_pc q5;rfl;exact .same rfl (.same rfl .nil))|(apply D_pc q6;rfl;exact .same rfl (.same rfl .nil))|exact D_sc (D_int rfl rfl rfl) (gz _)|exact D_sc (D_neA rfl rfl rfl rfl rfl rfl rfl) (gv _)|(apply D_pickF;rfl;rfl)|(apply D_lenM;rfl)|(apply D_ext;rfl;rfl)|(apply D_loadW;rfl;rfl))
 | refine W_seq ?_
 | refine W_region ?_
 | (refine idC ?_;refine c0 rfl ?_)
 | refine WL_nil ?_
 | (refine idG ?_;refine gr rfl rfl ?_)
 | refine tn ?_
 | refine W_skip ?_
 | refine W_block ?_
 | (refine idA ?_;refine m_var rfl rfl rfl rfl rfl rfl rfl ?_)
  all_goals try contradiction
  refine W_loopR (X:=Nat) (fun i=>[(5,.sl none 3 (A.map txC)),(7,.sl none 3 (A.map txC)),(83,.sc (.int .i64 (A.length : Int))),(84,.sc (.int .i64 (i : Int)))]) (fun _=>[])
    (fun i=>i ≤ A.length) (fun i=>A.length - i) 0 (Nat.zero_le _) ⟨rfl,rfl,rfl,rfl,trivial⟩ rfl ?_
  intro i hi
  by_cases hil : i < A.length
  · repeat' first
 | (apply p1 (hd:=rfl);case hop=>first|(apply D_move;rfl)|(apply D_assign;rfl)|(apply D_int;rfl;rfl;rfl))
 | refine W_seq ?_
 | refine W_region ?_
 | (refine idC ?_;first|refine c0 rfl ?_|refine cs rfl (fun _=>?_) (fun _=>?_))
 | refine WL_nil ?_
 | refine tn ?_
 | refine bn ?_
 | refine te ?_
 | (refine idB ?_;refine bh rfl ?_)
 | refine W_skip ?_
 | refine W_block ?_
 | refine W_exit ?_
 | refine W_ret ?_
 | (refine idR ?_;refine ret1 rfl rfl rfl ?_)
 | refine Le.bool ?_
 | (refine idW ?_;refine W_draw0 rfl ?_)
 | (apply d1 (hd:=rfl);case hop=>first|(apply D_move;rfl)|exact D_sc (D_int rfl rfl rfl) (gz _)|(apply D_load1;rfl)|(apply D_fld;rfl)|(apply D_pickF;rfl;rfl)|(apply D_idxAn;rfl;rfl;(first|omega|(simp;done))))
 | (refine idDg ?_;refine dgr rfl rfl ?_)
 | (refine WD_nil (by first|decide +kernel|kernel_rfl|rfl) ?_)
    all_goals first
      | contradiction
      | (exfalso;omega)
      | (refine ⟨rfl,i + 1,by omega,by omega,[],renN ⟨⟨_,rfl,.pur⟩,⟨_,rfl,.pur⟩,⟨_,rfl,.pur⟩,⟨_,rfl,?_⟩,trivial⟩⟩
         rw [wsucc i (by omega)];exact .pur)
      | skip
  · repeat' first
 | (apply p1 (hd:=rfl);case hop=>first|(apply D_move;rfl)|(apply D_assign;rfl)|(apply D_int;rfl;rfl;rfl))
 | refine W_seq ?_
 | refine W_region ?_
 | (refine idC ?_;first|refine c1 rfl ?_|refine cs rfl (fun _=>?_) (fun _=>?_))
 | refine WL_nil ?_
 | refine tn ?_
 | refine tr ?_
 | refine br ?_
 | refine bn ?_
 | refine te ?_
 | (refine idB ?_;refine bh rfl ?_)
 | refine W_skip ?_
 | refine W_block ?_
 | refine W_exit ?_
 | refine W_ret ?_
 | (refine idR ?_;refine ret1 rfl rfl rfl ?_)
 | refine Le.bool ?_
 | (refine idW ?_;refine W_draw0 rfl ?_)
 | (apply d1 (hd:=rfl);case hop=>first|(apply D_move;rfl)|(apply D_load1;rfl)|(apply D_fld;rfl)|(apply D_pickT;rfl;rfl)|(apply D_pickF;rfl;rfl)|(apply D_int;rfl;rfl;rfl)|(apply D_idxAn;rfl;rfl;(first|omega|(simp;done))))
 | (refine idDg ?_;first|refine dg0f rfl rfl rfl ?_|refine dgr rfl rfl ?_|refine dgs rfl rfl (fun _=>?_) (fun _=>?_))
 | (refine WD_nil (by first|decide +kernel|kernel_rfl|rfl) ?_)
    all_goals first
      | contradiction
      | (exfalso;omega)
      | rfl
      | skip
end Go.Proofs

namespace Go.AL
end Go.AL

namespace Go.Proofs
open Go.AL
def spOk (s : Sp) : Prop:=(Lit.int .i64 s.f).wf = true ∧ (Lit.int .i64 s.t).wf = true
theorem i64_wf0 {n : Int} (h : (Lit.int .i64 n).wf = true) : -9223372036854775808 ≤ n ∧ n ≤ 9223372036854775807:=by
  simp [Lit.wf,IntKind.min,IntKind.max,IntKind.signed,IntKind.bits] at h
  omega
def valOk (v : Val) : Prop:=(Lit.int .i64 v.kind).wf = true ∧ (Lit.int .i64 v.n).wf = true ∧ v.s.length ≤ maxLen
def datOk (d : Dat) : Prop:=(Lit.int .i64 d.e).wf = true ∧ (Lit.int .i64 d.a).wf = true ∧ valOk d.v ∧ (Lit.int .i64 d.t).wf = true ∧ True ∧ (Lit.int .i64 d.fr).wf = true ∧ (Lit.int .i64 d.to).wf = true
theorem datOk.rg {d : Dat} (h : datOk d) : loT ≤ d.fr ∧ d.to ≤ hiT:=⟨(i64_wf0 h.2.2.2.2.2.1).1,(i64_wf0 h.2.2.2.2.2.2).2⟩
theorem datOk.sl {d : Dat} (h : datOk d) : d.v.s.length < 9223372036854775808:=Nat.lt_succ_of_le (show _ ≤ 9223372036854775807 from h.2.2.1.2.2)
instance : Opn Try.prog 2 (fun n : Int=>[.sc (.int .i64 n)]) (fun n : Int=>(Lit.int .i64 n).wf = true):=opn_int Try.underlying2
instance : Opn Try.prog 3 (fun n : Int=>[.sc (.int .i64 n)]) (fun n : Int=>(Lit.int .i64 n).wf = true):=opn_int Try.underlying3
instance : Opn Try.prog 4 (fun b : Bool=>[.sc (.bool b)]) (fun _ : Bool=>True):=opn_bool Try.underlying4
instance : Opn Try.prog 5 (fun n : Int=>[.sc (.int .u8 n)]) (fun n : Int=>(Lit.int .u8 n).wf = true):=opn_int Try.underlying5
instance : Opn Try.prog 6 (fun n : Int=>[.sc (.int .u8 n)]) (fun n : Int=>(Lit.int .u8 n).wf = true):=opn_int Try.underlying6
instance : Opn Try.prog 9 (fun l : List UInt8=>[str l]) (fun l : List UInt8=>l.length ≤ maxLen):=opn_str Try.underlying9
instance : Opn Try.prog 10 (fun l : List UInt8=>[str l]) (fun l : List UInt8=>l.length ≤ maxLen):=opn_str Try.underlying10
instance : Opn Try.prog 11 (fun l : List UInt8=>[str l]) (fun l : List UInt8=>l.length ≤ maxLen):=opn_str Try.underlying11
instance : Opn Try.prog 12 (fun n : Int=>[.sc (.int .u64 n)]) (fun n : Int=>(Lit.int .u64 n).wf = true):=opn_int Try.underlying12
instance : Opn Try.prog 21 (fun n : Int=>[.sc (.int .i32 n)]) (fun n : Int=>(Lit.int .i32 n).wf = true):=opn_int Try.underlying21
instance : Opn Try.prog 26 (fun n : Int=>[.sc (.int .i64 n)]) (fun n : Int=>(Lit.int .i64 n).wf = true):=opn_int Try.underlying26
instance : Opn Try.prog 161 (fun n : Int=>[.sc (.int .u64 n)]) (fun n : Int=>(Lit.int .u64 n).wf = true):=opn_int Try.underlying161
instance : Opn Try.prog 192 (fun n : Int=>[.sc (.int .i64 n)]) (fun n : Int=>(Lit.int .i64 n).wf = true):=opn_int Try.underlying192
instance : Opn Try.prog 199 (fun n : Int=>[.sc (.int .u32 n)]) (fun n : Int=>(Lit.int .u32 n).wf = true):=opn_int Try.underlying199
instance : Opn Try.prog 201 (fun n : Int=>[.sc (.int .u64 n)]) (fun n : Int=>(Lit.int .u64 n).wf = true):=opn_int Try.underlying201
instance : Opn Try.prog 218 (fun n : Int=>[.sc (.int .u64 n)]) (fun n : Int=>(Lit.int .u64 n).wf = true):=opn_int Try.underlying218
instance : Opn Try.prog 247 (fun n : Int=>[.sc (.int .u8 n)]) (fun n : Int=>(Lit.int .u8 n).wf = true):=opn_int Try.underlying247
instance : Opn Try.prog 248 (fun n : Int=>[.sc (.int .u8 n)]) (fun n : Int=>(Lit.int .u8 n).wf = true):=opn_int Try.underlying248
instance : Opn Try.prog 251 (fun n : Int=>[.sc (.int .i32 n)]) (fun n : Int=>(Lit.int .i32 n).wf = true):=opn_int Try.underlying251
instance : Opn Try.prog 252 (fun n : Int=>[.sc (.int .i32 n)]) (fun n : Int=>(Lit.int .i32 n).wf = true):=opn_int Try.underlying252
instance : Opn Try.prog 114 sC spOk:=⟨fun {H en w base spare held fuel cs x} hsp h=>by
  obtain ⟨xs,n,rfl,rfl,hl,hn,hf⟩:=DataW.trod_struct Try.underlying114 h
  have hn' : xs.length = 2:=hn
  obtain ⟨a0,c0,k0⟩:=fld_open (ft:=2) (o:=0) hsp (hf 0 _ rfl) (by omega)
  obtain ⟨a1,c1,k1⟩:=fld_open (ft:=2) (o:=1) hsp (hf 1 _ rfl) (by omega)
  exact ⟨Sp.mk a0 a1,(fl_cons c0 (fl_cons c1 (fl_nil (by rw [hl,Cel.h (P:=Try.prog) (t:=114)];exact Nat.le_refl _)))),⟨k0,k1⟩⟩⟩
instance : Opn Try.prog 109 (fun l : List Sp=>[.sl none 2 (l.map sC)]) (fun l : List Sp=>l.length ≤ maxLen ∧ ∀ a,a ∈ l → spOk a):=opn_slice Try.underlying109 (fun _=>rfl) (by decide)
instance : Opn Try.prog 34 vC valOk:=⟨fun {H en w base spare held fuel cs x} hsp h=>by
  obtain ⟨xs,n,rfl,rfl,hl,hn,hf⟩:=DataW.trod_struct Try.underlying34 h
  have hn' : xs.length = 3:=hn
  obtain ⟨a0,c0,k0⟩:=fld_open (ft:=3) (o:=0) hsp (hf 0 _ rfl) (by omega)
  obtain ⟨a1,c1,k1⟩:=fld_open (ft:=2) (o:=1) hsp (hf 1 _ rfl) (by omega)
  obtain ⟨a2,c2,k2⟩:=fld_open (ft:=9) (o:=2) hsp (hf 2 _ rfl) (by omega)
  exact ⟨Val.mk a0 a1 a2,(fl_cons c0 (fl_cons c1 (fl_cons c2 (fl_nil (by rw [hl,Cel.h (P:=Try.prog) (t:=34)];exact Nat.le_refl _))))),⟨k0,k1,k2⟩⟩⟩
instance : Opn Try.prog 36 dC datOk:=⟨fun {H en w base spare held fuel cs x} hsp h=>by
  obtain ⟨xs,n,rfl,rfl,hl,hn,hf⟩:=DataW.trod_struct Try.underlying36 h
  have hn' : xs.length = 7:=hn
  obtain ⟨a0,c0,k0⟩:=fld_open (ft:=2) (o:=0) hsp (hf 0 _ rfl) (by omega)
  obtain ⟨a1,c1,k1⟩:=fld_open (ft:=2) (o:=1) hsp (hf 1 _ rfl) (by omega)
  obtain ⟨a2,c2,k2⟩:=fld_open (ft:=34) (o:=2) hsp (hf 2 _ rfl) (by omega)
  obtain ⟨a3,c3,k3⟩:=fld_open (ft:=2) (o:=5) hsp (hf 3 _ rfl) (by omega)
  obtain ⟨a4,c4,k4⟩:=fld_open (ft:=4) (o:=6) hsp (hf 4 _ rfl) (by omega)
  obtain ⟨a5,c5,k5⟩:=fld_open (ft:=2) (o:=7) hsp (hf 5 _ rfl) (by omega)
  obtain ⟨a6,c6,k6⟩:=fld_open (ft:=2) (o:=8) hsp (hf 6 _ rfl) (by omega)
  exact ⟨Dat.mk a0 a1 a2 a3 a4 a5 a6,(fl_cons c0 (fl_cons c1 (fl_cons c2 (fl_cons c3 (fl_cons c4 (fl_cons c5 (fl_cons c6 (fl_nil (by rw [hl,Cel.h (P:=Try.prog) (t:=36)];exact Nat.le_refl _))))))))),⟨k0,k1,k2,k3,k4,k5,k6⟩⟩⟩
instance : Opn Try.prog 22 (fun l : List Dat=>[.sl none 9 (l.map dC)]) (fun l : List Dat=>l.length ≤ maxLen ∧ ∀ a,a ∈ l → datOk a):=opn_slice Try.underlying22 (fun _=>rfl) (by decide)
end Go.Proofs
