/- Contracts of calc's names: told one by one, gathered, sorted. -/
import Derived.Test.YthofnclbbjemfaaDoorKInst
import Derived.Test.YthofnclbbjemfaaDoorOps25
import Derived.Sort.KeysCollected
import Derived.Test.YthofnclbbjemfaaDoorOpen
import Derived.Lib.LaidTab
import Derived.MakeChecks
import Derived.LaidSub
set_option linter.all false
namespace Go.Proofs
open Go.AL
attribute [local irreducible] Go.AL.W Go.AL.WL Go.AL.WD Go.AL.POp Go.AL.PPOp Go.AL.POpS Go.AL.PC Go.AL.AC Go.AL.YW Go.AL.Ret Go.AL.Le Go.AL.thn Go.AL.inBlk Go.AL.scp
abbrev txtN : List UInt8:=[61,32,33,61,32,60,32,60,61,32,62,32,62,61,32,98,101,103,105,110,115,32,101,110,100,115,32,104,97,115,32,107,105,110,100,32,43,32,45,32,42,32,47,32,109,111,100,32,110,101,103,32,97,98,115,32,109,105,110,32,109,97,120,32,108,101,110,32,99,97,116,32,115,117,98,32,116,101,120,116,32,118,97,108,117,101,32,110,117,109,98,101,114,32,116,105,109,101,32,110,97,109,101]
abbrev namU : List (List UInt8):=[[61],[33,61],[60],[60,61],[62],[62,61],[98,101,103,105,110,115],[101,110,100,115],[104,97,115],[107,105,110,100],[43],[45],[42],[47],[109,111,100],[110,101,103],[97,98,115],[109,105,110],[109,97,120],[108,101,110],[99,97,116],[115,117,98],[116,101,120,116],[118,97,108,117,101],[110,117,109,98,101,114],[116,105,109,101],[110,97,109,101]]
theorem spl_nam : splS txtN = namU:=by decide +kernel
set_option maxHeartbeats 4000000 in
theorem names1_ac [GlobF Tryd.prog] (hg : MaxLenOK) (l : Nat) (I : Nat → List AObj → Prop) {h0 : List AObj} (hI : I 0 h0)
    (hy : ∀ (i : Nat) (hi : i < namU.length) (h : List AObj),I i h → YW Tryd.prog l [str (namU[i]'hi)] h (fun b h'=>b = true ∧ I (i + 1) h')) :
    AC Tryd.prog 13 [.sc (.func (.yield l) #[] #[])] h0 (fun _ h'=>I namU.length h'):=by
  have hsp:=tsplit_pc hg txtN (by decide)
  rw [spl_nam] at hsp
  have hnl : namU.length = 27:=rfl
  have hnT : Value.bool (bNot true) = .bool false:=by simp [bNot]
  generalize namU = U at *
  refine AC.of_body Tryd.func13 Tryd.ntmps13 rfl rfl rfl ?_
  repeat' first
    | (apply p1 (hd:=rfl);case hop=>first|(apply D_move;rfl)|(apply D_assign;rfl)|(apply D_pc hsp;rfl;exact .same rfl (.same rfl .nil))|(apply D_load1;rfl)|(apply D_int;rfl;rfl;rfl)|(apply D_lenM;rfl)|(apply D_len_sl;rfl)|(apply D_not;rfl)|(apply D_loadW;rfl;rfl)|(apply D_loadA;rfl;rfl)|(apply D_len_nil;rfl)|(apply D_idxAn;rfl;rfl;(first|omega|(simp;done)))|(apply D_idxA;rfl;rfl;omega;(first|omega|(simp;done)|(simp;omega)))|(apply D_idxA0;rfl;rfl;omega;(first|omega|(simp;done)|(simp;omega)))|exact D_xcmp rfl rfl rfl|exact D_xidx rfl rfl rfl|(apply D_lenR;rfl)|(apply D_ixRn;rfl;rfl;(first|omega|(simp;done)))|(apply D_ixR;rfl;rfl;all_goals first|omega|((repeat rw [w64 _ (by omega) (by omega)]);omega)|decide))
    | refine W_seq ?_
    | refine W_region ?_
    | (refine idC ?_;first|refine c1 rfl ?_|refine c0 rfl ?_|refine cs rfl (fun _=>?_) (fun _=>?_))
    | refine WL_nil ?_
    | refine tn ?_
    | refine tr ?_
    | refine br ?_
    | refine bn ?_
    | refine te ?_
    | (refine idB ?_;first|refine bh rfl ?_|refine bm rfl ?_)
    | refine W_skip ?_
    | refine W_block ?_
    | refine W_exit ?_
    | refine W_ret ?_
    | refine W_label ?_
    | refine W_scope ?_
    | refine sn ?_
    | refine sr ?_
    | refine se ?_
    | refine Le.bool ?_
    | refine Le.int ?_
    | refine Le.str ?_
  refine W_loopL (X:=Nat × List AObj) (fun c=>[(0,.sc (.func (.yield l) #[] #[])),(4,.sl none 1 (U.map tC)),(5,.sc (.int .i64 (U.length : Int))),(6,.sc (.int .i64 (c.1 : Int)))]) (fun c=>c.2)
    (fun c=>c.1 ≤ U.length ∧ I c.1 c.2) (fun c=>U.length - c.1) (0,h0) ⟨Nat.zero_le _,hI⟩ ⟨rfl,rfl,rfl,rfl,trivial⟩ rfl ?_
  rintro ⟨i,h⟩ ⟨hi,hIi⟩
  simp only at hi hIi
  by_cases hil : i < U.length
  · have hyi:=hy i hil h hIi
    repeat' first
      | (apply p1 (hd:=rfl);case hop=>first|(apply D_move;rfl)|(apply D_assign;rfl)|exact D_sc (D_not rfl) hnT|(apply D_load1;rfl)|(apply D_int;rfl;rfl;rfl)|(apply D_lenM;rfl)|(apply D_len_sl;rfl)|(apply D_not;rfl)|(apply D_loadW;rfl;rfl)|(apply D_loadA;rfl;rfl)|(apply D_len_nil;rfl)|(apply D_idxAn;rfl;rfl;(first|omega|(simp;done)))|(apply D_idxA;rfl;rfl;omega;(first|omega|(simp;done)|(simp;omega)))|(apply D_idxA0;rfl;rfl;omega;(first|omega|(simp;done)|(simp;omega)))|exact D_xcmp rfl rfl rfl|exact D_xidx rfl rfl rfl|(apply D_lenR;rfl)|(apply D_ixRn;rfl;rfl;(first|omega|(simp;done)))|(apply D_ixR;rfl;rfl;all_goals first|omega|((repeat rw [w64 _ (by omega) (by omega)]);omega)|decide))
      | refine W_seq ?_
      | refine W_region ?_
      | (refine idC ?_;first|refine c1 rfl ?_|refine c0 rfl ?_|refine cs rfl (fun _=>?_) (fun _=>?_))
      | refine WL_nil ?_
      | refine tn ?_
      | refine tr ?_
      | refine br ?_
      | refine bn ?_
      | refine te ?_
      | (refine idB ?_;first|refine bh rfl ?_|refine bm rfl ?_)
      | refine W_skip ?_
      | refine W_block ?_
      | refine W_exit ?_
      | refine W_ret ?_
      | refine W_label ?_
      | refine W_scope ?_
      | refine sn ?_
      | refine sr ?_
      | refine se ?_
      | refine Le.bool ?_
      | refine Le.int ?_
      | refine Le.str ?_
      | (refine m_yield rfl rfl rfl hyi ?_;rintro b h' ⟨rfl,hnx⟩)
    all_goals first
      | contradiction
      | (exfalso;rename_i hh;simp only at hh;omega)
      | exact ⟨rfl,(i + 1,h'),⟨hil,hnx⟩,by show U.length - (i + 1) < U.length - i;omega,⟨rfl,rfl,rfl,ieq (wsucc i (by omega)),trivial⟩,rfl⟩
      | skip
    all_goals trace_state
  · have e : i = U.length:=by omega
    subst e
    repeat' first
      | (apply p1 (hd:=rfl);case hop=>first|(apply D_move;rfl)|(apply D_assign;rfl)|(apply D_load1;rfl)|(apply D_int;rfl;rfl;rfl)|(apply D_lenM;rfl)|(apply D_len_sl;rfl)|(apply D_not;rfl)|(apply D_loadW;rfl;rfl)|(apply D_loadA;rfl;rfl)|(apply D_len_nil;rfl)|(apply D_idxAn;rfl;rfl;(first|omega|(simp;done)))|(apply D_idxA;rfl;rfl;omega;(first|omega|(simp;done)|(simp;omega)))|(apply D_idxA0;rfl;rfl;omega;(first|omega|(simp;done)|(simp;omega)))|exact D_xcmp rfl rfl rfl|exact D_xidx rfl rfl rfl|(apply D_lenR;rfl)|(apply D_ixRn;rfl;rfl;(first|omega|(simp;done)))|(apply D_ixR;rfl;rfl;all_goals first|omega|((repeat rw [w64 _ (by omega) (by omega)]);omega)|decide))
      | refine W_seq ?_
      | refine W_region ?_
      | (refine idC ?_;first|refine c1 rfl ?_|refine c0 rfl ?_|refine cs rfl (fun _=>?_) (fun _=>?_))
      | refine WL_nil ?_
      | refine tn ?_
      | refine tr ?_
      | refine br ?_
      | refine bn ?_
      | refine te ?_
      | (refine idB ?_;first|refine bh rfl ?_|refine bm rfl ?_)
      | refine W_skip ?_
      | refine W_block ?_
      | refine W_exit ?_
      | refine W_ret ?_
      | refine W_label ?_
      | refine W_scope ?_
      | refine sn ?_
      | refine sr ?_
      | refine se ?_
      | refine Le.bool ?_
      | refine Le.int ?_
      | refine Le.str ?_
    all_goals first
      | exact ret0 (.inr rfl) rfl rfl hIi
      | (exfalso;omega)
      | skip
    all_goals trace_state
end Go.Proofs

namespace Go.Proofs
open Go.AL
attribute [local irreducible] Go.AL.W Go.AL.WL Go.AL.WD Go.AL.POp Go.AL.PPOp Go.AL.POpS Go.AL.PC Go.AL.AC Go.AL.YW Go.AL.Ret Go.AL.Le Go.AL.thn Go.AL.inBlk Go.AL.scp
abbrev rawN : AObj:=.raw (.deferred (some []))
def Gat (X : AObj) (els : List (List AV)) (h : List AObj) : Prop :=
  4 ≤ h.length ∧ h[2]? = some rawN ∧ h[3]? = some X ∧ ∃ q,q ≠ 0 ∧ q ≠ 2 ∧ q ≠ 3 ∧ q < h.length ∧ h[0]? = some (.cells [rowA q els.length]) ∧ h[q]? = some (.row 1 9 els)
theorem gat_step {X X' : AObj} {els els' : List (List AV)} {h : List AObj} {q : Nat} (h1 : 4 ≤ h.length) (h2 : h[2]? = some rawN) (q0 : q ≠ 0) (q2 : q ≠ 2) (q3 : q ≠ 3) (qh : q < h.length) :
    Gat X' els' ((((h.set 3 X).set q AObj.dead ++ [AObj.row 1 9 els']).set 0 (.cells [rowA ((h.set 3 X)).length els'.length])).set 3 X'):=by
  refine ⟨by simp;omega,?_,?_,h.length,by omega,by omega,by omega,by simp,?_,?_⟩
  · rw [List.getElem?_set_ne (by omega),List.getElem?_set_ne (by omega),List.getElem?_append_left (by simp;omega),List.getElem?_set_ne q2,List.getElem?_set_ne (by omega)];exact h2
  · rw [List.getElem?_set_self (by simp;omega)]
  · rw [List.getElem?_set_ne (by omega),List.getElem?_set_self (by simp),List.length_set]
  · rw [List.getElem?_set_ne (by omega),List.getElem?_set_ne (by omega),List.getElem?_append_right (by simp)];simp
set_option maxHeartbeats 8000000 in
theorem appseq_ac [GlobF Tryd.prog] (hg : MaxLenOK) :
    AC Tryd.prog 15 [.sc (.slice none 0 0),.sc (.func (.func 13) #[] #[])] [] (fun v h'=>∃ q,v = rowA q namU.length ∧ h'[q]? = some (.row 1 9 (namU.map tC))):=by
  have hnl : namU.length = 27:=rfl
  refine AC.of_body Tryd.func15 Tryd.ntmps15 rfl rfl rfl ?_
  repeat' first
    | (refine m_box rfl rfl rfl ?_)
    | (apply p1 (hd:=rfl);case hop=>first|(apply D_move;rfl)|(apply D_assign;rfl)|(apply D_load1;rfl)|(apply D_loadW;rfl;rfl)|(apply D_loadA;rfl;rfl)|(apply D_box;rfl;rfl)|(apply D_lit;rfl;rfl;rfl;rfl))
    | refine W_seq ?_
    | refine W_region ?_
    | refine WL_nil ?_
    | refine tn ?_
    | refine tr ?_
    | refine br ?_
    | refine bn ?_
    | refine te ?_
    | (refine idB ?_;first|refine bh rfl ?_|refine bm rfl ?_)
    | refine W_skip ?_
    | refine W_block ?_
    | refine W_exit ?_
    | refine W_ret ?_
    | refine W_label ?_
    | refine W_scope ?_
    | refine sn ?_
    | refine sr ?_
    | refine se ?_
    | (refine idR ?_;first|refine ret1 rfl rfl rfl ?_|refine rL1 rfl (by first|exact trivial|exact ⟨rfl,trivial⟩) (by first|exact ResO.tmp rfl|exact ResO.cellBA rfl rfl rfl|exact ResO.cellB1 rfl rfl rfl|exact ResO.cellEA rfl rfl|exact ResO.cellE1 rfl) ?_)
    | (refine idLd ?_;first|refine p1L (D_loadB1 rfl rfl rfl) rfl ?_|refine p1L (D_loadBA rfl rfl rfl) rfl ?_|refine p1L (D_loadB1 rfl (by (repeat first|assumption|exact get_last|(refine get_last2 ?_;focus (simp;done))|apply get_set|apply get_app|(apply get_ne;focus omega)|(apply get_ne;focus (simp only [List.length_set,List.length_append,List.length_cons,List.length_nil];omega)));done) (by rfl)) rfl ?_|refine p1L (D_loadBA rfl (by (repeat first|assumption|exact get_last|(refine get_last2 ?_;focus (simp;done))|apply get_set|apply get_app|(apply get_ne;focus omega)|(apply get_ne;focus (simp only [List.length_set,List.length_append,List.length_cons,List.length_nil];omega)));done) (by rfl)) rfl ?_)
    | (refine idS ?_;first|refine pS (S_store rfl rfl rfl rfl rfl rfl rfl) ?_|refine pS (S_store rfl rfl rfl (by (repeat first|assumption|exact get_last|(refine get_last2 ?_;focus (simp;done))|apply get_set|apply get_app|(apply get_ne;focus omega)|(apply get_ne;focus (simp only [List.length_set,List.length_append,List.length_cons,List.length_nil];omega)));done) (by rfl) (by rfl) (by rfl)) ?_)
    | refine Le.bool ?_
    | refine Le.int ?_
    | refine Le.str ?_
    | (refine idAp ?_;refine m_app rfl rfl (by first|rfl|assumption|exact get_set (by assumption)|exact get_set (get_set (by assumption))|exact get_set (get_set (get_set (by assumption)))|((repeat first|assumption|exact get_last|(refine get_last2 ?_;focus (simp;done))|apply get_set|apply get_app|(apply get_ne;focus omega));done)) ?_ rfl rfl ?_ ?_ rfl ?_;(first|rfl|focus (simp only [List.length_map,List.length_append,List.length_cons,List.length_nil];omega)|focus (simp;done)|focus (simp;omega));(first|focus (simp only [List.length_map,List.length_append,List.length_cons,List.length_nil];omega)|focus (simp;done)|focus (simp;omega));(first|focus (simp only [List.length_map,List.length_append,List.length_cons,List.length_nil];omega)|focus (simp;done)|focus (simp;omega)))
    | (refine idAp ?_;refine m_appB rfl rfl rfl (by first|rfl|assumption|exact get_set (by assumption)|exact get_set (get_set (by assumption))|exact get_set (get_set (get_set (by assumption)))|((repeat first|assumption|exact get_last|(refine get_last2 ?_;focus (simp;done))|apply get_set|apply get_app|(apply get_ne;focus omega));done)) ?_ rfl rfl ?_ ?_ rfl ?_;(first|rfl|focus (simp only [List.length_map,List.length_append,List.length_cons,List.length_nil];omega)|focus (simp;done)|focus (simp;omega));(first|focus (simp only [List.length_map,List.length_append,List.length_cons,List.length_nil];omega)|focus (simp;done)|focus (simp;omega));(first|focus (simp only [List.length_map,List.length_append,List.length_cons,List.length_nil];omega)|focus (simp;done)|focus (simp;omega)))
  refine W_adoptCG 0 0 1 9 rfl rfl ?_
  refine W_rangeX (.inr ⟨rfl,rfl⟩) fun l1 X hX=>?_
  refine AC.mono (names1_ac hg l1 (fun i h=>Gat (X .ready none) ((namU.take i).map tC) h) ?_ ?_) ?_
  · exact ⟨by simp,rfl,rfl,1,by decide,by decide,by decide,by simp,rfl,rfl⟩
  · rintro i hi h ⟨g1,g2,g3,q,q0,q2,q3,qh,k0,kq⟩
    have hnx : (namU.take (i + 1)).map tC = (namU.take i).map tC ++ [tC (namU[i]'hi)]:=by
      rw [List.take_succ_eq_append_getElem hi,List.map_append];rfl
    have hli : ((namU.take i).map tC).length = i:=by rw [List.length_map,List.length_take];omega
    have hst:=gat_step (X:=X .busy none) (X':=X .ready none) (els:=(namU.take i).map tC) (els':=(namU.take i).map tC ++ [tC (namU[i]'hi)]) g1 g2 q0 q2 q3 qh
    rw [hnx]
    generalize (namU.take i).map tC = EE at *
    generalize namU[i]'hi = w at *
    refine YW.round (r:=3) (g3.trans (congrArg some (hX .ready none))) rfl rfl ?_
    repeat' first
      | (apply p1 (hd:=rfl);case hop=>first|(apply D_move;rfl)|(apply D_assign;rfl)|(apply D_load1;rfl)|(apply D_loadW;rfl;rfl)|(apply D_loadA;rfl;rfl)|(apply D_box;rfl;rfl)|(apply D_lit;rfl;rfl;rfl;rfl))
      | refine W_seq ?_
      | refine W_region ?_
      | refine WL_nil ?_
      | refine tn ?_
      | refine tr ?_
      | refine br ?_
      | refine bn ?_
      | refine te ?_
      | (refine idB ?_;first|refine bh rfl ?_|refine bm rfl ?_)
      | refine W_skip ?_
      | refine W_block ?_
      | refine W_exit ?_
      | refine W_ret ?_
      | refine W_label ?_
      | refine W_scope ?_
      | refine sn ?_
      | refine sr ?_
      | refine se ?_
      | (refine idR ?_;first|refine ret1 rfl rfl rfl ?_|refine rL1 rfl (by first|exact trivial|exact ⟨rfl,trivial⟩) (by first|exact ResO.tmp rfl|exact ResO.cellBA rfl rfl rfl|exact ResO.cellB1 rfl rfl rfl|exact ResO.cellEA rfl rfl|exact ResO.cellE1 rfl) ?_)
      | (refine idLd ?_;first|refine p1L (D_loadB1 rfl rfl rfl) rfl ?_|refine p1L (D_loadBA rfl rfl rfl) rfl ?_|refine p1L (D_loadB1 rfl (by (repeat first|assumption|exact get_last|(refine get_last2 ?_;focus (simp;done))|apply get_set|apply get_app|(apply get_ne;focus omega)|(apply get_ne;focus (simp only [List.length_set,List.length_append,List.length_cons,List.length_nil];omega)));done) (by rfl)) rfl ?_|refine p1L (D_loadBA rfl (by (repeat first|assumption|exact get_last|(refine get_last2 ?_;focus (simp;done))|apply get_set|apply get_app|(apply get_ne;focus omega)|(apply get_ne;focus (simp only [List.length_set,List.length_append,List.length_cons,List.length_nil];omega)));done) (by rfl)) rfl ?_)
      | (refine idS ?_;first|refine pS (S_store rfl rfl rfl rfl rfl rfl rfl) ?_|refine pS (S_store rfl rfl rfl (by (repeat first|assumption|exact get_last|(refine get_last2 ?_;focus (simp;done))|apply get_set|apply get_app|(apply get_ne;focus omega)|(apply get_ne;focus (simp only [List.length_set,List.length_append,List.length_cons,List.length_nil];omega)));done) (by rfl) (by rfl) (by rfl)) ?_)
      | refine Le.bool ?_
      | refine Le.int ?_
      | refine Le.str ?_
      | (refine idAp ?_;refine m_app rfl rfl (by first|rfl|assumption|exact get_set (by assumption)|exact get_set (get_set (by assumption))|exact get_set (get_set (get_set (by assumption)))|((repeat first|assumption|exact get_last|(refine get_last2 ?_;focus (simp;done))|apply get_set|apply get_app|(apply get_ne;focus omega));done)) ?_ rfl rfl ?_ ?_ rfl ?_;(first|rfl|focus (simp only [List.length_map,List.length_append,List.length_cons,List.length_nil];omega)|focus (simp;done)|focus (simp;omega));(first|focus (simp only [List.length_map,List.length_append,List.length_cons,List.length_nil];omega)|focus (simp;done)|focus (simp;omega));(first|focus (simp only [List.length_map,List.length_append,List.length_cons,List.length_nil];omega)|focus (simp;done)|focus (simp;omega)))
      | (refine idAp ?_;refine m_appB rfl rfl rfl (by first|rfl|assumption|exact get_set (by assumption)|exact get_set (get_set (by assumption))|exact get_set (get_set (get_set (by assumption)))|((repeat first|assumption|exact get_last|(refine get_last2 ?_;focus (simp;done))|apply get_set|apply get_app|(apply get_ne;focus omega));done)) ?_ rfl rfl ?_ ?_ rfl ?_;(first|rfl|focus (simp only [List.length_map,List.length_append,List.length_cons,List.length_nil];omega)|focus (simp;done)|focus (simp;omega));(first|focus (simp only [List.length_map,List.length_append,List.length_cons,List.length_nil];omega)|focus (simp;done)|focus (simp;omega));(first|focus (simp only [List.length_map,List.length_append,List.length_cons,List.length_nil];omega)|focus (simp;done)|focus (simp;omega)))
    refine ⟨rfl,g3.trans (congrArg some (hX .ready none)),?_⟩
    refine W_hq (h':=h.set 3 (X .busy none)) (by rw [hX .busy none]) ?_
    repeat' first
      | (refine m_appG (d:=11) (els:=EE) (els':=[tC w]) rfl rfl (by rw [List.getElem?_set_ne (by omega)];exact kq) rfl (by simp) rfl (by simp only [List.length_cons,List.length_nil];omega) (by simp only [List.length_cons,List.length_nil];omega) rfl ?_)
      | (refine p1L (D_loadB1 rfl (by rw [List.getElem?_set_ne (by omega)];exact k0) rfl) rfl ?_)
      | (apply p1 (hd:=rfl);case hop=>first|(apply D_move;rfl)|(apply D_assign;rfl)|(apply D_load1;rfl)|(apply D_loadW;rfl;rfl)|(apply D_loadA;rfl;rfl)|(apply D_box;rfl;rfl)|(apply D_lit;rfl;rfl;rfl;rfl))
      | refine W_seq ?_
      | refine W_region ?_
      | refine WL_nil ?_
      | refine tn ?_
      | refine tr ?_
      | refine br ?_
      | refine bn ?_
      | refine te ?_
      | (refine idB ?_;first|refine bh rfl ?_|refine bm rfl ?_)
      | refine W_skip ?_
      | refine W_block ?_
      | refine W_exit ?_
      | refine W_ret ?_
      | refine W_label ?_
      | refine W_scope ?_
      | refine sn ?_
      | refine sr ?_
      | refine se ?_
      | (refine idR ?_;first|refine ret1 rfl rfl rfl ?_|refine rL1 rfl (by first|exact trivial|exact ⟨rfl,trivial⟩) (by first|exact ResO.tmp rfl|exact ResO.cellBA rfl rfl rfl|exact ResO.cellB1 rfl rfl rfl|exact ResO.cellEA rfl rfl|exact ResO.cellE1 rfl) ?_)
      | (refine idLd ?_;first|refine p1L (D_loadB1 rfl rfl rfl) rfl ?_|refine p1L (D_loadBA rfl rfl rfl) rfl ?_|refine p1L (D_loadB1 rfl (by (repeat first|assumption|exact get_last|(refine get_last2 ?_;focus (simp;done))|apply get_set|apply get_app|(apply get_ne;focus omega)|(apply get_ne;focus (simp only [List.length_set,List.length_append,List.length_cons,List.length_nil];omega)));done) (by rfl)) rfl ?_|refine p1L (D_loadBA rfl (by (repeat first|assumption|exact get_last|(refine get_last2 ?_;focus (simp;done))|apply get_set|apply get_app|(apply get_ne;focus omega)|(apply get_ne;focus (simp only [List.length_set,List.length_append,List.length_cons,List.length_nil];omega)));done) (by rfl)) rfl ?_)
      | (refine idS ?_;first|refine pS (S_store rfl rfl rfl rfl rfl rfl rfl) ?_|refine pS (S_store rfl rfl rfl (by (repeat first|assumption|exact get_last|(refine get_last2 ?_;focus (simp;done))|apply get_set|apply get_app|(apply get_ne;focus omega)|(apply get_ne;focus (simp only [List.length_set,List.length_append,List.length_cons,List.length_nil];omega)));done) (by rfl) (by rfl) (by rfl)) ?_)
      | refine Le.bool ?_
      | refine Le.int ?_
      | refine Le.str ?_
      | (refine idAp ?_;refine m_app rfl rfl (by first|rfl|assumption|exact get_set (by assumption)|exact get_set (get_set (by assumption))|exact get_set (get_set (get_set (by assumption)))|((repeat first|assumption|exact get_last|(refine get_last2 ?_;focus (simp;done))|apply get_set|apply get_app|(apply get_ne;focus omega));done)) ?_ rfl rfl ?_ ?_ rfl ?_;(first|rfl|focus (simp only [List.length_map,List.length_append,List.length_cons,List.length_nil];omega)|focus (simp;done)|focus (simp;omega));(first|focus (simp only [List.length_map,List.length_append,List.length_cons,List.length_nil];omega)|focus (simp;done)|focus (simp;omega));(first|focus (simp only [List.length_map,List.length_append,List.length_cons,List.length_nil];omega)|focus (simp;done)|focus (simp;omega)))
      | (refine idAp ?_;refine m_appB rfl rfl rfl (by first|rfl|assumption|exact get_set (by assumption)|exact get_set (get_set (by assumption))|exact get_set (get_set (get_set (by assumption)))|((repeat first|assumption|exact get_last|(refine get_last2 ?_;focus (simp;done))|apply get_set|apply get_app|(apply get_ne;focus omega));done)) ?_ rfl rfl ?_ ?_ rfl ?_;(first|rfl|focus (simp only [List.length_map,List.length_append,List.length_cons,List.length_nil];omega)|focus (simp;done)|focus (simp;omega));(first|focus (simp only [List.length_map,List.length_append,List.length_cons,List.length_nil];omega)|focus (simp;done)|focus (simp;omega));(first|focus (simp only [List.length_map,List.length_append,List.length_cons,List.length_nil];omega)|focus (simp;done)|focus (simp;omega)))
    rw [List.length_append] at hst
    refine ⟨rfl,⟨.busy,none,?_⟩,rfl,?_⟩
    · refine (?_ : _ = some (X .busy none)).trans (congrArg some (hX _ _))
      show ((((h.set 3 (X .busy none)).set q AObj.dead ++ [AObj.row 1 9 (EE ++ [tC w])]).set 0 _)[3]?) = _
      rw [List.getElem?_set_ne (by omega),List.getElem?_append_left (by simp;omega),List.getElem?_set_ne q3,List.getElem?_set_self (by omega)]
    · rw [← hX .ready none];exact hst
  · rintro _ h' ⟨g1,g2,g3,q,q0,q2,q3,qh,k0,kq⟩
    refine ⟨_,_,g3.trans (congrArg some (hX _ _)),by decide,?_⟩
    rw [List.take_length] at k0 kq
    repeat' first
      | (apply p1 (hd:=rfl);case hop=>first|(apply D_move;rfl)|(apply D_assign;rfl)|(apply D_load1;rfl)|(apply D_loadW;rfl;rfl)|(apply D_loadA;rfl;rfl)|(apply D_box;rfl;rfl)|(apply D_lit;rfl;rfl;rfl;rfl))
      | refine W_seq ?_
      | refine W_region ?_
      | refine WL_nil ?_
      | refine tn ?_
      | refine tr ?_
      | refine br ?_
      | refine bn ?_
      | refine te ?_
      | (refine idB ?_;first|refine bh rfl ?_|refine bm rfl ?_)
      | refine W_skip ?_
      | refine W_block ?_
      | refine W_exit ?_
      | refine W_ret ?_
      | refine W_label ?_
      | refine W_scope ?_
      | refine sn ?_
      | refine sr ?_
      | refine se ?_
      | (refine idLd ?_;first|refine p1L (D_loadB1 rfl rfl rfl) rfl ?_|refine p1L (D_loadBA rfl rfl rfl) rfl ?_|refine p1L (D_loadB1 rfl (by (repeat first|assumption|exact get_last|(refine get_last2 ?_;focus (simp;done))|apply get_set|apply get_app|(apply get_ne;focus omega)|(apply get_ne;focus (simp only [List.length_set,List.length_append,List.length_cons,List.length_nil];omega)));done) (by rfl)) rfl ?_|refine p1L (D_loadBA rfl (by (repeat first|assumption|exact get_last|(refine get_last2 ?_;focus (simp;done))|apply get_set|apply get_app|(apply get_ne;focus omega)|(apply get_ne;focus (simp only [List.length_set,List.length_append,List.length_cons,List.length_nil];omega)));done) (by rfl)) rfl ?_)
      | (refine idS ?_;first|refine pS (S_store rfl rfl rfl rfl rfl rfl rfl) ?_|refine pS (S_store rfl rfl rfl (by (repeat first|assumption|exact get_last|(refine get_last2 ?_;focus (simp;done))|apply get_set|apply get_app|(apply get_ne;focus omega)|(apply get_ne;focus (simp only [List.length_set,List.length_append,List.length_cons,List.length_nil];omega)));done) (by rfl) (by rfl) (by rfl)) ?_)
      | refine Le.bool ?_
      | refine Le.int ?_
      | refine Le.str ?_
      | (refine idAp ?_;refine m_app rfl rfl (by first|rfl|assumption|exact get_set (by assumption)|exact get_set (get_set (by assumption))|exact get_set (get_set (get_set (by assumption)))|((repeat first|assumption|exact get_last|(refine get_last2 ?_;focus (simp;done))|apply get_set|apply get_app|(apply get_ne;focus omega));done)) ?_ rfl rfl ?_ ?_ rfl ?_;(first|rfl|focus (simp only [List.length_map,List.length_append,List.length_cons,List.length_nil];omega)|focus (simp;done)|focus (simp;omega));(first|focus (simp only [List.length_map,List.length_append,List.length_cons,List.length_nil];omega)|focus (simp;done)|focus (simp;omega));(first|focus (simp only [List.length_map,List.length_append,List.length_cons,List.length_nil];omega)|focus (simp;done)|focus (simp;omega)))
      | (refine idAp ?_;refine m_appB rfl rfl rfl (by first|rfl|assumption|exact get_set (by assumption)|exact get_set (get_set (by assumption))|exact get_set (get_set (get_set (by assumption)))|((repeat first|assumption|exact get_last|(refine get_last2 ?_;focus (simp;done))|apply get_set|apply get_app|(apply get_ne;focus omega));done)) ?_ rfl rfl ?_ ?_ rfl ?_;(first|rfl|focus (simp only [List.length_map,List.length_append,List.length_cons,List.length_nil];omega)|focus (simp;done)|focus (simp;omega));(first|focus (simp only [List.length_map,List.length_append,List.length_cons,List.length_nil];omega)|focus (simp;done)|focus (simp;omega));(first|focus (simp only [List.length_map,List.length_append,List.length_cons,List.length_nil];omega)|focus (simp;done)|focus (simp;omega)))
    refine retK (rs:=[.tmp 4]) (vs:=[rowA q (namU.map tC).length]) (.inl rfl) rfl ⟨?_,trivial⟩ ⟨ResO.tmp rfl,trivial⟩ ⟨q,by rw [List.length_map];rfl,?_⟩
    · show (h'.set 3 AObj.dead)[2]? = _
      rw [List.getElem?_set_ne (by omega)];exact g2
    · show ((h'.set 3 AObj.dead).set 2 AObj.dead)[q]? = _
      rw [List.getElem?_set_ne (Ne.symm q2),List.getElem?_set_ne (Ne.symm q3)];exact kq
set_option maxHeartbeats 8000000 in
theorem collect_ac [GlobF Tryd.prog] (hg : MaxLenOK) :
    AC Tryd.prog 11 [.sc (.func (.func 13) #[] #[])] [] (fun v h'=>∃ q,v = rowA q namU.length ∧ h'[q]? = some (.row 1 9 (namU.map tC))):=by
  refine AC.of_body Tryd.func11 Tryd.ntmps11 rfl rfl rfl ?_
  repeat' first
    | (apply p1 (hd:=rfl);case hop=>first|(apply D_move;rfl)|(apply D_assign;rfl))
    | refine W_seq ?_
    | refine W_region ?_
    | refine WL_nil ?_
    | refine tn ?_
    | refine tr ?_
    | refine br ?_
    | refine bn ?_
    | refine te ?_
    | (refine idB ?_;first|refine bh rfl ?_|refine bm rfl ?_)
    | refine W_skip ?_
    | refine W_block ?_
    | refine W_exit ?_
    | refine W_ret ?_
    | refine W_label ?_
    | refine W_scope ?_
    | refine sn ?_
    | refine sr ?_
    | refine se ?_
    | refine Le.bool ?_
    | refine Le.int ?_
    | refine Le.str ?_
    | (refine m_call (d:=4) (appseq_ac hg) rfl rfl rfl ?_;rintro _ h' ⟨q,rfl,hq⟩)
  exact retK1 (.inl rfl) rfl rfl (ResO.tmp rfl) ⟨q,rfl,hq⟩
abbrev namS : List (List UInt8):=namU.mergeSort fun x y=>decide (x ≤ y)
theorem nam_sort : namS = namesL:=by
  have hp : namU.Perm namesL:=by decide +kernel
  have h1 : namU.mergeSort (fun x y=>decide (x ≤ y)) = namesL.mergeSort (fun x y=>decide (x ≤ y)):=mergeSort_of_perm hp
  unfold namS
  rw [h1]
  refine List.mergeSort_of_pairwise ?_
  decide +kernel
set_option maxHeartbeats 8000000 in
theorem sorted_pc [GlobF Tryd.prog] (hg : MaxLenOK) : PC Tryd.prog 9 [.sc (.func (.func 13) #[] #[])] (.sl none 1 (namesL.map sC)):=by
  refine PC.of_body Tryd.func9 Tryd.ntmps9 rfl rfl rfl ?_
  repeat' first
    | (apply p1 (hd:=rfl);case hop=>first|(apply D_move;rfl)|(apply D_assign;rfl))
    | refine W_seq ?_
    | refine W_region ?_
    | refine WL_nil ?_
    | refine tn ?_
    | refine tr ?_
    | refine br ?_
    | refine bn ?_
    | refine te ?_
    | (refine idB ?_;first|refine bh rfl ?_|refine bm rfl ?_)
    | refine W_skip ?_
    | refine W_block ?_
    | refine W_exit ?_
    | refine W_ret ?_
    | refine W_label ?_
    | refine W_scope ?_
    | refine sn ?_
    | refine sr ?_
    | refine se ?_
    | (refine idR ?_;first|refine ret1 rfl rfl rfl ?_|refine rL1 rfl (by first|exact trivial|exact ⟨rfl,trivial⟩) (by first|exact ResO.tmp rfl|exact ResO.cellBA rfl rfl rfl|exact ResO.cellB1 rfl rfl rfl|exact ResO.cellEA rfl rfl|exact ResO.cellE1 rfl) ?_)
    | refine Le.bool ?_
    | refine Le.int ?_
    | refine Le.str ?_
    | (refine m_call (d:=5) (collect_ac hg) rfl rfl rfl ?_;rintro _ h' ⟨q,rfl,hq⟩;refine WL_rowM 5 q (els:=namU.map tC) rfl hq rfl (by decide) ?_;intro sp)
  have hqs : (h'.set q (.cells ((namU.map tC).flatten ++ sp)))[q]? = some (.cells ((namU.map tC).flatten ++ sp)):=List.getElem?_set_self (List.getElem?_eq_some_iff.1 hq).1
  have hso:=sortStr_ac Tryd.laysSt (l:=namU) (sp:=sp) hqs (by decide) (by decide)
  rw [show (namU.mergeSort fun x y=>decide (x ≤ y)) = namesL from nam_sort] at hso
  have hq2 : ((h'.set q (.cells ((namU.map tC).flatten ++ sp))).set q (.cells ((namesL.map fun s=>[str s]).flatten ++ sp)))[q]? = some (.cells ((namesL.map sC).flatten ++ sp)):=List.getElem?_set_self (List.getElem?_eq_some_iff.1 hqs).1
  repeat' first
    | (apply p1 (hd:=rfl);case hop=>first|(apply D_move;rfl)|(apply D_assign;rfl))
    | refine W_seq ?_
    | refine W_region ?_
    | refine WL_nil ?_
    | refine tn ?_
    | refine tr ?_
    | refine br ?_
    | refine bn ?_
    | refine te ?_
    | (refine idB ?_;first|refine bh rfl ?_|refine bm rfl ?_)
    | refine W_skip ?_
    | refine W_block ?_
    | refine W_exit ?_
    | refine W_ret ?_
    | refine W_label ?_
    | refine W_scope ?_
    | refine sn ?_
    | refine sr ?_
    | refine se ?_
    | (refine idR ?_;first|refine ret1 rfl rfl rfl ?_|refine rL1 rfl (by first|exact trivial|exact ⟨rfl,trivial⟩) (by first|exact ResO.tmp rfl|exact ResO.cellBA rfl rfl rfl|exact ResO.cellB1 rfl rfl rfl|exact ResO.cellEA rfl rfl|exact ResO.cellE1 rfl) ?_)
    | refine Le.bool ?_
    | refine Le.int ?_
    | refine Le.str ?_
    | (refine m_call (d:=7) hso rfl rfl rfl ?_;rintro _ _ ⟨rfl,rfl⟩;refine WL_frz 3 q 1 (els:=namesL.map sC) (sp:=sp) hq2 rfl (by decide) (fun e he=>by obtain ⟨a,_,rfl⟩:=List.mem_map.1 he;rfl) ?_)
  all_goals first|exact Le.of_eq rfl|rfl|skip
  all_goals trace_state
theorem cnam0_pc [GlobF Tryd.prog] : PC Tryd.prog 10 [] (.sc (.func (.func 13) #[] #[])):=by
  refine PC.of_body Tryd.func10 Tryd.ntmps10 rfl rfl rfl ?_
  repeat' first
    | (apply p1 (hd:=rfl);case hop=>first|(apply D_assign;rfl))
    | refine W_seq ?_
    | refine W_region ?_
    | refine WL_nil ?_
    | refine tn ?_
    | refine tr ?_
    | refine br ?_
    | refine bn ?_
    | refine te ?_
    | (refine idB ?_;first|refine bh rfl ?_|refine bm rfl ?_)
    | refine W_skip ?_
    | refine W_block ?_
    | refine W_exit ?_
    | refine W_ret ?_
    | refine W_label ?_
    | refine W_scope ?_
    | refine sn ?_
    | refine sr ?_
    | refine se ?_
    | (refine idR ?_;first|refine ret1 rfl rfl rfl ?_|refine rL1 rfl (by first|exact trivial|exact ⟨rfl,trivial⟩) (by first|exact ResO.tmp rfl|exact ResO.cellBA rfl rfl rfl|exact ResO.cellB1 rfl rfl rfl|exact ResO.cellEA rfl rfl|exact ResO.cellE1 rfl) ?_)
    | refine Le.bool ?_
    | refine Le.int ?_
    | refine Le.str ?_
  all_goals first|exact Le.of_eq rfl|rfl|skip
  all_goals trace_state
set_option maxHeartbeats 8000000 in
theorem cnames_pc [GlobF Tryd.prog] (hg : MaxLenOK) : PC Tryd.prog 6 [] (.sl none 1 (namesL.map sC)):=by
  have hs:=sorted_pc hg
  have h0:=cnam0_pc
  refine PC.of_body Tryd.func6 Tryd.ntmps6 rfl rfl rfl ?_
  repeat' first
    | (apply p1 (hd:=rfl);case hop=>first|(apply D_assign;rfl)|(apply D_pc h0;rfl;exact .nil)|(apply D_pc hs;rfl;exact .same rfl .nil))
    | refine W_seq ?_
    | refine W_region ?_
    | refine WL_nil ?_
    | refine tn ?_
    | refine tr ?_
    | refine br ?_
    | refine bn ?_
    | refine te ?_
    | (refine idB ?_;first|refine bh rfl ?_|refine bm rfl ?_)
    | refine W_skip ?_
    | refine W_block ?_
    | refine W_exit ?_
    | refine W_ret ?_
    | refine W_label ?_
    | refine W_scope ?_
    | refine sn ?_
    | refine sr ?_
    | refine se ?_
    | (refine idR ?_;first|refine ret1 rfl rfl rfl ?_|refine rL1 rfl (by first|exact trivial|exact ⟨rfl,trivial⟩) (by first|exact ResO.tmp rfl|exact ResO.cellBA rfl rfl rfl|exact ResO.cellB1 rfl rfl rfl|exact ResO.cellEA rfl rfl|exact ResO.cellE1 rfl) ?_)
    | refine Le.bool ?_
    | refine Le.int ?_
    | refine Le.str ?_
  all_goals first|exact Le.of_eq rfl|rfl|skip
  all_goals trace_state
theorem renN {rg rg' : List (Nat × AV)} {h : List AObj} (hr : RenL [] rg rg') : Ren ⟨[],0⟩ [] rg h rg' [] :=
  ⟨by simp,fun r hr=>absurd hr (Nat.not_lt_zero r),fun r hr=>(by cases hr),hr,trivial⟩
set_option maxHeartbeats 8000000 in
theorem calcKnown_pc [GlobF Tryd.prog] (hg : MaxLenOK) (s : List UInt8) : PC Tryd.prog 3 [str s] (.sc (.bool true)):=by
  have q1:=known_pc s
  have q2:=known1_pc s
  have q3:=cnames_pc hg
  have q4:=names_pc
  have gz : ∀ v : Int,Value.bool (bNot (iEq v v)) = .bool false:=fun v=>by rw [(iEq_t _ _).mpr rfl];simp [bNot]
  have gb : ∀ b : Bool,Value.bool (bNot (bEq b b)) = .bool false:=fun b=>by rw [(bEq_t _ _).mpr rfl];simp [bNot]
  have hnl : namesL.length = 27:=rfl
  unfold knownV at q1 q2
  generalize knownI s = ki at *
  generalize knownP s = kp at *
  generalize knownK s = kk at *
  generalize namesL = U at *
  refine PC.of_body Tryd.func3 Tryd.ntmps3 rfl rfl rfl ?_
  repeat' first
    | (apply p1 (hd:=rfl);case hop=>first|(apply D_move;rfl)|(apply D_assign;rfl)|(apply D_pc q1;rfl;exact .same rfl .nil)|(apply D_pc q2;rfl;exact .same rfl .nil)|(apply D_pc q3;rfl;exact .nil)|(apply D_pc q4;rfl;exact .nil)|exact D_sc (D_int rfl rfl rfl) (gz _)|exact D_sc (D_bne rfl rfl) (gb _)|(apply D_load1;rfl)|(apply D_pickT;rfl;rfl)|(apply D_pickF;rfl;rfl)|(apply D_int;rfl;rfl;rfl)|(apply D_lenM;rfl)|(apply D_len_sl;rfl)|(apply D_len_str;rfl)|(apply D_str;rfl;rfl;rfl)|(apply D_ext;rfl;rfl)|(apply D_loadW;rfl;rfl)|(apply D_loadA;rfl;rfl)|(apply D_len_nil;rfl)|(apply D_beq;rfl;rfl)|(apply D_bne;rfl;rfl)|(apply D_idxAn;rfl;rfl;(first|omega|(simp;done)))|(apply D_idxA;rfl;rfl;omega;(first|omega|(simp;done)|(simp;omega)))|(apply D_idxA0;rfl;rfl;omega;(first|omega|(simp;done)|(simp;omega)))|(apply D_lenR;rfl)|(apply D_ixRn;rfl;rfl;(first|omega|(simp;done)))|(apply D_ixR;rfl;rfl;all_goals first|omega|((repeat rw [w64 _ (by omega) (by omega)]);omega)|decide))
    | refine W_seq ?_
    | refine W_region ?_
    | (refine idC ?_;first|refine c1 rfl ?_|refine c0 rfl ?_|refine cs rfl (fun _=>?_) (fun _=>?_))
    | refine WL_nil ?_
    | (refine idG ?_;first|refine g0t rfl rfl rfl ?_|refine g0f rfl rfl rfl ?_|refine g0u rfl rfl rfl ?_|refine gr rfl rfl ?_|refine gs rfl rfl (fun _=>?_) (fun _=>?_)|refine grn rfl rfl ?_)
    | refine tn ?_
    | refine tr ?_
    | refine br ?_
    | refine bn ?_
    | refine te ?_
    | (refine idB ?_;first|refine bh rfl ?_|refine bm rfl ?_)
    | refine W_skip ?_
    | refine W_block ?_
    | refine W_exit ?_
    | refine W_ret ?_
    | refine W_label ?_
    | refine W_scope ?_
    | refine sn ?_
    | refine sr ?_
    | refine se ?_
    | (refine idR ?_;first|refine ret1 rfl rfl rfl ?_|refine rL1 rfl (by first|exact trivial|exact ⟨rfl,trivial⟩) (by first|exact ResO.tmp rfl|exact ResO.cellBA rfl rfl rfl|exact ResO.cellB1 rfl rfl rfl|exact ResO.cellEA rfl rfl|exact ResO.cellE1 rfl) ?_)
    | refine Le.bool ?_
    | refine Le.int ?_
    | refine Le.str ?_
    | (refine idW ?_;first|refine W_draw0 rfl ?_|refine W_draw1 rfl ?_|refine W_draw2 rfl ?_|refine W_draw3 rfl ?_)
    | (apply d1 (hd:=rfl);case hop=>first|(apply D_move;rfl)|(apply D_assign;rfl)|(apply D_pc q1;rfl;exact .same rfl .nil)|(apply D_pc q2;rfl;exact .same rfl .nil)|(apply D_pc q3;rfl;exact .nil)|(apply D_pc q4;rfl;exact .nil)|exact D_sc (D_int rfl rfl rfl) (gz _)|exact D_sc (D_bne rfl rfl) (gb _)|(apply D_load1;rfl)|(apply D_pickT;rfl;rfl)|(apply D_pickF;rfl;rfl)|(apply D_int;rfl;rfl;rfl)|(apply D_lenM;rfl)|(apply D_len_sl;rfl)|(apply D_len_str;rfl)|(apply D_str;rfl;rfl;rfl)|(apply D_ext;rfl;rfl)|(apply D_loadW;rfl;rfl)|(apply D_loadA;rfl;rfl)|(apply D_len_nil;rfl)|(apply D_beq;rfl;rfl)|(apply D_bne;rfl;rfl)|(apply D_idxAn;rfl;rfl;(first|omega|(simp;done)))|(apply D_idxA;rfl;rfl;omega;(first|omega|(simp;done)|(simp;omega)))|(apply D_idxA0;rfl;rfl;omega;(first|omega|(simp;done)|(simp;omega)))|(apply D_lenR;rfl)|(apply D_ixRn;rfl;rfl;(first|omega|(simp;done)))|(apply D_ixR;rfl;rfl;all_goals first|omega|((repeat rw [w64 _ (by omega) (by omega)]);omega)|decide))
    | (refine idDg ?_;first|refine dg0t rfl rfl rfl ?_|refine dg0f rfl rfl rfl ?_|refine dg0u rfl rfl rfl ?_|refine dgr rfl rfl ?_|refine dgs rfl rfl (fun _=>?_) (fun _=>?_))
    | (refine idDn ?_;first|refine dL _ (fun hp' hs=>D_loadB1 rfl (hs.trans rfl) rfl) rfl ?_|refine dL _ (fun hp' hs=>D_loadBA rfl (hs.trans rfl) rfl) rfl ?_|refine dS (S_store rfl rfl rfl rfl rfl rfl rfl) rfl ?_|refine dV (S_alloc 0 rfl) rfl rfl ?_|refine dV (S_alloc 1 rfl) rfl rfl ?_|refine dV (S_alloc 2 rfl) rfl rfl ?_|refine dV (S_alloc 3 rfl) rfl rfl ?_|refine dV (S_alloc 4 rfl) rfl rfl ?_|refine dV (S_alloc 5 rfl) rfl rfl ?_|refine dV (S_alloc 6 rfl) rfl rfl ?_|refine dV (S_alloc 7 rfl) rfl rfl ?_)
    | refine WD_nil (by first|decide +kernel|kernel_rfl|rfl) ?_
  all_goals first|rfl|contradiction|skip
  refine W_loopR (X:=Nat) (fun i=>[(9,.sl none 1 (U.map sC)),(10,.sl none 1 (U.map sC)),(50,.sc (.int .i64 (U.length : Int))),(51,.sc (.int .i64 (i : Int)))]) (fun _=>[])
    (fun i=>i ≤ U.length) (fun i=>U.length - i) 0 (Nat.zero_le _) ⟨rfl,rfl,ieq (by simp),rfl,trivial⟩ rfl ?_
  intro i hi
  by_cases hil : i < U.length
  · repeat' first
      | (apply p1 (hd:=rfl);case hop=>first|(apply D_move;rfl)|(apply D_assign;rfl)|(apply D_load1;rfl)|(apply D_pickT;rfl;rfl)|(apply D_pickF;rfl;rfl)|(apply D_int;rfl;rfl;rfl)|(apply D_lenM;rfl)|(apply D_len_sl;rfl)|(apply D_len_str;rfl)|(apply D_str;rfl;rfl;rfl)|(apply D_ext;rfl;rfl)|(apply D_loadW;rfl;rfl)|(apply D_loadA;rfl;rfl)|(apply D_len_nil;rfl)|(apply D_beq;rfl;rfl)|(apply D_bne;rfl;rfl)|(apply D_idxAn;rfl;rfl;(first|omega|(simp;done)))|(apply D_idxA;rfl;rfl;omega;(first|omega|(simp;done)|(simp;omega)))|(apply D_idxA0;rfl;rfl;omega;(first|omega|(simp;done)|(simp;omega)))|(apply D_lenR;rfl)|(apply D_ixRn;rfl;rfl;(first|omega|(simp;done)))|(apply D_ixR;rfl;rfl;all_goals first|omega|((repeat rw [w64 _ (by omega) (by omega)]);omega)|decide))
      | refine W_seq ?_
      | refine W_region ?_
      | (refine idC ?_;first|refine c1 rfl ?_|refine c0 rfl ?_|refine cs rfl (fun _=>?_) (fun _=>?_))
      | refine WL_nil ?_
      | (refine idG ?_;first|refine g0t rfl rfl rfl ?_|refine g0f rfl rfl rfl ?_|refine g0u rfl rfl rfl ?_|refine gr rfl rfl ?_|refine gs rfl rfl (fun _=>?_) (fun _=>?_)|refine grn rfl rfl ?_)
      | refine tn ?_
      | refine tr ?_
      | refine br ?_
      | refine bn ?_
      | refine te ?_
      | (refine idB ?_;first|refine bh rfl ?_|refine bm rfl ?_)
      | refine W_skip ?_
      | refine W_block ?_
      | refine W_exit ?_
      | refine W_ret ?_
      | refine W_label ?_
      | refine W_scope ?_
      | refine sn ?_
      | refine sr ?_
      | refine se ?_
      | (refine idR ?_;first|refine ret1 rfl rfl rfl ?_|refine rL1 rfl (by first|exact trivial|exact ⟨rfl,trivial⟩) (by first|exact ResO.tmp rfl|exact ResO.cellBA rfl rfl rfl|exact ResO.cellB1 rfl rfl rfl|exact ResO.cellEA rfl rfl|exact ResO.cellE1 rfl) ?_)
      | refine Le.bool ?_
      | refine Le.int ?_
      | refine Le.str ?_
      | (refine idW ?_;first|refine W_draw0 rfl ?_|refine W_draw1 rfl ?_|refine W_draw2 rfl ?_|refine W_draw3 rfl ?_)
      | (apply d1 (hd:=rfl);case hop=>first|(apply D_move;rfl)|(apply D_assign;rfl)|(apply D_load1;rfl)|(apply D_pickT;rfl;rfl)|(apply D_pickF;rfl;rfl)|(apply D_int;rfl;rfl;rfl)|(apply D_lenM;rfl)|(apply D_len_sl;rfl)|(apply D_len_str;rfl)|(apply D_str;rfl;rfl;rfl)|(apply D_ext;rfl;rfl)|(apply D_loadW;rfl;rfl)|(apply D_loadA;rfl;rfl)|(apply D_len_nil;rfl)|(apply D_beq;rfl;rfl)|(apply D_bne;rfl;rfl)|(apply D_idxAn;rfl;rfl;(first|omega|(simp;done)))|(apply D_idxA;rfl;rfl;omega;(first|omega|(simp;done)|(simp;omega)))|(apply D_idxA0;rfl;rfl;omega;(first|omega|(simp;done)|(simp;omega)))|(apply D_lenR;rfl)|(apply D_ixRn;rfl;rfl;(first|omega|(simp;done)))|(apply D_ixR;rfl;rfl;all_goals first|omega|((repeat rw [w64 _ (by omega) (by omega)]);omega)|decide))
      | (refine idDg ?_;first|refine dg0t rfl rfl rfl ?_|refine dg0f rfl rfl rfl ?_|refine dg0u rfl rfl rfl ?_|refine dgr rfl rfl ?_|refine dgs rfl rfl (fun _=>?_) (fun _=>?_))
      | (refine idDn ?_;first|refine dL _ (fun hp' hs=>D_loadB1 rfl (hs.trans rfl) rfl) rfl ?_|refine dL _ (fun hp' hs=>D_loadBA rfl (hs.trans rfl) rfl) rfl ?_|refine dS (S_store rfl rfl rfl rfl rfl rfl rfl) rfl ?_|refine dV (S_alloc 0 rfl) rfl rfl ?_|refine dV (S_alloc 1 rfl) rfl rfl ?_|refine dV (S_alloc 2 rfl) rfl rfl ?_|refine dV (S_alloc 3 rfl) rfl rfl ?_|refine dV (S_alloc 4 rfl) rfl rfl ?_|refine dV (S_alloc 5 rfl) rfl rfl ?_|refine dV (S_alloc 6 rfl) rfl rfl ?_|refine dV (S_alloc 7 rfl) rfl rfl ?_)
      | refine WD_nil (by first|decide +kernel|kernel_rfl|rfl) ?_
    all_goals first
      | contradiction
      | (exfalso;omega)
      | (refine ⟨rfl,i + 1,by omega,by omega,[],renN ⟨⟨_,rfl,.pur⟩,⟨_,rfl,.pur⟩,⟨_,rfl,.pur⟩,⟨_,rfl,?_⟩,trivial⟩⟩
         rw [wsucc i (by omega)];exact .pur)
      | skip
    all_goals trace_state
  · repeat' first
      | (apply p1 (hd:=rfl);case hop=>first|(apply D_move;rfl)|(apply D_assign;rfl)|(apply D_load1;rfl)|(apply D_pickT;rfl;rfl)|(apply D_pickF;rfl;rfl)|(apply D_int;rfl;rfl;rfl)|(apply D_lenM;rfl)|(apply D_len_sl;rfl)|(apply D_len_str;rfl)|(apply D_str;rfl;rfl;rfl)|(apply D_ext;rfl;rfl)|(apply D_loadW;rfl;rfl)|(apply D_loadA;rfl;rfl)|(apply D_len_nil;rfl)|(apply D_beq;rfl;rfl)|(apply D_bne;rfl;rfl)|(apply D_idxAn;rfl;rfl;(first|omega|(simp;done)))|(apply D_idxA;rfl;rfl;omega;(first|omega|(simp;done)|(simp;omega)))|(apply D_idxA0;rfl;rfl;omega;(first|omega|(simp;done)|(simp;omega)))|(apply D_lenR;rfl)|(apply D_ixRn;rfl;rfl;(first|omega|(simp;done)))|(apply D_ixR;rfl;rfl;all_goals first|omega|((repeat rw [w64 _ (by omega) (by omega)]);omega)|decide))
      | refine W_seq ?_
      | refine W_region ?_
      | (refine idC ?_;first|refine c1 rfl ?_|refine c0 rfl ?_|refine cs rfl (fun _=>?_) (fun _=>?_))
      | refine WL_nil ?_
      | (refine idG ?_;first|refine g0t rfl rfl rfl ?_|refine g0f rfl rfl rfl ?_|refine g0u rfl rfl rfl ?_|refine gr rfl rfl ?_|refine gs rfl rfl (fun _=>?_) (fun _=>?_)|refine grn rfl rfl ?_)
      | refine tn ?_
      | refine tr ?_
      | refine br ?_
      | refine bn ?_
      | refine te ?_
      | (refine idB ?_;first|refine bh rfl ?_|refine bm rfl ?_)
      | refine W_skip ?_
      | refine W_block ?_
      | refine W_exit ?_
      | refine W_ret ?_
      | refine W_label ?_
      | refine W_scope ?_
      | refine sn ?_
      | refine sr ?_
      | refine se ?_
      | (refine idR ?_;first|refine ret1 rfl rfl rfl ?_|refine rL1 rfl (by first|exact trivial|exact ⟨rfl,trivial⟩) (by first|exact ResO.tmp rfl|exact ResO.cellBA rfl rfl rfl|exact ResO.cellB1 rfl rfl rfl|exact ResO.cellEA rfl rfl|exact ResO.cellE1 rfl) ?_)
      | refine Le.bool ?_
      | refine Le.int ?_
      | refine Le.str ?_
      | (refine idW ?_;first|refine W_draw0 rfl ?_|refine W_draw1 rfl ?_|refine W_draw2 rfl ?_|refine W_draw3 rfl ?_)
      | (apply d1 (hd:=rfl);case hop=>first|(apply D_move;rfl)|(apply D_assign;rfl)|(apply D_load1;rfl)|(apply D_pickT;rfl;rfl)|(apply D_pickF;rfl;rfl)|(apply D_int;rfl;rfl;rfl)|(apply D_lenM;rfl)|(apply D_len_sl;rfl)|(apply D_len_str;rfl)|(apply D_str;rfl;rfl;rfl)|(apply D_ext;rfl;rfl)|(apply D_loadW;rfl;rfl)|(apply D_loadA;rfl;rfl)|(apply D_len_nil;rfl)|(apply D_beq;rfl;rfl)|(apply D_bne;rfl;rfl)|(apply D_idxAn;rfl;rfl;(first|omega|(simp;done)))|(apply D_idxA;rfl;rfl;omega;(first|omega|(simp;done)|(simp;omega)))|(apply D_idxA0;rfl;rfl;omega;(first|omega|(simp;done)|(simp;omega)))|(apply D_lenR;rfl)|(apply D_ixRn;rfl;rfl;(first|omega|(simp;done)))|(apply D_ixR;rfl;rfl;all_goals first|omega|((repeat rw [w64 _ (by omega) (by omega)]);omega)|decide))
      | (refine idDg ?_;first|refine dg0t rfl rfl rfl ?_|refine dg0f rfl rfl rfl ?_|refine dg0u rfl rfl rfl ?_|refine dgr rfl rfl ?_|refine dgs rfl rfl (fun _=>?_) (fun _=>?_))
      | (refine idDn ?_;first|refine dL _ (fun hp' hs=>D_loadB1 rfl (hs.trans rfl) rfl) rfl ?_|refine dL _ (fun hp' hs=>D_loadBA rfl (hs.trans rfl) rfl) rfl ?_|refine dS (S_store rfl rfl rfl rfl rfl rfl rfl) rfl ?_|refine dV (S_alloc 0 rfl) rfl rfl ?_|refine dV (S_alloc 1 rfl) rfl rfl ?_|refine dV (S_alloc 2 rfl) rfl rfl ?_|refine dV (S_alloc 3 rfl) rfl rfl ?_|refine dV (S_alloc 4 rfl) rfl rfl ?_|refine dV (S_alloc 5 rfl) rfl rfl ?_|refine dV (S_alloc 6 rfl) rfl rfl ?_|refine dV (S_alloc 7 rfl) rfl rfl ?_)
      | refine WD_nil (by first|decide +kernel|kernel_rfl|rfl) ?_
    all_goals first
      | contradiction
      | (exfalso;omega)
      | rfl
      | skip
    all_goals trace_state
end Go.Proofs

namespace Go.Proofs
open Go.AL
instance : Opn Tryd.prog 2 (fun n : Int=>[.sc (.int .i64 n)]) (fun n : Int=>(Lit.int .i64 n).wf = true):=opn_int Tryd.underlying2
instance : Opn Tryd.prog 3 (fun n : Int=>[.sc (.int .i64 n)]) (fun n : Int=>(Lit.int .i64 n).wf = true):=opn_int Tryd.underlying3
instance : Opn Tryd.prog 4 (fun b : Bool=>[.sc (.bool b)]) (fun _ : Bool=>True):=opn_bool Tryd.underlying4
instance : Opn Tryd.prog 5 (fun n : Int=>[.sc (.int .u8 n)]) (fun n : Int=>(Lit.int .u8 n).wf = true):=opn_int Tryd.underlying5
instance : Opn Tryd.prog 6 (fun n : Int=>[.sc (.int .u8 n)]) (fun n : Int=>(Lit.int .u8 n).wf = true):=opn_int Tryd.underlying6
instance : Opn Tryd.prog 9 (fun l : List UInt8=>[str l]) (fun l : List UInt8=>l.length ≤ maxLen):=opn_str Tryd.underlying9
instance : Opn Tryd.prog 10 (fun l : List UInt8=>[str l]) (fun l : List UInt8=>l.length ≤ maxLen):=opn_str Tryd.underlying10
instance : Opn Tryd.prog 11 (fun l : List UInt8=>[str l]) (fun l : List UInt8=>l.length ≤ maxLen):=opn_str Tryd.underlying11
instance : Opn Tryd.prog 12 (fun n : Int=>[.sc (.int .u64 n)]) (fun n : Int=>(Lit.int .u64 n).wf = true):=opn_int Tryd.underlying12
instance : Opn Tryd.prog 21 (fun n : Int=>[.sc (.int .i32 n)]) (fun n : Int=>(Lit.int .i32 n).wf = true):=opn_int Tryd.underlying21
instance : Opn Tryd.prog 37 (fun n : Int=>[.sc (.int .u64 n)]) (fun n : Int=>(Lit.int .u64 n).wf = true):=opn_int Tryd.underlying37
instance : Opn Tryd.prog 40 (fun n : Int=>[.sc (.int .i64 n)]) (fun n : Int=>(Lit.int .i64 n).wf = true):=opn_int Tryd.underlying40
instance : Opn Tryd.prog 49 (fun n : Int=>[.sc (.int .u32 n)]) (fun n : Int=>(Lit.int .u32 n).wf = true):=opn_int Tryd.underlying49
instance : Opn Tryd.prog 51 (fun n : Int=>[.sc (.int .u64 n)]) (fun n : Int=>(Lit.int .u64 n).wf = true):=opn_int Tryd.underlying51
instance : Opn Tryd.prog 54 (fun n : Int=>[.sc (.int .u64 n)]) (fun n : Int=>(Lit.int .u64 n).wf = true):=opn_int Tryd.underlying54
instance : Opn Tryd.prog 81 (fun n : Int=>[.sc (.int .u8 n)]) (fun n : Int=>(Lit.int .u8 n).wf = true):=opn_int Tryd.underlying81
instance : Opn Tryd.prog 82 (fun n : Int=>[.sc (.int .u8 n)]) (fun n : Int=>(Lit.int .u8 n).wf = true):=opn_int Tryd.underlying82
instance : Opn Tryd.prog 85 (fun n : Int=>[.sc (.int .i32 n)]) (fun n : Int=>(Lit.int .i32 n).wf = true):=opn_int Tryd.underlying85
instance : Opn Tryd.prog 86 (fun n : Int=>[.sc (.int .i32 n)]) (fun n : Int=>(Lit.int .i32 n).wf = true):=opn_int Tryd.underlying86
end Go.Proofs

namespace Go.AL
open Go.Lib
end Go.AL

namespace Go.AL
open Go.Lib
end Go.AL
