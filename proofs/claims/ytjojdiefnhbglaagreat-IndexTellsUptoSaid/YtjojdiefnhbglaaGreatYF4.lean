/- Contracts of facts' functions: the fold, and what holds at an instant, whose facts are a row of its own. -/
import Derived.Test.YtjojdiefnhbglaaGreatYF2
import Derived.Test.YtjojdiefnhbglaaGreatOps34
set_option linter.all false
namespace Go.Proofs
open Go.AL Go.Sort
attribute [local irreducible] Go.AL.W Go.AL.WL Go.AL.WD Go.AL.POp Go.AL.PPOp Go.AL.POpS Go.AL.PC Go.AL.AC Go.AL.YW Go.AL.Ret Go.AL.Le Go.AL.thn Go.AL.inBlk Go.AL.scp
abbrev HRw (e : Int) (q n : Nat) (r : List Dat) (A X1 X2 : AObj) : List AObj:=[.cells [.sc (.slice none 0 0)],.cells [.sc (.int .i64 e)],.cells [rowA q n],A,.cells [sl9 r],X1,X2]
def RA (q : Nat) (A : AObj) (ex : List AObj) (o : List Fac) : Prop:=(q = 3 ∧ A = .row 6 54 (o.map fC)) ∨ (7 ≤ q ∧ ex[q - 7]? = some (.row 6 54 (o.map fC)))
theorem RA.get7 {q : Nat} {A : AObj} {ex L : List AObj} {o : List Fac} (h : RA q A ex o) (hl : L.length = 7) (hA : L[3]? = some A) : (L ++ ex)[q]? = some (.row 6 54 (o.map fC)):=by
  rcases h with ⟨rfl,rfl⟩ | ⟨h1,h2⟩
  · rw [List.getElem?_append_left (by omega)];exact hA
  · rw [List.getElem?_append_right (by omega),hl];exact h2
theorem RA.get {q : Nat} {A : AObj} {ex : List AObj} {o : List Fac} (h : RA q A ex o) {e : Int} {q' n : Nat} {r : List Dat} {X1 X2 : AObj} : (HRw e q' n r A X1 X2 ++ ex)[q]? = some (.row 6 54 (o.map fC)):=h.get7 rfl rfl
theorem RA.app {q : Nat} {A : AObj} {ex ex2 : List AObj} {o : List Fac} (h : RA q A ex o) : RA q A (ex ++ ex2) o:=by
  rcases h with h | ⟨h1,h2⟩
  · exact .inl h
  · exact .inr ⟨h1,get_app h2⟩
theorem RA.set {q : Nat} {A : AObj} {ex : List AObj} {o : List Fac} (h : RA q A ex o) : ∃ A' ex',(∀ (e : Int) (q' n : Nat) (r : List Dat) (X1 X2 : AObj),(HRw e q' n r A X1 X2 ++ ex).set q .dead = HRw e q' n r A' X1 X2 ++ ex') ∧ ex'.length = ex.length:=by
  rcases h with ⟨rfl,rfl⟩ | ⟨h1,h2⟩
  · exact ⟨.dead,ex,fun e q' n r X1 X2=>rfl,rfl⟩
  · refine ⟨A,ex.set (q - 7) .dead,fun e q' n r X1 X2=>?_,by simp⟩
    rw [List.set_append_right _ _ (by simpa using h1)];rfl
theorem HRw_push {q nn q2 : Nat} {r : List Dat} {A X1 X2 : AObj} {ex a b c ex2 d L : List AObj} {x : List AV} (h : L.length = q2) : (HRw 0 q nn r A X1 X2 ++ ex ++ a ++ b ++ c ++ ex2 ++ d).set 2 (.cells (List.take 0 [rowA q nn] ++ [rowA L.length (nn + [x].length)] ++ List.drop (0 + 1) [rowA q nn])) = HRw 0 q2 (nn + 1) r A X1 X2 ++ (ex ++ a ++ b ++ c ++ ex2 ++ d):=by
  subst h
  simp only [List.append_assoc]
  rfl
theorem renk {rg rg' : List (Nat × AV)} {h : List AObj} {q e k : Nat} {els : List (List AV)} [PurLL els] (hq : h[q]? = some (.row k e els)) (hr : RenL [q] rg rg') : Ren ⟨[],0⟩ [q] rg h rg' [.row k e els] :=
  ⟨by simp,fun r hr=>absurd hr (Nat.not_lt_zero r),fun r hr=>(by cases hr),hr,⟨⟨_,hq,.row _ _ _⟩,trivial⟩⟩
set_option maxHeartbeats 16000000 in
theorem fat_rc [GlobF Tryz.prog] (l : List Fac) (at_ : Int) (hA : dP (allF l) = true) (hl : l.length < 1759218604500) (hb : bndG l) : AC Tryz.prog 31 [sl6 l,.sc (.int .i64 at_)] [] (fun v h'=>∃ q,v = .tu [rowA q (atL l at_).length,.sc (.int .i64 0)] ∧ h'[q]? = some (.row 6 54 ((atL l at_).map fC))):=by
  have ha:=fall_pc l (by omega) hb.f
  rw [hA] at ha
  refine AC.of_body Tryz.func31 Tryz.ntmps31 rfl rfl rfl ?_
  repeat' first
 | (apply p1 (hd:=rfl);case hop=>first|(apply D_move;rfl)|(apply D_assign;rfl)|(apply D_pc ha;rfl;exact .same rfl .nil)|(apply D_lenM;rfl)|(apply D_not;rfl))
 | refine W_seq ?_
 | refine W_region ?_
 | (refine idC ?_;refine cs rfl (fun _=>?_) (fun _=>?_))
 | refine WL_nil ?_
 | refine tn ?_
 | refine tr ?_
 | refine W_skip ?_
 | refine W_block ?_
 | (refine W_ret ?_)
  all_goals first|contradiction|skip
  refine W_adoptG 6 6 54 rfl ?_
  refine W_loopR (X:=Nat) (fun i=>[(1,.sc (.int .i64 at_)),(6,rowA 0 (atL (l.take i) at_).length),(12,sl6 l),(13,.sc (.int .i64 (l.length : Int))),(14,.sc (.int .i64 (i : Int)))]) (fun i=>[.row 6 54 ((atL (l.take i) at_).map fC)])
    (fun i=>i ≤ l.length) (fun i=>l.length - i) 0 (Nat.zero_le _) ⟨rfl,rfl,rfl,rfl,rfl,trivial⟩ rfl ?_
  intro i hi
  have hlen : (atL (l.take i) at_).length ≤ i:=Nat.le_trans (List.length_filter_le _ _) (by simp;omega)
  by_cases hil : i < l.length
  · have hs:=has_pc (l[i]'hil).sp (by have:=(hb _ (List.getElem_mem hil)).2;omega) at_
    have hw:=twin_pc (l[i]'hil) (hb _ (List.getElem_mem _)).2
    have hsn : atL (l.take (i + 1)) at_ = atL (l.take i) at_ ++ (if dP (SetP (l[i]'hil).sp ∧ inS (l[i]'hil).sp at_) = true then [l[i]'hil] else []):=by
      unfold atL
      rw [List.take_succ_eq_append_getElem hil,List.filter_append]
      congr 1
      by_cases hb : dP (SetP (l[i]'hil).sp ∧ inS (l[i]'hil).sp at_) = true <;> simp [List.filter_cons,hb]
    generalize atL (l.take i) at_ = O at *
    generalize dP (SetP (l[i]'hil).sp ∧ inS (l[i]'hil).sp at_) = b at *
    cases b
    · rw [if_neg (by decide),List.append_nil] at hsn
      repeat' first
 | (apply p1 (hd:=rfl);case hop=>first|(apply D_move;rfl)|(apply D_assign;rfl)|(apply D_pc hs;rfl;exact .same rfl (.same rfl .nil))|(apply D_load1;rfl)|(apply D_fld;rfl)|(apply D_int;rfl;rfl;rfl)|(apply D_loadW;rfl;rfl)|(apply D_idxAn;rfl;rfl;(first|omega|(simp;done))))
 | refine W_seq ?_
 | refine W_region ?_
 | (refine idC ?_;first|refine c0 rfl ?_|refine cs rfl (fun _=>?_) (fun _=>?_))
 | refine WL_nil ?_
 | refine tn ?_
 | refine bn ?_
 | refine te ?_
 | (refine idB ?_;refine bh rfl ?_)
 | refine W_skip ?_
 | refine W_block ?_
 | refine W_exit ?_
 | refine W_ret ?_
 | (refine idA ?_;refine m_var rfl rfl rfl rfl rfl rfl rfl ?_)
      all_goals first
        | (exfalso;omega)
        | (refine ⟨rfl,i + 1,by omega,by omega,[0],renk ?_ ⟨⟨_,rfl,.pur⟩,⟨_,rfl,?_⟩,⟨_,rfl,.pur⟩,⟨_,rfl,.pur⟩,⟨_,rfl,?_⟩,trivial⟩⟩
           · rw [hsn];rfl
           · rw [hsn];exact mvRow rfl rfl
           · rw [wsucc i (by omega)];exact .pur)
        | skip
    · rw [if_pos rfl] at hsn
      repeat' first
 | (refine m_appG (d:=26) (els:=O.map fC) (els':=[fC (l[i]'hil)]) rfl rfl rfl (by simp) (by simp) rfl (by simp only [List.length_map,List.length_cons,List.length_nil];omega) (by simp only [List.length_map,List.length_cons,List.length_nil];omega) rfl ?_)
 | (apply p1 (hd:=rfl);case hop=>first|(apply D_move;rfl)|(apply D_assign;rfl)|(apply D_pc hs;rfl;exact .same rfl (.same rfl .nil))|(apply D_pc hw;rfl;exact .same rfl .nil)|(apply D_load1;rfl)|(apply D_fld;rfl)|(apply D_int;rfl;rfl;rfl)|(apply D_loadW;rfl;rfl)|(apply D_idxAn;rfl;rfl;(first|omega|(simp;done)))|(apply D_lit;rfl;rfl;rfl;rfl))
 | refine W_seq ?_
 | refine W_region ?_
 | (refine idC ?_;first|refine c1 rfl ?_|refine cs rfl (fun _=>?_) (fun _=>?_))
 | refine WL_nil ?_
 | refine tn ?_
 | refine bn ?_
 | refine te ?_
 | (refine idB ?_;refine bh rfl ?_)
 | refine W_skip ?_
 | refine W_block ?_
 | refine W_exit ?_
 | refine W_ret ?_
 | (refine idA ?_;refine m_var rfl rfl rfl rfl rfl rfl rfl ?_)
      all_goals first
        | (exfalso;omega)
        | (refine ⟨rfl,i + 1,by omega,by omega,[1],renk ?_ ⟨⟨_,rfl,.pur⟩,⟨_,rfl,?_⟩,⟨_,rfl,.pur⟩,⟨_,rfl,.pur⟩,⟨_,rfl,?_⟩,trivial⟩⟩
           · rw [hsn,List.map_append];rfl
           · rw [hsn];exact mvRow rfl (by simp)
           · rw [wsucc i (by omega)];exact .pur)
        | skip
  · have e : i = l.length:=by omega
    subst e
    rw [List.take_length] at hlen ⊢
    repeat' first
 | (apply p1 (hd:=rfl);case hop=>first|(apply D_move;rfl)|(apply D_assign;rfl)|(apply D_load1;rfl)|(apply D_fld;rfl)|(apply D_int;rfl;rfl;rfl)|(apply D_loadW;rfl;rfl)|(apply D_idxAn;rfl;rfl;(first|omega|(simp;done))))
 | refine W_seq ?_
 | refine W_region ?_
 | (refine idC ?_;refine cs rfl (fun _=>?_) (fun _=>?_))
 | refine WL_nil ?_
 | refine tn ?_
 | refine te ?_
 | (refine idB ?_;refine bh rfl ?_)
 | refine W_skip ?_
 | refine W_block ?_
 | refine W_exit ?_
 | refine W_ret ?_
 | (refine idA ?_;refine m_var rfl rfl rfl rfl rfl rfl rfl ?_)
    all_goals first
      | (exfalso;omega)
      | exact retK (rs:=[.tmp 4,.tmp 5]) (vs:=[rowA 0 (atL l at_).length,.sc (.int .i64 0)]) (.inl rfl) rfl trivial ⟨ResO.tmp rfl,ResO.tmp rfl,trivial⟩ ⟨0,rfl,rfl⟩
      | skip
set_option maxHeartbeats 64000000 in
theorem fold_rc [GlobF Tryz.prog] (l : List Dat) (F : List Fac) (hF : foldR l = some F) (hl : l.length < 1759218604500) (hsl : ∀ d,d ∈ l → d.v.s.length < 9223372036854775808) (hrg : rgD l) : AC Tryz.prog 38 [sl9 l] [] (fun v h'=>∃ q,v = .tu [rowA q F.length,.sc (.int .i64 0)] ∧ h'[q]? = some (.row 6 54 (F.map fC))):=by
  have hmayA:=foldR_ok l hrg
  rw [hF] at hmayA
  replace hmayA:=hmayA.1
  have hS:=dsort_pc 1 l hl
  have hSl:=dsortL_len 1 l
  have hSm:=fun (d : Dat) (hd : d ∈ dsortL 1 l)=>((dsort_mem (by decide) l d).1 hd).1
  refine AC.of_body Tryz.func38 Tryz.ntmps38 rfl rfl rfl ?_
  repeat' first
 | (apply p1 (hd:=rfl);case hop=>first|(apply D_move;rfl)|(apply D_lenM;rfl))
 | refine W_seq ?_
 | refine W_region ?_
 | refine WL_nil ?_
 | refine tn ?_
 | refine W_block ?_
 | (refine idA ?_;refine m_alloc rfl ?_)
  refine W_loopL (X:=Nat) (fun i=>[(0,sl9 l),(2,.bp 0 0),(3,.bp 1 0),(12,sl9 l),(13,.sc (.int .i64 (l.length : Int))),(14,.sc (.int .i64 (i : Int)))]) (fun _=>[.cells [.sc (.slice none 0 0)],.cells [.sc (.int .i64 0)]])
    (fun i=>i ≤ l.length ∧ ∀ (j : Nat) (h : j < l.length),j < i → dmayP l[j]) (fun i=>l.length - i) 0 ⟨Nat.zero_le _,fun j h hj=>absurd hj (Nat.not_lt_zero j)⟩ ⟨rfl,rfl,rfl,rfl,rfl,rfl,trivial⟩ rfl ?_
  rintro i ⟨hi,hz⟩
  by_cases hil : i < l.length
  · have hc:=dcheck_pc (l[i]'hil) (hsl _ (List.getElem_mem _))
    by_cases hm : dmayP (l[i]'hil)
    · rw [← dP_T hm,if_pos rfl] at hc
      repeat' first
 | (apply p1 (hd:=rfl);case hop=>first|(apply D_move;rfl)|(apply D_pc hc;rfl;exact .same rfl .nil)|(apply D_int;rfl;rfl;rfl)|(apply D_loadW;rfl;rfl)|(apply D_idxAn;rfl;rfl;(first|omega|(simp;done))))
 | refine W_seq ?_
 | refine W_region ?_
 | (refine idC ?_;refine cs rfl (fun _=>?_) (fun _=>?_))
 | refine WL_nil ?_
 | refine tn ?_
 | refine tr ?_
 | refine br ?_
 | refine bn ?_
 | refine te ?_
 | (refine idB ?_;refine bh rfl ?_)
 | refine W_skip ?_
 | refine W_block ?_
 | refine W_exit ?_
 | refine W_ret ?_
 | (refine idA ?_;first|refine m_var rfl rfl rfl rfl rfl rfl rfl ?_|refine m_alloc rfl ?_)
 | (refine idS ?_;refine pS (S_store rfl rfl rfl rfl rfl rfl rfl) ?_)
      all_goals first
        | contradiction
        | (exfalso;omega)
        | (refine ⟨rfl,i + 1,⟨by omega,fun j h hj=>?_⟩,by omega,⟨rfl,rfl,rfl,rfl,rfl,ieq (wsucc i (by omega)),trivial⟩,rfl⟩
           by_cases e : j = i
           · subst e;exact hm
           · exact hz j h (by omega))
        | skip
    · exact absurd (hmayA _ (List.getElem_mem _)) hm
  · have hall : ∀ d,d ∈ l → dmayP d:=fun d hd=>by
      obtain ⟨j,hj,rfl⟩:=List.getElem_of_mem hd
      exact hz j hj (by omega)
    have hR : foldR l = foldG (grpL (grP true) (dsortL 1 l)):=by unfold foldR;rw [← dP_T hall,if_pos rfl]
    rw [hR] at hF
    have hok : ∀ d,d ∈ dsortL 1 l → d.fr < d.to:=fun d hd=>(hall d (hSm d hd)).2.2.2.2.2.2.2
    have hrS : ∀ d,d ∈ dsortL 1 l → loT ≤ d.fr ∧ d.to ≤ hiT:=fun d hd=>hrg d (hSm d hd)
    generalize dsortL 1 l = S at *
    repeat' first
 | (refine WL_adoptCG 2 0 6 54 rfl rfl ?_)
 | (apply p1 (hd:=rfl);case hop=>first|(apply D_move;rfl)|(apply D_pc hS;rfl;exact .same rfl (.same rfl .nil))|(apply D_int;rfl;rfl;rfl)|(apply D_loadW;rfl;rfl)|(apply D_idxAn;rfl;rfl;(first|omega|(simp;done))))
 | refine W_seq ?_
 | refine W_region ?_
 | (refine idC ?_;refine cs rfl (fun _=>?_) (fun _=>?_))
 | refine WL_nil ?_
 | refine tn ?_
 | refine te ?_
 | (refine idB ?_;refine bh rfl ?_)
 | refine W_skip ?_
 | refine W_block ?_
 | refine W_exit ?_
 | (refine idA ?_;first|refine m_var rfl rfl rfl rfl rfl rfl rfl ?_|refine m_alloc rfl ?_)
 | (refine m_call (d:=24) (groups_ac S true _) rfl rfl rfl ?_;rintro _ _ ⟨rfl,rfl⟩)
    · exfalso;omega
    refine W_weak (s':=⟨[(2,.bp 0 0),(3,.bp 1 0),(6,.bp 2 0),(24,.fn (.func 136) [] [.bp 4 0,.ep [.sc (.bool true)]])],[.cells [.sc (.slice none 0 0)],.cells [.sc (.int .i64 0)],.cells [rowA 3 0],.row 6 54 [],.cells [sl9 S]],⟨[],0⟩⟩) ⟨⟨rfl,rfl,rfl,rfl,trivial⟩,rfl,rfl⟩ ?_
    refine W_rangeX (.inl rfl) fun l1 X hX=>?_
    refine AC.mono (groups1_ac true l1 4 (fun r h=>∃ o q nn A ex,h = HRw 0 q nn r A (.raw (.deferred (some []))) (X .ready none) ++ ex ∧ nn = o.length ∧ RA q A ex o ∧ foldG (grpL (grP true) S) = (foldG (grpL (grP true) r)).map (o ++ ·) ∧ o.length + r.length ≤ S.length ∧ ∃ k,r = S.drop k)
      (fun h=>foldG (grpL (grP true) S) = none ∧ ∃ q nn A r ex,h = HRw 60 q nn r A (.raw (.deferred (some []))) (X .done (some .ret)) ++ ex) (r0:=S) (by omega) ⟨[],3,0,_,[],rfl,rfl,.inl ⟨rfl,rfl⟩,?_,by simp,0,rfl⟩ ?_ ?_) ?_
    · cases foldG (grpL (grP true) S) <;> rfl
    · rintro r h ⟨o,q,nn,A,ex,rfl,_⟩;rfl
    · rintro r h n ⟨o,q,nn,A,ex,rfl,hnn,hRA,hJ,hlen,k,hk⟩ hn0 hn1 hg
      refine YW.round (r:=6) (ps:=[25]) ((show _ = some (X .ready none) from rfl).trans (congrArg some (hX .ready none))) rfl rfl ?_
      repeat' first
 | (apply p1 (hd:=rfl);case hop=>first|(apply D_assign;rfl))
 | refine W_region ?_
 | (refine WL_nil ?_)
      refine ⟨rfl,(show _ = some (X .ready none) from rfl).trans (congrArg some (hX .ready none)),?_⟩
      refine W_hq (h':=HRw 0 q nn r A (.raw (.deferred (some []))) (X .busy none) ++ ex) (by rw [hX .busy none];rfl) ?_
      generalize hgd : r.take n = g at *
      obtain ⟨d0,hd0⟩ : ∃ d0,d0 = g.headD dat0:=⟨_,rfl⟩
      have hgl : 0 < g.length:=by rw [← hgd];simp;omega
      have hg0 : g[0]'hgl = d0:=by rw [hd0];cases g with
        | nil=>simp at hgl
        | cons x t=>rfl
      repeat' first
 | (refine idW ?_;refine W_dS1 (id:=10) 14 rfl rfl (by decide +kernel) ?_;simp only [List.take_succ_cons,List.take_zero,List.drop_succ_cons,List.drop_zero])
 | (refine dV (S_alloc _ get_last) (by simp [Nat.blt_eq]) rfl ?_)
 | (apply p1 (hd:=rfl);case hop=>first|(apply D_move;rfl))
 | refine W_seq ?_
 | refine W_region ?_
 | refine WL_nil ?_
 | refine tn ?_
 | refine W_block ?_
 | (refine idS ?_;first|refine pS (S_store rfl rfl rfl (by (repeat first|assumption|exact get_last|(refine get_last2 ?_;focus (simp;done))|apply get_set|apply get_app|(apply get_ne;focus omega)|(apply get_ne;focus (simp only [List.length_set,List.length_append,List.length_cons,List.length_nil];omega)));done) (by rfl) (by rfl) (by rfl)) ?_)
 | (apply d1 (hd:=rfl);case hop=>first|(apply D_move;rfl)|(apply D_load1;rfl)|(apply D_fld;rfl)|(apply D_loadA;rfl;rfl)|(apply D_idxAn;rfl;rfl;(first|omega|(simp;done)))|exact D_build rfl)
 | (refine WD_nil (by first|decide +kernel|kernel_rfl|rfl) ?_)
      refine WL_hq (h':=HRw 0 q nn r A (.raw (.deferred (some []))) (X .busy none) ++ ex ++ [.cells (fce (g[0]'hgl) (.sc (.slice none 0 0)))]) (by rw [set_last,set_last];rfl) ?_
      rw [hg0]
      repeat' first
 | refine WL_nil ?_
 | refine tn ?_
 | refine W_block ?_
 | (refine m_call (d:=40) (groups_ac g false _) rfl rfl rfl ?_;rintro _ _ ⟨rfl,rfl⟩)
      obtain ⟨A',ex',hset,hexl⟩:=hRA.set
      have hgS : ∀ d,d ∈ g → d ∈ S:=fun d hd=>by
        rw [← hgd] at hd
        have:=List.mem_of_mem_take hd
        rw [hk] at this
        exact List.mem_of_mem_drop this
      have hgn : g.length ≤ S.length:=by rw [← hgd,hk];simp;omega
      refine W_weak (s':=⟨[(2,.bp 0 0),(3,.bp 1 0),(6,.bp 2 0),(8,.bp (HRw 0 q nn r A (.raw (.deferred (some []))) (X .busy none) ++ ex).length 0),(40,.fn (.func 136) [] [.bp ((HRw 0 q nn r A (.raw (.deferred (some []))) (X .busy none) ++ ex).length + 1) 0,.ep [.sc (.bool false)]])],HRw 0 q nn r A (.raw (.deferred (some []))) (X .busy none) ++ ex ++ [AObj.cells (fce d0 (.sc (.slice none 0 0)))] ++ [.cells [sl9 g]],⟨[],_⟩⟩) ⟨⟨rfl,rfl,rfl,rfl,congrArg (fun n=>some (AV.fn (.func 136) [] [.bp n 0,.ep [.sc (.bool false)]])) (by simp),trivial⟩,rfl,rfl⟩ ?_
      refine W_rangeNX (r0:=6) ((show _ = some (X .busy none) from rfl).trans (congrArg some (hX .busy none))) (.inl rfl) fun l2 Y hY=>?_
      rw [show (HRw 0 q nn r A (.raw (.deferred (some []))) (X .busy none) ++ ex ++ [AObj.cells (fce d0 (.sc (.slice none 0 0)))] ++ [AObj.cells [sl9 g]]).length = (HRw 0 q nn r A (.raw (.deferred (some []))) (X .busy none) ++ ex).length + 2 from by simp]
      refine AC.mono (groups1_ac false l2 _ (fun r2 h=>∃ now c ex2,h = HRw 0 q nn r A (.raw (.deferred (some []))) (X .busy none) ++ ex ++ [.cells (fce d0 c)] ++ [.cells [sl9 r2]] ++ [Y .ready none] ++ ex2 ∧ ((c = .sc (.slice none 0 0) ∧ now = []) ∨ c = sl2 now) ∧ SetP now ∧ rngS now ∧ foldT [] (grpL (grP false) g) = foldT now (grpL (grP false) r2) ∧ now.length + 2 * r2.length ≤ 2 * g.length ∧ ∃ k,r2 = g.drop k)
        (fun h=>foldT [] (grpL (grP false) g) = none ∧ ∃ c r2 ex2,h = HRw 60 q nn r A (.raw (.deferred (some []))) (X .busy none) ++ ex ++ [.cells (fce d0 c)] ++ [.cells [sl9 r2]] ++ [Y .done (some .ret)] ++ ex2) (r0:=g) (by omega) ⟨[],.sc (.slice none 0 0),[],by simp,.inl ⟨rfl,rfl⟩,.nil,fun s hs=>by simp at hs,rfl,by simp,0,rfl⟩ ?_ ?_) ?_
      · rintro r2 h ⟨now,c,ex2,rfl,_⟩;exact get1
      · rintro r2 h n2 ⟨now,c,ex2,rfl,hc,hsetp,hrn,hT,hl2,k2,hk2⟩ hn2 hn3 hg2
        have hx0 : ∀ d,d ∈ r2.take n2 → d ∈ g:=fun d hd=>by
          have:=List.mem_of_mem_take hd
          rw [hk2] at this
          exact List.mem_of_mem_drop this
        have hxo : okD (r2.take n2):=fun d hd=>hok d (hgS d (hx0 d hd))
        have hxr : rgD (r2.take n2):=fun d hd=>hrS d (hgS d (hx0 d hd))
        have hxl : (r2.take n2).length = n2:=by simp;omega
        have htl:=tn_len now (r2.take n2)
        have ht:=turned_pc now (r2.take n2) hsetp hxo (by omega)
        obtain ⟨hts,htr,_⟩:=tn_ok hsetp hrn hxo hxr
        have hdl : (r2.drop n2).length = r2.length - n2:=by simp
        have hkk : ∃ k,r2.drop n2 = g.drop k:=⟨k2 + n2,by rw [hk2,List.drop_drop]⟩
        rw [hg2,foldT_cons] at hT
        generalize hxd : r2.take n2 = x at *
        refine YW.round (r:=(HRw 0 q nn r A (.raw (.deferred (some []))) (X .busy none) ++ ex).length + 2) (ps:=[41]) (get2.trans (congrArg some (hY .ready none))) rfl rfl ?_
        repeat' first
 | (apply p1 (hd:=rfl);case hop=>first|(apply D_assign;rfl))
 | refine W_region ?_
 | (refine WL_nil ?_)
        refine ⟨rfl,get2.trans (congrArg some (hY .ready none)),?_⟩
        refine W_hq (h':=HRw 0 q nn r A (.raw (.deferred (some []))) (X .busy none) ++ ex ++ [.cells (fce d0 c)] ++ [.cells [sl9 r2]] ++ [Y .busy none] ++ ex2) (by rw [hY .busy none,set2]) ?_
        have hnt : Value.bool (bNot true) = .bool false:=by simp [bNot]
        have hnf : Value.bool (bNot false) = .bool true:=by simp [bNot]
        by_cases hb0 : (bothL x).length = 0
        · rw [if_pos hb0] at hT
          rw [← dP_T hb0] at ht
          rcases hc with ⟨rfl,rfl⟩|rfl
          all_goals
            repeat' first
 | (apply p1 (hd:=rfl);case hop=>first|(apply D_move;rfl)|(apply D_assign;rfl)|exact D_sc (D_not rfl) hnt|(apply D_pc ht;rfl;first|exact .same rfl (.same rfl .nil)|exact .niln rfl (.same rfl .nil))|(apply D_ext;rfl;rfl)|exact D_fldB rfl)
 | refine W_seq ?_
 | refine W_region ?_
 | (refine idC ?_;refine c0 rfl ?_)
 | refine WL_nil ?_
 | refine tn ?_
 | refine bn ?_
 | refine W_skip ?_
 | refine W_block ?_
 | (refine idLd ?_;first|refine p1L (D_loadB1 rfl (by (repeat first|assumption|exact get_last|(refine get_last2 ?_;focus (simp;done))|apply get_set|apply get_app|(apply get_ne;focus omega)|(apply get_ne;focus (simp only [List.length_set,List.length_append,List.length_cons,List.length_nil];omega)));done) (by rfl)) rfl ?_)
 | (refine idS ?_;first|refine pS (S_store rfl rfl rfl (by (repeat first|assumption|exact get_last|(refine get_last2 ?_;focus (simp;done))|apply get_set|apply get_app|(apply get_ne;focus omega)|(apply get_ne;focus (simp only [List.length_set,List.length_append,List.length_cons,List.length_nil];omega)));done) (by rfl) (by rfl) (by rfl)) ?_)
          all_goals
            refine roundQ_hq (P:=Tryz.prog) (h':=HRw 0 q nn r A (.raw (.deferred (some []))) (X .busy none) ++ ex ++ [.cells (fce d0 (sl2 (tnL _ x)))] ++ [.cells [sl9 r2]] ++ [Y .busy none] ++ ex2) (by rw [set0];rfl) ?_
            refine ⟨rfl,⟨_,_,get2.trans (congrArg some (hY .busy none))⟩,.inl ⟨rfl,?_⟩⟩
            dsimp only
            rw [← hY .ready none,set2]
            refine ⟨get1,_,_,ex2,set1,.inr rfl,hts,htr,hT,?_,hkk⟩
            omega
        · rw [if_neg hb0] at hT
          rw [← dP_F hb0] at ht
          rcases hc with ⟨rfl,rfl⟩|rfl
          all_goals
            repeat' first
 | (apply p1 (hd:=rfl);case hop=>first|(apply D_move;rfl)|(apply D_assign;rfl)|exact D_sc (D_not rfl) hnf|(apply D_pc ht;rfl;first|exact .same rfl (.same rfl .nil)|exact .niln rfl (.same rfl .nil))|(apply D_ext;rfl;rfl)|exact D_fldB rfl)
 | refine W_seq ?_
 | refine W_region ?_
 | (refine idC ?_;refine c1 rfl ?_)
 | refine WL_nil ?_
 | refine tn ?_
 | refine tr ?_
 | refine br ?_
 | refine W_block ?_
 | refine W_ret ?_
 | (refine idLd ?_;first|refine p1L (D_loadB1 rfl (by (repeat first|assumption|exact get_last|(refine get_last2 ?_;focus (simp;done))|apply get_set|apply get_app|(apply get_ne;focus omega)|(apply get_ne;focus (simp only [List.length_set,List.length_append,List.length_cons,List.length_nil];omega)));done) (by rfl)) rfl ?_)
 | (refine idS ?_;refine pS (S_store rfl rfl rfl rfl rfl rfl rfl) ?_)
          all_goals
            refine roundQ_hq (P:=Tryz.prog) (h':=HRw 60 q nn r A (.raw (.deferred (some []))) (X .busy none) ++ ex ++ [.cells (fce d0 _)] ++ [.cells [sl9 r2]] ++ [Y .busy none] ++ ex2) rfl ?_
            refine ⟨rfl,⟨_,_,get2.trans (congrArg some (hY .busy none))⟩,.inr ⟨rfl,hT,?_⟩⟩
            dsimp only
            rw [← hY .done (some .ret)]
            exact ⟨_,r2,ex2,set2⟩
      · rintro v h' (⟨now,c,ex2,rfl,hc,hsetp,hrn,hT,hl2,_⟩ | ⟨hT,c,r2,ex2,rfl⟩)
        · refine ⟨.ready,none,get2.trans (congrArg some (hY .ready none)),by decide,?_⟩
          dsimp only
          rw [grpL_nil] at hT
          have hT' : foldT [] (grpL (grP false) g) = some now:=hT
          rw [set2]
          have hok1:=foldG_ok hJ (by rw [hgd];exact hg) (by rw [hgd];exact hT')
          rw [hgd] at hok1
          have hdl : (r.drop n).length = r.length - n:=by simp
          have hkk : ∃ k,r.drop n = S.drop k:=⟨k + n,by rw [hk,List.drop_drop]⟩
          have hno : now.length = 0 → foldG (grpL (grP true) S) = (foldG (grpL (grP true) (r.drop n))).map (o ++ ·):=fun e=>by
            rw [hok1,oneF,if_pos e,List.append_nil]
          have hyes : ¬ now.length = 0 → foldG (grpL (grP true) S) = (foldG (grpL (grP true) (r.drop n))).map ((o ++ [⟨d0.e,d0.a,d0.v,now⟩]) ++ ·):=fun e=>by
            rw [hok1,oneF,if_neg e,hd0]
          rcases hc with ⟨rfl,rfl⟩|rfl
          · repeat' first
 | (apply p1 (hd:=rfl);case hop=>first|(apply D_int;rfl;rfl;rfl)|(apply D_len_nil;rfl)|(apply D_lit;rfl;rfl;rfl;rfl)|exact D_fldB rfl)
 | refine W_seq ?_
 | refine W_region ?_
 | (refine idC ?_;refine cs rfl (fun _=>?_) (fun _=>?_))
 | refine WL_nil ?_
 | refine tn ?_
 | refine bn ?_
 | refine W_skip ?_
 | (refine idLd ?_;first|refine p1L (D_loadB1 rfl rfl rfl) rfl ?_|refine p1L (D_loadB1 rfl (by (repeat first|assumption|exact get_last|(refine get_last2 ?_;focus (simp;done))|apply get_set|apply get_app|(apply get_ne;focus omega)|(apply get_ne;focus (simp only [List.length_set,List.length_append,List.length_cons,List.length_nil];omega)));done) (by rfl)) rfl ?_|refine p1L (D_loadBA rfl (by (repeat first|assumption|exact get_last|(refine get_last2 ?_;focus (simp;done))|apply get_set|apply get_app|(apply get_ne;focus omega)|(apply get_ne;focus (simp only [List.length_set,List.length_append,List.length_cons,List.length_nil];omega)));done) (by rfl)) rfl ?_)
            all_goals first
              | (exfalso;omega)
              | skip
            refine ⟨rfl,⟨_,_,(show _ = some (X .busy none) from rfl).trans (congrArg some (hX .busy none))⟩,.inl ⟨rfl,?_⟩⟩
            dsimp only
            rw [← hX .ready none]
            exact ⟨rfl,o,q,nn,A,ex ++ [.cells (fce d0 (.sc (.slice none 0 0)))] ++ [.cells [sl9 []]] ++ [.dead] ++ ex2,rfl,hnn,hRA.app.app.app.app,hno rfl,by omega,hkk⟩
          · obtain ⟨hp,hhp⟩ : ∃ hp,hp = HRw 0 q nn r A (.raw (.deferred (some []))) (X .busy none) ++ ex ++ [AObj.cells (fce d0 (sl2 now))] ++ [AObj.cells [sl9 []]] ++ [AObj.dead] ++ ex2:=⟨_,rfl⟩
            have hgq : (HRw 0 q nn r A (.raw (.deferred (some []))) (X .busy none) ++ ex ++ [AObj.cells (fce d0 (sl2 now))] ++ [AObj.cells [sl9 []]] ++ [AObj.dead] ++ ex2)[q]? = some (.row 6 54 (o.map fC)):=get_app (get_app (get_app (get_app hRA.get)))
            have hsq : (HRw 0 q nn r A (.raw (.deferred (some []))) (X .busy none) ++ ex ++ [AObj.cells (fce d0 (sl2 now))] ++ [AObj.cells [sl9 []]] ++ [AObj.dead] ++ ex2).set q AObj.dead = HRw 0 q nn r A' (.raw (.deferred (some []))) (X .busy none) ++ ex' ++ [AObj.cells (fce d0 (sl2 now))] ++ [AObj.cells [sl9 []]] ++ [AObj.dead] ++ ex2:=by
              rw [set_app (get_app (get_app (get_app hRA.get))),set_app (get_app (get_app hRA.get)),set_app (get_app hRA.get),set_app hRA.get,hset]
            repeat' first
 | (refine m_appG (d:=60) (els:=o.map fC) (els':=[fC ⟨d0.e,d0.a,d0.v,now⟩]) rfl rfl hgq (by rw [List.length_map];exact hnn) (by simp) rfl (by simp only [List.length_map,List.length_cons,List.length_nil];omega) (by simp only [List.length_map,List.length_cons,List.length_nil];omega) rfl ?_;rw [hsq])
 | (apply p1 (hd:=rfl);case hop=>first|(apply D_int;rfl;rfl;rfl)|(apply D_lenM;rfl)|(apply D_lit;rfl;rfl;rfl;rfl)|exact D_fldB rfl)
 | refine W_seq ?_
 | refine W_region ?_
 | (refine idC ?_;refine cs rfl (fun _=>?_) (fun _=>?_))
 | refine WL_nil ?_
 | refine tn ?_
 | refine bn ?_
 | refine W_skip ?_
 | (refine idLd ?_;first|refine p1L (D_loadB1 rfl rfl rfl) rfl ?_|refine p1L (D_loadB1 rfl (by (repeat first|assumption|exact get_last|(refine get_last2 ?_;focus (simp;done))|apply get_set|apply get_app|(apply get_ne;focus omega)|(apply get_ne;focus (simp only [List.length_set,List.length_append,List.length_cons,List.length_nil];omega)));done) (by rfl)) rfl ?_|refine p1L (D_loadBA rfl (by (repeat first|assumption|exact get_last|(refine get_last2 ?_;focus (simp;done))|apply get_set|apply get_app|(apply get_ne;focus omega)|(apply get_ne;focus (simp only [List.length_set,List.length_append,List.length_cons,List.length_nil];omega)));done) (by rfl)) rfl ?_)
 | (refine idS ?_;refine pS (S_store rfl rfl rfl rfl rfl rfl rfl) ?_)
            all_goals first
              | (have e : now.length = 0:=by omega
                 refine ⟨rfl,⟨_,_,(show _ = some (X .busy none) from rfl).trans (congrArg some (hX .busy none))⟩,.inl ⟨rfl,?_⟩⟩
                 dsimp only
                 rw [← hX .ready none]
                 exact ⟨rfl,o,q,nn,A,ex ++ [.cells (fce d0 (sl2 now))] ++ [.cells [sl9 []]] ++ [.dead] ++ ex2,rfl,hnn,hRA.app.app.app.app,hno e,by omega,hkk⟩)
              | skip
            · have e : ¬ now.length = 0:=by omega
              refine roundQ_hq (P:=Tryz.prog) (h':=HRw 0 (7 + (ex ++ [AObj.cells (fce d0 (sl2 now))] ++ [AObj.cells [sl9 []]] ++ [AObj.dead] ++ ex2).length) (nn + 1) r A' (.raw (.deferred (some []))) (X .busy none) ++ (ex' ++ [AObj.cells (fce d0 (sl2 now))] ++ [AObj.cells [sl9 []]] ++ [AObj.dead] ++ ex2 ++ [AObj.row 6 54 ((o ++ [Fac.mk d0.e d0.a d0.v now]).map fC)])) (by rw [List.map_append];first|(symm;refine HRw_push ?_;simp [HRw];omega)|(refine HRw_push ?_;simp [HRw];omega)) ?_
              refine ⟨rfl,⟨_,_,(show _ = some (X .busy none) from rfl).trans (congrArg some (hX .busy none))⟩,.inl ⟨rfl,?_⟩⟩
              dsimp only
              rw [← hX .ready none]
              refine ⟨rfl,o ++ [⟨d0.e,d0.a,d0.v,now⟩],_,nn + 1,A',ex' ++ [AObj.cells (fce d0 (sl2 now))] ++ [AObj.cells [sl9 []]] ++ [AObj.dead] ++ ex2 ++ [AObj.row 6 54 ((o ++ [Fac.mk d0.e d0.a d0.v now]).map fC)],rfl,by rw [List.length_append,List.length_singleton,hnn],.inr ⟨by omega,?_⟩,hyes e,?_,hkk⟩
              · rw [show 7 + (ex ++ [AObj.cells (fce d0 (sl2 now))] ++ [AObj.cells [sl9 []]] ++ [AObj.dead] ++ ex2).length - 7 = (ex' ++ [AObj.cells (fce d0 (sl2 now))] ++ [AObj.cells [sl9 []]] ++ [AObj.dead] ++ ex2).length by simp only [List.length_append,List.length_singleton,hexl];omega]
                exact get_last
              · rw [List.length_append,List.length_singleton];omega
        · refine ⟨.done,some .ret,get2.trans (congrArg some (hY .done (some .ret))),by decide,?_⟩
          dsimp only
          rw [show (HRw 0 q nn r A (.raw (.deferred (some []))) (X .busy none) ++ ex).length = (HRw 60 q nn r A (.raw (.deferred (some []))) (X .busy none) ++ ex).length from rfl,set2]
          have hno1:=foldG_no hJ (by rw [hgd];exact hg) (by rw [hgd];exact hT)
          repeat' first
 | refine tr ?_
 | (refine br ?_)
          refine ⟨rfl,⟨_,_,(show _ = some (X .busy none) from rfl).trans (congrArg some (hX .busy none))⟩,.inr ⟨rfl,hno1,?_⟩⟩
          dsimp only
          rw [← hX .done (some .ret)]
          exact ⟨q,nn,A,r,ex ++ [.cells (fce d0 c)] ++ [.cells [sl9 r2]] ++ [.dead] ++ ex2,rfl⟩
    · rintro v h' (⟨o,q,nn,A,ex,rfl,hnn,hRA,hJ,_⟩ | ⟨hJ,q,nn,A,r,ex,rfl⟩)
      · refine ⟨.ready,none,(show _ = some (X .ready none) from rfl).trans (congrArg some (hX .ready none)),by decide,?_⟩
        rw [hF,grpL_nil] at hJ
        have e : (foldG []).map (o ++ ·) = some o:=by simp [foldG]
        rw [e] at hJ
        cases hJ
        repeat' first
 | refine W_seq ?_
 | refine W_region ?_
 | refine WL_nil ?_
 | refine tn ?_
 | refine bn ?_
 | refine W_ret ?_
 | (refine idLd ?_;refine p1L (D_loadB1 rfl rfl rfl) rfl ?_)
 | (refine idS ?_;refine pS (S_store rfl rfl rfl rfl rfl rfl rfl) ?_)
        all_goals exact retK (rs:=[.cell 2 _,.cell 3 _]) (vs:=[rowA q nn,.sc (.int .i64 0)]) (.inl rfl) rfl ⟨rfl,trivial⟩ ⟨ResO.cellB1 rfl rfl rfl,ResO.cellB1 rfl rfl rfl,trivial⟩ ⟨q,by rw [hnn];rfl,hRA.get7 (L:=[_,_,_,_,_,_,_]) rfl rfl⟩
      · rw [hF] at hJ;cases hJ
end Go.Proofs
