/- The law TextNames. -/
import Derived.Test.YtnjnjbombcefcaaDoorCX8
import Derived.Test.YtnjnjbombcefcaaDoorOps50
set_option linter.all false
namespace Go.Proofs.Wr
open Go.AL Go.Txt
attribute [local irreducible] Go.AL.W Go.AL.WL Go.AL.WD Go.AL.POp Go.AL.PPOp Go.AL.POpS Go.AL.PC Go.AL.AC Go.AL.YW Go.AL.Ret Go.AL.Le Go.AL.thn Go.AL.inBlk Go.AL.scp
def isOk : Res → Bool | .ok _=>true | .err _ _=>false
def isErr (ln cl : Nat) : Res → Bool | .ok _=>false | .err a b=>a == ln && b == cl
set_option maxHeartbeats 8000000 in
theorem wrong_no [GlobF Tryd.prog] (hg : MaxLenOK) (hpw : PowOK) (he : ErrsOK) (s : List UInt8) (hs : s.length < 268435456) (h : isOk (parC s) = true) : PC Tryd.prog 16 [str s,i64 0,i64 0] (.sc (.bool true)):=by
  have h1:=parse_t hg hpw he s hs
  rw [parC_eq] at h1
  cases hR : parC s with
  | err a b=>rw [hR] at h;cases h
  | ok l =>
    rw [hR] at h1
    simp only [resV] at h1
    refine PC.of_body Tryd.func16 Tryd.ntmps16 rfl rfl rfl ?_
    repeat' first
 | (refine idC ?_;refine cs rfl (fun _=>?_) (fun hh=>absurd hh (by first|exact fun h=>h rfl|omega)))
 | (refine idG ?_;refine gs rfl rfl (fun _=>?_) (fun hh=>absurd hh (by first|exact fun h=>h rfl|omega)))
 | (apply p1 (hd:=rfl);case hop=>first|(apply D_move;rfl)|(apply D_assign;rfl)|(apply D_pc h1;rfl;exact .same rfl .nil)|(apply D_pickT;rfl;rfl)|(apply D_int;rfl;rfl;rfl)|(apply D_ext;rfl;rfl))
 | refine W_seq ?_
 | refine W_region ?_
 | refine WL_nil ?_
 | (refine idG ?_;refine gr rfl rfl ?_)
 | refine tn ?_
 | refine tr ?_
 | refine W_ret ?_
 | (refine idR ?_;refine ret1 rfl rfl rfl ?_)
 | (refine Le.bool ?_)
    all_goals first
      | rfl
      | rw [iEq_t]
      | trace_state
set_option maxHeartbeats 8000000 in
theorem wrong_at [GlobF Tryd.prog] (hg : MaxLenOK) (hpw : PowOK) (he : ErrsOK) (s : List UInt8) (hs : s.length < 268435456) (ln cl : Nat) (h0 : 0 < ln) (h : isErr ln cl (parC s) = true) : PC Tryd.prog 16 [str s,i64 (ln : Int),i64 (cl : Int)] (.sc (.bool true)):=by
  have h1:=parse_t hg hpw he s hs
  rw [parC_eq] at h1
  cases hR : parC s with
  | ok l=>rw [hR] at h;cases h
  | err a b =>
    rw [hR] at h
    simp only [isErr,Bool.and_eq_true,beq_iff_eq] at h
    obtain ⟨rfl,rfl⟩:=h
    rw [hR] at h1
    simp only [resV] at h1
    refine PC.of_body Tryd.func16 Tryd.ntmps16 rfl rfl rfl ?_
    repeat' first
 | (refine idG ?_;refine gs rfl rfl (fun _=>?_) (fun hh=>absurd hh (by first|exact fun h=>h rfl|omega)))
 | (refine idC ?_;refine cs rfl (fun hh=>absurd hh (by first|exact fun h=>h rfl|omega)) (fun _=>?_))
 | (apply p1 (hd:=rfl);case hop=>first|(apply D_move;rfl)|(apply D_assign;rfl)|(apply D_pc h1;rfl;exact .same rfl .nil)|(apply D_pickT;rfl;rfl)|(apply D_int;rfl;rfl;rfl)|(apply D_len_sl;rfl)|(apply D_ext;rfl;rfl))
 | refine W_seq ?_
 | refine W_region ?_
 | refine WL_nil ?_
 | (refine idG ?_;refine gr rfl rfl ?_)
 | refine tn ?_
 | refine W_skip ?_
 | refine W_ret ?_
 | (refine idR ?_;refine ret1 rfl rfl rfl ?_)
 | (refine Le.bool ?_)
    all_goals first
      | rfl
      | (exfalso;omega)
      | (rw [iEq_t];rfl)
      | trace_state
def deepL (n : Nat) : List UInt8:=List.replicate n 91 ++ List.replicate n 93
theorem deepL_succ (n : Nat) : deepL (n + 1) = [91] ++ deepL n ++ [93]:=by
  unfold deepL
  rw [List.replicate_succ' (a:=(93 : UInt8)),List.replicate_succ (a:=(91 : UInt8))]
  simp
set_option maxHeartbeats 8000000 in
theorem deep_pc [GlobF Tryd.prog] (n : Nat) (hn : n < 1000) : PC Tryd.prog 17 [i64 (n : Int)] (str (deepL n)):=by
  refine PC.of_body Tryd.func17 Tryd.ntmps17 rfl rfl rfl ?_
  repeat' first
 | (apply p1 (hd:=rfl);case hop=>first|(apply D_assign;rfl))
 | refine W_seq ?_
 | refine W_region ?_
 | refine WL_nil ?_
 | refine tn ?_
 | (refine W_block ?_)
  refine W_loopL (X:=Nat) (fun i=>[(0,i64 (n : Int)),(3,str (deepL i)),(4,i64 (i : Int))]) (fun _=>[]) (fun i=>i ≤ n) (fun i=>n - i) 0 (Nat.zero_le _) ⟨rfl,rfl,rfl,trivial⟩ rfl ?_
  intro i hi
  have hl : (deepL i).length = i + i:=by unfold deepL;simp
  by_cases hi1 : i < n
  · repeat' first
 | (refine idC ?_;refine cs rfl (fun _=>?_) (fun hh=>absurd hh (by first|exact fun h=>h rfl|omega)))
 | (apply p1 (hd:=rfl);case hop=>first|(apply D_move;rfl)|(apply D_assign;rfl)|(apply D_cat;rfl;rfl;focus (simp only [List.length_append,List.length_cons,List.length_nil];omega))|(apply D_int;rfl;rfl;rfl))
 | refine W_seq ?_
 | refine W_region ?_
 | refine WL_nil ?_
 | refine tn ?_
 | refine bn ?_
 | refine W_skip ?_
 | (refine W_block ?_)
    all_goals first
      | exact ⟨rfl,i + 1,hi1,by omega,⟨rfl,congrArg (fun l=>some (str l)) (deepL_succ i).symm,ieq (wsucc i (by omega)),trivial⟩,rfl⟩
      | (exfalso;omega)
      | trace_state
  · have e : i = n:=by omega
    subst e
    repeat' first
 | (refine idC ?_;refine cs rfl (fun hh=>absurd hh (by first|exact fun h=>h rfl|omega)) (fun _=>?_))
 | (apply p1 (hd:=rfl);case hop=>first|(apply D_move;rfl)|(apply D_assign;rfl)|(apply D_int;rfl;rfl;rfl))
 | refine W_seq ?_
 | refine W_region ?_
 | refine WL_nil ?_
 | refine tn ?_
 | refine te ?_
 | (refine idB ?_;refine bh rfl ?_)
 | refine W_exit ?_
 | refine W_ret ?_
 | (refine idR ?_;refine ret1 rfl rfl rfl ?_)
 | (refine Le.str ?_)
    all_goals first
      | rfl
      | (exfalso;omega)
      | trace_state
theorem nodkY {a b c d e f g : AV} : Wkn (.ag [a,b,c,d,e,.sc (.slice none 0 0),f,g]) (.ag [a,b,c,d,e,.sl none 8 [],f,g]) :=
  Wkn.ag ⟨Wkn.refl _,Wkn.refl _,Wkn.refl _,Wkn.refl _,Wkn.refl _,Wkn.nil,Wkn.refl _,Wkn.refl _,trivial⟩
abbrev nd1 (k : Int) (s : List UInt8) (ln : Int) : Nd:=.mk k 0 0 [] s [] ln 0
theorem fit1 (k : Int) (s : List UInt8) (ln : Int) (hs : s.length < 1000) (l : List Nd) (hl : Fit l) (hw : wtL l < 800000000000) (hn : nszL l < 9000000000000000000) : Fit (nd1 k s ln :: l):=by
  obtain ⟨a,b,c⟩:=hl
  refine ⟨?_,?_,?_⟩
  · rw [rgL,rgN];exact ⟨⟨⟨by decide,by decide,by simp⟩,by rw [rgL];trivial⟩,a⟩
  · rw [wtL,wtN];simp only [wtL];omega
  · rw [nszL,nsz];simp only [nszL];omega
theorem fit0 : Fit []:=⟨by rw [rgL];trivial,by simp [wtL],by simp [nszL]⟩
theorem fitR (n : Nat) (hn : n < 10000) : Fit (List.replicate n (nd1 0 [] 0)):=by
  have hw : ∀ n,wtL (List.replicate n (nd1 0 [] 0)) = 4000 * n:=fun n=>by
    induction n with
    | zero=>simp [wtL]
    | succ n ih=>rw [List.replicate_succ,wtL,ih,wtN];simp only [wtL,List.length_nil];omega
  have hz : ∀ n,nszL (List.replicate n (nd1 0 [] 0)) = n:=fun n=>by
    induction n with
    | zero=>simp [nszL]
    | succ n ih=>rw [List.replicate_succ,nszL,ih,nsz];simp only [nszL];omega
  have hr : ∀ n,rgL (List.replicate n (nd1 0 [] 0)):=fun n=>by
    induction n with
    | zero=>rw [List.replicate_zero,rgL];trivial
    | succ n ih=>rw [List.replicate_succ,rgL,rgN];exact ⟨⟨⟨by decide,by decide,by simp⟩,by rw [rgL];trivial⟩,ih⟩
  exact ⟨hr n,by rw [hw];omega,by rw [hz];omega⟩
theorem nszR (n : Nat) : nszL (List.replicate n (nd1 0 [] 0)) = n:=by
  induction n with
  | zero=>simp [nszL]
  | succ n ih=>rw [List.replicate_succ,nszL,ih,nsz];simp only [nszL];omega
theorem ndCsR (n : Nat) : ndCs (List.replicate n (nd1 0 [] 0)) = List.replicate n [i64 0,i64 0,i64 0,str [],str [],.sl none 8 [],i64 0,i64 0]:=by
  rw [ndCs_map,List.map_replicate,ndC_mk,ndCs]
instance purR (n : Nat) (e : List AV) [h : PurL e] : PurLL (List.replicate n e):=⟨fun x hx=>by rw [List.eq_of_mem_replicate hx];exact h⟩
theorem mk5001 (n : Nat) : Wkn (.sl none 8 (List.replicate n [i64 0,i64 0,i64 0,str [],str [],.sc (.slice none 0 0),i64 0,i64 0])) (.sl none 8 (List.replicate n [i64 0,i64 0,i64 0,str [],str [],.sl none 8 [],i64 0,i64 0])) :=
  Wkn.slR ⟨Wkn.refl _,Wkn.refl _,Wkn.refl _,Wkn.refl _,Wkn.refl _,Wkn.nil,Wkn.refl _,Wkn.refl _,trivial⟩ rfl
theorem pr_no [GlobF Tryd.prog] (hpw : PowOK) (l : List Nd) (hf : Fit l) (h : ¬ okP l) : PC Tryd.prog 19 [.sl none 8 (ndCs l)] (.tu [str [],i64 2]):=(print_pc hpw l hf).2 h
set_option maxHeartbeats 8000000 in
theorem same_f [GlobF Tryd.prog] (hpw : PowOK) (a b : List Nd) (ha : ¬ okP a) (fa : Fit a) (hb : ¬ okP b) (fb : Fit b) : PC Tryd.prog 15 [.sl none 8 (ndCs a),.sl none 8 (ndCs b)] (.sc (.bool false)):=by
  have h1:=(print_pc hpw a fa).2 ha
  have h2:=(print_pc hpw b fb).2 hb
  refine PC.of_body Tryd.func15 Tryd.ntmps15 rfl rfl rfl ?_
  repeat' first
 | (refine idG ?_;refine gs rfl rfl (fun hh=>absurd hh (by first|exact fun h=>h rfl|omega)) (fun _=>?_))
 | (apply p1 (hd:=rfl);case hop=>first|(apply D_move;rfl)|(apply D_assign;rfl)|(apply D_pc h1;rfl;exact .same rfl .nil)|(apply D_pc h2;rfl;exact .same rfl .nil)|(apply D_pickF;rfl;rfl)|(apply D_int;rfl;rfl;rfl)|(apply D_ext;rfl;rfl))
 | refine W_seq ?_
 | refine W_region ?_
 | refine WL_nil ?_
 | (refine idG ?_;refine g0t rfl rfl rfl ?_)
 | refine tn ?_
 | refine W_ret ?_
 | (refine idR ?_;refine ret1 rfl rfl rfl ?_)
 | (refine Le.bool ?_)
  all_goals first
    | rfl
    | trace_state
set_option maxHeartbeats 16000000 in
set_option maxRecDepth 100000 in
theorem textNames_pc [GlobF Tryd.prog] (hg : MaxLenOK) (hpw : PowOK) (he : ErrsOK) : PC Tryd.prog 5 [] (.sc (.bool true)):=by
  have ha:=alive_pc hg hpw he
  have hnt : Value.bool (bNot true) = .bool false:=congrArg Value.bool (by rw [bNot_f])
  have hnf : Value.bool (bNot false) = .bool true:=congrArg Value.bool (by rw [bNot_t])
  have w0:=wrong_no hg hpw he [91,63,120,32,45,53,32,45,32,33,61,93,32,59,32,116,104,97,116] (by decide) (by kernel_rfl)
  have w1:=wrong_at hg hpw he [40,97] (by decide) 1 3 (by decide) (by kernel_rfl)
  have w2:=wrong_at hg hpw he [40,97,93] (by decide) 1 3 (by decide) (by kernel_rfl)
  have w3:=wrong_at hg hpw he [41] (by decide) 1 1 (by decide) (by kernel_rfl)
  have w4:=wrong_at hg hpw he [45,48,53] (by decide) 1 1 (by decide) (by kernel_rfl)
  have w5:=wrong_at hg hpw he [97,34,98,34] (by decide) 1 2 (by decide) (by kernel_rfl)
  have w6:=wrong_at hg hpw he [34,97] (by decide) 1 3 (by decide) (by kernel_rfl)
  have w7:=wrong_at hg hpw he [97,10,65] (by decide) 2 1 (by decide) (by kernel_rfl)
  have w8:=wrong_no hg hpw he [] (by decide) (by kernel_rfl)
  have w9:=wrong_at hg hpw he [34,97,10] (by decide) 2 1 (by decide) (by kernel_rfl)
  have w10:=wrong_at hg hpw he [97,1] (by decide) 1 2 (by decide) (by kernel_rfl)
  have w11:=wrong_at hg hpw he [128] (by decide) 1 1 (by decide) (by kernel_rfl)
  have w12:=wrong_no hg hpw he [97,59,34,98] (by decide) (by kernel_rfl)
  have w13:=wrong_no hg hpw he [123,97,125,123,98,125] (by decide) (by kernel_rfl)
  have w14:=wrong_at hg hpw he [43,49] (by decide) 1 1 (by decide) (by kernel_rfl)
  have w15:=wrong_no hg hpw he [33,120,32,43,120,32,45,120] (by decide) (by kernel_rfl)
  have w16:=wrong_at hg hpw he [35,48] (by decide) 1 1 (by decide) (by kernel_rfl)
  have w17:=wrong_no hg hpw he [35,32,64,48,32,33,48,32,58,97] (by decide) (by kernel_rfl)
  have d0:=deep_pc 50 (by decide)
  have d1:=deep_pc 51 (by decide)
  have x0:=wrong_no hg hpw he (deepL 50) (by decide) (by kernel_rfl)
  have x1:=wrong_at hg hpw he (deepL 51) (by decide) 1 51 (by decide) (by kernel_rfl)
  generalize deepL 50 = e0 at *
  generalize deepL 51 = e1 at *
  have n0:=named_pc [63,120] (by decide)
  rw [dP_t.mpr (by decide)] at n0
  have n1:=named_pc [60,61] (by decide)
  rw [dP_t.mpr (by decide)] at n1
  have n2:=named_pc [97,49] (by decide)
  rw [dP_t.mpr (by decide)] at n2
  have n3:=named_pc [49,97] (by decide)
  rw [dP_f.mpr (by decide)] at n3
  have n4:=named_pc [116,114,117,101] (by decide)
  rw [dP_f.mpr (by decide)] at n4
  have n5:=named_pc [] (by decide)
  rw [dP_f.mpr (by decide)] at n5
  have n6:=named_pc [45,49] (by decide)
  rw [dP_f.mpr (by decide)] at n6
  have n7:=named_pc [33,49] (by decide)
  rw [dP_f.mpr (by decide)] at n7
  have n8:=named_pc [33,97] (by decide)
  rw [dP_t.mpr (by decide)] at n8
  have n9:=named_pc [65] (by decide)
  rw [dP_f.mpr (by decide)] at n9
  have n10:=named_pc [64,97] (by decide)
  rw [dP_f.mpr (by decide)] at n10
  have f1 : ∀ (k : Int) (s : List UInt8) (ln : Int),s.length < 1000 → Fit [nd1 k s ln]:=fun k s ln h=>fit1 k s ln h [] fit0 (by simp [wtL]) (by simp [nszL])
  have no0 : ¬ okP [nd1 0 [] 0]:=fun h=>by
    have h1:=h.1;rw [okL,okN] at h1
    rcases h1.1 with ⟨h,_⟩ | ⟨h,_⟩ | ⟨⟨h,_⟩,_⟩ <;> revert h <;> decide
  have qq1:=pr_no hpw [nd1 0 [] 0] (f1 _ _ _ (by decide)) no0
  have qq2:=pr_no hpw [nd1 2 [49] 0] (f1 _ _ _ (by decide)) (fun h=>by
    have h1:=h.1;rw [okL,okN] at h1
    rcases h1.1 with ⟨h,_⟩ | ⟨_,h,_⟩ | ⟨⟨h,_⟩,_⟩ <;> revert h <;> decide)
  have qq3:=pr_no hpw [nd1 3 [97] 0] (f1 _ _ _ (by decide)) (fun h=>by
    have h1:=h.1;rw [okL,okN] at h1
    rcases h1.1 with ⟨h,_⟩ | ⟨h,_⟩ | ⟨_,h,_⟩ <;> revert h <;> decide)
  have qq4:=pr_no hpw (List.replicate 5001 (nd1 0 [] 0)) (fitR 5001 (by decide)) (fun h=>by
    have h1:=h.2;rw [nszR] at h1;revert h1;decide)
  rw [ndCsR] at qq4
  have hok5 : okP [nd1 2 [97] 0,nd1 5 [] 7]:=by
    refine ⟨?_,by decide⟩
    rw [okL,okL,okL]
    exact ⟨by rw [okN];exact .inr (.inl ⟨rfl,by decide,⟨rfl,rfl,rfl⟩,rfl⟩),by rw [okN];exact .inr (.inr ⟨by decide,rfl,⟨rfl,rfl,rfl⟩,by decide,by rw [okL];trivial⟩),trivial⟩
  have qq5:=(lines_pc hpw [nd1 2 [97] 0,nd1 5 [] 7] (fit1 _ _ _ (by decide) _ (f1 _ _ _ (by decide)) (by decide) (by decide))).1 hok5
  have e5 : prS [10] [nd1 2 [97] 0,nd1 5 [] 7] ++ (if [nd1 2 [97] 0,nd1 5 [] 7].isEmpty then [] else [10]) = [97,10,123,125,10]:=by
    simp only [prS,prN,prK];kernel_rfl
  rw [e5] at qq5
  have hok6 : okP []:=⟨by rw [okL];trivial,by decide⟩
  have qq6:=(lines_pc hpw [] fit0).1 hok6
  have s6:=same_t hpw [] [] hok6 fit0 hok6 fit0 rfl
  have s7:=same_f hpw [nd1 0 [] 0] [nd1 0 [] 0] no0 (f1 _ _ _ (by decide)) no0 (f1 _ _ _ (by decide))
  have z6:=size_pc 0 [] (Nat.le_refl _) (Nat.zero_le _)
  have c1 : ∀ (k : Int) (s : List UInt8) (ln : Int) (l : List Nd),ndCs (nd1 k s ln :: l) = [i64 k,i64 0,i64 0,str [],str s,.sl none 8 [],i64 ln,i64 0] :: ndCs l:=fun k s ln l=>by rw [ndCs,ndC_mk,ndCs]
  have c0 : ndCs [] = []:=by rw [ndCs]
  simp only [c1,c0] at qq1 qq2 qq3 qq5 qq6 s6 s7 z6
  refine PC.of_body Tryd.func5 Tryd.ntmps5 rfl rfl rfl ?_
  repeat' first
 | (refine idG ?_;refine gs rfl rfl (fun _=>?_) (fun hh=>absurd hh (by first|exact fun h=>h rfl|omega)))
 | (apply p1 (hd:=rfl);case hop=>first|(apply D_move;rfl)|(apply D_assign;rfl)|(apply D_pc w0;rfl;exact .same rfl (.same rfl (.same rfl .nil)))|(apply D_pc w1;rfl;exact .same rfl (.same rfl (.same rfl .nil)))|(apply D_pc w2;rfl;exact .same rfl (.same rfl (.same rfl .nil)))|(apply D_pc w3;rfl;exact .same rfl (.same rfl (.same rfl .nil)))|(apply D_pc w4;rfl;exact .same rfl (.same rfl (.same rfl .nil)))|(apply D_pc w5;rfl;exact .same rfl (.same rfl (.same rfl .nil)))|(apply D_pc w6;rfl;exact .same rfl (.same rfl (.same rfl .nil)))|(apply D_pc w7;rfl;exact .same rfl (.same rfl (.same rfl .nil)))|(apply D_pc w8;rfl;exact .same rfl (.same rfl (.same rfl .nil)))|(apply D_pc w9;rfl;exact .same rfl (.same rfl (.same rfl .nil)))|(apply D_pc w10;rfl;exact .same rfl (.same rfl (.same rfl .nil)))|(apply D_pc w11;rfl;exact .same rfl (.same rfl (.same rfl .nil)))|(apply D_pc w12;rfl;exact .same rfl (.same rfl (.same rfl .nil)))|(apply D_pc w13;rfl;exact .same rfl (.same rfl (.same rfl .nil)))|(apply D_pc w14;rfl;exact .same rfl (.same rfl (.same rfl .nil)))|(apply D_pc w15;rfl;exact .same rfl (.same rfl (.same rfl .nil)))|(apply D_pc w16;rfl;exact .same rfl (.same rfl (.same rfl .nil)))|(apply D_pc w17;rfl;exact .same rfl (.same rfl (.same rfl .nil)))|(apply D_pc d0;rfl;exact .same rfl .nil)|(apply D_pc d1;rfl;exact .same rfl .nil)|(apply D_pc x0;rfl;exact .same rfl (.same rfl (.same rfl .nil)))|(apply D_pc x1;rfl;exact .same rfl (.same rfl (.same rfl .nil)))|(apply D_pc n0;rfl;exact .same rfl .nil)|(apply D_pc n1;rfl;exact .same rfl .nil)|(apply D_pc n2;rfl;exact .same rfl .nil)|(apply D_pc n3;rfl;exact .same rfl .nil)|(apply D_pc n4;rfl;exact .same rfl .nil)|(apply D_pc n5;rfl;exact .same rfl .nil)|(apply D_pc n6;rfl;exact .same rfl .nil)|(apply D_pc n7;rfl;exact .same rfl .nil)|(apply D_pc n8;rfl;exact .same rfl .nil)|(apply D_pc n9;rfl;exact .same rfl .nil)|(apply D_pc n10;rfl;exact .same rfl .nil)|(apply D_pc ha;rfl;exact .nil)|exact D_sc (D_not rfl) hnf|exact PPOp.wk (D_build rfl) nodkY|(apply D_pc qq1;rfl;exact .same rfl .nil)|(apply D_pc qq2;rfl;exact .same rfl .nil)|(apply D_pc qq3;rfl;exact .same rfl .nil)|(apply D_pc qq4;rfl;exact .same rfl .nil)|(apply D_pc qq5;rfl;exact .same rfl .nil)|(apply D_pc qq6;rfl;exact .niln rfl .nil)|(apply D_pc z6;rfl;exact .niln rfl .nil)|(apply D_pc s6;rfl;exact .niln rfl (.niln rfl .nil))|(apply D_pc s7;rfl;exact .same rfl (.same rfl .nil))|exact PPOp.wk (D_mkK (k:=8) (n:=5001) rfl rfl (by rfl) (by decide) (by decide) (by decide)) (mk5001 _)|(apply D_pickT;rfl;rfl)|(apply D_int;rfl;rfl;rfl)|(apply D_str;rfl;rfl;rfl)|(apply D_ext;rfl;rfl)|(apply D_lit;rfl;rfl;rfl;rfl))
 | refine W_seq ?_
 | refine W_region ?_
 | refine WL_nil ?_
 | (refine idG ?_;refine gr rfl rfl ?_)
 | refine tn ?_
 | refine W_ret ?_
 | (refine idR ?_;refine ret1 rfl rfl rfl ?_)
 | (refine Le.bool ?_)
  all_goals first
    | rfl
    | (rw [iEq_t];simp [nszL];done)
    | trace_state
end Go.Proofs.Wr
