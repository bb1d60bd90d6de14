/- Contracts of the document's reader of texts, whole; nodes held against one another. -/
import Derived.Test.YtnjnjbombcefcaaDoorCX7
import Derived.Test.YtnjnjbombcefcaaDoorCX3
import Derived.Test.YtnjnjbombcefcaaDoorPTx4
import Derived.Test.YtnjnjbombcefcaaDoorCP4
import Derived.Test.YtnjnjbombcefcaaDoorCDInst
import Derived.Test.YtnjnjbombcefcaaDoorOpen
import Derived.Lib.LaidTab
import Derived.MakeChecks
import Derived.LaidSub
set_option linter.all false
namespace Go.Proofs
open Go.AL Go.Txt
attribute [local irreducible] Go.AL.W Go.AL.WL Go.AL.WD Go.AL.POp Go.AL.PPOp Go.AL.POpS Go.AL.PC Go.AL.AC Go.AL.YW Go.AL.Ret Go.AL.Le Go.AL.thn Go.AL.inBlk Go.AL.scp
theorem leafT_k : ∀ w x,leafT w = some x → x.1 < 3:=fun w x h=>by
  unfold leafT at h
  split at h
  · cases h;exact (by decide : (1 : Int) < 3)
  · split at h
    · cases h;exact (by decide : (2 : Int) < 3)
    · cases h
end Go.Proofs

namespace Go.Proofs.Wr
open Go.AL Go.Txt
attribute [local irreducible] Go.AL.W Go.AL.WL Go.AL.WD Go.AL.POp Go.AL.PPOp Go.AL.POpS Go.AL.PC Go.AL.AC Go.AL.YW Go.AL.Ret Go.AL.Le Go.AL.thn Go.AL.inBlk Go.AL.scp
theorem ndp_mem : ∀ {l : List Nd} {x : Nd},x ∈ l → ndp x ≤ ndpL l
  | y :: l,x,h=>by
    simp only [ndpL]
    rcases List.mem_cons.1 h with rfl|h
    · exact Nat.le_max_left _ _
    · exact Nat.le_trans (ndp_mem h) (Nat.le_max_right _ _)
theorem ndpL_take {l : List Nd} {i : Nat} (hi : i < l.length) : ndpL (l.take (i + 1)) = max (ndpL (l.take i)) (ndp l[i]):=by rw [take_at hi,ndpL_app,ndpL_one]
theorem ndpL_le (l : List Nd) (i : Nat) : ndpL (l.take i) ≤ ndpL l:=by
  have h:=ndpL_app (l.take i) (l.drop i)
  rw [List.take_append_drop] at h
  omega
set_option maxHeartbeats 8000000 in
theorem size_pc [GlobF Tryd.prog] (N : Nat) : ∀ (l : List Nd),nszL l ≤ N → nszL l ≤ 5000 → PC Tryd.prog 13 [.sl none 8 (ndCs l)] (.sc (.int .i64 (nszL l : Int))):=by
  induction N with
  | zero =>
    intro l h _
    have : l = []:=List.length_eq_zero_iff.1 (by have:=nszL_len l;omega)
    subst this
    refine PC.of_body Tryd.func13 Tryd.ntmps13 rfl rfl rfl ?_
    repeat' first
 | (apply p1 (hd:=rfl);case hop=>first|(apply D_move;rfl)|(apply D_assign;rfl)|(apply D_len_sl;rfl))
 | refine W_seq ?_
 | refine W_region ?_
 | refine WL_nil ?_
 | refine tn ?_
 | (refine W_block ?_)
    refine W_rounds 1 ?_
    repeat' first
 | (refine cs rfl ?_ (fun _=>?_);focus (intro h;exfalso;revert h;decide))
 | (apply p1 (hd:=rfl);case hop=>first|(apply D_move;rfl)|(apply D_assign;rfl)|(apply D_int;rfl;rfl;rfl))
 | refine W_seq ?_
 | refine W_region ?_
 | refine WL_nil ?_
 | refine tn ?_
 | refine te ?_
 | (refine idB ?_;refine bh rfl ?_)
 | refine W_exit ?_
 | refine W_ret ?_
 | (refine idR ?_;refine ret1 rfl rfl rfl ?_)
 | (refine Le.int ?_)
    all_goals first
      | rfl
      | contradiction
  | succ N ih =>
    intro l h h5
    have hlen:=nszL_len l
    have hcl:=ndCs_len l
    refine PC.of_body Tryd.func13 Tryd.ntmps13 rfl rfl rfl ?_
    repeat' first
 | (apply p1 (hd:=rfl);case hop=>first|(apply D_move;rfl)|(apply D_assign;rfl)|(apply D_len_sl;rfl))
 | refine W_seq ?_
 | refine W_region ?_
 | refine WL_nil ?_
 | refine tn ?_
 | (refine W_block ?_)
    refine W_loopL (X:=Nat × List AObj) (fun x=>[(3,.sc (.int .i64 (nszL (l.take x.1) : Int))),(6,.sl none 8 (ndCs l)),(7,.sc (.int .i64 ((ndCs l).length : Int))),(8,.sc (.int .i64 (x.1 : Int)))]) (fun x=>x.2)
      (fun x=>x.1 ≤ l.length) (fun x=>l.length - x.1) (0,[]) (Nat.zero_le _) ⟨by simp [lookO,nszL],rfl,rfl,rfl,trivial⟩ rfl ?_
    rintro ⟨i,H⟩ hi
    simp only at hi ⊢
    by_cases hi1 : i < l.length
    · have hm:=nsz_mem (List.getElem_mem hi1)
      have hne:=nszL_take hi1
      have hle:=nszL_le l (i + 1)
      have he:=ndCs_at (List.getElem?_eq_getElem hi1)
      generalize l[i] = x at *
      obtain ⟨k,vk,vn,vs,sx,kids,ln,cl⟩:=x
      rw [ndC_mk] at he
      simp only [nsz] at hm hne
      have hk:=ih kids (by omega) (by omega)
      have hw1 : IntKind.i64.wrap ((nszL (l.take i) : Int) + 1) = ((nszL (l.take i) + 1 : Nat) : Int):=wsucc _ (by omega)
      have hw2 : IntKind.i64.wrap (((nszL (l.take i) + 1 : Nat) : Int) + (nszL kids : Int)) = (nszL (l.take (i + 1)) : Int):=by rw [w64 _ (by omega) (by omega)];omega
      repeat' first
 | (refine idC ?_;refine cs rfl (fun _=>?_) (fun hh=>absurd hh (by first|exact fun h=>h rfl|omega)))
 | (refine idC ?_;refine cs rfl (fun hh=>absurd hh (by first|exact fun h=>h rfl|omega)) (fun _=>?_))
 | (apply p1 (hd:=rfl);case hop=>first|(apply D_move;rfl)|(apply D_assign;rfl)|exact D_idxE rfl rfl (Int.natCast_nonneg i) he|(apply D_pc hk;rfl;exact .same rfl .nil)|exact D_sc (D_int rfl rfl rfl) (congrArg (Value.int IntKind.i64) hw1)|exact D_sc (D_int rfl rfl rfl) (congrArg (Value.int IntKind.i64) hw2)|(apply D_load1;rfl)|(apply D_fld;rfl)|(apply D_int;rfl;rfl;rfl)|(apply D_loadW;rfl;rfl))
 | refine W_seq ?_
 | refine W_region ?_
 | refine WL_nil ?_
 | refine tn ?_
 | refine bn ?_
 | refine W_skip ?_
 | refine W_block ?_
 | (refine idA ?_;refine m_var rfl rfl rfl rfl rfl rfl rfl ?_)
      all_goals first
        | exact ⟨rfl,(i + 1,_),hi1,by show l.length - (i + 1) < l.length - i;omega,⟨rfl,rfl,rfl,ieq (wsucc i (by omega)),trivial⟩,rfl⟩
        | (exfalso;omega)
        | trace_state
    · have e : i = l.length:=by omega
      subst e
      repeat' first
 | (refine idC ?_;refine cs rfl (fun hh=>absurd hh (by first|exact fun h=>h rfl|omega)) (fun _=>?_))
 | (apply p1 (hd:=rfl);case hop=>first|(apply D_move;rfl)|(apply D_assign;rfl)|(apply D_int;rfl;rfl;rfl))
 | refine W_seq ?_
 | refine W_region ?_
 | refine WL_nil ?_
 | refine tn ?_
 | refine te ?_
 | (refine idB ?_;refine bh rfl ?_)
 | refine W_exit ?_
 | refine W_ret ?_
 | (refine idR ?_;refine ret1 rfl rfl rfl ?_)
 | (refine Le.int ?_)
      all_goals first
        | (exfalso;omega)
        | (rw [List.take_length];done)
        | trace_state
set_option maxHeartbeats 8000000 in
theorem deepest_pc [GlobF Tryd.prog] (N : Nat) : ∀ (l : List Nd),nszL l ≤ N → nszL l ≤ 5000 → ndpL l ≤ 5000 → PC Tryd.prog 14 [.sl none 8 (ndCs l)] (.sc (.int .i64 (ndpL l : Int))):=by
  induction N with
  | zero =>
    intro l h _ _
    have : l = []:=List.length_eq_zero_iff.1 (by have:=nszL_len l;omega)
    subst this
    refine PC.of_body Tryd.func14 Tryd.ntmps14 rfl rfl rfl ?_
    repeat' first
 | (apply p1 (hd:=rfl);case hop=>first|(apply D_assign;rfl))
 | refine W_seq ?_
 | refine W_region ?_
 | refine WL_nil ?_
 | refine tn ?_
 | (refine W_block ?_)
    refine W_rounds 1 ?_
    repeat' first
 | (refine cs rfl ?_ (fun _=>?_);focus (intro h;exfalso;revert h;decide))
 | (apply p1 (hd:=rfl);case hop=>first|(apply D_move;rfl)|(apply D_assign;rfl)|(apply D_int;rfl;rfl;rfl)|(apply D_len_sl;rfl))
 | refine W_seq ?_
 | refine W_region ?_
 | refine WL_nil ?_
 | refine tn ?_
 | refine te ?_
 | (refine idB ?_;refine bh rfl ?_)
 | refine W_exit ?_
 | refine W_ret ?_
 | (refine idR ?_;refine ret1 rfl rfl rfl ?_)
 | (refine Le.int ?_)
    all_goals first
      | rfl
      | contradiction
  | succ N ih =>
    intro l h h5 hd5
    have hlen:=nszL_len l
    have hcl:=ndCs_len l
    refine PC.of_body Tryd.func14 Tryd.ntmps14 rfl rfl rfl ?_
    repeat' first
 | (apply p1 (hd:=rfl);case hop=>first|(apply D_assign;rfl))
 | refine W_seq ?_
 | refine W_region ?_
 | refine WL_nil ?_
 | refine tn ?_
 | (refine W_block ?_)
    refine W_loopL (X:=Nat) (fun i=>[(0,.sl none 8 (ndCs l)),(3,.sc (.int .i64 (ndpL (l.take i) : Int))),(4,.sc (.int .i64 (i : Int)))]) (fun _=>[])
      (fun i=>i ≤ l.length) (fun i=>l.length - i) 0 (Nat.zero_le _) ⟨rfl,by simp [lookO,ndpL],rfl,trivial⟩ rfl ?_
    intro i hi
    by_cases hi1 : i < l.length
    · have hm:=nsz_mem (List.getElem_mem hi1)
      have hdm:=ndp_mem (List.getElem_mem hi1)
      have hne:=ndpL_take hi1
      have hle:=ndpL_le l (i + 1)
      have he:=ndCs_at (List.getElem?_eq_getElem hi1)
      generalize l[i] = x at *
      obtain ⟨k,vk,vn,vs,sx,kids,ln,cl⟩:=x
      rw [ndC_mk] at he
      simp only [nsz] at hm
      by_cases hk3 : k < 3
      · simp only [ndp,if_pos hk3] at hdm hne
        repeat' first
 | (refine idC ?_;refine cs rfl (fun _=>?_) (fun hh=>absurd hh (by first|exact fun h=>h rfl|omega)))
 | (apply p1 (hd:=rfl);case hop=>first|(apply D_move;rfl)|(apply D_assign;rfl)|exact D_idxE rfl rfl (Int.natCast_nonneg i) he|(apply D_load1;rfl)|(apply D_fld;rfl)|(apply D_int;rfl;rfl;rfl)|(apply D_len_sl;rfl))
 | refine W_seq ?_
 | refine W_region ?_
 | refine WL_nil ?_
 | refine tn ?_
 | refine te ?_
 | (refine idB ?_;refine bh rfl ?_)
 | refine W_skip ?_
 | refine W_block ?_
 | (refine W_exit ?_)
        all_goals first
          | exact ⟨rfl,i + 1,hi1,by omega,⟨rfl,ieq (by omega),ieq (wsucc i (by omega)),trivial⟩,rfl⟩
          | (exfalso;omega)
          | trace_state
      · simp only [ndp,if_neg hk3] at hdm hne
        have hk:=ih kids (by omega) (by omega) (by omega)
        have hw1 : IntKind.i64.wrap (1 + (ndpL kids : Int)) = ((1 + ndpL kids : Nat) : Int):=by rw [w64 _ (by omega) (by omega)];omega
        by_cases hgt : ndpL (l.take i) < 1 + ndpL kids
        · repeat' first
 | (refine idC ?_;refine cs rfl (fun _=>?_) (fun hh=>absurd hh (by first|exact fun h=>h rfl|omega)))
 | (refine idC ?_;refine cs rfl (fun hh=>absurd hh (by first|exact fun h=>h rfl|omega)) (fun _=>?_))
 | (apply p1 (hd:=rfl);case hop=>first|(apply D_move;rfl)|(apply D_assign;rfl)|exact D_idxE rfl rfl (Int.natCast_nonneg i) he|(apply D_pc hk;rfl;exact .same rfl .nil)|exact D_sc (D_int rfl rfl rfl) (congrArg (Value.int IntKind.i64) hw1)|(apply D_load1;rfl)|(apply D_fld;rfl)|(apply D_int;rfl;rfl;rfl)|(apply D_len_sl;rfl))
 | refine W_seq ?_
 | refine W_region ?_
 | refine WL_nil ?_
 | refine tn ?_
 | refine bn ?_
 | refine W_skip ?_
 | (refine W_block ?_)
          all_goals first
            | exact ⟨rfl,i + 1,hi1,by omega,⟨rfl,ieq (by omega),ieq (wsucc i (by omega)),trivial⟩,rfl⟩
            | (exfalso;omega)
            | trace_state
        · repeat' first
 | (refine idC ?_;refine cs rfl (fun _=>?_) (fun hh=>absurd hh (by first|exact fun h=>h rfl|omega)))
 | (refine idC ?_;refine cs rfl (fun hh=>absurd hh (by first|exact fun h=>h rfl|omega)) (fun _=>?_))
 | (apply p1 (hd:=rfl);case hop=>first|(apply D_move;rfl)|(apply D_assign;rfl)|exact D_idxE rfl rfl (Int.natCast_nonneg i) he|(apply D_pc hk;rfl;exact .same rfl .nil)|exact D_sc (D_int rfl rfl rfl) (congrArg (Value.int IntKind.i64) hw1)|(apply D_load1;rfl)|(apply D_fld;rfl)|(apply D_int;rfl;rfl;rfl)|(apply D_len_sl;rfl))
 | refine W_seq ?_
 | refine W_region ?_
 | refine WL_nil ?_
 | refine tn ?_
 | refine bn ?_
 | refine W_skip ?_
 | (refine W_block ?_)
          all_goals first
            | exact ⟨rfl,i + 1,hi1,by omega,⟨rfl,ieq (by omega),ieq (wsucc i (by omega)),trivial⟩,rfl⟩
            | (exfalso;omega)
            | trace_state
    · have e : i = l.length:=by omega
      subst e
      repeat' first
 | (refine idC ?_;refine cs rfl (fun hh=>absurd hh (by first|exact fun h=>h rfl|omega)) (fun _=>?_))
 | (apply p1 (hd:=rfl);case hop=>first|(apply D_move;rfl)|(apply D_assign;rfl)|(apply D_int;rfl;rfl;rfl)|(apply D_len_sl;rfl))
 | refine W_seq ?_
 | refine W_region ?_
 | refine WL_nil ?_
 | refine tn ?_
 | refine te ?_
 | (refine idB ?_;refine bh rfl ?_)
 | refine W_exit ?_
 | refine W_ret ?_
 | (refine idR ?_;refine ret1 rfl rfl rfl ?_)
 | (refine Le.int ?_)
      all_goals first
        | (exfalso;omega)
        | (rw [List.take_length];done)
        | trace_state
set_option maxHeartbeats 8000000 in
theorem same_t [GlobF Tryd.prog] (hpw : PowOK) (a b : List Nd) (ha : okP a) (fa : Fit a) (hb : okP b) (fb : Fit b) (he : prS [32] a = prS [32] b) : PC Tryd.prog 15 [.sl none 8 (ndCs a),.sl none 8 (ndCs b)] (.sc (.bool true)):=by
  have h1:=(print_pc hpw a fa).1 ha
  have h2:=(print_pc hpw b fb).1 hb
  rw [← he] at h2
  refine PC.of_body Tryd.func15 Tryd.ntmps15 rfl rfl rfl ?_
  repeat' first
 | (apply p1 (hd:=rfl);case hop=>first|(apply D_move;rfl)|(apply D_assign;rfl)|(apply D_pc h1;rfl;exact .same rfl .nil)|(apply D_pc h2;rfl;exact .same rfl .nil)|(apply D_pickT;rfl;rfl)|(apply D_pickF;rfl;rfl)|(apply D_int;rfl;rfl;rfl)|(apply D_str;rfl;rfl;rfl)|(apply D_ext;rfl;rfl))
 | refine W_seq ?_
 | refine W_region ?_
 | refine WL_nil ?_
 | (refine idG ?_;first|refine g0t rfl rfl rfl ?_|refine gr rfl rfl ?_|refine gs rfl rfl (fun _=>?_) (fun _=>?_))
 | refine tn ?_
 | refine W_ret ?_
 | (refine idR ?_;refine ret1 rfl rfl rfl ?_)
 | (refine Le.bool ?_)
  all_goals first
    | rfl
    | contradiction
    | rw [sEq_t]
    | trace_state
def lit0 : List UInt8:=[40,97,100,100,32,64,49,32,58,117,115,101,114,47,110,97,109,101,32,34,97,92,50,50,34,41]
abbrev kid0 : List Nd:=[.mk 2 0 0 [] [97,100,100] [] 1 2,.mk 1 5 1 [] [] [] 1 6,.mk 1 7 0 [117,115,101,114,47,110,97,109,101] [] [] 1 9,.mk 1 3 0 [97,34] [] [] 1 20]
theorem lit0_ok : parC lit0 = .ok [.mk 3 0 0 [] [] kid0 1 1]:=by kernel_rfl
theorem lit0_pr : prS [32] [.mk 3 0 0 [] [] kid0 1 1] = lit0:=by
  simp only [prS,prN,prK,textC_eq]
  kernel_rfl
set_option maxHeartbeats 8000000 in
theorem alive_pc [GlobF Tryd.prog] (hg : MaxLenOK) (hpw : PowOK) (he : ErrsOK) : PC Tryd.prog 12 [] (.sc (.bool true)):=by
  have h1:=parse_t hg hpw he lit0 (by decide)
  have hm:=(parC_eq lit0).trans lit0_ok
  obtain ⟨hok,hf⟩:=read_fit hm (by decide)
  have h2:=(print_pc hpw _ hf).1 hok
  rw [lit0_pr] at h2
  rw [hm] at h1
  unfold resV at h1
  refine PC.of_body Tryd.func12 Tryd.ntmps12 rfl rfl rfl ?_
  repeat' first
 | (refine idG ?_;refine gs rfl rfl (fun _=>?_) (fun hh=>absurd hh (by first|exact fun h=>h rfl|omega)))
 | (refine idC ?_;refine cs rfl (fun hh=>absurd hh (by first|exact fun h=>h rfl|omega)) (fun _=>?_))
 | (refine idG ?_;refine gs rfl rfl (fun hh=>absurd hh (by first|exact fun h=>h rfl|omega)) (fun _=>?_))
 | (apply p1 (hd:=rfl);case hop=>first|(apply D_move;rfl)|(apply D_assign;rfl)|(apply D_pc h1;rfl;exact .same rfl .nil)|(apply D_pc h2;rfl;exact .same rfl .nil)|(apply D_load1;rfl)|(apply D_fld;rfl)|(apply D_pickT;rfl;rfl)|(apply D_pickF;rfl;rfl)|(apply D_int;rfl;rfl;rfl)|(apply D_len_sl;rfl)|(apply D_str;rfl;rfl;rfl)|(apply D_ext;rfl;rfl)|(apply D_loadA;rfl;rfl)|(apply D_idxA0;rfl;rfl;omega;(first|omega|(simp;done)|(simp;omega)))|exact D_build rfl|exact D_eqA rfl rfl rfl rfl rfl rfl rfl)
 | refine W_seq ?_
 | refine W_region ?_
 | refine WL_nil ?_
 | (refine idG ?_;refine gr rfl rfl ?_)
 | refine tn ?_
 | refine W_skip ?_
 | refine W_ret ?_
 | (refine idR ?_;refine ret1 rfl rfl rfl ?_)
 | (refine Le.bool ?_)
  all_goals first
    | rfl
    | (rw [sEq_t];rfl)
    | trace_state
set_option maxHeartbeats 8000000 in
theorem textWithin_pc [GlobF Tryd.prog] (hg : MaxLenOK) (hpw : PowOK) (he : ErrsOK) (s : List UInt8) : PC Tryd.prog 4 [str s] (.sc (.bool true)):=by
  have ha:=alive_pc hg hpw he
  have hnt : Value.bool (bNot true) = .bool false:=congrArg Value.bool (by rw [bNot_f])
  by_cases hs : s.length ≤ 20000
  · have h1:=parse_t hg hpw he s (by omega)
    cases hR : mach leafT (toks s 1 1 false) [] [] 0 with
    | err ln cl =>
      rw [hR] at h1
      simp only [resV] at h1
      refine PC.of_body Tryd.func4 Tryd.ntmps4 rfl rfl rfl ?_
      repeat' first
 | (refine idC ?_;refine cs rfl (fun _=>?_) (fun hh=>absurd hh (by first|exact fun h=>h rfl|omega)))
 | (refine idG ?_;refine gs rfl rfl (fun hh=>absurd hh (by first|exact fun h=>h rfl|omega)) (fun _=>?_))
 | (apply p1 (hd:=rfl);case hop=>first|(apply D_move;rfl)|(apply D_assign;rfl)|(apply D_pc h1;rfl;exact .same rfl .nil)|(apply D_pc ha;rfl;exact .nil)|exact D_sc (D_not rfl) hnt|(apply D_pickT;rfl;rfl)|(apply D_pickF;rfl;rfl)|(apply D_int;rfl;rfl;rfl)|(apply D_len_sl;rfl)|(apply D_len_str;rfl)|(apply D_ext;rfl;rfl))
 | refine W_seq ?_
 | refine W_region ?_
 | (refine idC ?_;refine c0 rfl ?_)
 | refine WL_nil ?_
 | (refine idG ?_;refine gr rfl rfl ?_)
 | refine tn ?_
 | refine tr ?_
 | refine W_skip ?_
 | refine W_ret ?_
 | (refine idR ?_;refine ret1 rfl rfl rfl ?_)
 | (refine Le.bool ?_)
      all_goals first
        | rfl
        | (exfalso;omega)
        | (rw [iEq_t];rfl)
        | trace_state
    | ok l =>
      obtain ⟨hn,hd,hW⟩:=Txt.within_ok leafT leafT_k s l hR
      obtain ⟨hok,hf⟩:=read_fit hR hn
      rw [hR] at h1
      simp only [resV] at h1
      have h2:=parse_t hg hpw he ([123] ++ s ++ [10,125]) (by simp only [List.length_append,List.length_cons,List.length_nil];omega)
      rw [show [123] ++ s ++ [10,125] = 123 :: (s ++ [10,125]) from by simp] at h2
      have hsz:=size_pc (nszL l) l (Nat.le_refl _) hn
      have hdp:=deepest_pc (nszL l) l (Nat.le_refl _) hn (by omega)
      cases hR2 : mach leafT (toks (123 :: (s ++ [10,125])) 1 1 false) [] [] 0 with
      | err ln cl =>
        rw [hR2] at h2 hW
        simp only at hW
        simp only [resV] at h2
        refine PC.of_body Tryd.func4 Tryd.ntmps4 rfl rfl rfl ?_
        repeat' first
 | (refine idC ?_;refine cs rfl (fun _=>?_) (fun hh=>absurd hh (by first|exact fun h=>h rfl|omega)))
 | (refine idG ?_;refine gs rfl rfl (fun _=>?_) (fun hh=>absurd hh (by first|exact fun h=>h rfl|omega)))
 | (refine idC ?_;refine cs rfl (fun hh=>absurd hh (by first|exact fun h=>h rfl|omega)) (fun _=>?_))
 | (refine idG ?_;refine gs rfl rfl (fun hh=>absurd hh (by first|exact fun h=>h rfl|omega)) (fun _=>?_))
 | (apply p1 (hd:=rfl);case hop=>first|(apply D_move;rfl)|(apply D_assign;rfl)|(apply D_pc h1;rfl;exact .same rfl .nil)|(apply D_pc h2;rfl;exact .same rfl .nil)|(apply D_pc ha;rfl;exact .nil)|exact D_sc (D_not rfl) hnt|(apply D_cat;rfl;rfl;focus (simp only [List.length_append,List.length_cons,List.length_nil];omega))|(apply D_pc hsz;rfl;exact .same rfl .nil)|(apply D_pc hdp;rfl;exact .same rfl .nil)|(apply D_pickT;rfl;rfl)|(apply D_pickF;rfl;rfl)|(apply D_int;rfl;rfl;rfl)|(apply D_len_sl;rfl)|(apply D_len_str;rfl)|(apply D_ext;rfl;rfl))
 | refine W_seq ?_
 | refine W_region ?_
 | (refine idC ?_;refine c0 rfl ?_)
 | refine WL_nil ?_
 | (refine idG ?_;first|refine g0f rfl rfl rfl ?_|refine gr rfl rfl ?_|refine gs rfl rfl (fun _=>?_) (fun _=>?_))
 | refine tn ?_
 | refine tr ?_
 | refine W_skip ?_
 | refine W_ret ?_
 | (refine idR ?_;refine ret1 rfl rfl rfl ?_)
 | (refine Le.bool ?_)
        all_goals first
          | rfl
          | (exfalso;omega)
          | (rw [iEq_t];omega)
          | (rw [iEq_t];rfl)
          | trace_state
      | ok m =>
        rw [hR2] at h2 hW
        simp only at hW
        obtain ⟨l',rfl,hl'⟩:=hW
        obtain ⟨ok',fit',pr'⟩:=era_same hl'.symm hok hf
        have hsm:=same_t hpw l' l ok' fit' hok hf (pr' _)
        simp only [resV] at h2
        have hel : ndCs [(opnN 123 1 1 []).within l'] = [[i64 5,i64 0,i64 0,str [],str [],.sl none 8 (ndCs l'),i64 1,i64 1]]:=by
          rw [ndCs,ndCs];simp only [opnN,Nd.within,ndC_mk];rfl
        rw [hel] at h2
        refine PC.of_body Tryd.func4 Tryd.ntmps4 rfl rfl rfl ?_
        repeat' first
 | (refine idG ?_;refine gs rfl rfl (fun _=>?_) (fun hh=>absurd hh (by first|exact fun h=>h rfl|omega)))
 | (refine idC ?_;refine cs rfl (fun hh=>absurd hh (by first|exact fun h=>h rfl|omega)) (fun _=>?_))
 | (refine idG ?_;refine gs rfl rfl (fun hh=>absurd hh (by first|exact fun h=>h rfl|omega)) (fun _=>?_))
 | (apply p1 (hd:=rfl);case hop=>first|(apply D_move;rfl)|(apply D_assign;rfl)|(apply D_pc h1;rfl;exact .same rfl .nil)|(apply D_pc h2;rfl;exact .same rfl .nil)|(apply D_pc ha;rfl;exact .nil)|exact D_sc (D_not rfl) hnt|(apply D_cat;rfl;rfl;focus (simp only [List.length_append,List.length_cons,List.length_nil];omega))|(apply D_pc hsm;rfl;exact .same rfl (.same rfl .nil))|(apply D_load1;rfl)|(apply D_fld;rfl)|(apply D_pickT;rfl;rfl)|(apply D_pickF;rfl;rfl)|(apply D_int;rfl;rfl;rfl)|(apply D_len_sl;rfl)|(apply D_len_str;rfl)|(apply D_ext;rfl;rfl)|(apply D_idxA0;rfl;rfl;omega;(first|omega|(simp;done)|(simp;omega))))
 | refine W_seq ?_
 | refine W_region ?_
 | (refine idC ?_;refine c0 rfl ?_)
 | refine WL_nil ?_
 | (refine idG ?_;refine gr rfl rfl ?_)
 | refine tn ?_
 | refine W_skip ?_
 | refine W_ret ?_
 | (refine idR ?_;refine ret1 rfl rfl rfl ?_)
 | (refine Le.bool ?_)
        all_goals first
          | rfl
          | (exfalso;omega)
          | trace_state
  · refine PC.of_body Tryd.func4 Tryd.ntmps4 rfl rfl rfl ?_
    repeat' first
 | (refine idG ?_;refine gs rfl rfl (fun _=>?_) (fun hh=>absurd hh (by first|exact fun h=>h rfl|omega)))
 | (apply p1 (hd:=rfl);case hop=>first|(apply D_move;rfl)|(apply D_assign;rfl)|(apply D_pc ha;rfl;exact .nil)|(apply D_pickT;rfl;rfl)|(apply D_int;rfl;rfl;rfl)|(apply D_len_str;rfl))
 | refine W_seq ?_
 | refine W_region ?_
 | (refine idC ?_;refine c1 rfl ?_)
 | refine WL_nil ?_
 | (refine idG ?_;refine g0f rfl rfl rfl ?_)
 | refine tn ?_
 | refine tr ?_
 | refine W_ret ?_
 | (refine idR ?_;refine ret1 rfl rfl rfl ?_)
 | (refine Le.bool ?_)
    all_goals first
      | rfl
      | (exfalso;omega)
      | trace_state
end Go.Proofs.Wr

namespace Go.Proofs
open Go.AL
instance : Opn Tryd.prog 2 (fun n : Int=>[.sc (.int .i64 n)]) (fun n : Int=>(Lit.int .i64 n).wf = true):=opn_int Tryd.underlying2
instance : Opn Tryd.prog 3 (fun n : Int=>[.sc (.int .i64 n)]) (fun n : Int=>(Lit.int .i64 n).wf = true):=opn_int Tryd.underlying3
instance : Opn Tryd.prog 4 (fun b : Bool=>[.sc (.bool b)]) (fun _ : Bool=>True):=opn_bool Tryd.underlying4
instance : Opn Tryd.prog 5 (fun n : Int=>[.sc (.int .u8 n)]) (fun n : Int=>(Lit.int .u8 n).wf = true):=opn_int Tryd.underlying5
instance : Opn Tryd.prog 6 (fun n : Int=>[.sc (.int .u8 n)]) (fun n : Int=>(Lit.int .u8 n).wf = true):=opn_int Tryd.underlying6
instance : Opn Tryd.prog 9 (fun l : List UInt8=>[str l]) (fun l : List UInt8=>l.length ≤ maxLen):=opn_str Tryd.underlying9
instance : Opn Tryd.prog 10 (fun l : List UInt8=>[str l]) (fun l : List UInt8=>l.length ≤ maxLen):=opn_str Tryd.underlying10
instance : Opn Tryd.prog 11 (fun l : List UInt8=>[str l]) (fun l : List UInt8=>l.length ≤ maxLen):=opn_str Tryd.underlying11
instance : Opn Tryd.prog 12 (fun n : Int=>[.sc (.int .u64 n)]) (fun n : Int=>(Lit.int .u64 n).wf = true):=opn_int Tryd.underlying12
instance : Opn Tryd.prog 21 (fun n : Int=>[.sc (.int .i32 n)]) (fun n : Int=>(Lit.int .i32 n).wf = true):=opn_int Tryd.underlying21
instance : Opn Tryd.prog 23 (fun n : Int=>[.sc (.int .i64 n)]) (fun n : Int=>(Lit.int .i64 n).wf = true):=opn_int Tryd.underlying23
instance : Opn Tryd.prog 147 (fun n : Int=>[.sc (.int .u64 n)]) (fun n : Int=>(Lit.int .u64 n).wf = true):=opn_int Tryd.underlying147
instance : Opn Tryd.prog 166 (fun n : Int=>[.sc (.int .u32 n)]) (fun n : Int=>(Lit.int .u32 n).wf = true):=opn_int Tryd.underlying166
instance : Opn Tryd.prog 182 (fun n : Int=>[.sc (.int .i64 n)]) (fun n : Int=>(Lit.int .i64 n).wf = true):=opn_int Tryd.underlying182
instance : Opn Tryd.prog 183 (fun n : Int=>[.sc (.int .u64 n)]) (fun n : Int=>(Lit.int .u64 n).wf = true):=opn_int Tryd.underlying183
instance : Opn Tryd.prog 214 (fun n : Int=>[.sc (.int .u8 n)]) (fun n : Int=>(Lit.int .u8 n).wf = true):=opn_int Tryd.underlying214
instance : Opn Tryd.prog 215 (fun n : Int=>[.sc (.int .u8 n)]) (fun n : Int=>(Lit.int .u8 n).wf = true):=opn_int Tryd.underlying215
instance : Opn Tryd.prog 217 (fun n : Int=>[.sc (.int .i32 n)]) (fun n : Int=>(Lit.int .i32 n).wf = true):=opn_int Tryd.underlying217
instance : Opn Tryd.prog 218 (fun n : Int=>[.sc (.int .i32 n)]) (fun n : Int=>(Lit.int .i32 n).wf = true):=opn_int Tryd.underlying218
end Go.Proofs

namespace Go.AL
open Go.Lib
end Go.AL

namespace Go.AL
open Go.Lib
theorem laid_one {P : Program} {l : List (String × DataW Unit)} {w : World} (keep : String × DataW Unit → Bool) {name : String} {d : DataW Unit} (h : laidMetH P l w) (hf : l.filter keep = [(name,d)]) (hn : d.handleName?.isNone = true) : laidMet P [(name,d)] w:=by
  have h1:=h.filter keep
  rw [hf,Go.MakeChecks.laidMetH_plain _ _ _ (by simp [hn])] at h1
  exact h1
theorem obj_of_tab {P : Program} {W : World} {name : String} {k : IntKind} {zs : List Int} {g : Nat} (hg : P.globalNamed name = some g) (h : TabIs P W name k zs) : ∃ t fz,W.heap[g]? = some (.cells (zs.map (Value.int k)).toArray t fz):=by
  unfold TabIs World.var? at h
  rw [hg] at h
  simp only [Option.bind_some] at h
  split at h
  · rename_i cs t fz hh
    cases h
    exact ⟨t,fz,hh⟩
  · cases h
theorem cell_of_iface {P : Program} {W : World} {name tn : String} {d : DataW Unit} {rest : List (String × DataW Unit)} {g : Nat} {t : TypeId} {ms : Array (String × TypeId)}
    (hg : P.globalNamed name = some g) (hty : (P.globals[g]?).map (·.type) = some t) (ht : P.underlying t = some (.interface ms))
    (h : laidMet P ((name,.iface tn d) :: rest) W) : ∃ u v,W.cell? ⟨g,0,none⟩ = some (.iface u v):=by
  obtain ⟨ps,⟨g',t',cs,fuel,p,q,hg',ht',hvar,hd,_,_⟩,_⟩:=h
  obtain rfl:=Option.some.inj (hg.symm.trans hg')
  obtain rfl:=Option.some.inj (hty.symm.trans ht')
  cases fuel with
  | zero=>simp [DataW.trod] at hd
  | succ fuel =>
    have hcs : ∃ u v,cs = #[.iface u v]:=by
      obtain ⟨l⟩:=cs
      simp only at hd
      unfold DataW.trod at hd
      rw [ht] at hd
      split at hd <;> simp_all
    obtain ⟨u,v,rfl⟩:=hcs
    exact ⟨u,v,by have:=World.var?_cell hg hvar 0;simpa using this⟩
end Go.AL
