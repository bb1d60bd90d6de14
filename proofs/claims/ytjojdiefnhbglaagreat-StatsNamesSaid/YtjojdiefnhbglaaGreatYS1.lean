/- Contracts of stats' functions: datoms sorted if all may be; told attribute by attribute. -/
import Derived.Test.YtjojdiefnhbglaaGreatYF2
import Derived.Test.YtjojdiefnhbglaaGreatOps35
import Derived.Test.YtjojdiefnhbglaaGreatOps11
import Derived.Test.YtjojdiefnhbglaaGreatYC1
set_option linter.all false
namespace Go.Proofs
open Go.AL Go.Sort
attribute [local irreducible] Go.AL.W Go.AL.WL Go.AL.WD Go.AL.POp Go.AL.PPOp Go.AL.POpS Go.AL.PC Go.AL.AC Go.AL.YW Go.AL.Ret Go.AL.Le Go.AL.thn Go.AL.inBlk Go.AL.scp
def allD (l : List Dat) : Prop:=∀ d,d ∈ l → dmayP d
theorem allD_iff {l : List Dat} : allD l ↔ ∀ (j : Nat) (h : j < l.length),dmayP l[j] :=
  ⟨fun h j hj=>h _ (List.getElem_mem hj),fun h d hd=>by obtain ⟨j,hj,rfl⟩:=List.getElem_of_mem hd;exact h j hj⟩
set_option maxHeartbeats 4000000 in
theorem sbad_pc [GlobF Tryz.prog] (d : Dat) (hs : d.v.s.length < 9223372036854775808) : PC Tryz.prog 120 [eD d] (.sc (.bool (!dP (dmayP d)))):=by
  have hc:=dcheck_pc d hs
  by_cases hm : dmayP d
  · rw [← dP_T hm,if_pos rfl] at hc
    rw [← dP_T hm]
    refine PC.of_body Tryz.func120 Tryz.ntmps120 rfl rfl rfl ?_
    repeat' first
 | (apply p1 (hd:=rfl);case hop=>first|(apply D_assign;rfl)|(apply D_pc hc;rfl;exact .same rfl .nil)|(apply D_int;rfl;rfl;rfl)|(apply D_loadW;rfl;rfl)|(apply D_box;rfl;rfl))
 | refine W_seq ?_
 | refine W_region ?_
 | refine WL_nil ?_
 | refine tn ?_
 | refine W_ret ?_
 | (refine idR ?_;refine ret1 rfl rfl rfl ?_)
 | (refine Le.bool ?_)
    all_goals first|(show bNot (iEq 0 0) = _;rw [(iEq_t _ _).mpr rfl];simp [bNot])|skip
  · rw [← dP_F hm,if_neg (by decide)] at hc
    rw [← dP_F hm]
    refine PC.of_body Tryz.func120 Tryz.ntmps120 rfl rfl rfl ?_
    repeat' first
 | (apply p1 (hd:=rfl);case hop=>first|(apply D_assign;rfl)|(apply D_pc hc;rfl;exact .same rfl .nil)|(apply D_int;rfl;rfl;rfl)|(apply D_loadW;rfl;rfl)|(apply D_box;rfl;rfl))
 | refine W_seq ?_
 | refine W_region ?_
 | refine WL_nil ?_
 | refine tn ?_
 | refine W_ret ?_
 | (refine idR ?_;refine ret1 rfl rfl rfl ?_)
 | (refine Le.bool ?_)
    all_goals first|(show bNot (iEq 40 0) = _;rw [(iEq_f _ _).mpr (by decide)];simp [bNot])|skip
set_option maxHeartbeats 8000000 in
theorem sidx_pc [GlobF Tryz.prog] (l : List Dat) (hl : l.length < 4611686018427387904) (hs : ∀ d,d ∈ l → d.v.s.length < 9223372036854775808) : ∃ r : Int,(0 ≤ r ↔ ¬ allD l) ∧ PC Tryz.prog 134 [sl9 l,.sc (.func (.func 120) #[] #[])] (.sc (.int .i64 r)):=by
  obtain ⟨n,hn,hmin⟩:=least (fun n=>n = l.length ∨ ∃ h : n < l.length,¬ dmayP l[n]) ⟨l.length,.inl rfl⟩
  have hnl : n ≤ l.length:=hmin _ (.inl rfl)
  have hz : ∀ (j : Nat) (h : j < l.length),j < n → dmayP l[j]:=fun j hj hjn=>Classical.byContradiction fun h=>absurd (hmin j (.inr ⟨hj,h⟩)) (by omega)
  have hbody : PC Tryz.prog 134 [sl9 l,.sc (.func (.func 120) #[] #[])] (.sc (.int .i64 (if n < l.length then (n : Int) else -1))):=by
    refine PC.of_body Tryz.func134 Tryz.ntmps134 rfl rfl rfl ?_
    repeat' first
 | (apply p1 (hd:=rfl);case hop=>first|(apply D_move;rfl)|(apply D_assign;rfl)|(apply D_lenM;rfl))
 | refine W_seq ?_
 | refine W_region ?_
 | refine WL_nil ?_
 | refine tn ?_
 | (refine W_block ?_)
    refine W_loopL (X:=Nat) (fun i=>[(0,sl9 l),(1,.sc (.func (.func 120) #[] #[])),(7,.sc (.int .i64 (l.length : Int))),(8,.sc (.int .i64 (i : Int)))]) (fun _=>[])
      (fun i=>i ≤ n) (fun i=>n - i) 0 (Nat.zero_le _) ⟨rfl,rfl,rfl,rfl,trivial⟩ rfl ?_
    intro i hi
    by_cases hil : i < l.length
    · have hc:=sbad_pc (l[i]'hil) (hs _ (List.getElem_mem _))
      by_cases hin : i < n
      · rw [← dP_T (hz i hil hin)] at hc
        repeat' first
 | (apply p1 (hd:=rfl);case hop=>first|(apply D_move;rfl)|(apply D_assign;rfl)|(apply D_pc hc;rfl;exact .same rfl .nil)|(apply D_int;rfl;rfl;rfl)|(apply D_loadW;rfl;rfl)|(apply D_idxAn;rfl;rfl;(first|omega|(simp;done))))
 | refine W_seq ?_
 | refine W_region ?_
 | (refine idC ?_;first|refine c0 rfl ?_|refine cs rfl (fun _=>?_) (fun _=>?_))
 | refine WL_nil ?_
 | refine tn ?_
 | refine bn ?_
 | refine te ?_
 | (refine idB ?_;refine bh rfl ?_)
 | refine W_skip ?_
 | refine W_block ?_
 | refine W_exit ?_
 | refine W_ret ?_
 | (refine idR ?_;refine ret1 rfl rfl rfl ?_)
 | (refine Le.int ?_)
        all_goals first
          | contradiction
          | (exfalso;omega)
          | exact ⟨rfl,i + 1,by omega,by omega,⟨rfl,rfl,rfl,ieq (wsucc i (by omega)),trivial⟩,rfl⟩
          | skip
      · have e : i = n:=by omega
        subst e
        have hb : ¬ dmayP (l[i]'hil):=by
          rcases hn with e | ⟨h,h2⟩
          · omega
          · exact h2
        rw [← dP_F hb] at hc
        rw [if_pos hil]
        repeat' first
 | (apply p1 (hd:=rfl);case hop=>first|(apply D_move;rfl)|(apply D_assign;rfl)|(apply D_pc hc;rfl;exact .same rfl .nil)|(apply D_int;rfl;rfl;rfl)|(apply D_loadW;rfl;rfl)|(apply D_idxAn;rfl;rfl;(first|omega|(simp;done))))
 | refine W_seq ?_
 | refine W_region ?_
 | (refine idC ?_;first|refine c1 rfl ?_|refine cs rfl (fun _=>?_) (fun _=>?_))
 | refine WL_nil ?_
 | refine tn ?_
 | refine tr ?_
 | refine br ?_
 | refine te ?_
 | (refine idB ?_;refine bh rfl ?_)
 | refine W_skip ?_
 | refine W_block ?_
 | refine W_exit ?_
 | refine W_ret ?_
 | (refine idR ?_;refine ret1 rfl rfl rfl ?_)
 | (refine Le.int ?_)
        all_goals first
          | contradiction
          | (exfalso;omega)
          | rfl
          | skip
    · rw [if_neg (by omega)]
      repeat' first
 | (apply p1 (hd:=rfl);case hop=>first|(apply D_move;rfl)|(apply D_assign;rfl)|(apply D_int;rfl;rfl;rfl)|(apply D_loadW;rfl;rfl)|(apply D_idxAn;rfl;rfl;(first|omega|(simp;done))))
 | refine W_seq ?_
 | refine W_region ?_
 | (refine idC ?_;refine cs rfl (fun _=>?_) (fun _=>?_))
 | refine WL_nil ?_
 | refine tn ?_
 | refine te ?_
 | (refine idB ?_;refine bh rfl ?_)
 | refine W_skip ?_
 | refine W_block ?_
 | refine W_exit ?_
 | refine W_ret ?_
 | (refine idR ?_;refine ret1 rfl rfl rfl ?_)
 | (refine Le.int ?_)
      all_goals first
        | contradiction
        | (exfalso;omega)
        | rfl
        | skip
  refine ⟨_,?_,hbody⟩
  constructor
  · intro h ha
    split at h
    · rename_i hlt
      rcases hn with e | ⟨h1,h2⟩
      · omega
      · exact h2 (ha _ (List.getElem_mem h1))
    · omega
  · intro h
    split
    · omega
    · exact absurd (allD_iff.2 fun j hj=>hz j hj (by omega)) h
set_option maxHeartbeats 4000000 in
theorem scon_pc [GlobF Tryz.prog] (l : List Dat) (hl : l.length < 4611686018427387904) (hs : ∀ d,d ∈ l → d.v.s.length < 9223372036854775808) : PC Tryz.prog 119 [sl9 l,.sc (.func (.func 120) #[] #[])] (.sc (.bool (!dP (allD l)))):=by
  obtain ⟨r,hr,hi⟩:=sidx_pc l hl hs
  have hres : iLe 0 r = !dP (allD l):=by
    by_cases ha : allD l
    · rw [← dP_T ha,(iLe_f _ _).mpr (by have:=mt hr.1 (fun h=>h ha);omega)];rfl
    · rw [← dP_F ha,(iLe_t _ _).mpr (hr.2 ha)];rfl
  refine PC.of_body Tryz.func119 Tryz.ntmps119 rfl rfl rfl ?_
  repeat' first
 | (apply p1 (hd:=rfl);case hop=>first|(apply D_move;rfl)|(apply D_assign;rfl)|(apply D_pc hi;rfl;exact .same rfl (.same rfl .nil))|(apply D_int;rfl;rfl;rfl))
 | refine W_seq ?_
 | refine W_region ?_
 | refine WL_nil ?_
 | refine tn ?_
 | refine W_ret ?_
 | (refine idR ?_;refine ret1 rfl rfl rfl ?_)
 | (refine Le.bool ?_)
  all_goals first|exact hres|skip
noncomputable def sortS (o : Int) (l : List Dat) : List Dat:=if dP (allD l) then dsortL o l else []
set_option maxHeartbeats 4000000 in
theorem ssorted_pc [GlobF Tryz.prog] (o : Int) (l : List Dat) (hl : l.length < 1759218604500) (hs : ∀ d,d ∈ l → d.v.s.length < 9223372036854775808) : PC Tryz.prog 61 [.sc (.int .i64 o),sl9 l] (.tu [sl9 (sortS o l),.sc (.int .i64 (if dP (allD l) then 0 else 40))]):=by
  have hc:=scon_pc l (by omega) hs
  have hd:=dsort_pc o l hl
  unfold sortS
  generalize dP (allD l) = b at *
  cases b
  · rw [if_neg (by decide),if_neg (by decide)]
    refine PC.of_body Tryz.func61 Tryz.ntmps61 rfl rfl rfl ?_
    repeat' first
 | (apply p1 (hd:=rfl);case hop=>first|(apply D_move;rfl)|(apply D_assign;rfl)|(apply D_pc hc;rfl;exact .same rfl (.same rfl .nil)))
 | refine W_seq ?_
 | refine W_region ?_
 | (refine idC ?_;refine c1 rfl ?_)
 | refine WL_nil ?_
 | refine tn ?_
 | refine tr ?_
 | refine W_ret ?_
 | (refine idR ?_;refine ret2 rfl rfl rfl rfl ?_ ?_)
 | (refine Le.int ?_)
    all_goals first|contradiction|exact Le.nil rfl|rfl|skip
  · rw [if_pos rfl,if_pos rfl]
    refine PC.of_body Tryz.func61 Tryz.ntmps61 rfl rfl rfl ?_
    repeat' first
 | (apply p1 (hd:=rfl);case hop=>first|(apply D_move;rfl)|(apply D_assign;rfl)|(apply D_pc hc;rfl;exact .same rfl (.same rfl .nil))|(apply D_pc hd;rfl;exact .same rfl (.same rfl .nil)))
 | refine W_seq ?_
 | refine W_region ?_
 | (refine idC ?_;refine c0 rfl ?_)
 | refine WL_nil ?_
 | refine tn ?_
 | refine W_skip ?_
 | refine W_ret ?_
 | (refine idR ?_;refine ret2 rfl rfl rfl rfl ?_ ?_)
 | (refine Le.int ?_)
    all_goals first|contradiction|exact Le.of_eq rfl|rfl|skip
def grA (a b : Dat) : Prop:=b.a = a.a
set_option maxHeartbeats 4000000 in
theorem sgroups_pc [GlobF Tryz.prog] (l : List Dat) : PC Tryz.prog 62 [sl9 l] (.fn (.func 121) [] [.ep [sl9 l]]):=by
  refine PC.of_body Tryz.func62 Tryz.ntmps62 rfl rfl rfl ?_
  repeat' first
 | (apply p1 (hd:=rfl);case hop=>first|(apply D_assign;rfl)|(apply D_box;rfl;rfl)|exact D_mkfn rfl)
 | refine W_seq ?_
 | refine W_region ?_
 | refine WL_nil ?_
 | refine tn ?_
 | refine W_ret ?_
 | (refine idR ?_;refine ret1 rfl rfl rfl ?_)
  all_goals first|exact Le.of_eq rfl|rfl|skip
theorem win_eq (L : List Dat) (f i : Nat) : (L.take (i + 1)).drop f = (L.drop f).take (i + 1 - f):=by rw [List.drop_take]
set_option maxHeartbeats 16000000 in
theorem sgroups1_ac [GlobF Tryz.prog] (L : List Dat) (l : Nat) (I : List Dat → List AObj → Prop) {h0 : List AObj} (hL : L.length < 4611686018427387904) (hI : I L h0)
    (hy : ∀ r h n,I r h → 0 < n → n ≤ r.length → grpL grA r = r.take n :: grpL grA (r.drop n) → YW Tryz.prog l [sl9 (r.take n)] h (fun bo h'=>bo = true ∧ I (r.drop n) h')) :
    AC Tryz.prog 121 [.sc (.func (.yield l) #[] #[]),.ep [sl9 L]] h0 (fun _ h'=>I [] h'):=by
  have hst : ∀ (j : Nat) (h : j < L.length) (h' : 0 < L.length),0 ≤ j → j ≤ 0 → L[j].a = L[0].a:=fun j h h' h1 h2=>by
    have e : j = 0:=by omega
    subst e;rfl
  refine AC.of_body Tryz.func121 Tryz.ntmps121 rfl rfl rfl ?_
  repeat' first
 | (apply p1 (hd:=rfl);case hop=>first|(apply D_move;rfl)|(apply D_assign;rfl)|(apply D_load1;rfl)|(apply D_lenM;rfl))
 | refine W_seq ?_
 | refine W_region ?_
 | refine WL_nil ?_
 | refine tn ?_
 | (refine W_block ?_)
  refine W_loopL (X:=Nat × Nat × List AObj) (fun x=>[(0,.sc (.func (.yield l) #[] #[])),(1,.ep [sl9 L]),(3,.sc (.int .i64 (x.1 : Int))),(6,.sc (.int .i64 (L.length : Int))),(7,.sc (.int .i64 (x.2.1 : Int)))]) (fun x=>x.2.2)
    (fun x=>x.1 ≤ x.2.1 ∧ x.2.1 ≤ L.length ∧ (x.2.1 = L.length → x.1 = L.length) ∧ I (L.drop x.1) x.2.2 ∧ ∀ (j : Nat) (h : j < L.length) (h' : x.1 < L.length),x.1 ≤ j → j ≤ x.2.1 → L[j].a = L[x.1].a) (fun x=>L.length - x.2.1) (0,0,h0)
    ⟨Nat.le_refl _,Nat.zero_le _,fun h=>h,hI,hst⟩ ⟨rfl,rfl,rfl,rfl,rfl,trivial⟩ rfl ?_
  rintro ⟨f,i,h⟩ ⟨h1,h2,h3,hIr,hz⟩
  simp only at h1 h2 h3 hIr hz ⊢
  by_cases hil : i < L.length
  rotate_left 1
  · have e : i = L.length:=by omega
    have e2:=h3 e
    rw [e2,List.drop_length] at hIr
    repeat' first
 | (apply p1 (hd:=rfl);case hop=>first|(apply D_move;rfl)|(apply D_assign;rfl)|(apply D_load1;rfl)|(apply D_int;rfl;rfl;rfl)|(apply D_slVM;rfl;rfl;rfl;all_goals first|omega|((repeat rw [w64 _ (by omega) (by omega)]);omega)|decide))
 | refine W_seq ?_
 | refine W_region ?_
 | (refine idC ?_;first|refine c1 rfl ?_|refine cs rfl (fun _=>?_) (fun _=>?_))
 | refine WL_nil ?_
 | refine tn ?_
 | refine bn ?_
 | refine te ?_
 | (refine idB ?_;refine bh rfl ?_)
 | refine W_skip ?_
 | refine W_block ?_
 | refine W_exit ?_
 | (refine idW ?_;refine W_draw0 rfl ?_)
 | (apply d1 (hd:=rfl);case hop=>first|(apply D_move;rfl)|(apply D_load1;rfl)|(apply D_fld;rfl)|(apply D_pickT;rfl;rfl)|(apply D_pickF;rfl;rfl)|(apply D_int;rfl;rfl;rfl)|(apply D_lenM;rfl)|(apply D_idxAn;rfl;rfl;(first|omega|(simp;done)))|(apply D_idxA;rfl;rfl;omega;(first|omega|(simp;done)|(simp;omega))))
 | (refine idDg ?_;first|refine dg0f rfl rfl rfl ?_|refine dgr rfl rfl ?_|refine dgs rfl rfl (fun _=>?_) (fun _=>?_))
 | (refine WD_nil (by first|decide +kernel|kernel_rfl|rfl) ?_)
    all_goals first
      | exact ret0 (.inr rfl) rfl rfl hIr
      | (exfalso;omega)
      | skip
  have hfl : f < L.length:=by omega
  have hi1 : Value.int .i64 (IntKind.i64.wrap ((i : Int) + 1)) = .int .i64 ((i + 1 : Nat) : Int):=by rw [wsucc i (by omega)]
  have hrl : (L.drop f).length = L.length - f:=List.length_drop
  have hyd:=fun (he : ∀ h : i + 1 < L.length,L[i + 1].a ≠ L[i].a)=>hy (L.drop f) h (i + 1 - f) hIr (by omega) (by omega) (grp_at (by omega) (by omega) (fun j hj j1 j2=>by
      unfold grA
      rw [List.getElem_drop,List.getElem_drop]
      exact hz (f + j) (by omega) hfl (by omega) (by omega)) (fun hn hg=>by
      unfold grA at hg
      rw [List.getElem_drop,List.getElem_drop] at hg
      have hii : i + 1 < L.length:=by omega
      have e : f + (i + 1 - f) = i + 1:=by omega
      have hg' : L[i + 1].a = L[f].a:=by
        have : L[f + (i + 1 - f)]'(by omega) = L[i + 1]:=by congr 1
        rw [← this];exact hg
      exact he hii (hg'.trans (hz i hil hfl h1 (Nat.le_refl _)).symm)))
  have hdd : (L.drop f).drop (i + 1 - f) = L.drop (i + 1):=by rw [List.drop_drop];congr 1;omega
  have hz0 : ∀ (j : Nat) (h : j < L.length) (h' : i + 1 < L.length),i + 1 ≤ j → j ≤ i + 1 → L[j].a = L[i + 1].a:=fun j h h' h1 h2=>by
    have e : j = i + 1:=by omega
    subst e;rfl
  by_cases hlast : i + 1 = L.length
  · have hq:=hyd (fun h=>by omega)
    rw [hdd,← win_eq] at hq
    have g1 : Value.bool (iEq ((i + 1 : Nat) : Int) (L.length : Int)) = .bool true:=by rw [(iEq_t _ _).mpr (by omega)]
    repeat' first
 | (apply p1 (hd:=rfl);case hop=>first|(apply D_move;rfl)|(apply D_assign;rfl)|exact D_sc (D_int rfl rfl rfl) hi1|(apply D_load1;rfl)|(apply D_int;rfl;rfl;rfl)|(apply D_not;rfl)|(apply D_slVM;rfl;rfl;rfl;all_goals first|omega|((repeat rw [w64 _ (by omega) (by omega)]);omega)|decide))
 | refine W_seq ?_
 | refine W_region ?_
 | (refine idC ?_;first|refine c1 rfl ?_|refine cs rfl (fun _=>?_) (fun _=>?_))
 | refine WL_nil ?_
 | refine tn ?_
 | refine tr ?_
 | refine br ?_
 | refine bn ?_
 | refine te ?_
 | (refine idB ?_;refine bh rfl ?_)
 | refine W_skip ?_
 | refine W_block ?_
 | refine W_exit ?_
 | refine W_ret ?_
 | (refine m_yield rfl rfl rfl hq ?_;rintro bo h' ⟨rfl,hI'⟩)
 | (refine idW ?_;refine W_draw0 rfl ?_)
 | (apply d1 (hd:=rfl);case hop=>first|(apply D_move;rfl)|exact D_sc (D_int rfl rfl rfl) hi1|exact D_sc (D_int rfl rfl rfl) g1|(apply D_load1;rfl)|(apply D_pickT;rfl;rfl)|(apply D_lenM;rfl))
 | (refine idDg ?_;refine dg0f rfl rfl rfl ?_)
 | (refine WD_nil (by first|decide +kernel|kernel_rfl|rfl) ?_)
    all_goals first
      | (exfalso;omega)
      | contradiction
      | exact ⟨rfl,(i + 1,i + 1,h'),⟨Nat.le_refl _,by show i + 1 ≤ _;omega,fun h=>h,hI',hz0⟩,by show L.length - (i + 1) < L.length - i;omega,⟨rfl,rfl,rfl,rfl,rfl,trivial⟩,rfl⟩
      | skip
  · have g1 : Value.bool (iEq ((i + 1 : Nat) : Int) (L.length : Int)) = .bool false:=by rw [(iEq_f _ _).mpr (by omega)]
    have hii : i + 1 < L.length:=by omega
    by_cases he : (L[i + 1]'hii).a = (L[i]'hil).a
    · have g2 : Value.bool (bNot (iEq (L[i + 1]'hii).a (L[i]'hil).a)) = .bool false:=by rw [(iEq_t _ _).mpr he];simp [bNot]
      repeat' first
 | (apply p1 (hd:=rfl);case hop=>first|(apply D_move;rfl)|(apply D_assign;rfl)|exact D_sc (D_int rfl rfl rfl) hi1|(apply D_int;rfl;rfl;rfl))
 | refine W_seq ?_
 | refine W_region ?_
 | (refine idC ?_;first|refine c0 rfl ?_|refine cs rfl (fun _=>?_) (fun _=>?_))
 | refine WL_nil ?_
 | refine tn ?_
 | refine bn ?_
 | refine te ?_
 | (refine idB ?_;refine bh rfl ?_)
 | refine W_skip ?_
 | refine W_block ?_
 | refine W_exit ?_
 | (refine idW ?_;refine W_draw0 rfl ?_)
 | (apply d1 (hd:=rfl);case hop=>first|(apply D_move;rfl)|exact D_sc (D_int rfl rfl rfl) hi1|exact D_sc (D_int rfl rfl rfl) g1|exact D_sc (D_int rfl rfl rfl) g2|(apply D_load1;rfl)|(apply D_fld;rfl)|(apply D_pickF;rfl;rfl)|(apply D_lenM;rfl)|(apply D_idxAn;rfl;rfl;(first|omega|(simp;done))))
 | (refine idDg ?_;refine dgr rfl rfl ?_)
 | (refine WD_nil (by first|decide +kernel|kernel_rfl|rfl) ?_)
      all_goals first
        | (exfalso;omega)
        | contradiction
        | (refine ⟨rfl,(f,i + 1,h),⟨by show f ≤ i + 1;omega,by show i + 1 ≤ _;omega,fun h=>by simp only at h;omega,hIr,fun j hj h' j1 j2=>?_⟩,by show L.length - (i + 1) < L.length - i;omega,⟨rfl,rfl,rfl,rfl,rfl,trivial⟩,rfl⟩
           simp only at j1 j2 ⊢
           by_cases e : j = i + 1
           · subst e;exact he.trans (hz i hil hfl h1 (Nat.le_refl _))
           · exact hz j hj hfl j1 (by omega))
        | skip
    · have g2 : Value.bool (bNot (iEq (L[i + 1]'hii).a (L[i]'hil).a)) = .bool true:=by rw [(iEq_f _ _).mpr he];simp [bNot]
      have hq:=hyd (fun _=>he)
      rw [hdd,← win_eq] at hq
      repeat' first
 | (apply p1 (hd:=rfl);case hop=>first|(apply D_move;rfl)|(apply D_assign;rfl)|exact D_sc (D_int rfl rfl rfl) hi1|(apply D_load1;rfl)|(apply D_int;rfl;rfl;rfl)|(apply D_not;rfl)|(apply D_slVM;rfl;rfl;rfl;all_goals first|omega|((repeat rw [w64 _ (by omega) (by omega)]);omega)|decide))
 | refine W_seq ?_
 | refine W_region ?_
 | (refine idC ?_;first|refine c1 rfl ?_|refine cs rfl (fun _=>?_) (fun _=>?_))
 | refine WL_nil ?_
 | refine tn ?_
 | refine tr ?_
 | refine br ?_
 | refine bn ?_
 | refine te ?_
 | (refine idB ?_;refine bh rfl ?_)
 | refine W_skip ?_
 | refine W_block ?_
 | refine W_exit ?_
 | refine W_ret ?_
 | (refine m_yield rfl rfl rfl hq ?_;rintro bo h' ⟨rfl,hI'⟩)
 | (refine idW ?_;refine W_draw0 rfl ?_)
 | (apply d1 (hd:=rfl);case hop=>first|(apply D_move;rfl)|exact D_sc (D_int rfl rfl rfl) hi1|exact D_sc (D_int rfl rfl rfl) g1|exact D_sc (D_int rfl rfl rfl) g2|(apply D_load1;rfl)|(apply D_fld;rfl)|(apply D_pickF;rfl;rfl)|(apply D_lenM;rfl)|(apply D_idxAn;rfl;rfl;(first|omega|(simp;done))))
 | (refine idDg ?_;refine dgr rfl rfl ?_)
 | (refine WD_nil (by first|decide +kernel|kernel_rfl|rfl) ?_)
      all_goals first
        | (exfalso;omega)
        | contradiction
        | exact ⟨rfl,(i + 1,i + 1,h'),⟨Nat.le_refl _,by show i + 1 ≤ _;omega,fun h=>h,hI',hz0⟩,by show L.length - (i + 1) < L.length - i;omega,⟨rfl,rfl,rfl,rfl,rfl,trivial⟩,rfl⟩
        | skip
end Go.Proofs

namespace Go.Proofs
open Go.AL Go.Sort
attribute [local irreducible] Go.AL.W Go.AL.WL Go.AL.WD Go.AL.POp Go.AL.PPOp Go.AL.POpS Go.AL.PC Go.AL.AC Go.AL.YW Go.AL.Ret Go.AL.Le Go.AL.thn Go.AL.inBlk Go.AL.scp
def encV (v : Val) : List Value:=[.int .i64 v.kind,.int .i64 v.n,.string ⟨v.s.toArray⟩]
theorem vC_enc (v : Val) : vC v = (encV v).map .sc:=rfl
theorem vC_len (v : Val) : (vC v).length = 3:=rfl
theorem encV_inj {a b : Val} (h : encV a = encV b) : a = b:=by
  obtain ⟨k,n,s⟩:=a
  obtain ⟨k',n',s'⟩:=b
  simp [encV] at h
  obtain ⟨h1,h2,h3⟩:=h
  subst h1;subst h2;subst h3;rfl
theorem sortV_ac [GlobF Tryz.prog] {h : List AObj} {r : Nat} {l : List Val} {sp : List AV} (hr : h[r]? = some (.cells ((l.map vC).flatten ++ sp))) (hne : 0 < l.length) (hl : l.length < 4611686018427387904) :
    AC Tryz.prog 171 [.mr r 0 l.length,.sc (.func (.func 164) #[] #[])] h (fun v h'=>v = .tu [] ∧ h' = h.set r (.cells (((l.mergeSort fun x y=>!(ltOf cmpV y x)).map vC).flatten ++ sp))) :=
  sort_ac Tryz.laysSV Tryz.isAgg46 Tryz.sizeOf46 encV vC vC_enc (fun _=>rfl) (fun x v hv=>by simp [encV] at hv;rcases hv with rfl|rfl|rfl <;> rfl) cmpV wc_cmpV.swo (ltOf_tot wc_cmpV cmpV_zz) 164 [] _
    (fun G v hv=>⟨[],by rw [conc_sc hv],.nil _⟩) (fun x y=>compare_pc x y) hr hne hl
set_option maxHeartbeats 4000000 in
theorem cloneV_ac [GlobF Tryz.prog] {h : List AObj} {tok : Option Nat} (l : List Val) (hne : 0 < l.length) (hl : l.length < 1099511627776) :
    AC Tryz.prog 170 [.sl tok 3 (l.map vC)] h (fun v h'=>∃ sp,v = .mr (h.length + 1) 0 l.length ∧ h' = h ++ [.dead,.cells ((l.map vC).flatten ++ sp)]):=by
  have hnn : l.map vC ≠ []:=by cases l with|nil=>simp at hne|cons a l=>simp
  refine AC.of_body Tryz.func170 Tryz.ntmps170 rfl rfl rfl ?_
  repeat' first
 | (refine m_slnil rfl rfl ?_;rintro b hb)
 | refine m_lit (d:=5) rfl rfl rfl rfl rfl rfl ?_
 | (refine m_appR (d:=7) rfl rfl get_last hnn rfl (by rw [List.length_map];omega) (by rw [List.length_map];omega) rfl ?_;intro sp)
 | (apply p1 (hd:=rfl);case hop=>first|(apply D_move;rfl)|(apply D_assign;rfl))
 | refine W_seq ?_
 | refine W_region ?_
 | (refine idC ?_;refine cs rfl (fun _=>?_) (fun _=>?_))
 | refine WL_nil ?_
 | refine tn ?_
 | refine tr ?_
 | refine W_skip ?_
 | (refine W_ret ?_)
  · rename_i hb'
    first
      | exact absurd (hb hb') hnn
      | exact absurd (hb rfl) hnn
  · exact retK1 (.inl rfl) rfl rfl (ResO.tmp rfl) ⟨sp,by simp,by simp⟩
attribute [local irreducible] compL in
set_option maxHeartbeats 16000000 in
theorem compactV_ac [GlobF Tryz.prog] {h : List AObj} {r : Nat} {l : List Val} {sp : List AV} (hr : h[r]? = some (.cells ((l.map vC).flatten ++ sp))) (hl : l.length < 1099511627776) :
    AC Tryz.prog 172 [.mr r 0 l.length] h (fun v h'=>∃ sp',v = .mr r 0 (compL l).length ∧ h' = h.set r (.cells (((compL l).map vC).flatten ++ sp'))):=by
  refine AC.of_body Tryz.func172 Tryz.ntmps172 rfl rfl rfl ?_
  repeat' first
 | (apply p1 (hd:=rfl);case hop=>first|(apply D_move;rfl)|(apply D_assign;rfl)|(apply D_int;rfl;rfl;rfl)|(apply D_lenR;rfl))
 | refine W_seq ?_
 | refine W_region ?_
 | (refine idC ?_;refine cs rfl (fun _=>?_) (fun _=>?_))
 | refine WL_nil ?_
 | refine tn ?_
 | refine tr ?_
 | refine W_skip ?_
 | refine W_block ?_
 | (refine W_ret ?_)
  · rename_i h1
    have e : compL l = l:=by
      match l,h1 with
      | [],_=>unfold compL;rfl
      | [x],_=>unfold compL;rfl
      | _ :: _ :: _,h1=>simp at h1;omega
    exact retK1 (.inl rfl) rfl rfl (ResO.tmp rfl) ⟨sp,by rw [e],by rw [e];exact (set_self hr).symm⟩
  rename_i h1
  refine W_loopL (X:=Nat) (fun j=>[(0,.mr r 0 l.length),(3,.sc (.int .i64 ((j + 1 : Nat) : Int)))]) (fun _=>h)
    (fun j=>j + 1 ≤ l.length ∧ compL (l.take (j + 1)) = l.take (j + 1)) (fun j=>l.length - j) 0 ⟨by omega,by
      match l,h1 with
      | x :: t,_=>unfold compL;rfl⟩ ⟨rfl,rfl,trivial⟩ rfl ?_
  rintro j ⟨hj,hcj⟩
  repeat' first
 | (apply p1 (hd:=rfl);case hop=>first|(apply D_move;rfl)|(apply D_assign;rfl)|(apply D_int;rfl;rfl;rfl)|(apply D_lenR;rfl))
 | refine W_seq ?_
 | refine W_region ?_
 | (refine idC ?_;refine cs rfl (fun _=>?_) (fun _=>?_))
 | refine WL_nil ?_
 | refine tn ?_
 | refine te ?_
 | (refine idB ?_;refine bh rfl ?_)
 | refine W_skip ?_
 | refine W_block ?_
 | refine W_exit ?_
 | refine W_ret ?_
 | (refine idW ?_;refine W_draw0 rfl ?_)
 | (apply d1 (hd:=rfl);case hop=>first|(apply D_move;rfl)|(apply D_ixRn;rfl;rfl;(first|omega|(simp;done))))
 | (fail)
  · have hi1 : j + 1 < l.length:=by omega
    have hi0 : j < l.length:=by omega
    have he1 : 0 + (j + 1) * 3 = (j + 1) * 3:=Nat.zero_add _
    have he0 : 0 + j * 3 = j * 3:=Nat.zero_add _
    have hct:=compL_take l j hi1
    repeat' first
 | (refine dL (d:=19) _ (fun _ hs=>D_loadRA (i:=j + 1) rfl (hs.trans hr) vC_len hi1 he1) rfl ?_)
 | (refine dL (d:=24) _ (fun _ hs=>D_loadRA (i:=j) rfl (hs.trans hr) vC_len hi0 he0) rfl ?_)
 | (apply p1 (hd:=rfl);case hop=>first|(apply D_move;rfl)|(apply D_assign;rfl)|(apply D_add1;rfl;rfl;omega)|(apply D_slRl;rfl;rfl;all_goals first|omega|((repeat rw [w64 _ (by omega) (by omega)]);omega)|decide))
 | refine W_seq ?_
 | refine W_region ?_
 | (refine idC ?_;refine cs rfl (fun _=>?_) (fun _=>?_))
 | refine WL_nil ?_
 | refine tn ?_
 | refine bn ?_
 | refine W_skip ?_
 | refine W_block ?_
 | (apply d1 (hd:=rfl);case hop=>first|(apply D_move;rfl)|(apply D_sub1;rfl;rfl;omega)|(apply D_ixRn;rfl;rfl;(first|omega|(simp;done)))|exact D_eqA rfl rfl rfl rfl rfl rfl rfl)
 | (refine WD_nil (by first|decide +kernel|kernel_rfl|rfl) ?_)
    · rename_i heq
      have hxy : l[j + 1] = l[j]:=encV_inj heq
      rw [if_pos hxy.symm,List.append_nil,hcj] at hct
      refine W_loopL (X:=Nat × Nat × List Val) (fun x=>[(0,.mr r 0 l.length),(3,.sc (.int .i64 (x.1 : Int))),(4,.mr r (0 + (j + 1) * 3) (l.length - (j + 1))),(5,.sc (.int .i64 ((x.2.1 + 1 : Nat) : Int)))]) (fun x=>h.set r (.cells ((x.2.2.map vC).flatten ++ sp)))
        (fun x=>j + 1 + x.2.1 + 1 ≤ l.length ∧ x.2.2.length = l.length ∧ x.1 ≤ j + 1 + x.2.1 ∧ compL (l.take (j + 1 + x.2.1 + 1)) = x.2.2.take x.1 ∧ x.2.2.drop (j + 1 + x.2.1) = l.drop (j + 1 + x.2.1)) (fun x=>l.length - x.2.1) (j + 1,0,l) ⟨by dsimp only;omega,rfl,by dsimp only;omega,hct,rfl⟩ ⟨rfl,rfl,rfl,rfl,trivial⟩ (set_self hr) ?_
      rintro ⟨k,q,R⟩ ⟨g1,g2,g3,g4,g5⟩
      dsimp only at g1 g2 g3 g4 g5 ⊢
      have hr2 : (h.set r (.cells ((R.map vC).flatten ++ sp)))[r]? = some (.cells ((R.map vC).flatten ++ sp)):=get_set hr
      repeat' first
 | (apply p1 (hd:=rfl);case hop=>first|(apply D_move;rfl)|(apply D_int;rfl;rfl;rfl)|(apply D_lenR;rfl)|(apply D_slRl;rfl;rfl;all_goals first|omega|((repeat rw [w64 _ (by omega) (by omega)]);omega)|decide))
 | refine W_seq ?_
 | refine W_region ?_
 | (refine idC ?_;refine cs rfl (fun _=>?_) (fun _=>?_))
 | refine WL_nil ?_
 | refine tn ?_
 | refine te ?_
 | (refine idB ?_;refine bh rfl ?_)
 | refine W_skip ?_
 | refine W_block ?_
 | refine W_exit ?_
 | (refine idW ?_;refine W_draw0 rfl ?_)
 | (apply d1 (hd:=rfl);case hop=>first|(apply D_move;rfl)|(apply D_ixRn;rfl;rfl;(first|omega|(simp;done))))
 | (fail)
      · have hq1 : j + 1 + q + 1 < R.length:=by omega
        have hq0 : j + 1 + q < R.length:=by omega
        have hkR : k < R.length:=by omega
        have he1 : 0 + (j + 1) * 3 + (q + 1) * 3 = (j + 1 + q + 1) * 3:=by omega
        have he0 : 0 + (j + 1) * 3 + q * 3 = (j + 1 + q) * 3:=by omega
        have hek : 0 + k * 3 = k * 3:=Nat.zero_add _
        have hR1 : R[j + 1 + q + 1] = l[j + 1 + q + 1]'(by omega):=by
          have:=congrArg (·[1]?) g5
          simp only [List.getElem?_drop] at this
          rw [List.getElem?_eq_getElem hq1,List.getElem?_eq_getElem (by omega)] at this
          exact Option.some.inj this
        have hR0 : R[j + 1 + q] = l[j + 1 + q]'(by omega):=by
          have:=congrArg (·[0]?) g5
          simp only [List.getElem?_drop,Nat.add_zero] at this
          rw [List.getElem?_eq_getElem hq0,List.getElem?_eq_getElem (by omega)] at this
          exact Option.some.inj this
        have hct2:=compL_take l (j + 1 + q) (by omega)
        repeat' first
 | (refine dL (d:=38) _ (fun _ hs=>D_loadRA (i:=j + 1 + q + 1) rfl (hs.trans hr2) vC_len hq1 he1) rfl ?_)
 | (refine dL (d:=43) _ (fun _ hs=>D_loadRA (i:=j + 1 + q) rfl (hs.trans hr2) vC_len hq0 he0) rfl ?_)
 | (refine p1L (d:=50) (D_loadRA (i:=j + 1 + q + 1) rfl hr2 vC_len hq1 he1) rfl ?_)
 | (refine pS (S_storeR (i:=k) (a:=R[j + 1 + q + 1]) rfl rfl hr2 vC_len rfl hkR hek) ?_)
 | (apply p1 (hd:=rfl);case hop=>first|(apply D_move;rfl)|(apply D_assign;rfl)|(apply D_add1;rfl;rfl;omega)|(apply D_ixRn;rfl;rfl;(first|omega|(simp;done))))
 | refine W_seq ?_
 | refine W_region ?_
 | (refine idC ?_;refine cs rfl (fun _=>?_) (fun _=>?_))
 | refine WL_nil ?_
 | refine tn ?_
 | refine bn ?_
 | refine W_skip ?_
 | (apply d1 (hd:=rfl);case hop=>first|(apply D_move;rfl)|(apply D_sub1;rfl;rfl;omega)|(apply D_ixRn;rfl;rfl;(first|omega|(simp;done)))|exact D_neA rfl rfl rfl rfl rfl rfl rfl)
 | (refine WD_nil (by first|decide +kernel|kernel_rfl|rfl) ?_)
        · rename_i hne
          have hxy : l[j + 1 + q]'(by omega) ≠ l[j + 1 + q + 1]'(by omega):=fun e=>hne (by rw [hR1,hR0,e])
          rw [if_neg hxy,g4] at hct2
          refine ⟨rfl,(k + 1,q + 1,R.set k R[j + 1 + q + 1]),⟨by dsimp only;omega,by simp [g2],by dsimp only;omega,?_,?_⟩,by dsimp only;omega,⟨rfl,rfl,rfl,rfl,trivial⟩,by rw [List.set_set]⟩
          · dsimp only
            rw [show j + 1 + (q + 1) + 1 = j + 1 + q + 2 by omega,hct2,List.take_succ_eq_append_getElem (by simpa using hkR),List.take_set_of_le (Nat.le_refl _),List.getElem_set_self,hR1]
          · dsimp only
            rw [List.drop_set_of_lt (by omega),show j + 1 + (q + 1) = (j + 1 + q) + 1 by omega,← List.drop_drop,g5,List.drop_drop]
        · rename_i heq
          have hxy : l[j + 1 + q]'(by omega) = l[j + 1 + q + 1]'(by omega):=by rw [← hR1,← hR0];exact (encV_inj heq).symm
          rw [if_pos hxy,List.append_nil,g4] at hct2
          refine ⟨rfl,(k,q + 1,R),⟨by dsimp only;omega,g2,by dsimp only;omega,?_,?_⟩,by dsimp only;omega,⟨rfl,rfl,rfl,rfl,trivial⟩,rfl⟩
          · dsimp only
            rw [show j + 1 + (q + 1) + 1 = j + 1 + q + 2 by omega,hct2]
          · dsimp only
            rw [show j + 1 + (q + 1) = (j + 1 + q) + 1 by omega,← List.drop_drop,g5,List.drop_drop]
      · have hend : j + 1 + q + 1 = l.length:=by omega
        rw [hend,List.take_length] at g4
        have hkl : k ≤ R.length:=by omega
        have hlen : (compL l).length = k:=by rw [g4,List.length_take];omega
        have hcl:=row_len (l:=R) (f:=vC) (k:=3) vC_len sp
        repeat' first
 | (refine pS (S_clear (k:=3) rfl hr2 rfl (by decide) ?_) ?_;focus (rw [hcl];have:=Nat.mul_le_mul_right 3 hkl;omega))
 | (apply p1 (hd:=rfl);case hop=>first|(apply D_move;rfl)|(apply D_assign;rfl)|(apply D_slRh;rfl;rfl;all_goals first|omega|((repeat rw [w64 _ (by omega) (by omega)]);omega)|decide))
 | refine W_seq ?_
 | refine W_region ?_
 | refine WL_nil ?_
 | refine tn ?_
 | refine tr ?_
 | refine br ?_
 | (refine W_ret ?_)
        refine retK1 (.inl rfl) rfl rfl (ResO.tmp rfl) ⟨?_,?_,?_⟩
        rotate_left 1
        · rw [hlen];rfl
        rw [List.set_set]
        refine congrArg (fun x=>h.set r (AObj.cells x)) ?_
        rw [List.append_assoc]
        refine congrArg (fun x : List AV=>x ++ _) ?_
        show ((R.map vC).flatten ++ sp).take (0 + k * 3) = _
        rw [Nat.zero_add,row_take vC_len sp k hkl,g4]
    · rename_i hne
      have hxy : l[j] ≠ l[j + 1]:=fun e=>hne (by rw [e])
      rw [if_neg hxy,hcj] at hct
      refine ⟨rfl,j + 1,⟨by omega,?_⟩,by omega,⟨rfl,rfl,trivial⟩,rfl⟩
      rw [show j + 1 + 1 = j + 2 by omega,hct]
      exact (List.take_succ_eq_append_getElem hi1).symm
  · have hend : j + 1 = l.length:=by omega
    rw [hend,List.take_length] at hcj
    exact retK1 (.inl rfl) rfl rfl (ResO.tmp rfl) ⟨sp,by rw [hcj],by rw [hcj];exact (set_self hr).symm⟩
theorem compactV_ac' [GlobF Tryz.prog] {h : List AObj} {r n : Nat} {l : List Val} {sp : List AV} (hn : l.length = n) (hr : h[r]? = some (.cells ((l.map vC).flatten ++ sp))) (hl : l.length < 1099511627776) :
    AC Tryz.prog 172 [.mr r 0 n] h (fun v h'=>∃ sp',v = .mr r 0 (compL l).length ∧ h' = h.set r (.cells (((compL l).map vC).flatten ++ sp'))):=by
  subst hn;exact compactV_ac hr hl
theorem vC_row {l : List Val} : ∀ e,e ∈ l.map vC → e.length = 3:=fun e he=>by obtain ⟨a,_,rfl⟩:=List.mem_map.1 he;rfl
theorem sortV0_pc [GlobF Tryz.prog] : PC Tryz.prog 171 [.sl none 3 [],.sc (.func (.func 164) #[] #[])] (.tu []):=sort_none_pc Tryz.laysSV 3 _
set_option maxHeartbeats 4000000 in
theorem cloneV0_pc [GlobF Tryz.prog] : PC Tryz.prog 170 [.sl none 3 []] (.sl none 3 []):=by
  refine PC.of_body Tryz.func170 Tryz.ntmps170 rfl rfl rfl ?_
  repeat' first
 | (refine m_slnil rfl rfl ?_;rintro b hb)
 | refine m_lit (d:=5) rfl rfl rfl rfl rfl rfl ?_
 | (apply p1 (hd:=rfl);case hop=>first|(apply D_move;rfl)|(apply D_assign;rfl))
 | refine W_seq ?_
 | refine W_region ?_
 | (refine idC ?_;refine cs rfl (fun _=>?_) (fun _=>?_))
 | refine WL_nil ?_
 | refine tn ?_
 | refine tr ?_
 | refine W_skip ?_
 | refine W_ret ?_
 | (refine idR ?_;refine ret1 rfl rfl rfl ?_)
 | (refine idAp ?_;refine m_app rfl rfl (by first|rfl|assumption|exact get_set (by assumption)|exact get_set (get_set (by assumption))|exact get_set (get_set (get_set (by assumption)))|((repeat first|assumption|exact get_last|(refine get_last2 ?_;focus (simp;done))|apply get_set|apply get_app|(apply get_ne;focus omega));done)) ?_ rfl rfl ?_ ?_ rfl ?_;(first|rfl|focus (simp only [List.length_map,List.length_append,List.length_cons,List.length_nil];omega)|focus (simp;done)|focus (simp;omega));(first|focus (simp only [List.length_map,List.length_append,List.length_cons,List.length_nil];omega)|focus (simp;done)|focus (simp;omega));(first|focus (simp only [List.length_map,List.length_append,List.length_cons,List.length_nil];omega)|focus (simp;done)|focus (simp;omega)))
  all_goals first
    | exact Le.nil rfl
    | exact Le.tokq rfl
set_option maxHeartbeats 4000000 in
theorem compactV0_pc [GlobF Tryz.prog] : PC Tryz.prog 172 [.sl none 3 []] (.sl none 3 []):=by
  refine PC.of_body Tryz.func172 Tryz.ntmps172 rfl rfl rfl ?_
  repeat' first
 | (apply p1 (hd:=rfl);case hop=>first|(apply D_move;rfl)|(apply D_assign;rfl)|(apply D_int;rfl;rfl;rfl)|(apply D_len_sl;rfl))
 | refine W_seq ?_
 | refine W_region ?_
 | (refine idC ?_;refine cs rfl (fun _=>?_) (fun _=>?_))
 | refine WL_nil ?_
 | refine tn ?_
 | refine tr ?_
 | refine W_skip ?_
 | refine W_block ?_
 | refine W_ret ?_
 | (refine idR ?_;refine ret1 rfl rfl rfl ?_)
  all_goals first
    | exact Le.of_eq rfl
    | (exfalso;rename_i hx;exact absurd hx (by decide))
    | skip
set_option maxHeartbeats 4000000 in
theorem vsort_pc [GlobF Tryz.prog] (l : List Val) (hl : l.length < 1048576) : PC Tryz.prog 122 [.sl none 3 (l.map vC)] (.sl none 3 ((sortC cmpV l).map vC)):=by
  rcases Nat.eq_zero_or_pos l.length with h0|h0
  · have e : l = []:=List.length_eq_zero_iff.1 h0
    subst e
    have e2 : sortC cmpV [] = []:=by have:=sortC_len cmpV [];exact List.length_eq_zero_iff.1 (Nat.le_zero.1 this)
    rw [e2]
    refine PC.of_body Tryz.func122 Tryz.ntmps122 rfl rfl rfl ?_
    repeat' first
 | (apply p1 (hd:=rfl);case hop=>first|(apply D_move;rfl)|(apply D_assign;rfl)|(apply D_pc cloneV0_pc;rfl;exact .same rfl .nil)|(apply D_pc sortV0_pc;rfl;exact .same rfl (.same rfl .nil))|(apply D_pc compactV0_pc;rfl;exact .same rfl .nil))
 | refine W_seq ?_
 | refine W_region ?_
 | refine WL_nil ?_
 | refine tn ?_
 | refine W_ret ?_
 | (refine idR ?_;refine ret1 rfl rfl rfl ?_)
    all_goals exact Le.of_eq rfl
  · have hms : (l.mergeSort fun x y=>!(ltOf cmpV y x)).length = l.length:=List.length_mergeSort l
    refine PC.of_body Tryz.func122 Tryz.ntmps122 rfl rfl rfl ?_
    repeat' first
 | (apply p1 (hd:=rfl);case hop=>first|(apply D_move;rfl)|(apply D_assign;rfl))
 | refine W_seq ?_
 | refine W_region ?_
 | refine WL_nil ?_
 | refine tn ?_
 | refine W_ret ?_
 | (refine idR ?_;refine ret1 rfl rfl rfl ?_)
 | (refine m_call (d:=5) (cloneV_ac l h0 (by omega)) rfl rfl rfl ?_;rintro _ _ ⟨sp,rfl,rfl⟩)
 | (refine m_call (d:=7) (sortV_ac (l:=l) rfl h0 (by omega)) rfl rfl rfl ?_;rintro _ _ ⟨rfl,rfl⟩)
 | (refine m_call (d:=9) (compactV_ac' (l:=l.mergeSort fun x y=>!(ltOf cmpV y x)) hms rfl (by omega)) rfl rfl rfl ?_;rintro _ _ ⟨sp',rfl,rfl⟩;refine WL_frz 9 1 3 (els:=(compL (l.mergeSort fun x y=>!(ltOf cmpV y x))).map vC) (sp:=sp') rfl rfl (by simp) vC_row ?_)
    rw [take_map_len];exact Le.of_eq rfl
end Go.Proofs

namespace Go.Proofs
open Go.AL Go.Sort
structure Pt where
  at_ : Int
  m : Int
theorem Pt.ext' {a b : Pt} (h1 : a.at_ = b.at_) (h2 : a.m = b.m) : a = b:=by
  cases a;cases b;cases h1;cases h2;rfl
abbrev tMx : Int:=9223372036854775807
def turnS (s : Sp) : List Pt:=⟨s.f,1⟩ :: (if s.t = tMx then [] else [⟨s.t,-1⟩])
def turnsL (l : List Fac) : List Pt:=l.flatMap fun f=>f.sp.flatMap turnS
def sumT (a : Int) : List Pt → Int
  | []=>0
  | p :: l=>(if p.at_ ≤ a then p.m else 0) + sumT a l
theorem sumT_app (a : Int) : ∀ (x y : List Pt),sumT a (x ++ y) = sumT a x + sumT a y
  | [],y=>by simp [sumT]
  | p :: x,y=>by simp only [List.cons_append,sumT,sumT_app a x y];omega
theorem sumT_perm (a : Int) {x y : List Pt} (h : x.Perm y) : sumT a x = sumT a y:=by
  induction h with
  | nil=>rfl
  | cons p _ ih=>simp only [sumT,ih]
  | swap p q l=>simp only [sumT];omega
  | trans _ _ h1 h2=>exact h1.trans h2
theorem sumT_zero {a : Int} : ∀ {l : List Pt},(∀ p,p ∈ l → a < p.at_) → sumT a l = 0
  | [],_=>rfl
  | p :: l,h=>by
    have h1:=h p List.mem_cons_self
    have h2:=sumT_zero (l:=l) fun q hq=>h q (List.mem_cons_of_mem _ hq)
    simp only [sumT];rw [if_neg (by omega),h2];rfl
theorem turnS_gt {l : List Sp} {a : Int} (h : ∀ s,s ∈ l → a < s.f ∧ s.f < s.t) : ∀ p,p ∈ l.flatMap turnS → a < p.at_:=fun p hp=>by
  obtain ⟨s,hs,hp⟩:=List.mem_flatMap.1 hp
  have:=h s hs
  unfold turnS at hp
  rcases List.mem_cons.1 hp with e|e
  · rw [e];exact this.1
  · split at e
    · simp at e
    · rw [List.mem_singleton.1 e];show a < s.t;omega
open Classical in
theorem sumT_set {a : Int} (ha : a < tMx) : ∀ (l : List Sp),SetP l → sumT a (l.flatMap turnS) = if inS l a then 1 else 0
  | [],_=>by rw [if_neg (inS_nil a)];rfl
  | s :: l,h=>by
    obtain ⟨h1,h2,h3⟩:=setP_cons.1 h
    have ih:=sumT_set ha l h3
    rw [List.flatMap_cons,sumT_app]
    by_cases c1 : a < s.f
    · rw [sumT_zero (turnS_gt (l:=l) fun r hr=>⟨by have:=h2 r hr;omega,h3.1 r hr⟩)]
      have e : sumT a (turnS s) = 0:=sumT_zero fun p hp=>turnS_gt (l:=[s]) (a:=a) (fun r hr=>by rw [List.mem_singleton.1 hr];exact ⟨c1,h1⟩) p (by simpa using hp)
      rw [e,if_neg]
      · rfl
      · rw [inS_cons]
        rintro (k | ⟨r,hr,k1,k2⟩)
        · omega
        · have:=h2 r hr;omega
    · by_cases c2 : a < s.t
      · rw [sumT_zero (turnS_gt (l:=l) fun r hr=>⟨by have:=h2 r hr;omega,h3.1 r hr⟩)]
        have e : sumT a (turnS s) = 1:=by
          unfold turnS
          split
          · simp only [sumT];rw [if_pos (by omega)];rfl
          · simp only [sumT];rw [if_pos (by omega),if_neg (by omega)];rfl
        rw [e,if_pos ((inS_cons _ _ _).2 (.inl ⟨by omega,c2⟩))];rfl
      · have e : sumT a (turnS s) = 0:=by
          unfold turnS
          rw [if_neg (by omega)]
          simp only [sumT];rw [if_pos (by omega),if_pos (by omega)];rfl
        rw [e,ih]
        have : inS (s :: l) a ↔ inS l a:=by rw [inS_cons];exact ⟨fun h=>h.elim (fun k=>by omega) id,.inr⟩
        simp only [this];omega
noncomputable def cntL (l : List Fac) (a : Int) : Nat:=(l.filter fun f=>dP (inS f.sp a)).length
theorem sumT_all {a : Int} (ha : a < tMx) : ∀ (l : List Fac),(∀ f,f ∈ l → SetP f.sp) → sumT a (turnsL l) = (cntL l a : Int)
  | [],_=>rfl
  | f :: l,h=>by
    have ih:=sumT_all ha l fun g hg=>h g (List.mem_cons_of_mem _ hg)
    have h1:=sumT_set ha f.sp (h f List.mem_cons_self)
    have e : turnsL (f :: l) = f.sp.flatMap turnS ++ turnsL l:=by unfold turnsL;rw [List.flatMap_cons]
    rw [e,sumT_app,h1,ih]
    unfold cntL
    rw [List.filter_cons]
    by_cases hi : inS f.sp a
    · rw [if_pos hi,if_pos (dP_t.mpr hi),List.length_cons];omega
    · rw [if_neg hi,if_neg (by rw [← dP_F hi];decide)];omega
def lastM (out : List Pt) : Int:=match out.getLast? with
  | none=>0
  | some p=>p.m
def pushP (S : Int → Int) (out : List Pt) (a : Int) : List Pt:=if S a = lastM out then out else out ++ [⟨a,S a⟩]
def curveL (S : Int → Int) (as_ : List Int) : List Pt:=as_.foldl (pushP S) []
theorem lastM_snoc (out : List Pt) (p : Pt) : lastM (out ++ [p]) = p.m:=by simp [lastM]
theorem curve_skip (S : Int → Int) (as_ : List Int) : as_.foldl (fun out a=>if a = tMx then out else pushP S out a) [] = curveL S (as_.filter fun a=>decide (a ≠ tMx)):=by
  have key : ∀ (as_ : List Int) (o : List Pt),as_.foldl (fun out a=>if a = tMx then out else pushP S out a) o = (as_.filter fun a=>decide (a ≠ tMx)).foldl (pushP S) o:=by
    intro as_
    induction as_ with
    | nil=>intro o;rfl
    | cons a l ih =>
      intro o
      rw [List.foldl_cons,List.filter_cons]
      by_cases h : a = tMx
      · rw [if_pos h,if_neg (by simp [h])];exact ih o
      · rw [if_neg h,if_pos (by simp [h]),List.foldl_cons];exact ih _
  exact key as_ []
theorem curve_eq {S S' : Int → Int} {as_ : List Int} (h : ∀ a,a ∈ as_ → S a = S' a) : curveL S as_ = curveL S' as_:=by
  have key : ∀ (as_ : List Int) (o : List Pt),(∀ a,a ∈ as_ → S a = S' a) → as_.foldl (pushP S) o = as_.foldl (pushP S') o:=by
    intro as_
    induction as_ with
    | nil=>intro o _;rfl
    | cons a l ih =>
      intro o hh
      rw [List.foldl_cons,List.foldl_cons]
      have e : pushP S o a = pushP S' o a:=by unfold pushP;rw [hh a List.mem_cons_self]
      rw [e];exact ih _ fun b hb=>hh b (List.mem_cons_of_mem _ hb)
  exact key as_ [] h
def doneL (K : List Int) : Nat → List Int
  | 0=>[]
  | i + 1=>if K[i + 1]? = K[i]? then doneL K i else doneL K i ++ [K[i]?.getD 0]
theorem done_ok {K : List Int} (hs : K.Pairwise (fun a b=>a ≤ b)) : ∀ i,i ≤ K.length → (doneL K i).Pairwise (fun a b=>a < b) ∧ (∀ x,x ∈ doneL K i → ∃ (j : Nat) (h : j < K.length),j < i ∧ K[j] = x ∧ K[j + 1]? ≠ some x) ∧ ∀ (j : Nat) (h : j < K.length),j < i → K[j] ∈ doneL K i ∨ K[i]? = some K[j]
  | 0,_=>⟨List.Pairwise.nil,fun x hx=>by simp [doneL] at hx,fun j h hj=>by omega⟩
  | i + 1,hi=>by
    obtain ⟨h1,h2,h3⟩:=done_ok hs i (by omega)
    have hil : i < K.length:=by omega
    have hmono:=List.pairwise_iff_getElem.1 hs
    simp only [doneL]
    by_cases c : K[i + 1]? = K[i]?
    · rw [if_pos c]
      refine ⟨h1,fun x hx=>?_,fun j h hj=>?_⟩
      · obtain ⟨j,h,k1,k2,k3⟩:=h2 x hx
        exact ⟨j,h,by omega,k2,k3⟩
      · by_cases e : j = i
        · subst e;exact .inr (by rw [c,List.getElem?_eq_getElem hil])
        · rcases h3 j h (by omega) with k|k
          · exact .inl k
          · exact .inr (by rw [c];exact k)
    · rw [if_neg c,List.getElem?_eq_getElem hil,Option.getD_some]
      have hlast : K[i + 1]? ≠ some K[i]:=by rwa [List.getElem?_eq_getElem hil] at c
      refine ⟨List.pairwise_append.2 ⟨h1,List.pairwise_singleton _ _,fun x hx y hy=>?_⟩,fun x hx=>?_,fun j h hj=>.inl ?_⟩
      · rw [List.mem_singleton.1 hy]
        obtain ⟨j,h,k1,k2,k3⟩:=h2 x hx
        have hle:=hmono j i h hil k1
        rcases Int.lt_or_eq_of_le hle with q|q
        · omega
        · exfalso
          apply k3
          have hj1 : j + 1 ≤ i:=k1
          rcases Nat.lt_or_eq_of_le hj1 with r|r
          · have a1:=hmono j (j + 1) h (by omega) (by omega)
            have a2:=hmono (j + 1) i (by omega) hil r
            rw [List.getElem?_eq_getElem (by omega)]
            congr 1;omega
          · subst r
            rw [List.getElem?_eq_getElem hil];congr 1;omega
      · rcases List.mem_append.1 hx with k|k
        · obtain ⟨j,h,k1,k2,k3⟩:=h2 x k
          exact ⟨j,h,by omega,k2,k3⟩
        · rw [List.mem_singleton.1 k]
          exact ⟨i,hil,by omega,rfl,hlast⟩
      · by_cases e : j = i
        · subst e;simp
        · rcases h3 j h (by omega) with k|k
          · exact List.mem_append_left _ k
          · rw [List.getElem?_eq_getElem hil] at k
            exact List.mem_append_right _ (by simp at k ⊢;exact k.symm)
theorem done_end {K : List Int} (hs : K.Pairwise (fun a b=>a ≤ b)) : (doneL K K.length).Pairwise (fun a b=>a < b) ∧ ∀ x,x ∈ doneL K K.length ↔ x ∈ K:=by
  obtain ⟨h1,h2,h3⟩:=done_ok hs K.length (Nat.le_refl _)
  refine ⟨h1,fun x=>⟨fun hx=>?_,fun hx=>?_⟩⟩
  · obtain ⟨j,h,_,k,_⟩:=h2 x hx
    rw [← k];exact List.getElem_mem _
  · obtain ⟨j,h,k⟩:=List.getElem_of_mem hx
    rcases h3 j h h with q|q
    · rw [← k];exact q
    · simp at q
def atsS (s : Sp) : List Int:=[s.f,s.t]
def atsL (l : List Fac) : List Int:=l.flatMap fun f=>f.sp.flatMap atsS
theorem rise_int {a b : List Int} (ha : a.Pairwise (fun x y=>x < y)) (hb : b.Pairwise (fun x y=>x < y)) (h : ∀ x,x ∈ a ↔ x ∈ b) : a = b:=by
  have r : ∀ {l : List Int},l.Pairwise (fun x y=>x < y) → Rise cmpI l:=fun h=>h.imp fun {x y} k=>by unfold cmpI;rw [if_pos k];decide
  have w : WC cmpI:=⟨fun x y=>by unfold cmpI;constructor <;> intro h <;> (repeat' split at h) <;> (repeat' split) <;> omega,fun x y z=>by unfold cmpI;intro h1 h2;(repeat' split at h1) <;> (repeat' split at h2) <;> (repeat' split) <;> omega⟩
  exact rise_eq w (r ha) (r hb) h
theorem curve_ats {l : List Fac} {ms : List Pt} {as_ : List Int} (hp : ms.Perm (turnsL l)) (hs : ms.Pairwise (fun a b=>a.at_ ≤ b.at_)) (hset : ∀ f,f ∈ l → SetP f.sp ∧ ∀ s,s ∈ f.sp → s.t ≤ tMx) (hr : as_.Pairwise (fun x y=>x < y)) (hm : ∀ x,x ∈ as_ ↔ x ∈ atsL l) :
    doneL (ms.map Pt.at_) ms.length = as_.filter fun a=>decide (a ≠ tMx):=by
  have hK : (ms.map Pt.at_).Pairwise (fun a b=>a ≤ b):=List.pairwise_map.2 hs
  obtain ⟨k1,k2⟩:=done_end hK
  rw [List.length_map] at k1 k2
  refine rise_int k1 (hr.sublist List.filter_sublist) fun x=>?_
  rw [k2,List.mem_filter,hm,decide_eq_true_eq]
  constructor
  · intro hx
    obtain ⟨p,hp1,rfl⟩:=List.mem_map.1 hx
    have:=(hp.mem_iff (a:=p)).1 hp1
    obtain ⟨f,hf,h2⟩:=List.mem_flatMap.1 this
    obtain ⟨s,hs1,h3⟩:=List.mem_flatMap.1 h2
    have hne:=(hset f hf).1.1 s hs1
    have hle:=(hset f hf).2 s hs1
    unfold turnS at h3
    rcases List.mem_cons.1 h3 with e|e
    · rw [e]
      exact ⟨List.mem_flatMap.2 ⟨f,hf,List.mem_flatMap.2 ⟨s,hs1,by simp [atsS]⟩⟩,by show s.f ≠ _;omega⟩
    · split at e
      · simp at e
      · rename_i ht
        rw [List.mem_singleton.1 e]
        exact ⟨List.mem_flatMap.2 ⟨f,hf,List.mem_flatMap.2 ⟨s,hs1,by simp [atsS]⟩⟩,ht⟩
  · rintro ⟨hx,hne⟩
    obtain ⟨f,hf,h2⟩:=List.mem_flatMap.1 hx
    obtain ⟨s,hs1,h3⟩:=List.mem_flatMap.1 h2
    have hmem : ∀ p,p ∈ turnS s → p ∈ ms:=fun p hp1=>(hp.mem_iff (a:=p)).2 (List.mem_flatMap.2 ⟨f,hf,List.mem_flatMap.2 ⟨s,hs1,hp1⟩⟩)
    simp only [atsS,List.mem_cons,List.not_mem_nil,or_false] at h3
    rcases h3 with rfl|rfl
    · exact List.mem_map.2 ⟨⟨s.f,1⟩,hmem _ (by unfold turnS;simp),rfl⟩
    · exact List.mem_map.2 ⟨⟨s.t,-1⟩,hmem _ (by unfold turnS;rw [if_neg hne];simp),rfl⟩
def sumM : List Pt → Int
  | []=>0
  | p :: l=>p.m + sumM l
theorem sumM_app : ∀ (x y : List Pt),sumM (x ++ y) = sumM x + sumM y
  | [],y=>by simp [sumM]
  | p :: x,y=>by simp only [List.cons_append,sumM,sumM_app x y];omega
theorem sumM_take {ms : List Pt} {i : Nat} (h : i < ms.length) : sumM (ms.take (i + 1)) = sumM (ms.take i) + ms[i].m:=by
  rw [List.take_succ_eq_append_getElem h,sumM_app];simp [sumM]
theorem sumM_T {ms : List Pt} (hs : ms.Pairwise (fun a b=>a.at_ ≤ b.at_)) {i : Nat} (h : i < ms.length) (hn : ∀ h2 : i + 1 < ms.length,ms[i + 1].at_ ≠ ms[i].at_) : sumM (ms.take (i + 1)) = sumT ms[i].at_ ms:=by
  have hmono:=List.pairwise_iff_getElem.1 hs
  have e : sumT ms[i].at_ ms = sumT ms[i].at_ (ms.take (i + 1)) + sumT ms[i].at_ (ms.drop (i + 1)):=by rw [← sumT_app,List.take_append_drop]
  have h2 : sumT ms[i].at_ (ms.drop (i + 1)) = 0:=by
    refine sumT_zero fun p hp=>?_
    obtain ⟨j,hj,rfl⟩:=List.getElem_of_mem hp
    rw [List.getElem_drop]
    simp only [List.length_drop] at hj
    have a1:=hmono i (i + 1) h (by omega) (by omega)
    have a2:=hn (by omega)
    rcases Nat.eq_zero_or_pos j with q|q
    · subst q;simp only [Nat.add_zero];omega
    · have a3:=hmono (i + 1) (i + 1 + j) (by omega) (by omega) (by omega)
      omega
  have h1 : ∀ (l : List Pt),(∀ p,p ∈ l → p.at_ ≤ ms[i].at_) → sumT ms[i].at_ l = sumM l:=by
    intro l
    induction l with
    | nil=>intro _;rfl
    | cons p l ih =>
      intro hh
      simp only [sumT,sumM]
      rw [if_pos (hh p List.mem_cons_self),ih fun q hq=>hh q (List.mem_cons_of_mem _ hq)]
  rw [e,h2,h1 _ fun p hp=>?_]
  · omega
  · obtain ⟨j,hj,rfl⟩:=List.getElem_of_mem hp
    rw [List.getElem_take]
    simp only [List.length_take] at hj
    rcases Nat.lt_or_eq_of_le (show j ≤ i by omega) with q|q
    · exact hmono j i (by omega) h q
    · subst q;exact Int.le_refl _
theorem sumM_abs {ms : List Pt} (h : ∀ p,p ∈ ms → -1 ≤ p.m ∧ p.m ≤ 1) : -(ms.length : Int) ≤ sumM ms ∧ sumM ms ≤ ms.length:=by
  induction ms with
  | nil=>simp [sumM]
  | cons p l ih =>
    have h1:=h p List.mem_cons_self
    have h2:=ih fun q hq=>h q (List.mem_cons_of_mem _ hq)
    simp only [sumM,List.length_cons];omega
end Go.Proofs

namespace Go.Proofs
open Go.AL Go.Sort
attribute [local irreducible] Go.AL.W Go.AL.WL Go.AL.WD Go.AL.POp Go.AL.PPOp Go.AL.POpS Go.AL.PC Go.AL.AC Go.AL.YW Go.AL.Ret Go.AL.Le Go.AL.thn Go.AL.inBlk Go.AL.scp
abbrev ptC (p : Pt) : List AV:=[.sc (.int .i64 p.at_),.sc (.int .i64 p.m)]
abbrev slP (l : List Pt) : AV:=.sl none 2 (l.map ptC)
theorem wcI : WC cmpI:=⟨fun x y=>by unfold cmpI;constructor <;> intro h <;> (repeat' split at h) <;> (repeat' split) <;> omega,fun x y z=>by unfold cmpI;intro h1 h2;(repeat' split at h1) <;> (repeat' split at h2) <;> (repeat' split) <;> omega⟩
theorem zzI (x y : Int) (h : cmpI x y = 0) : x = y:=by unfold cmpI at h;(repeat' split at h) <;> omega
theorem ltI {x y : Int} : cmpI x y < 0 ↔ x < y:=by unfold cmpI;constructor <;> intro h <;> (repeat' split at h) <;> (repeat' split) <;> omega
theorem insI_rise : ∀ (l : List Int),(insL cmpI l).Pairwise (fun a b=>a < b):=fun l=>by
  unfold insL
  rw [fold_sortC wcI zzI]
  exact (sortC_rise wcI zzI l).imp fun h=>ltI.1 h
theorem insI_mem (l : List Int) (x : Int) : x ∈ insL cmpI l ↔ x ∈ l:=by
  unfold insL
  rw [fold_sortC wcI zzI,sortC_mem]
noncomputable def curveR (l : List Fac) (as_ : List Int) : List Pt:=as_.foldl (fun out a=>if a = tMx then out else pushP (fun a=>(cntL l a : Int)) out a) []
theorem pushP_len (S : Int → Int) (out : List Pt) (a : Int) : (pushP S out a).length ≤ out.length + 1:=by
  unfold pushP;split <;> simp
end Go.Proofs
