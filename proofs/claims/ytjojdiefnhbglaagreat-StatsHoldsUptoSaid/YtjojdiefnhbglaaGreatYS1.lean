/- Contracts of stats' functions: datoms sorted if all may be; told attribute by attribute. -/
import Derived.Test.YtjojdiefnhbglaaGreatYF2
import Derived.Test.YtjojdiefnhbglaaGreatOps35
import Derived.Test.YtjojdiefnhbglaaGreatOps11
set_option linter.all false
namespace Go.Proofs
open Go.AL Go.Sort
attribute [local irreducible] Go.AL.W Go.AL.WL Go.AL.WD Go.AL.POp Go.AL.PPOp Go.AL.POpS Go.AL.PC Go.AL.AC Go.AL.YW Go.AL.Ret Go.AL.Le Go.AL.thn Go.AL.inBlk Go.AL.scp
def allD (l : List Dat) : Prop:=∀ d,d ∈ l → dmayP d
theorem allD_iff {l : List Dat} : allD l ↔ ∀ (j : Nat) (h : j < l.length),dmayP l[j] :=
  ⟨fun h j hj=>h _ (List.getElem_mem hj),fun h d hd=>by obtain ⟨j,hj,rfl⟩:=List.getElem_of_mem hd;exact h j hj⟩
set_option maxHeartbeats 4000000 in
theorem sbad_pc [GlobF Tryz.prog] (d : Dat) (hs : d.v.s.length < 9223372036854775808) : PC Tryz.prog 120 [eD d] (.sc (.bool (!dP (dmayP d)))):=by
  have hc:=dcheck_pc d hs
  by_cases hm : dmayP d
  · rw [← dP_T hm,if_pos rfl] at hc
    rw [← dP_T hm]
    refine PC.of_body Tryz.func120 Tryz.ntmps120 rfl rfl rfl ?_
    repeat' first
 | (apply p1 (hd:=rfl);case hop=>first|(apply D_assign;rfl)|(apply D_pc hc;rfl;exact .same rfl .nil)|(apply D_int;rfl;rfl;rfl)|(apply D_loadW;rfl;rfl)|(apply D_box;rfl;rfl))
 | refine W_seq ?_
 | refine W_region ?_
 | refine WL_nil ?_
 | refine tn ?_
 | refine W_ret ?_
 | (refine idR ?_;refine ret1 rfl rfl rfl ?_)
 | (refine Le.bool ?_)
    all_goals first|(show bNot (iEq 0 0) = _;rw [(iEq_t _ _).mpr rfl];simp [bNot])|skip
  · rw [← dP_F hm,if_neg (by decide)] at hc
    rw [← dP_F hm]
    refine PC.of_body Tryz.func120 Tryz.ntmps120 rfl rfl rfl ?_
    repeat' first
 | (apply p1 (hd:=rfl);case hop=>first|(apply D_assign;rfl)|(apply D_pc hc;rfl;exact .same rfl .nil)|(apply D_int;rfl;rfl;rfl)|(apply D_loadW;rfl;rfl)|(apply D_box;rfl;rfl))
 | refine W_seq ?_
 | refine W_region ?_
 | refine WL_nil ?_
 | refine tn ?_
 | refine W_ret ?_
 | (refine idR ?_;refine ret1 rfl rfl rfl ?_)
 | (refine Le.bool ?_)
    all_goals first|(show bNot (iEq 40 0) = _;rw [(iEq_f _ _).mpr (by decide)];simp [bNot])|skip
set_option maxHeartbeats 8000000 in
theorem sidx_pc [GlobF Tryz.prog] (l : List Dat) (hl : l.length < 4611686018427387904) (hs : ∀ d,d ∈ l → d.v.s.length < 9223372036854775808) : ∃ r : Int,(0 ≤ r ↔ ¬ allD l) ∧ PC Tryz.prog 134 [sl9 l,.sc (.func (.func 120) #[] #[])] (.sc (.int .i64 r)):=by
  obtain ⟨n,hn,hmin⟩:=least (fun n=>n = l.length ∨ ∃ h : n < l.length,¬ dmayP l[n]) ⟨l.length,.inl rfl⟩
  have hnl : n ≤ l.length:=hmin _ (.inl rfl)
  have hz : ∀ (j : Nat) (h : j < l.length),j < n → dmayP l[j]:=fun j hj hjn=>Classical.byContradiction fun h=>absurd (hmin j (.inr ⟨hj,h⟩)) (by omega)
  have hbody : PC Tryz.prog 134 [sl9 l,.sc (.func (.func 120) #[] #[])] (.sc (.int .i64 (if n < l.length then (n : Int) else -1))):=by
    refine PC.of_body Tryz.func134 Tryz.ntmps134 rfl rfl rfl ?_
    repeat' first
 | (apply p1 (hd:=rfl);case hop=>first|(apply D_move;rfl)|(apply D_assign;rfl)|(apply D_lenM;rfl))
 | refine W_seq ?_
 | refine W_region ?_
 | refine WL_nil ?_
 | refine tn ?_
 | (refine W_block ?_)
    refine W_loopL (X:=Nat) (fun i=>[(0,sl9 l),(1,.sc (.func (.func 120) #[] #[])),(7,.sc (.int .i64 (l.length : Int))),(8,.sc (.int .i64 (i : Int)))]) (fun _=>[])
      (fun i=>i ≤ n) (fun i=>n - i) 0 (Nat.zero_le _) ⟨rfl,rfl,rfl,rfl,trivial⟩ rfl ?_
    intro i hi
    by_cases hil : i < l.length
    · have hc:=sbad_pc (l[i]'hil) (hs _ (List.getElem_mem _))
      by_cases hin : i < n
      · rw [← dP_T (hz i hil hin)] at hc
        repeat' first
 | (apply p1 (hd:=rfl);case hop=>first|(apply D_move;rfl)|(apply D_assign;rfl)|(apply D_pc hc;rfl;exact .same rfl .nil)|(apply D_int;rfl;rfl;rfl)|(apply D_loadW;rfl;rfl)|(apply D_idxAn;rfl;rfl;(first|omega|(simp;done))))
 | refine W_seq ?_
 | refine W_region ?_
 | (refine idC ?_;first|refine c0 rfl ?_|refine cs rfl (fun _=>?_) (fun _=>?_))
 | refine WL_nil ?_
 | refine tn ?_
 | refine bn ?_
 | refine te ?_
 | (refine idB ?_;refine bh rfl ?_)
 | refine W_skip ?_
 | refine W_block ?_
 | refine W_exit ?_
 | refine W_ret ?_
 | (refine idR ?_;refine ret1 rfl rfl rfl ?_)
 | (refine Le.int ?_)
        all_goals first
          | contradiction
          | (exfalso;omega)
          | exact ⟨rfl,i + 1,by omega,by omega,⟨rfl,rfl,rfl,ieq (wsucc i (by omega)),trivial⟩,rfl⟩
          | skip
      · have e : i = n:=by omega
        subst e
        have hb : ¬ dmayP (l[i]'hil):=by
          rcases hn with e | ⟨h,h2⟩
          · omega
          · exact h2
        rw [← dP_F hb] at hc
        rw [if_pos hil]
        repeat' first
 | (apply p1 (hd:=rfl);case hop=>first|(apply D_move;rfl)|(apply D_assign;rfl)|(apply D_pc hc;rfl;exact .same rfl .nil)|(apply D_int;rfl;rfl;rfl)|(apply D_loadW;rfl;rfl)|(apply D_idxAn;rfl;rfl;(first|omega|(simp;done))))
 | refine W_seq ?_
 | refine W_region ?_
 | (refine idC ?_;first|refine c1 rfl ?_|refine cs rfl (fun _=>?_) (fun _=>?_))
 | refine WL_nil ?_
 | refine tn ?_
 | refine tr ?_
 | refine br ?_
 | refine te ?_
 | (refine idB ?_;refine bh rfl ?_)
 | refine W_skip ?_
 | refine W_block ?_
 | refine W_exit ?_
 | refine W_ret ?_
 | (refine idR ?_;refine ret1 rfl rfl rfl ?_)
 | (refine Le.int ?_)
        all_goals first
          | contradiction
          | (exfalso;omega)
          | rfl
          | skip
    · rw [if_neg (by omega)]
      repeat' first
 | (apply p1 (hd:=rfl);case hop=>first|(apply D_move;rfl)|(apply D_assign;rfl)|(apply D_int;rfl;rfl;rfl)|(apply D_loadW;rfl;rfl)|(apply D_idxAn;rfl;rfl;(first|omega|(simp;done))))
 | refine W_seq ?_
 | refine W_region ?_
 | (refine idC ?_;refine cs rfl (fun _=>?_) (fun _=>?_))
 | refine WL_nil ?_
 | refine tn ?_
 | refine te ?_
 | (refine idB ?_;refine bh rfl ?_)
 | refine W_skip ?_
 | refine W_block ?_
 | refine W_exit ?_
 | refine W_ret ?_
 | (refine idR ?_;refine ret1 rfl rfl rfl ?_)
 | (refine Le.int ?_)
      all_goals first
        | contradiction
        | (exfalso;omega)
        | rfl
        | skip
  refine ⟨_,?_,hbody⟩
  constructor
  · intro h ha
    split at h
    · rename_i hlt
      rcases hn with e | ⟨h1,h2⟩
      · omega
      · exact h2 (ha _ (List.getElem_mem h1))
    · omega
  · intro h
    split
    · omega
    · exact absurd (allD_iff.2 fun j hj=>hz j hj (by omega)) h
set_option maxHeartbeats 4000000 in
theorem scon_pc [GlobF Tryz.prog] (l : List Dat) (hl : l.length < 4611686018427387904) (hs : ∀ d,d ∈ l → d.v.s.length < 9223372036854775808) : PC Tryz.prog 119 [sl9 l,.sc (.func (.func 120) #[] #[])] (.sc (.bool (!dP (allD l)))):=by
  obtain ⟨r,hr,hi⟩:=sidx_pc l hl hs
  have hres : iLe 0 r = !dP (allD l):=by
    by_cases ha : allD l
    · rw [← dP_T ha,(iLe_f _ _).mpr (by have:=mt hr.1 (fun h=>h ha);omega)];rfl
    · rw [← dP_F ha,(iLe_t _ _).mpr (hr.2 ha)];rfl
  refine PC.of_body Tryz.func119 Tryz.ntmps119 rfl rfl rfl ?_
  repeat' first
 | (apply p1 (hd:=rfl);case hop=>first|(apply D_move;rfl)|(apply D_assign;rfl)|(apply D_pc hi;rfl;exact .same rfl (.same rfl .nil))|(apply D_int;rfl;rfl;rfl))
 | refine W_seq ?_
 | refine W_region ?_
 | refine WL_nil ?_
 | refine tn ?_
 | refine W_ret ?_
 | (refine idR ?_;refine ret1 rfl rfl rfl ?_)
 | (refine Le.bool ?_)
  all_goals first|exact hres|skip
noncomputable def sortS (o : Int) (l : List Dat) : List Dat:=if dP (allD l) then dsortL o l else []
set_option maxHeartbeats 4000000 in
theorem ssorted_pc [GlobF Tryz.prog] (o : Int) (l : List Dat) (hl : l.length < 1759218604500) (hs : ∀ d,d ∈ l → d.v.s.length < 9223372036854775808) : PC Tryz.prog 61 [.sc (.int .i64 o),sl9 l] (.tu [sl9 (sortS o l),.sc (.int .i64 (if dP (allD l) then 0 else 40))]):=by
  have hc:=scon_pc l (by omega) hs
  have hd:=dsort_pc o l hl
  unfold sortS
  generalize dP (allD l) = b at *
  cases b
  · rw [if_neg (by decide),if_neg (by decide)]
    refine PC.of_body Tryz.func61 Tryz.ntmps61 rfl rfl rfl ?_
    repeat' first
 | (apply p1 (hd:=rfl);case hop=>first|(apply D_move;rfl)|(apply D_assign;rfl)|(apply D_pc hc;rfl;exact .same rfl (.same rfl .nil)))
 | refine W_seq ?_
 | refine W_region ?_
 | (refine idC ?_;refine c1 rfl ?_)
 | refine WL_nil ?_
 | refine tn ?_
 | refine tr ?_
 | refine W_ret ?_
 | (refine idR ?_;refine ret2 rfl rfl rfl rfl ?_ ?_)
 | (refine Le.int ?_)
    all_goals first|contradiction|exact Le.nil rfl|rfl|skip
  · rw [if_pos rfl,if_pos rfl]
    refine PC.of_body Tryz.func61 Tryz.ntmps61 rfl rfl rfl ?_
    repeat' first
 | (apply p1 (hd:=rfl);case hop=>first|(apply D_move;rfl)|(apply D_assign;rfl)|(apply D_pc hc;rfl;exact .same rfl (.same rfl .nil))|(apply D_pc hd;rfl;exact .same rfl (.same rfl .nil)))
 | refine W_seq ?_
 | refine W_region ?_
 | (refine idC ?_;refine c0 rfl ?_)
 | refine WL_nil ?_
 | refine tn ?_
 | refine W_skip ?_
 | refine W_ret ?_
 | (refine idR ?_;refine ret2 rfl rfl rfl rfl ?_ ?_)
 | (refine Le.int ?_)
    all_goals first|contradiction|exact Le.of_eq rfl|rfl|skip
def grA (a b : Dat) : Prop:=b.a = a.a
set_option maxHeartbeats 4000000 in
theorem sgroups_pc [GlobF Tryz.prog] (l : List Dat) : PC Tryz.prog 62 [sl9 l] (.fn (.func 121) [] [.ep [sl9 l]]):=by
  refine PC.of_body Tryz.func62 Tryz.ntmps62 rfl rfl rfl ?_
  repeat' first
 | (apply p1 (hd:=rfl);case hop=>first|(apply D_assign;rfl)|(apply D_box;rfl;rfl)|exact D_mkfn rfl)
 | refine W_seq ?_
 | refine W_region ?_
 | refine WL_nil ?_
 | refine tn ?_
 | refine W_ret ?_
 | (refine idR ?_;refine ret1 rfl rfl rfl ?_)
  all_goals first|exact Le.of_eq rfl|rfl|skip
theorem win_eq (L : List Dat) (f i : Nat) : (L.take (i + 1)).drop f = (L.drop f).take (i + 1 - f):=by rw [List.drop_take]
set_option maxHeartbeats 16000000 in
theorem sgroups1_ac [GlobF Tryz.prog] (L : List Dat) (l : Nat) (I : List Dat → List AObj → Prop) {h0 : List AObj} (hL : L.length < 4611686018427387904) (hI : I L h0)
    (hy : ∀ r h n,I r h → 0 < n → n ≤ r.length → grpL grA r = r.take n :: grpL grA (r.drop n) → YW Tryz.prog l [sl9 (r.take n)] h (fun bo h'=>bo = true ∧ I (r.drop n) h')) :
    AC Tryz.prog 121 [.sc (.func (.yield l) #[] #[]),.ep [sl9 L]] h0 (fun _ h'=>I [] h'):=by
  have hst : ∀ (j : Nat) (h : j < L.length) (h' : 0 < L.length),0 ≤ j → j ≤ 0 → L[j].a = L[0].a:=fun j h h' h1 h2=>by
    have e : j = 0:=by omega
    subst e;rfl
  refine AC.of_body Tryz.func121 Tryz.ntmps121 rfl rfl rfl ?_
  repeat' first
 | (apply p1 (hd:=rfl);case hop=>first|(apply D_move;rfl)|(apply D_assign;rfl)|(apply D_load1;rfl)|(apply D_lenM;rfl))
 | refine W_seq ?_
 | refine W_region ?_
 | refine WL_nil ?_
 | refine tn ?_
 | (refine W_block ?_)
  refine W_loopL (X:=Nat × Nat × List AObj) (fun x=>[(0,.sc (.func (.yield l) #[] #[])),(1,.ep [sl9 L]),(3,.sc (.int .i64 (x.1 : Int))),(6,.sc (.int .i64 (L.length : Int))),(7,.sc (.int .i64 (x.2.1 : Int)))]) (fun x=>x.2.2)
    (fun x=>x.1 ≤ x.2.1 ∧ x.2.1 ≤ L.length ∧ (x.2.1 = L.length → x.1 = L.length) ∧ I (L.drop x.1) x.2.2 ∧ ∀ (j : Nat) (h : j < L.length) (h' : x.1 < L.length),x.1 ≤ j → j ≤ x.2.1 → L[j].a = L[x.1].a) (fun x=>L.length - x.2.1) (0,0,h0)
    ⟨Nat.le_refl _,Nat.zero_le _,fun h=>h,hI,hst⟩ ⟨rfl,rfl,rfl,rfl,rfl,trivial⟩ rfl ?_
  rintro ⟨f,i,h⟩ ⟨h1,h2,h3,hIr,hz⟩
  simp only at h1 h2 h3 hIr hz ⊢
  by_cases hil : i < L.length
  rotate_left 1
  · have e : i = L.length:=by omega
    have e2:=h3 e
    rw [e2,List.drop_length] at hIr
    repeat' first
 | (apply p1 (hd:=rfl);case hop=>first|(apply D_move;rfl)|(apply D_assign;rfl)|(apply D_load1;rfl)|(apply D_int;rfl;rfl;rfl)|(apply D_slVM;rfl;rfl;rfl;all_goals first|omega|((repeat rw [w64 _ (by omega) (by omega)]);omega)|decide))
 | refine W_seq ?_
 | refine W_region ?_
 | (refine idC ?_;first|refine c1 rfl ?_|refine cs rfl (fun _=>?_) (fun _=>?_))
 | refine WL_nil ?_
 | refine tn ?_
 | refine bn ?_
 | refine te ?_
 | (refine idB ?_;refine bh rfl ?_)
 | refine W_skip ?_
 | refine W_block ?_
 | refine W_exit ?_
 | (refine idW ?_;refine W_draw0 rfl ?_)
 | (apply d1 (hd:=rfl);case hop=>first|(apply D_move;rfl)|(apply D_load1;rfl)|(apply D_fld;rfl)|(apply D_pickT;rfl;rfl)|(apply D_pickF;rfl;rfl)|(apply D_int;rfl;rfl;rfl)|(apply D_lenM;rfl)|(apply D_idxAn;rfl;rfl;(first|omega|(simp;done)))|(apply D_idxA;rfl;rfl;omega;(first|omega|(simp;done)|(simp;omega))))
 | (refine idDg ?_;first|refine dg0f rfl rfl rfl ?_|refine dgr rfl rfl ?_|refine dgs rfl rfl (fun _=>?_) (fun _=>?_))
 | (refine WD_nil (by first|decide +kernel|kernel_rfl|rfl) ?_)
    all_goals first
      | exact ret0 (.inr rfl) rfl rfl hIr
      | (exfalso;omega)
      | skip
  have hfl : f < L.length:=by omega
  have hi1 : Value.int .i64 (IntKind.i64.wrap ((i : Int) + 1)) = .int .i64 ((i + 1 : Nat) : Int):=by rw [wsucc i (by omega)]
  have hrl : (L.drop f).length = L.length - f:=List.length_drop
  have hyd:=fun (he : ∀ h : i + 1 < L.length,L[i + 1].a ≠ L[i].a)=>hy (L.drop f) h (i + 1 - f) hIr (by omega) (by omega) (grp_at (by omega) (by omega) (fun j hj j1 j2=>by
      unfold grA
      rw [List.getElem_drop,List.getElem_drop]
      exact hz (f + j) (by omega) hfl (by omega) (by omega)) (fun hn hg=>by
      unfold grA at hg
      rw [List.getElem_drop,List.getElem_drop] at hg
      have hii : i + 1 < L.length:=by omega
      have e : f + (i + 1 - f) = i + 1:=by omega
      have hg' : L[i + 1].a = L[f].a:=by
        have : L[f + (i + 1 - f)]'(by omega) = L[i + 1]:=by congr 1
        rw [← this];exact hg
      exact he hii (hg'.trans (hz i hil hfl h1 (Nat.le_refl _)).symm)))
  have hdd : (L.drop f).drop (i + 1 - f) = L.drop (i + 1):=by rw [List.drop_drop];congr 1;omega
  have hz0 : ∀ (j : Nat) (h : j < L.length) (h' : i + 1 < L.length),i + 1 ≤ j → j ≤ i + 1 → L[j].a = L[i + 1].a:=fun j h h' h1 h2=>by
    have e : j = i + 1:=by omega
    subst e;rfl
  by_cases hlast : i + 1 = L.length
  · have hq:=hyd (fun h=>by omega)
    rw [hdd,← win_eq] at hq
    have g1 : Value.bool (iEq ((i + 1 : Nat) : Int) (L.length : Int)) = .bool true:=by rw [(iEq_t _ _).mpr (by omega)]
    repeat' first
 | (apply p1 (hd:=rfl);case hop=>first|(apply D_move;rfl)|(apply D_assign;rfl)|exact D_sc (D_int rfl rfl rfl) hi1|(apply D_load1;rfl)|(apply D_int;rfl;rfl;rfl)|(apply D_not;rfl)|(apply D_slVM;rfl;rfl;rfl;all_goals first|omega|((repeat rw [w64 _ (by omega) (by omega)]);omega)|decide))
 | refine W_seq ?_
 | refine W_region ?_
 | (refine idC ?_;first|refine c1 rfl ?_|refine cs rfl (fun _=>?_) (fun _=>?_))
 | refine WL_nil ?_
 | refine tn ?_
 | refine tr ?_
 | refine br ?_
 | refine bn ?_
 | refine te ?_
 | (refine idB ?_;refine bh rfl ?_)
 | refine W_skip ?_
 | refine W_block ?_
 | refine W_exit ?_
 | refine W_ret ?_
 | (refine m_yield rfl rfl rfl hq ?_;rintro bo h' ⟨rfl,hI'⟩)
 | (refine idW ?_;refine W_draw0 rfl ?_)
 | (apply d1 (hd:=rfl);case hop=>first|(apply D_move;rfl)|exact D_sc (D_int rfl rfl rfl) hi1|exact D_sc (D_int rfl rfl rfl) g1|(apply D_load1;rfl)|(apply D_pickT;rfl;rfl)|(apply D_lenM;rfl))
 | (refine idDg ?_;refine dg0f rfl rfl rfl ?_)
 | (refine WD_nil (by first|decide +kernel|kernel_rfl|rfl) ?_)
    all_goals first
      | (exfalso;omega)
      | contradiction
      | exact ⟨rfl,(i + 1,i + 1,h'),⟨Nat.le_refl _,by show i + 1 ≤ _;omega,fun h=>h,hI',hz0⟩,by show L.length - (i + 1) < L.length - i;omega,⟨rfl,rfl,rfl,rfl,rfl,trivial⟩,rfl⟩
      | skip
  · have g1 : Value.bool (iEq ((i + 1 : Nat) : Int) (L.length : Int)) = .bool false:=by rw [(iEq_f _ _).mpr (by omega)]
    have hii : i + 1 < L.length:=by omega
    by_cases he : (L[i + 1]'hii).a = (L[i]'hil).a
    · have g2 : Value.bool (bNot (iEq (L[i + 1]'hii).a (L[i]'hil).a)) = .bool false:=by rw [(iEq_t _ _).mpr he];simp [bNot]
      repeat' first
 | (apply p1 (hd:=rfl);case hop=>first|(apply D_move;rfl)|(apply D_assign;rfl)|exact D_sc (D_int rfl rfl rfl) hi1|(apply D_int;rfl;rfl;rfl))
 | refine W_seq ?_
 | refine W_region ?_
 | (refine idC ?_;first|refine c0 rfl ?_|refine cs rfl (fun _=>?_) (fun _=>?_))
 | refine WL_nil ?_
 | refine tn ?_
 | refine bn ?_
 | refine te ?_
 | (refine idB ?_;refine bh rfl ?_)
 | refine W_skip ?_
 | refine W_block ?_
 | refine W_exit ?_
 | (refine idW ?_;refine W_draw0 rfl ?_)
 | (apply d1 (hd:=rfl);case hop=>first|(apply D_move;rfl)|exact D_sc (D_int rfl rfl rfl) hi1|exact D_sc (D_int rfl rfl rfl) g1|exact D_sc (D_int rfl rfl rfl) g2|(apply D_load1;rfl)|(apply D_fld;rfl)|(apply D_pickF;rfl;rfl)|(apply D_lenM;rfl)|(apply D_idxAn;rfl;rfl;(first|omega|(simp;done))))
 | (refine idDg ?_;refine dgr rfl rfl ?_)
 | (refine WD_nil (by first|decide +kernel|kernel_rfl|rfl) ?_)
      all_goals first
        | (exfalso;omega)
        | contradiction
        | (refine ⟨rfl,(f,i + 1,h),⟨by show f ≤ i + 1;omega,by show i + 1 ≤ _;omega,fun h=>by simp only at h;omega,hIr,fun j hj h' j1 j2=>?_⟩,by show L.length - (i + 1) < L.length - i;omega,⟨rfl,rfl,rfl,rfl,rfl,trivial⟩,rfl⟩
           simp only at j1 j2 ⊢
           by_cases e : j = i + 1
           · subst e;exact he.trans (hz i hil hfl h1 (Nat.le_refl _))
           · exact hz j hj hfl j1 (by omega))
        | skip
    · have g2 : Value.bool (bNot (iEq (L[i + 1]'hii).a (L[i]'hil).a)) = .bool true:=by rw [(iEq_f _ _).mpr he];simp [bNot]
      have hq:=hyd (fun _=>he)
      rw [hdd,← win_eq] at hq
      repeat' first
 | (apply p1 (hd:=rfl);case hop=>first|(apply D_move;rfl)|(apply D_assign;rfl)|exact D_sc (D_int rfl rfl rfl) hi1|(apply D_load1;rfl)|(apply D_int;rfl;rfl;rfl)|(apply D_not;rfl)|(apply D_slVM;rfl;rfl;rfl;all_goals first|omega|((repeat rw [w64 _ (by omega) (by omega)]);omega)|decide))
 | refine W_seq ?_
 | refine W_region ?_
 | (refine idC ?_;first|refine c1 rfl ?_|refine cs rfl (fun _=>?_) (fun _=>?_))
 | refine WL_nil ?_
 | refine tn ?_
 | refine tr ?_
 | refine br ?_
 | refine bn ?_
 | refine te ?_
 | (refine idB ?_;refine bh rfl ?_)
 | refine W_skip ?_
 | refine W_block ?_
 | refine W_exit ?_
 | refine W_ret ?_
 | (refine m_yield rfl rfl rfl hq ?_;rintro bo h' ⟨rfl,hI'⟩)
 | (refine idW ?_;refine W_draw0 rfl ?_)
 | (apply d1 (hd:=rfl);case hop=>first|(apply D_move;rfl)|exact D_sc (D_int rfl rfl rfl) hi1|exact D_sc (D_int rfl rfl rfl) g1|exact D_sc (D_int rfl rfl rfl) g2|(apply D_load1;rfl)|(apply D_fld;rfl)|(apply D_pickF;rfl;rfl)|(apply D_lenM;rfl)|(apply D_idxAn;rfl;rfl;(first|omega|(simp;done))))
 | (refine idDg ?_;refine dgr rfl rfl ?_)
 | (refine WD_nil (by first|decide +kernel|kernel_rfl|rfl) ?_)
      all_goals first
        | (exfalso;omega)
        | contradiction
        | exact ⟨rfl,(i + 1,i + 1,h'),⟨Nat.le_refl _,by show i + 1 ≤ _;omega,fun h=>h,hI',hz0⟩,by show L.length - (i + 1) < L.length - i;omega,⟨rfl,rfl,rfl,rfl,rfl,trivial⟩,rfl⟩
        | skip
end Go.Proofs

namespace Go.Proofs
open Go.AL Go.Sort
attribute [local irreducible] Go.AL.W Go.AL.WL Go.AL.WD Go.AL.POp Go.AL.PPOp Go.AL.POpS Go.AL.PC Go.AL.AC Go.AL.YW Go.AL.Ret Go.AL.Le Go.AL.thn Go.AL.inBlk Go.AL.scp
def encV (v : Val) : List Value:=[.int .i64 v.kind,.int .i64 v.n,.string ⟨v.s.toArray⟩]
theorem vC_enc (v : Val) : vC v = (encV v).map .sc:=rfl
theorem vC_len (v : Val) : (vC v).length = 3:=rfl
theorem encV_inj {a b : Val} (h : encV a = encV b) : a = b:=by
  obtain ⟨k,n,s⟩:=a
  obtain ⟨k',n',s'⟩:=b
  simp [encV] at h
  obtain ⟨h1,h2,h3⟩:=h
  subst h1;subst h2;subst h3;rfl
theorem sortV_ac [GlobF Tryz.prog] {h : List AObj} {r : Nat} {l : List Val} {sp : List AV} (hr : h[r]? = some (.cells ((l.map vC).flatten ++ sp))) (hne : 0 < l.length) (hl : l.length < 4611686018427387904) :
    AC Tryz.prog 171 [.mr r 0 l.length,.sc (.func (.func 164) #[] #[])] h (fun v h'=>v = .tu [] ∧ h' = h.set r (.cells (((l.mergeSort fun x y=>!(ltOf cmpV y x)).map vC).flatten ++ sp))) :=
  sort_ac Tryz.laysSV Tryz.isAgg46 Tryz.sizeOf46 encV vC vC_enc (fun _=>rfl) (fun x v hv=>by simp [encV] at hv;rcases hv with rfl|rfl|rfl <;> rfl) cmpV wc_cmpV.swo (ltOf_tot wc_cmpV cmpV_zz) 164 [] _
    (fun G v hv=>⟨[],by rw [conc_sc hv],.nil _⟩) (fun x y=>compare_pc x y) hr hne hl
set_option maxHeartbeats 4000000 in
theorem cloneV_ac [GlobF Tryz.prog] {h : List AObj} {tok : Option Nat} (l : List Val) (hne : 0 < l.length) (hl : l.length < 1099511627776) :
    AC Tryz.prog 170 [.sl tok 3 (l.map vC)] h (fun v h'=>∃ sp,v = .mr (h.length + 1) 0 l.length ∧ h' = h ++ [.dead,.cells ((l.map vC).flatten ++ sp)]):=by
  have hnn : l.map vC ≠ []:=by cases l with|nil=>simp at hne|cons a l=>simp
  refine AC.of_body Tryz.func170 Tryz.ntmps170 rfl rfl rfl ?_
  repeat' first
 | (refine m_slnil rfl rfl ?_;rintro b hb)
 | refine m_lit (d:=5) rfl rfl rfl rfl rfl rfl ?_
 | (refine m_appR (d:=7) rfl rfl get_last hnn rfl (by rw [List.length_map];omega) (by rw [List.length_map];omega) rfl ?_;intro sp)
 | (apply p1 (hd:=rfl);case hop=>first|(apply D_move;rfl)|(apply D_assign;rfl))
 | refine W_seq ?_
 | refine W_region ?_
 | (refine idC ?_;refine cs rfl (fun _=>?_) (fun _=>?_))
 | refine WL_nil ?_
 | refine tn ?_
 | refine tr ?_
 | refine W_skip ?_
 | (refine W_ret ?_)
  · rename_i hb'
    first
      | exact absurd (hb hb') hnn
      | exact absurd (hb rfl) hnn
  · exact retK1 (.inl rfl) rfl rfl (ResO.tmp rfl) ⟨sp,by simp,by simp⟩
attribute [local irreducible] compL in
set_option maxHeartbeats 16000000 in
theorem compactV_ac [GlobF Tryz.prog] {h : List AObj} {r : Nat} {l : List Val} {sp : List AV} (hr : h[r]? = some (.cells ((l.map vC).flatten ++ sp))) (hl : l.length < 1099511627776) :
    AC Tryz.prog 172 [.mr r 0 l.length] h (fun v h'=>∃ sp',v = .mr r 0 (compL l).length ∧ h' = h.set r (.cells (((compL l).map vC).flatten ++ sp'))):=by
  refine AC.of_body Tryz.func172 Tryz.ntmps172 rfl rfl rfl ?_
  repeat' first
 | (apply p1 (hd:=rfl);case hop=>first|(apply D_move;rfl)|(apply D_assign;rfl)|(apply D_int;rfl;rfl;rfl)|(apply D_lenR;rfl))
 | refine W_seq ?_
 | refine W_region ?_
 | (refine idC ?_;refine cs rfl (fun _=>?_) (fun _=>?_))
 | refine WL_nil ?_
 | refine tn ?_
 | refine tr ?_
 | refine W_skip ?_
 | refine W_block ?_
 | (refine W_ret ?_)
  · rename_i h1
    have e : compL l = l:=by
      match l,h1 with
      | [],_=>unfold compL;rfl
      | [x],_=>unfold compL;rfl
      | _ :: _ :: _,h1=>simp at h1;omega
    exact retK1 (.inl rfl) rfl rfl (ResO.tmp rfl) ⟨sp,by rw [e],by rw [e];exact (set_self hr).symm⟩
  rename_i h1
  refine W_loopL (X:=Nat) (fun j=>[(0,.mr r 0 l.length),(3,.sc (.int .i64 ((j + 1 : Nat) : Int)))]) (fun _=>h)
    (fun j=>j + 1 ≤ l.length ∧ compL (l.take (j + 1)) = l.take (j + 1)) (fun j=>l.length - j) 0 ⟨by omega,by
      match l,h1 with
      | x :: t,_=>unfold compL;rfl⟩ ⟨rfl,rfl,trivial⟩ rfl ?_
  rintro j ⟨hj,hcj⟩
  repeat' first
 | (apply p1 (hd:=rfl);case hop=>first|(apply D_move;rfl)|(apply D_assign;rfl)|(apply D_int;rfl;rfl;rfl)|(apply D_lenR;rfl))
 | refine W_seq ?_
 | refine W_region ?_
 | (refine idC ?_;refine cs rfl (fun _=>?_) (fun _=>?_))
 | refine WL_nil ?_
 | refine tn ?_
 | refine te ?_
 | (refine idB ?_;refine bh rfl ?_)
 | refine W_skip ?_
 | refine W_block ?_
 | refine W_exit ?_
 | refine W_ret ?_
 | (refine idW ?_;refine W_draw0 rfl ?_)
 | (apply d1 (hd:=rfl);case hop=>first|(apply D_move;rfl)|(apply D_ixRn;rfl;rfl;(first|omega|(simp;done))))
 | (fail)
  · have hi1 : j + 1 < l.length:=by omega
    have hi0 : j < l.length:=by omega
    have he1 : 0 + (j + 1) * 3 = (j + 1) * 3:=Nat.zero_add _
    have he0 : 0 + j * 3 = j * 3:=Nat.zero_add _
    have hct:=compL_take l j hi1
    repeat' first
 | (refine dL (d:=19) _ (fun _ hs=>D_loadRA (i:=j + 1) rfl (hs.trans hr) vC_len hi1 he1) rfl ?_)
 | (refine dL (d:=24) _ (fun _ hs=>D_loadRA (i:=j) rfl (hs.trans hr) vC_len hi0 he0) rfl ?_)
 | (apply p1 (hd:=rfl);case hop=>first|(apply D_move;rfl)|(apply D_assign;rfl)|(apply D_add1;rfl;rfl;omega)|(apply D_slRl;rfl;rfl;all_goals first|omega|((repeat rw [w64 _ (by omega) (by omega)]);omega)|decide))
 | refine W_seq ?_
 | refine W_region ?_
 | (refine idC ?_;refine cs rfl (fun _=>?_) (fun _=>?_))
 | refine WL_nil ?_
 | refine tn ?_
 | refine bn ?_
 | refine W_skip ?_
 | refine W_block ?_
 | (apply d1 (hd:=rfl);case hop=>first|(apply D_move;rfl)|(apply D_sub1;rfl;rfl;omega)|(apply D_ixRn;rfl;rfl;(first|omega|(simp;done)))|exact D_eqA rfl rfl rfl rfl rfl rfl rfl)
 | (refine WD_nil (by first|decide +kernel|kernel_rfl|rfl) ?_)
    · rename_i heq
      have hxy : l[j + 1] = l[j]:=encV_inj heq
      rw [if_pos hxy.symm,List.append_nil,hcj] at hct
      refine W_loopL (X:=Nat × Nat × List Val) (fun x=>[(0,.mr r 0 l.length),(3,.sc (.int .i64 (x.1 : Int))),(4,.mr r (0 + (j + 1) * 3) (l.length - (j + 1))),(5,.sc (.int .i64 ((x.2.1 + 1 : Nat) : Int)))]) (fun x=>h.set r (.cells ((x.2.2.map vC).flatten ++ sp)))
        (fun x=>j + 1 + x.2.1 + 1 ≤ l.length ∧ x.2.2.length = l.length ∧ x.1 ≤ j + 1 + x.2.1 ∧ compL (l.take (j + 1 + x.2.1 + 1)) = x.2.2.take x.1 ∧ x.2.2.drop (j + 1 + x.2.1) = l.drop (j + 1 + x.2.1)) (fun x=>l.length - x.2.1) (j + 1,0,l) ⟨by dsimp only;omega,rfl,by dsimp only;omega,hct,rfl⟩ ⟨rfl,rfl,rfl,rfl,trivial⟩ (set_self hr) ?_
      rintro ⟨k,q,R⟩ ⟨g1,g2,g3,g4,g5⟩
      dsimp only at g1 g2 g3 g4 g5 ⊢
      have hr2 : (h.set r (.cells ((R.map vC).flatten ++ sp)))[r]? = some (.cells ((R.map vC).flatten ++ sp)):=get_set hr
      repeat' first
 | (apply p1 (hd:=rfl);case hop=>first|(apply D_move;rfl)|(apply D_int;rfl;rfl;rfl)|(apply D_lenR;rfl)|(apply D_slRl;rfl;rfl;all_goals first|omega|((repeat rw [w64 _ (by omega) (by omega)]);omega)|decide))
 | refine W_seq ?_
 | refine W_region ?_
 | (refine idC ?_;refine cs rfl (fun _=>?_) (fun _=>?_))
 | refine WL_nil ?_
 | refine tn ?_
 | refine te ?_
 | (refine idB ?_;refine bh rfl ?_)
 | refine W_skip ?_
 | refine W_block ?_
 | refine W_exit ?_
 | (refine idW ?_;refine W_draw0 rfl ?_)
 | (apply d1 (hd:=rfl);case hop=>first|(apply D_move;rfl)|(apply D_ixRn;rfl;rfl;(first|omega|(simp;done))))
 | (fail)
      · have hq1 : j + 1 + q + 1 < R.length:=by omega
        have hq0 : j + 1 + q < R.length:=by omega
        have hkR : k < R.length:=by omega
        have he1 : 0 + (j + 1) * 3 + (q + 1) * 3 = (j + 1 + q + 1) * 3:=by omega
        have he0 : 0 + (j + 1) * 3 + q * 3 = (j + 1 + q) * 3:=by omega
        have hek : 0 + k * 3 = k * 3:=Nat.zero_add _
        have hR1 : R[j + 1 + q + 1] = l[j + 1 + q + 1]'(by omega):=by
          have:=congrArg (·[1]?) g5
          simp only [List.getElem?_drop] at this
          rw [List.getElem?_eq_getElem hq1,List.getElem?_eq_getElem (by omega)] at this
          exact Option.some.inj this
        have hR0 : R[j + 1 + q] = l[j + 1 + q]'(by omega):=by
          have:=congrArg (·[0]?) g5
          simp only [List.getElem?_drop,Nat.add_zero] at this
          rw [List.getElem?_eq_getElem hq0,List.getElem?_eq_getElem (by omega)] at this
          exact Option.some.inj this
        have hct2:=compL_take l (j + 1 + q) (by omega)
        repeat' first
 | (refine dL (d:=38) _ (fun _ hs=>D_loadRA (i:=j + 1 + q + 1) rfl (hs.trans hr2) vC_len hq1 he1) rfl ?_)
 | (refine dL (d:=43) _ (fun _ hs=>D_loadRA (i:=j + 1 + q) rfl (hs.trans hr2) vC_len hq0 he0) rfl ?_)
 | (refine p1L (d:=50) (D_loadRA (i:=j + 1 + q + 1) rfl hr2 vC_len hq1 he1) rfl ?_)
 | (refine pS (S_storeR (i:=k) (a:=R[j + 1 + q + 1]) rfl rfl hr2 vC_len rfl hkR hek) ?_)
 | (apply p1 (hd:=rfl);case hop=>first|(apply D_move;rfl)|(apply D_assign;rfl)|(apply D_add1;rfl;rfl;omega)|(apply D_ixRn;rfl;rfl;(first|omega|(simp;done))))
 | refine W_seq ?_
 | refine W_region ?_
 | (refine idC ?_;refine cs rfl (fun _=>?_) (fun _=>?_))
 | refine WL_nil ?_
 | refine tn ?_
 | refine bn ?_
 | refine W_skip ?_
 | (apply d1 (hd:=rfl);case hop=>first|(apply D_move;rfl)|(apply D_sub1;rfl;rfl;omega)|(apply D_ixRn;rfl;rfl;(first|omega|(simp;done)))|exact D_neA rfl rfl rfl rfl rfl rfl rfl)
 | (refine WD_nil (by first|decide +kernel|kernel_rfl|rfl) ?_)
        · rename_i hne
          have hxy : l[j + 1 + q]'(by omega) ≠ l[j + 1 + q + 1]'(by omega):=fun e=>hne (by rw [hR1,hR0,e])
          rw [if_neg hxy,g4] at hct2
          refine ⟨rfl,(k + 1,q + 1,R.set k R[j + 1 + q + 1]),⟨by dsimp only;omega,by simp [g2],by dsimp only;omega,?_,?_⟩,by dsimp only;omega,⟨rfl,rfl,rfl,rfl,trivial⟩,by rw [List.set_set]⟩
          · dsimp only
            rw [show j + 1 + (q + 1) + 1 = j + 1 + q + 2 by omega,hct2,List.take_succ_eq_append_getElem (by simpa using hkR),List.take_set_of_le (Nat.le_refl _),List.getElem_set_self,hR1]
          · dsimp only
            rw [List.drop_set_of_lt (by omega),show j + 1 + (q + 1) = (j + 1 + q) + 1 by omega,← List.drop_drop,g5,List.drop_drop]
        · rename_i heq
          have hxy : l[j + 1 + q]'(by omega) = l[j + 1 + q + 1]'(by omega):=by rw [← hR1,← hR0];exact (encV_inj heq).symm
          rw [if_pos hxy,List.append_nil,g4] at hct2
          refine ⟨rfl,(k,q + 1,R),⟨by dsimp only;omega,g2,by dsimp only;omega,?_,?_⟩,by dsimp only;omega,⟨rfl,rfl,rfl,rfl,trivial⟩,rfl⟩
          · dsimp only
            rw [show j + 1 + (q + 1) + 1 = j + 1 + q + 2 by omega,hct2]
          · dsimp only
            rw [show j + 1 + (q + 1) = (j + 1 + q) + 1 by omega,← List.drop_drop,g5,List.drop_drop]
      · have hend : j + 1 + q + 1 = l.length:=by omega
        rw [hend,List.take_length] at g4
        have hkl : k ≤ R.length:=by omega
        have hlen : (compL l).length = k:=by rw [g4,List.length_take];omega
        have hcl:=row_len (l:=R) (f:=vC) (k:=3) vC_len sp
        repeat' first
 | (refine pS (S_clear (k:=3) rfl hr2 rfl (by decide) ?_) ?_;focus (rw [hcl];have:=Nat.mul_le_mul_right 3 hkl;omega))
 | (apply p1 (hd:=rfl);case hop=>first|(apply D_move;rfl)|(apply D_assign;rfl)|(apply D_slRh;rfl;rfl;all_goals first|omega|((repeat rw [w64 _ (by omega) (by omega)]);omega)|decide))
 | refine W_seq ?_
 | refine W_region ?_
 | refine WL_nil ?_
 | refine tn ?_
 | refine tr ?_
 | refine br ?_
 | (refine W_ret ?_)
        refine retK1 (.inl rfl) rfl rfl (ResO.tmp rfl) ⟨?_,?_,?_⟩
        rotate_left 1
        · rw [hlen];rfl
        rw [List.set_set]
        refine congrArg (fun x=>h.set r (AObj.cells x)) ?_
        rw [List.append_assoc]
        refine congrArg (fun x : List AV=>x ++ _) ?_
        show ((R.map vC).flatten ++ sp).take (0 + k * 3) = _
        rw [Nat.zero_add,row_take vC_len sp k hkl,g4]
    · rename_i hne
      have hxy : l[j] ≠ l[j + 1]:=fun e=>hne (by rw [e])
      rw [if_neg hxy,hcj] at hct
      refine ⟨rfl,j + 1,⟨by omega,?_⟩,by omega,⟨rfl,rfl,trivial⟩,rfl⟩
      rw [show j + 1 + 1 = j + 2 by omega,hct]
      exact (List.take_succ_eq_append_getElem hi1).symm
  · have hend : j + 1 = l.length:=by omega
    rw [hend,List.take_length] at hcj
    exact retK1 (.inl rfl) rfl rfl (ResO.tmp rfl) ⟨sp,by rw [hcj],by rw [hcj];exact (set_self hr).symm⟩
theorem compactV_ac' [GlobF Tryz.prog] {h : List AObj} {r n : Nat} {l : List Val} {sp : List AV} (hn : l.length = n) (hr : h[r]? = some (.cells ((l.map vC).flatten ++ sp))) (hl : l.length < 1099511627776) :
    AC Tryz.prog 172 [.mr r 0 n] h (fun v h'=>∃ sp',v = .mr r 0 (compL l).length ∧ h' = h.set r (.cells (((compL l).map vC).flatten ++ sp'))):=by
  subst hn;exact compactV_ac hr hl
theorem vC_row {l : List Val} : ∀ e,e ∈ l.map vC → e.length = 3:=fun e he=>by obtain ⟨a,_,rfl⟩:=List.mem_map.1 he;rfl
theorem sortV0_pc [GlobF Tryz.prog] : PC Tryz.prog 171 [.sl none 3 [],.sc (.func (.func 164) #[] #[])] (.tu []):=sort_none_pc Tryz.laysSV 3 _
set_option maxHeartbeats 4000000 in
theorem cloneV0_pc [GlobF Tryz.prog] : PC Tryz.prog 170 [.sl none 3 []] (.sl none 3 []):=by
  refine PC.of_body Tryz.func170 Tryz.ntmps170 rfl rfl rfl ?_
  repeat' first
 | (refine m_slnil rfl rfl ?_;rintro b hb)
 | refine m_lit (d:=5) rfl rfl rfl rfl rfl rfl ?_
 | (apply p1 (hd:=rfl);case hop=>first|(apply D_move;rfl)|(apply D_assign;rfl))
 | refine W_seq ?_
 | refine W_region ?_
 | (refine idC ?_;refine cs rfl (fun _=>?_) (fun _=>?_))
 | refine WL_nil ?_
 | refine tn ?_
 | refine tr ?_
 | refine W_skip ?_
 | refine W_ret ?_
 | (refine idR ?_;refine ret1 rfl rfl rfl ?_)
 | (refine idAp ?_;refine m_app rfl rfl (by first|rfl|assumption|exact get_set (by assumption)|exact get_set (get_set (by assumption))|exact get_set (get_set (get_set (by assumption)))|((repeat first|assumption|exact get_last|(refine get_last2 ?_;focus (simp;done))|apply get_set|apply get_app|(apply get_ne;focus omega));done)) ?_ rfl rfl ?_ ?_ rfl ?_;(first|rfl|focus (simp only [List.length_map,List.length_append,List.length_cons,List.length_nil];omega)|focus (simp;done)|focus (simp;omega));(first|focus (simp only [List.length_map,List.length_append,List.length_cons,List.length_nil];omega)|focus (simp;done)|focus (simp;omega));(first|focus (simp only [List.length_map,List.length_append,List.length_cons,List.length_nil];omega)|focus (simp;done)|focus (simp;omega)))
  all_goals first
    | exact Le.nil rfl
    | exact Le.tokq rfl
set_option maxHeartbeats 4000000 in
theorem compactV0_pc [GlobF Tryz.prog] : PC Tryz.prog 172 [.sl none 3 []] (.sl none 3 []):=by
  refine PC.of_body Tryz.func172 Tryz.ntmps172 rfl rfl rfl ?_
  repeat' first
 | (apply p1 (hd:=rfl);case hop=>first|(apply D_move;rfl)|(apply D_assign;rfl)|(apply D_int;rfl;rfl;rfl)|(apply D_len_sl;rfl))
 | refine W_seq ?_
 | refine W_region ?_
 | (refine idC ?_;refine cs rfl (fun _=>?_) (fun _=>?_))
 | refine WL_nil ?_
 | refine tn ?_
 | refine tr ?_
 | refine W_skip ?_
 | refine W_block ?_
 | refine W_ret ?_
 | (refine idR ?_;refine ret1 rfl rfl rfl ?_)
  all_goals first
    | exact Le.of_eq rfl
    | (exfalso;rename_i hx;exact absurd hx (by decide))
    | skip
set_option maxHeartbeats 4000000 in
theorem vsort_pc [GlobF Tryz.prog] (l : List Val) (hl : l.length < 1048576) : PC Tryz.prog 122 [.sl none 3 (l.map vC)] (.sl none 3 ((sortC cmpV l).map vC)):=by
  rcases Nat.eq_zero_or_pos l.length with h0|h0
  · have e : l = []:=List.length_eq_zero_iff.1 h0
    subst e
    have e2 : sortC cmpV [] = []:=by have:=sortC_len cmpV [];exact List.length_eq_zero_iff.1 (Nat.le_zero.1 this)
    rw [e2]
    refine PC.of_body Tryz.func122 Tryz.ntmps122 rfl rfl rfl ?_
    repeat' first
 | (apply p1 (hd:=rfl);case hop=>first|(apply D_move;rfl)|(apply D_assign;rfl)|(apply D_pc cloneV0_pc;rfl;exact .same rfl .nil)|(apply D_pc sortV0_pc;rfl;exact .same rfl (.same rfl .nil))|(apply D_pc compactV0_pc;rfl;exact .same rfl .nil))
 | refine W_seq ?_
 | refine W_region ?_
 | refine WL_nil ?_
 | refine tn ?_
 | refine W_ret ?_
 | (refine idR ?_;refine ret1 rfl rfl rfl ?_)
    all_goals exact Le.of_eq rfl
  · have hms : (l.mergeSort fun x y=>!(ltOf cmpV y x)).length = l.length:=List.length_mergeSort l
    refine PC.of_body Tryz.func122 Tryz.ntmps122 rfl rfl rfl ?_
    repeat' first
 | (apply p1 (hd:=rfl);case hop=>first|(apply D_move;rfl)|(apply D_assign;rfl))
 | refine W_seq ?_
 | refine W_region ?_
 | refine WL_nil ?_
 | refine tn ?_
 | refine W_ret ?_
 | (refine idR ?_;refine ret1 rfl rfl rfl ?_)
 | (refine m_call (d:=5) (cloneV_ac l h0 (by omega)) rfl rfl rfl ?_;rintro _ _ ⟨sp,rfl,rfl⟩)
 | (refine m_call (d:=7) (sortV_ac (l:=l) rfl h0 (by omega)) rfl rfl rfl ?_;rintro _ _ ⟨rfl,rfl⟩)
 | (refine m_call (d:=9) (compactV_ac' (l:=l.mergeSort fun x y=>!(ltOf cmpV y x)) hms rfl (by omega)) rfl rfl rfl ?_;rintro _ _ ⟨sp',rfl,rfl⟩;refine WL_frz 9 1 3 (els:=(compL (l.mergeSort fun x y=>!(ltOf cmpV y x))).map vC) (sp:=sp') rfl rfl (by simp) vC_row ?_)
    rw [take_map_len];exact Le.of_eq rfl
theorem insL_mem (l : List Val) (p : Val) : p ∈ insL cmpV l → p ∈ l:=by
  unfold insL
  rw [fold_sortC wc_cmpV cmpV_zz,sortC_mem];exact id
attribute [local irreducible] insL insC in
set_option maxHeartbeats 8000000 in
theorem vsort1_pc [GlobF Tryz.prog] (l : List Val) (hl : l.length < 1048576) (hs : ∀ p,p ∈ l → p.s.length < 9223372036854775808) : PC Tryz.prog 66 [.sl none 3 (l.map vC)] (.sl none 3 ((insL cmpV l).map vC)):=by
  refine PC.of_body Tryz.func66 Tryz.ntmps66 rfl rfl rfl ?_
  repeat' first
 | (apply p1 (hd:=rfl);case hop=>first|(apply D_assign;rfl))
 | refine W_seq ?_
 | refine W_region ?_
 | refine WL_nil ?_
 | refine tn ?_
 | (refine W_block ?_)
  refine W_adopt 3 3 46 rfl ?_
  refine W_ren (rg':=[(0,.sl none 3 (l.map vC)),(3,.sl none 3 (([] : List Val).map vC)),(4,.sc (.int .i64 0))]) (h':=[]) [] ⟨by decide,fun r hr=>absurd hr (Nat.not_lt_zero r),fun r hr=>(by cases hr),⟨⟨_,rfl,.pur⟩,⟨_,rfl,.slN⟩,⟨_,rfl,.pur⟩,trivial⟩,trivial⟩ ?_
  refine W_loopR (X:=Nat) (fun i=>[(0,.sl none 3 (l.map vC)),(3,.sl none 3 ((insL cmpV (l.take i)).map vC)),(4,.sc (.int .i64 (i : Int)))]) (fun _=>[])
    (fun i=>i ≤ l.length) (fun i=>l.length - i) 0 (Nat.zero_le _) ⟨rfl,by simp [insL,lookO],rfl,trivial⟩ rfl ?_
  intro i hi
  have hlen:=insL_len cmpV l i hi
  have hsn:=insL_snoc cmpV l i
  have hfin : i = l.length → insL cmpV (l.take i) = insL cmpV l:=fun e=>by rw [e,List.take_length]
  have hOs : ∀ p,p ∈ insL cmpV (l.take i) → p.s.length < 9223372036854775808:=fun p hp=>hs p (List.mem_of_mem_take (insL_mem _ p hp))
  generalize insL cmpV (l.take i) = O at *
  repeat' first
 | (apply p1 (hd:=rfl);case hop=>first|(apply D_move;rfl)|(apply D_assign;rfl)|(apply D_int;rfl;rfl;rfl)|(apply D_lenM;rfl))
 | refine W_seq ?_
 | refine W_region ?_
 | (refine idC ?_;refine cs rfl (fun _=>?_) (fun _=>?_))
 | refine WL_nil ?_
 | refine tn ?_
 | refine te ?_
 | (refine idB ?_;refine bh rfl ?_)
 | refine W_skip ?_
 | refine W_block ?_
 | refine W_exit ?_
 | refine W_ret ?_
 | (refine idR ?_;refine ret1 rfl rfl rfl ?_)
  · rename_i h1
    have hi1 : i < l.length:=by omega
    have hsn:=hsn hi1
    refine W_loopL (X:=Nat) (fun n=>[(0,.sl none 3 (l.map vC)),(3,.sl none 3 (O.map vC)),(4,.sc (.int .i64 (i : Int))),(5,.sc (.int .i64 (n : Int)))]) (fun _=>[])
      (fun n=>n ≤ O.length ∧ ∀ (j : Nat) (h : j < O.length),j < n → cmpV O[j] l[i] < 0) (fun n=>O.length - n) 0 ⟨Nat.zero_le _,fun j h hj=>absurd hj (Nat.not_lt_zero j)⟩ ⟨rfl,rfl,rfl,rfl,trivial⟩ rfl ?_
    rintro n ⟨hn,hz⟩
    have hat:=insC_at (c:=cmpV) l[i] n O hn hz
    repeat' first
 | (refine W_adopt 6 3 46 rfl ?_)
 | (apply p1 (hd:=rfl);case hop=>first|(apply D_move;rfl)|(apply D_assign;rfl)|(apply D_int;rfl;rfl;rfl)|(apply D_loadW;rfl;rfl)|(apply D_idxAn;rfl;rfl;(first|omega|(simp;done)))|(apply D_lit;rfl;rfl;rfl;rfl)|(apply D_slVhM;rfl;rfl;all_goals first|omega|((repeat rw [w64 _ (by omega) (by omega)]);omega)|decide)|(apply D_slVlM;rfl;rfl;all_goals first|omega|((repeat rw [w64 _ (by omega) (by omega)]);omega)|decide))
 | refine W_seq ?_
 | refine W_region ?_
 | (refine idC ?_;first|refine c0 rfl ?_|refine cs rfl (fun _=>?_) (fun _=>?_))
 | refine WL_nil ?_
 | refine tn ?_
 | refine bn ?_
 | refine te ?_
 | (refine idB ?_;refine bh rfl ?_)
 | refine W_skip ?_
 | refine W_block ?_
 | refine W_exit ?_
 | (refine idAp ?_;refine m_app rfl rfl (by first|rfl|assumption|exact get_set (by assumption)|exact get_set (get_set (by assumption))|exact get_set (get_set (get_set (by assumption)))|((repeat first|assumption|exact get_last|(refine get_last2 ?_;focus (simp;done))|apply get_set|apply get_app|(apply get_ne;focus omega));done)) ?_ rfl rfl ?_ ?_ rfl ?_;(first|rfl|focus (simp only [List.length_map,List.length_append,List.length_cons,List.length_nil,List.length_take,List.length_drop];omega)|focus (simp;done)|focus (simp;omega));(first|focus (simp only [List.length_map,List.length_append,List.length_cons,List.length_nil,List.length_take,List.length_drop];omega)|focus (simp;done)|focus (simp;omega));(first|focus (simp only [List.length_map,List.length_append,List.length_cons,List.length_nil,List.length_take,List.length_drop];omega)|focus (simp;done)|focus (simp;omega)))
 | (refine idW ?_;refine W_draw0 rfl ?_)
 | (apply d1 (hd:=rfl);case hop=>first|(apply D_move;rfl)|(apply D_pc (compare1_pc _ _ (hOs _ (List.getElem_mem _)));rfl;exact .same rfl (.same rfl .nil))|(apply D_pickT;rfl;rfl)|(apply D_pickF;rfl;rfl)|(apply D_int;rfl;rfl;rfl)|(apply D_lenM;rfl)|(apply D_loadW;rfl;rfl)|(apply D_idxAn;rfl;rfl;(first|omega|(simp;done))))
 | (refine idDg ?_;first|refine dg0t rfl rfl rfl ?_|refine dgr rfl rfl ?_|refine dgs rfl rfl (fun _=>?_) (fun _=>?_))
 | (refine WD_nil (by first|decide +kernel|kernel_rfl|rfl) ?_)
    all_goals first
      | (have hx : cmpV O[n] l[i] < 0:=by assumption
         refine ⟨rfl,n + 1,⟨by omega,fun j h hj=>?_⟩,by omega,⟨rfl,rfl,rfl,ieq (wsucc n (by omega)),trivial⟩,rfl⟩
         by_cases e : j = n
         · subst e;exact hx
         · exact hz j h (by omega))
      | (exfalso;omega)
      | (have hx : cmpV O[n] l[i] = 0:=by assumption
         have hnl : n < O.length:=by omega
         have e:=(hat.1 hnl (by omega)).1 hx
         refine ⟨rfl,i + 1,by omega,by omega,[],?_⟩
         refine ⟨by decide,fun r hr=>absurd hr (Nat.not_lt_zero r),fun r hr=>(by cases hr),⟨⟨_,rfl,.pur⟩,⟨_,rfl,?_⟩,⟨_,rfl,?_⟩,trivial⟩,trivial⟩
         · rw [hsn,e];exact .slN
         · rw [wsucc i (by omega)];exact .pur)
      | (have hx : cmpV O[n] l[i] ≠ 0:=by assumption
         have hnl : n < O.length:=by omega
         have e:=(hat.1 hnl (by omega)).2 hx
         refine ⟨rfl,i + 1,by omega,by omega,[],?_⟩
         refine ⟨by decide,fun r hr=>absurd hr (Nat.not_lt_zero r),fun r hr=>(by cases hr),⟨⟨_,rfl,.pur⟩,⟨_,rfl,?_⟩,⟨_,rfl,?_⟩,trivial⟩,trivial⟩
         · have e2 : (insL cmpV (l.take (i + 1))).map vC = [] ++ (O.take (n : Int).toNat).map vC ++ [vC l[i]] ++ (O.drop (n : Int).toNat).map vC:=by rw [hsn,e];simp
           rw [e2];exact .slN
         · rw [wsucc i (by omega)];exact .pur)
      | (have hnl : n = O.length:=by omega
         have e:=hat.2 hnl
         refine ⟨rfl,i + 1,by omega,by omega,[],?_⟩
         refine ⟨by decide,fun r hr=>absurd hr (Nat.not_lt_zero r),fun r hr=>(by cases hr),⟨⟨_,rfl,.pur⟩,⟨_,rfl,?_⟩,⟨_,rfl,?_⟩,trivial⟩,trivial⟩
         · have e2 : (insL cmpV (l.take (i + 1))).map vC = [] ++ (O.take (n : Int).toNat).map vC ++ [vC l[i]] ++ (O.drop (n : Int).toNat).map vC:=by rw [hsn,e,hnl];simp
           rw [e2];exact .slN
         · rw [wsucc i (by omega)];exact .pur)
  · rw [← hfin (by omega)]
    exact Le.of_eq rfl
end Go.Proofs
