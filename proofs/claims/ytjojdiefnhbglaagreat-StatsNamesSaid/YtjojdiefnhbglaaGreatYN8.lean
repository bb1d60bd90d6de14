/- The statement StatsSums: what the code does. -/
import Derived.Test.YtjojdiefnhbglaaGreatYN5
import Derived.Test.YtjojdiefnhbglaaGreatYS5
import Derived.Test.YtjojdiefnhbglaaGreatOps40
set_option linter.all false
namespace Go.Proofs
open Go.AL Go.Sort
attribute [local irreducible] Go.AL.W Go.AL.WL Go.AL.WD Go.AL.POp Go.AL.PPOp Go.AL.POpS Go.AL.PC Go.AL.AC Go.AL.YW Go.AL.Ret Go.AL.Le Go.AL.thn Go.AL.inBlk Go.AL.scp
instance : EqF Tryz.prog 85 [.i .i64,.i .i64,.i .i64,.i .i64,.i .i64,.i .i64,.i .i64,.i .i64] 2:=eqf_arr (n:=8) (l:=.i .i64) Tryz.underlying85 (by kernel_rfl) (by kernel_rfl) Tryz.isAgg85 Tryz.sizeOf85 inferInstance
instance : EqG Tryz.prog 85:=⟨by kernel_rfl⟩
theorem bytP_ok {l : List Dat} (ha : allD l) (hl : l.length ≤ 1000) : bytP 1 l = ((kLen 1 (dsortL 1 l) : Nat) : Int) ∧ kLen 1 (dsortL 1 l) ≤ 3000000:=by
  have h1 : kLen 1 (dsortL 1 l) ≤ 3000 * (dsortL 1 l).length:=kLen_bnd _ fun d hd=>ha d ((dsort_mem (by decide) l d).1 hd).1
  have h2:=dsortL_len 1 l
  refine ⟨?_,by omega⟩
  unfold bytP
  rw [if_pos (by decide)]
  unfold sortS
  rw [← dP_T ha,if_pos rfl]
  unfold wr64
  exact w64 _ (by omega) (by omega)
theorem bytE_ok {l : List Dat} (ha : allD l) : bytE 1 l = 0:=by unfold bytE;rw [if_pos (by decide),← dP_T ha];rfl
theorem bytE_no {l : List Dat} (ha : ¬ allD l) : bytE 1 l = 40:=by unfold bytE;rw [if_pos (by decide),← dP_F ha];rfl
def suT (l : List Txn) (i : Nat) : Int:=((l.take i).map fun p=>p.ad + p.cu).sum
def suA (l : List Txn) (i : Nat) : Int:=((l.take i).map Txn.ad).sum
theorem suT_succ (l : List Txn) (i : Nat) (h : i < l.length) : suT l (i + 1) = suT l i + l[i].ad + l[i].cu ∧ suA l (i + 1) = suA l i + l[i].ad:=by
  unfold suT suA
  rw [List.take_succ_eq_append_getElem h]
  simp only [List.map_append,List.sum_append,List.map_cons,List.map_nil,List.sum_cons,List.sum_nil]
  constructor <;> omega
def suN (l : List Att) (i : Nat) : Int:=((l.take i).map Att.n).sum
def suD (l : List Att) (i : Nat) : Int:=((l.take i).map Att.ad).sum
theorem suN_succ (l : List Att) (i : Nat) (h : i < l.length) : suN l (i + 1) = suN l i + l[i].n ∧ suD l (i + 1) = suD l i + l[i].ad:=by
  unfold suN suD
  rw [List.take_succ_eq_append_getElem h]
  simp only [List.map_append,List.sum_append,List.map_cons,List.map_nil,List.sum_cons,List.sum_nil]
  constructor <;> omega
theorem wr64_sub (a b : Int) : IntKind.i64.wrap (wr64 a - b) = wr64 (a - b):=by
  unfold wr64;rw [IntKind.wrap_i64,IntKind.wrap_i64,IntKind.wrap_i64];omega
theorem wr64_id {a : Int} (h1 : -9223372036854775808 ≤ a) (h2 : a < 9223372036854775808) : wr64 a = a:=w64 _ (by omega) (by omega)
theorem kap (V : List Int) (v0 v1 v2 v3 v4 v5 v6 v7 : Int) (h : V = [v0,v1,v2,v3,v4,v5,v6,v7]) : IntKind.i64.wrap (IntKind.i64.wrap (IntKind.i64.wrap (IntKind.i64.wrap (IntKind.i64.wrap (IntKind.i64.wrap (IntKind.i64.wrap (IntKind.i64.wrap (0 + v0) + v1) + v2) + v3) + v4) + v5) + v6) + v7) = wr64 V.sum:=by
  subst h
  have e : ∀ a : Int,IntKind.i64.wrap a = wr64 a:=fun _=>rfl
  simp only [List.sum_cons,List.sum_nil]
  rw [show IntKind.i64.wrap (0 + v0) = wr64 v0 by rw [e,Int.zero_add]]
  simp only [wr64_add]
  congr 1;omega
set_option maxHeartbeats 64000000 in
theorem statsSums_pc [GlobF Tryz.prog] (l m : List Dat) (hl : l.length < 9223372036854775808) (hm : m.length < 9223372036854775808) (hs : ∀ d,d ∈ l → d.v.s.length < 9223372036854775808) (hsm : ∀ d,d ∈ m → d.v.s.length < 9223372036854775808) (hrg : rgD l) :
    PC Tryz.prog 8 [sl9 l,sl9 m] (.sc (.bool true)):=by
  have hal:=alive29_pc
  have hg1:=great29_pc l hl
  have hg2:=great29_pc m hm
  by_cases c1 : 200 < l.length ∨ 4000 < grS 0 l
  · rw [← dP_T c1] at hg1
    refine PC.of_body Tryz.func8 Tryz.ntmps8 rfl rfl rfl ?_
    repeat' first
 | (apply p1 (hd:=rfl);case hop=>first|(apply D_move;rfl)|(apply D_assign;rfl)|(apply D_pc hal;rfl;exact .nil)|(apply D_pc hg1;rfl;exact .same rfl .nil)|(apply D_pickT;rfl;rfl))
 | refine W_seq ?_
 | refine W_region ?_
 | (refine idC ?_;refine cs rfl (fun _=>?_) (fun _=>?_))
 | refine WL_nil ?_
 | (refine idG ?_;refine g0f rfl rfl rfl ?_)
 | refine tn ?_
 | refine tr ?_
 | refine W_skip ?_
 | refine W_ret ?_
 | (refine idR ?_;refine ret1 rfl rfl rfl ?_)
 | (refine Le.bool ?_)
    all_goals first|rfl|contradiction|skip
  rw [← dP_F c1] at hg1
  by_cases c2 : 200 < m.length ∨ 4000 < grS 0 m
  · rw [← dP_T c2] at hg2
    refine PC.of_body Tryz.func8 Tryz.ntmps8 rfl rfl rfl ?_
    repeat' first
 | (apply p1 (hd:=rfl);case hop=>first|(apply D_move;rfl)|(apply D_assign;rfl)|(apply D_pc hal;rfl;exact .nil)|(apply D_pc hg1;rfl;exact .same rfl .nil)|(apply D_pc hg2;rfl;exact .same rfl .nil)|(apply D_pickT;rfl;rfl)|(apply D_pickF;rfl;rfl))
 | refine W_seq ?_
 | refine W_region ?_
 | (refine idC ?_;refine cs rfl (fun _=>?_) (fun _=>?_))
 | refine WL_nil ?_
 | (refine idG ?_;first|refine g0f rfl rfl rfl ?_|refine gr rfl rfl ?_)
 | refine tn ?_
 | refine tr ?_
 | refine W_skip ?_
 | refine W_ret ?_
 | (refine idR ?_;refine ret1 rfl rfl rfl ?_)
 | (refine Le.bool ?_)
    all_goals first|rfl|contradiction|skip
  rw [← dP_F c2] at hg2
  have hl2 : l.length ≤ 200:=Nat.le_of_not_lt fun h=>c1 (.inl h)
  have hm2 : m.length ≤ 200:=Nat.le_of_not_lt fun h=>c2 (.inl h)
  have hat:=attrs_pc l (by omega) hs hrg
  have htx:=txs_pc l (by omega) hs
  have hkd:=kinds_pc l (by omega) hs
  have hfl:=(foldR_len l).1
  by_cases ha : allD l
  rotate_left 1
  · have hE : attsE l = 40:=by unfold attsE;rw [← dP_F ha];rfl
    rw [← dP_F ha] at htx hkd
    rw [hE] at hat
    unfold sortS at hkd
    rw [← dP_F ha] at hkd
    rw [if_neg (by decide)] at htx hkd
    rw [if_neg (by decide)] at htx hkd
    have hkk : kindsL [] = [0,0,0,0,0,0,0,0]:=rfl
    rw [hkk] at hkd
    have h0 : Value.bool (iEq 0 0) = .bool true:=by rw [(iEq_t _ _).mpr rfl]
    refine PC.of_body Tryz.func8 Tryz.ntmps8 rfl rfl rfl ?_
    repeat' first
 | (apply p1 (hd:=rfl);case hop=>first|(apply D_move;rfl)|(apply D_assign;rfl)|(apply D_pc hal;rfl;exact .nil)|(apply D_pc hg1;rfl;exact .same rfl .nil)|(apply D_pc hg2;rfl;exact .same rfl .nil)|(apply D_pc hat;rfl;exact .same rfl .nil)|(apply D_pc htx;rfl;exact .same rfl .nil)|(apply D_pc hkd;rfl;exact .same rfl .nil)|(apply D_pickT;rfl;rfl)|(apply D_pickF;rfl;rfl)|(apply D_int;rfl;rfl;rfl)|(apply D_lenM;rfl)|(apply D_ext;rfl;rfl)|(apply D_not;rfl)|(apply D_loadW;rfl;rfl)|exact D_buildA rfl|exact D_eqA rfl rfl rfl rfl rfl rfl rfl)
 | refine W_seq ?_
 | refine W_region ?_
 | (refine idC ?_;refine cs rfl (fun _=>?_) (fun _=>?_))
 | refine WL_nil ?_
 | (refine idG ?_;first|refine g0t rfl rfl rfl ?_|refine g0f rfl rfl rfl ?_|refine gr rfl rfl ?_|refine gs rfl rfl (fun _=>?_) (fun _=>?_))
 | refine tn ?_
 | refine tr ?_
 | refine W_skip ?_
 | refine W_ret ?_
 | (refine idR ?_;refine ret1 rfl rfl rfl ?_)
 | (refine idA ?_;refine m_var rfl rfl rfl rfl rfl rfl rfl ?_)
 | (refine Le.bool ?_)
    all_goals first|rfl|contradiction|(exact (lEq_t _ _).mpr rfl)|skip
  rw [← dP_T ha] at htx hkd
  rw [if_pos rfl,if_pos rfl] at htx
  rw [if_pos rfl] at hkd
  unfold sortS at hkd
  rw [← dP_T ha] at hkd
  rw [if_pos rfl] at hkd
  have hds:=dsort_pc 1 l (by omega)
  have hdm:=dsort_pc 1 m (by omega)
  have hdb:=dsort_pc 1 (l ++ m) (by rw [List.length_append];omega)
  have hb1:=bytes_pc 1 l (by omega) hs
  have hb2:=bytes_pc 1 m (by omega) hsm
  have hb3:=bytes_pc 1 (l ++ m) (by rw [List.length_append];omega) (fun d hd=>(List.mem_append.1 hd).elim (hs d) (hsm d))
  obtain ⟨x1,x2⟩:=bytP_ok ha (by omega)
  rw [x1,bytE_ok ha] at hb1
  obtain ⟨s1,s2⟩:=txs_sum _ (dsortL 1 l) rfl
  have hks:=kinds_sum _ (dsortL 1 l) rfl (fun d hd=>kind_rng (ha d ((dsort_mem (by decide) l d).1 hd).1).2.2.2.2.1)
  have hkl:=kinds_len (dsortL 1 l)
  have htl:=(txsL_ok _ (dsortL 1 l) rfl).1
  have hdl:=dsortL_len 1 l
  have hdml:=dsortL_len 1 m
  have hE : attsE l = if (foldR l).isSome then 0 else 60:=by unfold attsE;rw [← dP_T ha];rfl
  have hA : attsE l = 0 → attsL l = attsR (dsortL 1 l) ((foldR l).getD []):=fun h=>by
    unfold attsL
    rw [if_pos h,atts_eq l _ (by omega)]
  obtain ⟨u1,u2⟩:=attrs_sum (dsortL 1 l) ((foldR l).getD [])
  have hAl:=atts_len l ((foldR l).getD [])
  have hby:=bytes_sum l m ha
  have hby2 : allD m → bytP 1 (l ++ m) = ((kLen 1 (dsortL 1 (l ++ m)) : Nat) : Int) ∧ bytE 1 (l ++ m) = 0 ∧ kLen 1 (dsortL 1 (l ++ m)) ≤ 3000000:=fun h=>by
    have hlm : allD (l ++ m):=fun d hd=>(List.mem_append.1 hd).elim (ha d) (h d)
    obtain ⟨y1,y2⟩:=bytP_ok hlm (by rw [List.length_append];omega)
    exact ⟨y1,bytE_ok hlm,y2⟩
  have hbyn : ¬ allD m → bytE 1 (l ++ m) = 40:=fun h=>bytE_no fun e=>h fun d hd=>e d (List.mem_append.2 (.inr hd))
  have hD3:=dsortL_len 1 (l ++ m)
  rw [List.length_append] at hD3
  generalize attsR (dsortL 1 l) ((foldR l).getD []) = R at *
  have hAn : addN (dsortL 1 l) ≤ (dsortL 1 l).length:=List.length_filter_le _ _
  generalize addN (dsortL 1 l) = AD at *
  generalize kindsL (dsortL 1 l) = V at *
  generalize txsL (dsortL 1 l) = T at *
  generalize dsortL 1 l = D1 at *
  obtain ⟨v0,v1,v2,v3,v4,v5,v6,v7,hV⟩:=eight hkl
  have hkap:=kap V v0 v1 v2 v3 v4 v5 v6 v7 hV
  rw [hks,wr64_id (by omega) (by omega)] at hkap
  rw [hV] at hkd
  refine PC.of_body Tryz.func8 Tryz.ntmps8 rfl rfl rfl ?_
  repeat' first
 | (apply p1 (hd:=rfl);case hop=>first|(apply D_move;rfl)|(apply D_assign;rfl)|(apply D_pc hal;rfl;exact .nil)|(apply D_pc hg1;rfl;exact .same rfl .nil)|(apply D_pc hg2;rfl;exact .same rfl .nil)|(apply D_pc hat;rfl;exact .same rfl .nil)|(apply D_pc htx;rfl;exact .same rfl .nil)|(apply D_pc hkd;rfl;exact .same rfl .nil)|(apply D_pc hds;rfl;exact .same rfl (.same rfl .nil))|(apply D_pickT;rfl;rfl)|(apply D_pickF;rfl;rfl)|(apply D_int;rfl;rfl;rfl)|(apply D_lenM;rfl)|(apply D_ext;rfl;rfl)|(apply D_not;rfl)|(apply D_loadW;rfl;rfl)|exact D_buildA rfl|exact D_eqA rfl rfl rfl rfl rfl rfl rfl)
 | refine W_seq ?_
 | refine W_region ?_
 | (refine idC ?_;refine cs rfl (fun _=>?_) (fun _=>?_))
 | refine WL_nil ?_
 | (refine idG ?_;first|refine g0t rfl rfl rfl ?_|refine g0f rfl rfl rfl ?_|refine gr rfl rfl ?_|refine gs rfl rfl (fun _=>?_) (fun _=>?_))
 | refine tn ?_
 | refine tr ?_
 | refine W_skip ?_
 | refine W_block ?_
 | refine W_ret ?_
 | (refine idR ?_;refine ret1 rfl rfl rfl ?_)
 | (refine idA ?_;refine m_var rfl rfl rfl rfl rfl rfl rfl ?_)
 | (refine Le.bool ?_)
  all_goals try contradiction
  refine W_loopL (X:=Nat) (fun i=>[(0,sl9 l),(1,sl9 m),(5,.sc (.bool true)),(6,.sl none 12 ((attsL l).map atC)),(7,.sc (.int .i64 (attsE l))),(8,.sl none 3 (T.map txC)),(10,.ep (kC [v0,v1,v2,v3,v4,v5,v6,v7])),(12,sl9 D1),(13,.sc (.int .i64 (wr64 (suT T i)))),(14,.sc (.int .i64 (wr64 (suA T i)))),(83,.sc (.int .i64 (T.length : Int))),(84,.sc (.int .i64 (i : Int)))]) (fun _=>[])
    (fun i=>i ≤ T.length) (fun i=>T.length - i) 0 (Nat.zero_le _) ⟨rfl,rfl,rfl,rfl,rfl,rfl,rfl,rfl,rfl,rfl,rfl,rfl,trivial⟩ rfl ?_
  intro i hi
  by_cases hil : i < T.length
  · obtain ⟨j1,j2⟩:=suT_succ T i hil
    have f1 : Value.int .i64 (IntKind.i64.wrap (wr64 (suT T i) + (T[i]'hil).ad)) = .int .i64 (wr64 (suT T i + (T[i]'hil).ad)):=by rw [wr64_add]
    have f2 : Value.int .i64 (IntKind.i64.wrap (wr64 (suT T i + (T[i]'hil).ad) + (T[i]'hil).cu)) = .int .i64 (wr64 (suT T (i + 1))):=by rw [wr64_add,j1]
    have f3 : Value.int .i64 (IntKind.i64.wrap (wr64 (suA T i) + (T[i]'hil).ad)) = .int .i64 (wr64 (suA T (i + 1))):=by rw [wr64_add,j2]
    repeat' first
 | (apply p1 (hd:=rfl);case hop=>first|(apply D_move;rfl)|(apply D_assign;rfl)|exact D_sc (D_int rfl rfl rfl) f3|(apply D_load1;rfl)|(apply D_fld;rfl)|(apply D_int;rfl;rfl;rfl)|(apply D_idxAn;rfl;rfl;(first|omega|(simp;done))))
 | refine W_seq ?_
 | refine W_region ?_
 | (refine idC ?_;refine cs rfl (fun _=>?_) (fun _=>?_))
 | refine WL_nil ?_
 | refine tn ?_
 | refine bn ?_
 | refine te ?_
 | (refine idB ?_;refine bh rfl ?_)
 | refine W_skip ?_
 | refine W_block ?_
 | refine W_exit ?_
 | (refine idW ?_;refine W_draw0 rfl ?_)
 | (apply d1 (hd:=rfl);case hop=>first|(apply D_move;rfl)|(apply D_assign;rfl)|exact D_sc (D_int rfl rfl rfl) f1|exact D_sc (D_int rfl rfl rfl) f2|(apply D_load1;rfl)|(apply D_fld;rfl)|(apply D_idxAn;rfl;rfl;(first|omega|(simp;done))))
 | (refine WD_nil (by first|decide +kernel|kernel_rfl|rfl) ?_)
    all_goals first
      | contradiction
      | (exfalso;omega)
      | exact ⟨rfl,i + 1,by omega,by omega,⟨rfl,rfl,rfl,rfl,rfl,rfl,rfl,rfl,rfl,rfl,rfl,ieq (wsucc i (by omega)),trivial⟩,rfl⟩
      | skip
  have ei : i = T.length:=by omega
  subst ei
  have w1 : wr64 (suT T T.length) = (D1.length : Int):=by
    unfold suT;rw [List.take_length,s1,wr64_id (by omega) (by omega)]
  have w2 : wr64 (suA T T.length) = (AD : Int):=by
    unfold suA;rw [List.take_length,s2,wr64_id (by omega) (by omega)]
  rw [w1,w2]
  have hz0 : lookO [(0,AV.sc (.int .i64 (AD : Int)))] 0 = some (.sc (.int .i64 (wr64 ((AD : Int) - suD R 0)))):=by
    have : wr64 ((AD : Int) - suD R 0) = (AD : Int):=by
      have e : suD R 0 = 0:=rfl
      rw [e,Int.sub_zero,wr64_id (by omega) (by omega)]
    rw [this];rfl
  have hn1 : Value.bool (bNot (iEq (D1.length : Int) (D1.length : Int))) = .bool false:=by rw [(iEq_t _ _).mpr rfl];simp [bNot]
  have hn2 : Value.bool (bNot (iEq (IntKind.i64.wrap (IntKind.i64.wrap (IntKind.i64.wrap (IntKind.i64.wrap (IntKind.i64.wrap (IntKind.i64.wrap (IntKind.i64.wrap (IntKind.i64.wrap (0 + v0) + v1) + v2) + v3) + v4) + v5) + v6) + v7)) (D1.length : Int))) = .bool false:=by rw [hkap];exact hn1
  repeat' first
 | (apply p1 (hd:=rfl);case hop=>first|(apply D_move;rfl)|(apply D_assign;rfl)|(apply D_load1;rfl)|(apply D_fld;rfl)|(apply D_int;rfl;rfl;rfl)|(apply D_idxAn;rfl;rfl;(first|omega|(simp;done))))
 | refine W_seq ?_
 | refine W_region ?_
 | (refine idC ?_;refine cs rfl (fun _=>?_) (fun _=>?_))
 | refine WL_nil ?_
 | refine tn ?_
 | refine bn ?_
 | refine te ?_
 | (refine idB ?_;refine bh rfl ?_)
 | refine W_skip ?_
 | refine W_block ?_
 | refine W_exit ?_
 | (refine idW ?_;refine W_draw0 rfl ?_)
 | (apply d1 (hd:=rfl);case hop=>first|(apply D_move;rfl)|(apply D_assign;rfl)|(apply D_load1;rfl)|(apply D_fld;rfl)|(apply D_int;rfl;rfl;rfl)|(apply D_idxAn;rfl;rfl;(first|omega|(simp;done))))
 | (refine WD_nil (by first|decide +kernel|kernel_rfl|rfl) ?_)
  all_goals try (exfalso;omega)
  refine W_rounds 9 ?_
  repeat' first
 | (refine cs rfl ?_ (fun _=>?_);focus (intro h;exfalso;revert h;decide))
 | (apply p1 (hd:=rfl);case hop=>first|(apply D_move;rfl)|(apply D_assign;rfl)|exact D_sc (D_int rfl rfl rfl) hn1|exact D_sc (D_int rfl rfl rfl) hn2|(apply D_load1;rfl)|(apply D_pickF;rfl;rfl)|(apply D_int;rfl;rfl;rfl)|(apply D_lenM;rfl)|(apply D_ixPE;rfl;rfl;all_goals first|omega|((repeat rw [w64 _ (by omega) (by omega)]);omega)|decide))
 | refine W_seq ?_
 | refine W_region ?_
 | (refine idC ?_;refine cs rfl (fun _=>?_) (fun _=>?_))
 | refine WL_nil ?_
 | (refine idG ?_;refine gr rfl rfl ?_)
 | refine tn ?_
 | refine tr ?_
 | refine bn ?_
 | refine te ?_
 | (refine idB ?_;refine bh rfl ?_)
 | refine W_skip ?_
 | refine W_block ?_
 | refine W_exit ?_
 | refine W_ret ?_
 | (refine idR ?_;refine ret1 rfl rfl rfl ?_)
 | (refine Le.bool ?_)
  all_goals try (exfalso;omega)
  all_goals try contradiction
  · rename_i he
    rw [hA he]
    refine W_loopL (X:=Nat) (fun i=>[(0,sl9 l),(1,sl9 m),(5,.sc (.bool true)),(6,.sl none 12 (R.map atC)),(12,sl9 D1),(13,.sc (.int .i64 (wr64 (suN R i)))),(14,.sc (.int .i64 (wr64 (AD - suD R i)))),(130,.sc (.int .i64 (R.length : Int))),(131,.sc (.int .i64 (i : Int)))]) (fun _=>[])
      (fun i=>i ≤ R.length) (fun i=>R.length - i) 0 (Nat.zero_le _) ⟨rfl,rfl,rfl,rfl,rfl,rfl,hz0,rfl,rfl,trivial⟩ rfl ?_
    intro i hi
    by_cases hil : i < R.length
    · obtain ⟨j1,j2⟩:=suN_succ R i hil
      have f1 : Value.int .i64 (IntKind.i64.wrap (wr64 (suN R i) + (R[i]'hil).n)) = .int .i64 (wr64 (suN R (i + 1))):=by rw [wr64_add,j1]
      have f2 : Value.int .i64 (IntKind.i64.wrap (wr64 ((AD : Int) - suD R i) - (R[i]'hil).ad)) = .int .i64 (wr64 ((AD : Int) - suD R (i + 1))):=by rw [wr64_sub,j2,Int.sub_sub]
      repeat' first
 | (apply p1 (hd:=rfl);case hop=>first|(apply D_move;rfl)|(apply D_assign;rfl)|exact D_sc (D_int rfl rfl rfl) f1|exact D_sc (D_int rfl rfl rfl) f2|(apply D_load1;rfl)|(apply D_fld;rfl)|(apply D_pickT;rfl;rfl)|(apply D_pickF;rfl;rfl)|(apply D_int;rfl;rfl;rfl)|(apply D_lenM;rfl)|(apply D_idxAn;rfl;rfl;(first|omega|(simp;done))))
 | refine W_seq ?_
 | refine W_region ?_
 | (refine idC ?_;refine cs rfl (fun _=>?_) (fun _=>?_))
 | refine WL_nil ?_
 | (refine idG ?_;first|refine g0f rfl rfl rfl ?_|refine gr rfl rfl ?_|refine gs rfl rfl (fun _=>?_) (fun _=>?_))
 | refine tn ?_
 | refine tr ?_
 | refine bn ?_
 | refine te ?_
 | (refine idB ?_;refine bh rfl ?_)
 | refine W_skip ?_
 | refine W_block ?_
 | refine W_exit ?_
 | refine W_ret ?_
 | (refine idR ?_;refine ret1 rfl rfl rfl ?_)
 | (refine Le.bool ?_)
      all_goals first
        | contradiction
        | (exfalso;omega)
        | exact ⟨rfl,i + 1,by omega,by omega,⟨rfl,rfl,rfl,rfl,rfl,rfl,rfl,rfl,ieq (wsucc i (by omega)),trivial⟩,rfl⟩
        | skip
    have ei : i = R.length:=by omega
    subst ei
    have w3 : wr64 (suN R R.length) = (D1.length : Int):=by
      unfold suN;rw [List.take_length,u1,wr64_id (by omega) (by omega)]
    have w4 : wr64 ((AD : Int) - suD R R.length) = 0:=by
      unfold suD;rw [List.take_length,u2,wr64_id (by omega) (by omega),Int.sub_self]
    rw [w3,w4]
    have hn3 : Value.bool (bNot (iEq 0 0)) = .bool false:=by rw [(iEq_t _ _).mpr rfl];simp [bNot]
    repeat' first
 | (apply p1 (hd:=rfl);case hop=>first|(apply D_move;rfl)|(apply D_assign;rfl)|exact D_sc (D_int rfl rfl rfl) hn1|exact D_sc (D_int rfl rfl rfl) hn3|(apply D_load1;rfl)|(apply D_fld;rfl)|(apply D_pickF;rfl;rfl)|(apply D_int;rfl;rfl;rfl)|(apply D_lenM;rfl)|(apply D_idxAn;rfl;rfl;(first|omega|(simp;done))))
 | refine W_seq ?_
 | refine W_region ?_
 | (refine idC ?_;first|refine c0 rfl ?_|refine cs rfl (fun _=>?_) (fun _=>?_))
 | refine WL_nil ?_
 | (refine idG ?_;refine gr rfl rfl ?_)
 | refine tn ?_
 | refine bn ?_
 | refine te ?_
 | (refine idB ?_;refine bh rfl ?_)
 | refine W_skip ?_
 | refine W_block ?_
 | (refine W_exit ?_)
    all_goals try (exfalso;omega)
    all_goals try contradiction
    refine WL_adopt 157 9 48 rfl ?_
    rw [show sl9 (l ++ m) = (.sl none 9 (l.map dC ++ m.map dC) : AV) by rw [← List.map_append]] at hb3
    rw [List.map_append] at hdb
    have hn3 : Value.bool (bNot (iEq 0 0)) = .bool false:=by rw [(iEq_t _ _).mpr rfl];simp [bNot]
    have h00 : Value.bool (iEq 0 0) = .bool true:=by rw [(iEq_t _ _).mpr rfl]
    by_cases hma : allD m
    · obtain ⟨y1,y2⟩:=bytP_ok hma (by omega)
      rw [y1,bytE_ok hma] at hb2
      obtain ⟨z1,z2,z3⟩:=hby2 hma
      rw [z1,z2] at hb3
      obtain ⟨k,k1,k2⟩:=hby hma
      generalize kLen 1 (dsortL 1 (l ++ m)) = Z at *
      generalize kLen 1 (dsortL 1 m) = Y at *
      generalize kLen 1 D1 = X at *
      generalize dsortL 1 (l ++ m) = D3 at *
      generalize dsortL 1 m = D2 at *
      have q1 : Value.int .i64 (IntKind.i64.wrap ((X : Int) + (Y : Int))) = .int .i64 ((X + Y : Nat) : Int):=by rw [w64 _ (by omega) (by omega)];rfl
      have q2 : Value.int .i64 (IntKind.i64.wrap ((D1.length : Int) + (D2.length : Int))) = .int .i64 ((D1.length + D2.length : Nat) : Int):=by rw [w64 _ (by omega) (by omega)];rfl
      have q3 : Value.bool (iLe (Z : Int) ((X + Y : Nat) : Int)) = .bool true:=by rw [(iLe_t _ _).mpr (by omega)]
      by_cases hk : k = 0
      · have q4 : Value.bool (iEq (Z : Int) ((X + Y : Nat) : Int)) = .bool true:=by rw [(iEq_t _ _).mpr (by omega)]
        have q5 : Value.bool (iEq (D3.length : Int) ((D1.length + D2.length : Nat) : Int)) = .bool true:=by rw [(iEq_t _ _).mpr (by have:=k2.1 hk;omega)]
        repeat' first
 | (apply p1 (hd:=rfl);case hop=>first|(apply D_move;rfl)|(apply D_assign;rfl)|exact D_sc (D_int rfl rfl rfl) hn3|exact D_sc (D_int rfl rfl rfl) h00|exact D_sc (D_int rfl rfl rfl) q1|exact D_sc (D_int rfl rfl rfl) q2|exact D_sc (D_int rfl rfl rfl) q3|exact D_sc (D_int rfl rfl rfl) q4|exact D_sc (D_int rfl rfl rfl) q5|(apply D_pc hb1;rfl;exact .same rfl (.same rfl .nil))|(apply D_pc hb2;rfl;exact .same rfl (.same rfl .nil))|(apply D_pc hb3;rfl;exact .same rfl (.tok rfl .nil))|(apply D_pc hdm;rfl;exact .same rfl (.same rfl .nil))|(apply D_pc hdb;rfl;exact .same rfl (.tok rfl .nil))|(apply D_pickT;rfl;rfl)|(apply D_pickF;rfl;rfl)|(apply D_lenM;rfl)|(apply D_ext;rfl;rfl)|(apply D_beq;rfl;rfl))
 | refine W_seq ?_
 | refine W_region ?_
 | (refine idC ?_;refine c0 rfl ?_)
 | refine WL_nil ?_
 | (refine idG ?_;refine gr rfl rfl ?_)
 | refine tn ?_
 | refine W_skip ?_
 | refine W_ret ?_
 | (refine idR ?_;refine ret1 rfl rfl rfl ?_)
 | refine Le.bool ?_
 | (refine idAp ?_;refine m_app rfl rfl (by first|rfl|assumption|exact get_set (by assumption)|exact get_set (get_set (by assumption))|exact get_set (get_set (get_set (by assumption)))|((repeat first|assumption|exact get_last|(refine get_last2 ?_;focus (simp;done))|apply get_set|apply get_app|(apply get_ne;focus omega));done)) ?_ rfl rfl ?_ ?_ rfl ?_;(first|rfl|focus (simp only [List.length_map,List.length_append,List.length_cons,List.length_nil];omega)|focus (simp;done)|focus (simp;omega));(first|focus (simp only [List.length_map,List.length_append,List.length_cons,List.length_nil];omega)|focus (simp;done)|focus (simp;omega));(first|focus (simp only [List.length_map,List.length_append,List.length_cons,List.length_nil];omega)|focus (simp;done)|focus (simp;omega)))
        all_goals first|rfl|contradiction|(exfalso;omega)|(simp [bEq];done)|skip
      · have q4 : Value.bool (iEq (Z : Int) ((X + Y : Nat) : Int)) = .bool false:=by rw [(iEq_f _ _).mpr (by omega)]
        have q5 : Value.bool (iEq (D3.length : Int) ((D1.length + D2.length : Nat) : Int)) = .bool false:=by rw [(iEq_f _ _).mpr (by intro e;exact hk (k2.2 (by omega)))]
        repeat' first
 | (apply p1 (hd:=rfl);case hop=>first|(apply D_move;rfl)|(apply D_assign;rfl)|exact D_sc (D_int rfl rfl rfl) hn3|exact D_sc (D_int rfl rfl rfl) h00|exact D_sc (D_int rfl rfl rfl) q1|exact D_sc (D_int rfl rfl rfl) q2|exact D_sc (D_int rfl rfl rfl) q3|exact D_sc (D_int rfl rfl rfl) q4|exact D_sc (D_int rfl rfl rfl) q5|(apply D_pc hb1;rfl;exact .same rfl (.same rfl .nil))|(apply D_pc hb2;rfl;exact .same rfl (.same rfl .nil))|(apply D_pc hb3;rfl;exact .same rfl (.tok rfl .nil))|(apply D_pc hdm;rfl;exact .same rfl (.same rfl .nil))|(apply D_pc hdb;rfl;exact .same rfl (.tok rfl .nil))|(apply D_pickT;rfl;rfl)|(apply D_pickF;rfl;rfl)|(apply D_lenM;rfl)|(apply D_ext;rfl;rfl)|(apply D_beq;rfl;rfl))
 | refine W_seq ?_
 | refine W_region ?_
 | (refine idC ?_;refine c0 rfl ?_)
 | refine WL_nil ?_
 | (refine idG ?_;refine gr rfl rfl ?_)
 | refine tn ?_
 | refine W_skip ?_
 | refine W_ret ?_
 | (refine idR ?_;refine ret1 rfl rfl rfl ?_)
 | refine Le.bool ?_
 | (refine idAp ?_;refine m_app rfl rfl (by first|rfl|assumption|exact get_set (by assumption)|exact get_set (get_set (by assumption))|exact get_set (get_set (get_set (by assumption)))|((repeat first|assumption|exact get_last|(refine get_last2 ?_;focus (simp;done))|apply get_set|apply get_app|(apply get_ne;focus omega));done)) ?_ rfl rfl ?_ ?_ rfl ?_;(first|rfl|focus (simp only [List.length_map,List.length_append,List.length_cons,List.length_nil];omega)|focus (simp;done)|focus (simp;omega));(first|focus (simp only [List.length_map,List.length_append,List.length_cons,List.length_nil];omega)|focus (simp;done)|focus (simp;omega));(first|focus (simp only [List.length_map,List.length_append,List.length_cons,List.length_nil];omega)|focus (simp;done)|focus (simp;omega)))
        all_goals first|rfl|contradiction|(exfalso;omega)|(simp [bEq];done)|skip
    · rw [bytE_no hma] at hb2
      rw [hbyn hma] at hb3
      have n40 : Value.bool (bNot (iEq 40 0)) = .bool true:=by rw [(iEq_f _ _).mpr (by decide)];simp [bNot]
      repeat' first
 | (apply p1 (hd:=rfl);case hop=>first|(apply D_move;rfl)|(apply D_assign;rfl)|exact D_sc (D_int rfl rfl rfl) hn3|exact D_sc (D_int rfl rfl rfl) n40|(apply D_pc hb1;rfl;exact .same rfl (.same rfl .nil))|(apply D_pc hb2;rfl;exact .same rfl (.same rfl .nil))|(apply D_pc hb3;rfl;exact .same rfl (.tok rfl .nil))|(apply D_pc hdm;rfl;exact .same rfl (.same rfl .nil))|(apply D_pc hdb;rfl;exact .same rfl (.tok rfl .nil))|(apply D_pickT;rfl;rfl)|(apply D_pickF;rfl;rfl)|(apply D_int;rfl;rfl;rfl)|(apply D_lenM;rfl)|(apply D_ext;rfl;rfl)|(apply D_beq;rfl;rfl))
 | refine W_seq ?_
 | refine W_region ?_
 | (refine idC ?_;refine cs rfl (fun _=>?_) (fun _=>?_))
 | refine WL_nil ?_
 | (refine idG ?_;first|refine g0t rfl rfl rfl ?_|refine gr rfl rfl ?_|refine gs rfl rfl (fun _=>?_) (fun _=>?_))
 | refine tn ?_
 | refine tr ?_
 | refine W_skip ?_
 | refine W_ret ?_
 | (refine idR ?_;refine ret1 rfl rfl rfl ?_)
 | refine Le.bool ?_
 | (refine idAp ?_;refine m_app rfl rfl (by first|rfl|assumption|exact get_set (by assumption)|exact get_set (get_set (by assumption))|exact get_set (get_set (get_set (by assumption)))|((repeat first|assumption|exact get_last|(refine get_last2 ?_;focus (simp;done))|apply get_set|apply get_app|(apply get_ne;focus omega));done)) ?_ rfl rfl ?_ ?_ rfl ?_;(first|rfl|focus (simp only [List.length_map,List.length_append,List.length_cons,List.length_nil];omega)|focus (simp;done)|focus (simp;omega));(first|focus (simp only [List.length_map,List.length_append,List.length_cons,List.length_nil];omega)|focus (simp;done)|focus (simp;omega));(first|focus (simp only [List.length_map,List.length_append,List.length_cons,List.length_nil];omega)|focus (simp;done)|focus (simp;omega)))
      all_goals first|rfl|contradiction|(exfalso;omega)|skip
  · have hzz : True:=trivial
    refine WL_adopt 157 9 48 rfl ?_
    rw [show sl9 (l ++ m) = (.sl none 9 (l.map dC ++ m.map dC) : AV) by rw [← List.map_append]] at hb3
    rw [List.map_append] at hdb
    have hn3 : Value.bool (bNot (iEq 0 0)) = .bool false:=by rw [(iEq_t _ _).mpr rfl];simp [bNot]
    have h00 : Value.bool (iEq 0 0) = .bool true:=by rw [(iEq_t _ _).mpr rfl]
    by_cases hma : allD m
    · obtain ⟨y1,y2⟩:=bytP_ok hma (by omega)
      rw [y1,bytE_ok hma] at hb2
      obtain ⟨z1,z2,z3⟩:=hby2 hma
      rw [z1,z2] at hb3
      obtain ⟨k,k1,k2⟩:=hby hma
      generalize kLen 1 (dsortL 1 (l ++ m)) = Z at *
      generalize kLen 1 (dsortL 1 m) = Y at *
      generalize kLen 1 D1 = X at *
      generalize dsortL 1 (l ++ m) = D3 at *
      generalize dsortL 1 m = D2 at *
      have q1 : Value.int .i64 (IntKind.i64.wrap ((X : Int) + (Y : Int))) = .int .i64 ((X + Y : Nat) : Int):=by rw [w64 _ (by omega) (by omega)];rfl
      have q2 : Value.int .i64 (IntKind.i64.wrap ((D1.length : Int) + (D2.length : Int))) = .int .i64 ((D1.length + D2.length : Nat) : Int):=by rw [w64 _ (by omega) (by omega)];rfl
      have q3 : Value.bool (iLe (Z : Int) ((X + Y : Nat) : Int)) = .bool true:=by rw [(iLe_t _ _).mpr (by omega)]
      by_cases hk : k = 0
      · have q4 : Value.bool (iEq (Z : Int) ((X + Y : Nat) : Int)) = .bool true:=by rw [(iEq_t _ _).mpr (by omega)]
        have q5 : Value.bool (iEq (D3.length : Int) ((D1.length + D2.length : Nat) : Int)) = .bool true:=by rw [(iEq_t _ _).mpr (by have:=k2.1 hk;omega)]
        repeat' first
 | (apply p1 (hd:=rfl);case hop=>first|(apply D_move;rfl)|(apply D_assign;rfl)|exact D_sc (D_int rfl rfl rfl) hn3|exact D_sc (D_int rfl rfl rfl) h00|exact D_sc (D_int rfl rfl rfl) q1|exact D_sc (D_int rfl rfl rfl) q2|exact D_sc (D_int rfl rfl rfl) q3|exact D_sc (D_int rfl rfl rfl) q4|exact D_sc (D_int rfl rfl rfl) q5|(apply D_pc hb1;rfl;exact .same rfl (.same rfl .nil))|(apply D_pc hb2;rfl;exact .same rfl (.same rfl .nil))|(apply D_pc hb3;rfl;exact .same rfl (.tok rfl .nil))|(apply D_pc hdm;rfl;exact .same rfl (.same rfl .nil))|(apply D_pc hdb;rfl;exact .same rfl (.tok rfl .nil))|(apply D_pickT;rfl;rfl)|(apply D_pickF;rfl;rfl)|(apply D_lenM;rfl)|(apply D_ext;rfl;rfl)|(apply D_beq;rfl;rfl))
 | refine W_seq ?_
 | refine W_region ?_
 | (refine idC ?_;refine c0 rfl ?_)
 | refine WL_nil ?_
 | (refine idG ?_;refine gr rfl rfl ?_)
 | refine tn ?_
 | refine W_skip ?_
 | refine W_ret ?_
 | (refine idR ?_;refine ret1 rfl rfl rfl ?_)
 | refine Le.bool ?_
 | (refine idAp ?_;refine m_app rfl rfl (by first|rfl|assumption|exact get_set (by assumption)|exact get_set (get_set (by assumption))|exact get_set (get_set (get_set (by assumption)))|((repeat first|assumption|exact get_last|(refine get_last2 ?_;focus (simp;done))|apply get_set|apply get_app|(apply get_ne;focus omega));done)) ?_ rfl rfl ?_ ?_ rfl ?_;(first|rfl|focus (simp only [List.length_map,List.length_append,List.length_cons,List.length_nil];omega)|focus (simp;done)|focus (simp;omega));(first|focus (simp only [List.length_map,List.length_append,List.length_cons,List.length_nil];omega)|focus (simp;done)|focus (simp;omega));(first|focus (simp only [List.length_map,List.length_append,List.length_cons,List.length_nil];omega)|focus (simp;done)|focus (simp;omega)))
        all_goals first|rfl|contradiction|(exfalso;omega)|(simp [bEq];done)|skip
      · have q4 : Value.bool (iEq (Z : Int) ((X + Y : Nat) : Int)) = .bool false:=by rw [(iEq_f _ _).mpr (by omega)]
        have q5 : Value.bool (iEq (D3.length : Int) ((D1.length + D2.length : Nat) : Int)) = .bool false:=by rw [(iEq_f _ _).mpr (by intro e;exact hk (k2.2 (by omega)))]
        repeat' first
 | (apply p1 (hd:=rfl);case hop=>first|(apply D_move;rfl)|(apply D_assign;rfl)|exact D_sc (D_int rfl rfl rfl) hn3|exact D_sc (D_int rfl rfl rfl) h00|exact D_sc (D_int rfl rfl rfl) q1|exact D_sc (D_int rfl rfl rfl) q2|exact D_sc (D_int rfl rfl rfl) q3|exact D_sc (D_int rfl rfl rfl) q4|exact D_sc (D_int rfl rfl rfl) q5|(apply D_pc hb1;rfl;exact .same rfl (.same rfl .nil))|(apply D_pc hb2;rfl;exact .same rfl (.same rfl .nil))|(apply D_pc hb3;rfl;exact .same rfl (.tok rfl .nil))|(apply D_pc hdm;rfl;exact .same rfl (.same rfl .nil))|(apply D_pc hdb;rfl;exact .same rfl (.tok rfl .nil))|(apply D_pickT;rfl;rfl)|(apply D_pickF;rfl;rfl)|(apply D_lenM;rfl)|(apply D_ext;rfl;rfl)|(apply D_beq;rfl;rfl))
 | refine W_seq ?_
 | refine W_region ?_
 | (refine idC ?_;refine c0 rfl ?_)
 | refine WL_nil ?_
 | (refine idG ?_;refine gr rfl rfl ?_)
 | refine tn ?_
 | refine W_skip ?_
 | refine W_ret ?_
 | (refine idR ?_;refine ret1 rfl rfl rfl ?_)
 | refine Le.bool ?_
 | (refine idAp ?_;refine m_app rfl rfl (by first|rfl|assumption|exact get_set (by assumption)|exact get_set (get_set (by assumption))|exact get_set (get_set (get_set (by assumption)))|((repeat first|assumption|exact get_last|(refine get_last2 ?_;focus (simp;done))|apply get_set|apply get_app|(apply get_ne;focus omega));done)) ?_ rfl rfl ?_ ?_ rfl ?_;(first|rfl|focus (simp only [List.length_map,List.length_append,List.length_cons,List.length_nil];omega)|focus (simp;done)|focus (simp;omega));(first|focus (simp only [List.length_map,List.length_append,List.length_cons,List.length_nil];omega)|focus (simp;done)|focus (simp;omega));(first|focus (simp only [List.length_map,List.length_append,List.length_cons,List.length_nil];omega)|focus (simp;done)|focus (simp;omega)))
        all_goals first|rfl|contradiction|(exfalso;omega)|(simp [bEq];done)|skip
    · rw [bytE_no hma] at hb2
      rw [hbyn hma] at hb3
      have n40 : Value.bool (bNot (iEq 40 0)) = .bool true:=by rw [(iEq_f _ _).mpr (by decide)];simp [bNot]
      repeat' first
 | (apply p1 (hd:=rfl);case hop=>first|(apply D_move;rfl)|(apply D_assign;rfl)|exact D_sc (D_int rfl rfl rfl) hn3|exact D_sc (D_int rfl rfl rfl) n40|(apply D_pc hb1;rfl;exact .same rfl (.same rfl .nil))|(apply D_pc hb2;rfl;exact .same rfl (.same rfl .nil))|(apply D_pc hb3;rfl;exact .same rfl (.tok rfl .nil))|(apply D_pc hdm;rfl;exact .same rfl (.same rfl .nil))|(apply D_pc hdb;rfl;exact .same rfl (.tok rfl .nil))|(apply D_pickT;rfl;rfl)|(apply D_pickF;rfl;rfl)|(apply D_int;rfl;rfl;rfl)|(apply D_lenM;rfl)|(apply D_ext;rfl;rfl)|(apply D_beq;rfl;rfl))
 | refine W_seq ?_
 | refine W_region ?_
 | (refine idC ?_;refine cs rfl (fun _=>?_) (fun _=>?_))
 | refine WL_nil ?_
 | (refine idG ?_;first|refine g0t rfl rfl rfl ?_|refine gr rfl rfl ?_|refine gs rfl rfl (fun _=>?_) (fun _=>?_))
 | refine tn ?_
 | refine tr ?_
 | refine W_skip ?_
 | refine W_ret ?_
 | (refine idR ?_;refine ret1 rfl rfl rfl ?_)
 | refine Le.bool ?_
 | (refine idAp ?_;refine m_app rfl rfl (by first|rfl|assumption|exact get_set (by assumption)|exact get_set (get_set (by assumption))|exact get_set (get_set (get_set (by assumption)))|((repeat first|assumption|exact get_last|(refine get_last2 ?_;focus (simp;done))|apply get_set|apply get_app|(apply get_ne;focus omega));done)) ?_ rfl rfl ?_ ?_ rfl ?_;(first|rfl|focus (simp only [List.length_map,List.length_append,List.length_cons,List.length_nil];omega)|focus (simp;done)|focus (simp;omega));(first|focus (simp only [List.length_map,List.length_append,List.length_cons,List.length_nil];omega)|focus (simp;done)|focus (simp;omega));(first|focus (simp only [List.length_map,List.length_append,List.length_cons,List.length_nil];omega)|focus (simp;done)|focus (simp;omega)))
      all_goals first|rfl|contradiction|(exfalso;omega)|skip
end Go.Proofs
