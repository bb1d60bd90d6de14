
/- Contracts of the next datom, in the index and in the document; of the document's adding. -/
import Derived.Test.YtjojdiefnhbglaaGreatYT12
import Derived.Test.YtjojdiefnhbglaaGreatYD3
set_option linter.all false
namespace Go.Proofs
open Go.AL Go.Sort
attribute [local irreducible] Go.AL.W Go.AL.WL Go.AL.WD Go.AL.POp Go.AL.PPOp Go.AL.POpS Go.AL.PC Go.AL.AC Go.AL.YW Go.AL.Ret Go.AL.Le Go.AL.thn Go.AL.inBlk Go.AL.scp
theorem split_fil {α : Type} {R : α → α → Prop} {p : α → Bool} (hp : ∀ a b,R a b → p b = true → p a = true) : ∀ {l : List α},l.Pairwise R → l.drop (l.filter p).length = l.filter fun x=>!p x
  | [],_=>rfl
  | x :: l,h=>by
    obtain ⟨h1,h2⟩:=List.pairwise_cons.1 h
    by_cases c : p x = true
    · rw [List.filter_cons,if_pos c,List.length_cons,List.drop_succ_cons,split_fil hp h2,List.filter_cons,if_neg (by simp [c])]
    · have e : l.filter p = []:=List.filter_eq_nil_iff.2 fun y hy hcy=>c (hp x y (h1 y hy) hcy)
      rw [List.filter_cons,if_neg c,e,List.length_nil,List.drop_zero]
      refine (List.filter_eq_self.2 fun y hy=>?_).symm
      rcases List.mem_cons.1 hy with rfl|hy
      · simpa using c
      · have : ¬ p y = true:=fun hcy=>c (hp x y (h1 y hy) hcy)
        simpa using this
noncomputable def nextL (o : Int) (L : List Dat) (d : Dat) : Option Dat:=if dkeyE o d = 0 then (dsortL o L).find? (fun s=>decide (0 ≤ cmpD o s d)) else none
theorem dkey_o {o : Int} {d : Dat} (h : dkeyE o d = 0) : 1 ≤ o ∧ o ≤ 4:=by
  unfold dkeyE at h
  by_cases c : 1 ≤ o ∧ o ≤ 4
  · exact c
  · rw [if_neg c] at h;cases h
theorem next_toL {o : Int} {L : List Dat} {t : Option Tr} (h : TreeOf o L t) (ho : 1 ≤ o ∧ o ≤ 4) (hL : okL L) {d : Dat} (hd : dkeyE o d = 0) (hi : datI d) :
    (toL (topT t))[rankT (dkeyB o d) (topT t)]? = (nextL o L d).map fun s=>(dkeyB o s,[]):=by
  have hk : ∀ s,s ∈ dsortL o L → cbB (dkeyB o s) (dkeyB o d) = cmpD o s d:=fun s hs=>by
    obtain ⟨m1,m2⟩:=(dsort_mem ho L s).1 hs
    exact key_cmpD ho (hL s m1).2 hi ((key_ok ho).2 ⟨(hL s m1).1,m2⟩) hd
  have hp : (dsortL o L).Pairwise fun a b=>cbB (dkeyB o a) (dkeyB o b) < 0:=by
    have:=h.rise
    unfold RiseT Rise at this
    rw [h.sorted ho hL] at this
    exact List.pairwise_map.1 this
  have hs:=split_fil (p:=fun s=>decide (cbB (dkeyB o s) (dkeyB o d) < 0)) (fun a b hab hb=>by
    simp only [decide_eq_true_eq] at hb ⊢
    exact cblt (by omega) (by omega) (.inl hab)) hp
  have hr : rankT (dkeyB o d) (topT t) = ((dsortL o L).filter fun s=>decide (cbB (dkeyB o s) (dkeyB o d) < 0)).length:=by
    rw [rank_keys _ h.rise,h.sorted ho hL,List.filter_map,List.length_map];rfl
  unfold nextL
  rw [if_pos hd,toL_L h ho hL,List.getElem?_map,hr,← Nat.add_zero (List.length _),← List.getElem?_drop,hs,← List.head?_eq_getElem?,← List.head?_filter]
  congr 2
  exact List.filter_congr fun s hs2=>by rw [hk s hs2,← decide_not];exact decide_eq_decide.2 (by omega)
theorem next_mem {o : Int} {L : List Dat} {d s : Dat} (h : nextL o L d = some s) : s ∈ dsortL o L:=by
  unfold nextL at h
  split at h
  · exact List.mem_of_find?_eq_some h
  · cases h
set_option maxHeartbeats 16000000 in
theorem inext_pc [GlobF Tryz.prog] (x : Option Ix) (L : List Dat) (hx : IxOf L (topI x)) (hL : okL L) (hl : L.length ≤ 262144) (o : Int) (d : Dat) (hi : datI d) (hs : d.v.s.length < 9223372036854775808) :
    PC Tryz.prog 24 [xA x,.sc (.int .i64 o),eD d] (.tu [eD ((nextL o L d).getD dat0),.sc (.bool (nextL o L d).isSome)]):=by
  have hk:=dkey_pc o d hs
  by_cases he : dkeyE o d = 0
  · have ho:=dkey_o he
    rw [he] at hk
    rcases x with _|T
    · have hno : nextL o L d = none:=by
        obtain ⟨n,rfl⟩ : ∃ n : Nat,o = n:=⟨o.toNat,by omega⟩
        have:=toL_L (hx n (by omega) (by omega)) ho hL
        unfold nextL
        rw [if_pos he,show dsortL (n : Int) L = [] from List.map_eq_nil_iff.1 (this.symm.trans rfl)];rfl
      rw [hno,xA_no]
      refine PC.of_body Tryz.func24 Tryz.ntmps24 rfl rfl rfl ?_
      repeat' first
 | (apply p1 (hd:=rfl);case hop=>first|(apply D_move;rfl)|(apply D_assign;rfl)|exact D_peN rfl rfl|(apply D_pc hk;rfl;exact .same rfl (.same rfl .nil))|(apply D_pickT;rfl;rfl)|(apply D_ext;rfl;rfl)|(apply D_loadW;rfl;rfl)|(apply D_box;rfl;rfl)|exact D_build rfl)
 | refine W_seq ?_
 | refine W_region ?_
 | (refine idC ?_;refine c1 rfl ?_)
 | refine WL_nil ?_
 | (refine idG ?_;refine g0f rfl rfl rfl ?_)
 | refine tn ?_
 | refine tr ?_
 | refine W_ret ?_
 | (refine idR ?_;first|refine rL2 rfl (by first|exact trivial|exact ⟨rfl,trivial⟩) (by exact ResO.cellBA rfl rfl rfl) (by exact ResO.tmp rfl) ?_ ?_)
 | (refine idA ?_;refine m_alloc rfl ?_)
 | (refine idS ?_;refine pS (S_store rfl rfl rfl rfl rfl rfl rfl) ?_)
 | (refine Le.bool ?_)
      all_goals first|exact Le.of_eq rfl|rfl|contradiction|skip
    · rw [xA_so]
      have main : ∀ n : Nat,1 ≤ n → n ≤ 4 → o = n → TreeOf o L (T n):=fun n h1 h2 e=>by rw [e];exact hx n h1 h2
      have hnL : ∀ s,nextL o L d = some s → dkeyE o s = 0 ∧ datI s:=fun s hs2=>by
        obtain ⟨m1,m2⟩:=(dsort_mem ho L s).1 (next_mem hs2)
        exact ⟨(key_ok ho).2 ⟨(hL s m1).1,m2⟩,(hL s m1).2⟩
      rcases (by omega : o = 1 ∨ o = 2 ∨ o = 3 ∨ o = 4) with rfl|rfl|rfl|rfl
      · have htr:=main 1 (by decide) (by decide) rfl
        have hnx:=next_toL htr ho hL he hi
        have hsz : sz (topT (T 1)) < 1152921504606846975:=by have:=htr.len;omega
        by_cases hrk : rankT (dkeyB 1 d) (topT (T 1)) < sz (topT (T 1))
        · have hsk:=tseek_pc (dkeyB 1 d) (T 1) htr.ok hsz (shT_L htr) hrk
          rw [at_toL hrk] at hnx
          cases hN : nextL 1 L d with
          | none=>rw [hN] at hnx;cases hnx
          | some s =>
            rw [hN] at hnx
            rw [Option.some.inj hnx] at hsk
            obtain ⟨s1,s2⟩:=hnL s hN
            have hrd:=dread_pc 1 (dkeyB 1 s) (by have:=dkey_len 1 s;omega)
            obtain ⟨k1,k2⟩:=key_read s2 s1
            rw [k1,k2] at hrd
            refine PC.of_body Tryz.func24 Tryz.ntmps24 rfl rfl rfl ?_
            repeat' first
 | (apply p1 (hd:=rfl);case hop=>first|(apply D_move;rfl)|(apply D_assign;rfl)|exact D_peE rfl rfl|exact D_nilE rfl|(apply D_pc hk;rfl;exact .same rfl (.same rfl .nil))|(apply D_pc hsk;rfl;exact .same rfl (.same rfl .nil))|(apply D_pc hrd;rfl;exact .same rfl (.same rfl .nil))|(apply D_load1;rfl)|(apply D_fld;rfl)|(apply D_pickF;rfl;rfl)|(apply D_int;rfl;rfl;rfl)|(apply D_ext;rfl;rfl)|(apply D_not;rfl)|(apply D_loadW;rfl;rfl)|(apply D_box;rfl;rfl)|exact D_build rfl|(apply D_ixPE;rfl;rfl;all_goals first|omega|((repeat rw [w64 _ (by omega) (by omega)]);omega)|decide))
 | refine W_seq ?_
 | refine W_region ?_
 | (refine idC ?_;refine cs rfl (fun _=>?_) (fun _=>?_))
 | refine WL_nil ?_
 | (refine idG ?_;refine gr rfl rfl ?_)
 | refine tn ?_
 | refine tr ?_
 | refine W_skip ?_
 | refine W_ret ?_
 | (refine idR ?_;first|refine rL2 rfl (by first|exact trivial|exact ⟨rfl,trivial⟩) (by exact ResO.cellBA rfl rfl rfl) (by exact ResO.tmp rfl) ?_ ?_)
 | (refine idA ?_;first|refine m_var rfl rfl rfl rfl rfl rfl rfl ?_|refine m_alloc rfl ?_)
 | (refine idS ?_;refine pS (S_store rfl rfl rfl rfl rfl rfl rfl) ?_)
 | (refine Le.bool ?_)
            all_goals first|exact (iEq_t 0 0).mpr rfl|exact Le.of_eq rfl|rfl|contradiction|skip
        · have hsk:=tseekN_pc (dkeyB 1 d) (T 1) htr.ok hsz hrk
          rw [List.getElem?_eq_none (by rw [toL_len];omega)] at hnx
          cases hN : nextL 1 L d with
          | some s=>rw [hN] at hnx;cases hnx
          | none =>
            refine PC.of_body Tryz.func24 Tryz.ntmps24 rfl rfl rfl ?_
            repeat' first
 | (apply p1 (hd:=rfl);case hop=>first|(apply D_move;rfl)|(apply D_assign;rfl)|exact D_peE rfl rfl|exact D_nilE rfl|(apply D_pc hk;rfl;exact .same rfl (.same rfl .nil))|(apply D_pc hsk;rfl;exact .same rfl (.same rfl .nil))|(apply D_load1;rfl)|(apply D_fld;rfl)|(apply D_pickF;rfl;rfl)|(apply D_int;rfl;rfl;rfl)|(apply D_ext;rfl;rfl)|(apply D_not;rfl)|(apply D_loadW;rfl;rfl)|(apply D_box;rfl;rfl)|exact D_build rfl|(apply D_ixPE;rfl;rfl;all_goals first|omega|((repeat rw [w64 _ (by omega) (by omega)]);omega)|decide))
 | refine W_seq ?_
 | refine W_region ?_
 | (refine idC ?_;refine cs rfl (fun _=>?_) (fun _=>?_))
 | refine WL_nil ?_
 | (refine idG ?_;refine gr rfl rfl ?_)
 | refine tn ?_
 | refine tr ?_
 | refine W_skip ?_
 | refine W_ret ?_
 | (refine idR ?_;first|refine rL2 rfl (by first|exact trivial|exact ⟨rfl,trivial⟩) (by exact ResO.cellBA rfl rfl rfl) (by exact ResO.tmp rfl) ?_ ?_)
 | (refine idA ?_;first|refine m_var rfl rfl rfl rfl rfl rfl rfl ?_|refine m_alloc rfl ?_)
 | (refine idS ?_;refine pS (S_store rfl rfl rfl rfl rfl rfl rfl) ?_)
 | (refine Le.bool ?_)
            all_goals first|exact Le.of_eq rfl|rfl|contradiction|skip
      · have htr:=main 2 (by decide) (by decide) rfl
        have hnx:=next_toL htr ho hL he hi
        have hsz : sz (topT (T 2)) < 1152921504606846975:=by have:=htr.len;omega
        by_cases hrk : rankT (dkeyB 2 d) (topT (T 2)) < sz (topT (T 2))
        · have hsk:=tseek_pc (dkeyB 2 d) (T 2) htr.ok hsz (shT_L htr) hrk
          rw [at_toL hrk] at hnx
          cases hN : nextL 2 L d with
          | none=>rw [hN] at hnx;cases hnx
          | some s =>
            rw [hN] at hnx
            rw [Option.some.inj hnx] at hsk
            obtain ⟨s1,s2⟩:=hnL s hN
            have hrd:=dread_pc 2 (dkeyB 2 s) (by have:=dkey_len 2 s;omega)
            obtain ⟨k1,k2⟩:=key_read s2 s1
            rw [k1,k2] at hrd
            refine PC.of_body Tryz.func24 Tryz.ntmps24 rfl rfl rfl ?_
            repeat' first
 | (apply p1 (hd:=rfl);case hop=>first|(apply D_move;rfl)|(apply D_assign;rfl)|exact D_peE rfl rfl|exact D_nilE rfl|(apply D_pc hk;rfl;exact .same rfl (.same rfl .nil))|(apply D_pc hsk;rfl;exact .same rfl (.same rfl .nil))|(apply D_pc hrd;rfl;exact .same rfl (.same rfl .nil))|(apply D_load1;rfl)|(apply D_fld;rfl)|(apply D_pickF;rfl;rfl)|(apply D_int;rfl;rfl;rfl)|(apply D_ext;rfl;rfl)|(apply D_not;rfl)|(apply D_loadW;rfl;rfl)|(apply D_box;rfl;rfl)|exact D_build rfl|(apply D_ixPE;rfl;rfl;all_goals first|omega|((repeat rw [w64 _ (by omega) (by omega)]);omega)|decide))
 | refine W_seq ?_
 | refine W_region ?_
 | (refine idC ?_;refine cs rfl (fun _=>?_) (fun _=>?_))
 | refine WL_nil ?_
 | (refine idG ?_;refine gr rfl rfl ?_)
 | refine tn ?_
 | refine tr ?_
 | refine W_skip ?_
 | refine W_ret ?_
 | (refine idR ?_;first|refine rL2 rfl (by first|exact trivial|exact ⟨rfl,trivial⟩) (by exact ResO.cellBA rfl rfl rfl) (by exact ResO.tmp rfl) ?_ ?_)
 | (refine idA ?_;first|refine m_var rfl rfl rfl rfl rfl rfl rfl ?_|refine m_alloc rfl ?_)
 | (refine idS ?_;refine pS (S_store rfl rfl rfl rfl rfl rfl rfl) ?_)
 | (refine Le.bool ?_)
            all_goals first|exact (iEq_t 0 0).mpr rfl|exact Le.of_eq rfl|rfl|contradiction|skip
        · have hsk:=tseekN_pc (dkeyB 2 d) (T 2) htr.ok hsz hrk
          rw [List.getElem?_eq_none (by rw [toL_len];omega)] at hnx
          cases hN : nextL 2 L d with
          | some s=>rw [hN] at hnx;cases hnx
          | none =>
            refine PC.of_body Tryz.func24 Tryz.ntmps24 rfl rfl rfl ?_
            repeat' first
 | (apply p1 (hd:=rfl);case hop=>first|(apply D_move;rfl)|(apply D_assign;rfl)|exact D_peE rfl rfl|exact D_nilE rfl|(apply D_pc hk;rfl;exact .same rfl (.same rfl .nil))|(apply D_pc hsk;rfl;exact .same rfl (.same rfl .nil))|(apply D_load1;rfl)|(apply D_fld;rfl)|(apply D_pickF;rfl;rfl)|(apply D_int;rfl;rfl;rfl)|(apply D_ext;rfl;rfl)|(apply D_not;rfl)|(apply D_loadW;rfl;rfl)|(apply D_box;rfl;rfl)|exact D_build rfl|(apply D_ixPE;rfl;rfl;all_goals first|omega|((repeat rw [w64 _ (by omega) (by omega)]);omega)|decide))
 | refine W_seq ?_
 | refine W_region ?_
 | (refine idC ?_;refine cs rfl (fun _=>?_) (fun _=>?_))
 | refine WL_nil ?_
 | (refine idG ?_;refine gr rfl rfl ?_)
 | refine tn ?_
 | refine tr ?_
 | refine W_skip ?_
 | refine W_ret ?_
 | (refine idR ?_;first|refine rL2 rfl (by first|exact trivial|exact ⟨rfl,trivial⟩) (by exact ResO.cellBA rfl rfl rfl) (by exact ResO.tmp rfl) ?_ ?_)
 | (refine idA ?_;first|refine m_var rfl rfl rfl rfl rfl rfl rfl ?_|refine m_alloc rfl ?_)
 | (refine idS ?_;refine pS (S_store rfl rfl rfl rfl rfl rfl rfl) ?_)
 | (refine Le.bool ?_)
            all_goals first|exact Le.of_eq rfl|rfl|contradiction|skip
      · have htr:=main 3 (by decide) (by decide) rfl
        have hnx:=next_toL htr ho hL he hi
        have hsz : sz (topT (T 3)) < 1152921504606846975:=by have:=htr.len;omega
        by_cases hrk : rankT (dkeyB 3 d) (topT (T 3)) < sz (topT (T 3))
        · have hsk:=tseek_pc (dkeyB 3 d) (T 3) htr.ok hsz (shT_L htr) hrk
          rw [at_toL hrk] at hnx
          cases hN : nextL 3 L d with
          | none=>rw [hN] at hnx;cases hnx
          | some s =>
            rw [hN] at hnx
            rw [Option.some.inj hnx] at hsk
            obtain ⟨s1,s2⟩:=hnL s hN
            have hrd:=dread_pc 3 (dkeyB 3 s) (by have:=dkey_len 3 s;omega)
            obtain ⟨k1,k2⟩:=key_read s2 s1
            rw [k1,k2] at hrd
            refine PC.of_body Tryz.func24 Tryz.ntmps24 rfl rfl rfl ?_
            repeat' first
 | (apply p1 (hd:=rfl);case hop=>first|(apply D_move;rfl)|(apply D_assign;rfl)|exact D_peE rfl rfl|exact D_nilE rfl|(apply D_pc hk;rfl;exact .same rfl (.same rfl .nil))|(apply D_pc hsk;rfl;exact .same rfl (.same rfl .nil))|(apply D_pc hrd;rfl;exact .same rfl (.same rfl .nil))|(apply D_load1;rfl)|(apply D_fld;rfl)|(apply D_pickF;rfl;rfl)|(apply D_int;rfl;rfl;rfl)|(apply D_ext;rfl;rfl)|(apply D_not;rfl)|(apply D_loadW;rfl;rfl)|(apply D_box;rfl;rfl)|exact D_build rfl|(apply D_ixPE;rfl;rfl;all_goals first|omega|((repeat rw [w64 _ (by omega) (by omega)]);omega)|decide))
 | refine W_seq ?_
 | refine W_region ?_
 | (refine idC ?_;refine cs rfl (fun _=>?_) (fun _=>?_))
 | refine WL_nil ?_
 | (refine idG ?_;refine gr rfl rfl ?_)
 | refine tn ?_
 | refine tr ?_
 | refine W_skip ?_
 | refine W_ret ?_
 | (refine idR ?_;first|refine rL2 rfl (by first|exact trivial|exact ⟨rfl,trivial⟩) (by exact ResO.cellBA rfl rfl rfl) (by exact ResO.tmp rfl) ?_ ?_)
 | (refine idA ?_;first|refine m_var rfl rfl rfl rfl rfl rfl rfl ?_|refine m_alloc rfl ?_)
 | (refine idS ?_;refine pS (S_store rfl rfl rfl rfl rfl rfl rfl) ?_)
 | (refine Le.bool ?_)
            all_goals first|exact (iEq_t 0 0).mpr rfl|exact Le.of_eq rfl|rfl|contradiction|skip
        · have hsk:=tseekN_pc (dkeyB 3 d) (T 3) htr.ok hsz hrk
          rw [List.getElem?_eq_none (by rw [toL_len];omega)] at hnx
          cases hN : nextL 3 L d with
          | some s=>rw [hN] at hnx;cases hnx
          | none =>
            refine PC.of_body Tryz.func24 Tryz.ntmps24 rfl rfl rfl ?_
            repeat' first
 | (apply p1 (hd:=rfl);case hop=>first|(apply D_move;rfl)|(apply D_assign;rfl)|exact D_peE rfl rfl|exact D_nilE rfl|(apply D_pc hk;rfl;exact .same rfl (.same rfl .nil))|(apply D_pc hsk;rfl;exact .same rfl (.same rfl .nil))|(apply D_load1;rfl)|(apply D_fld;rfl)|(apply D_pickF;rfl;rfl)|(apply D_int;rfl;rfl;rfl)|(apply D_ext;rfl;rfl)|(apply D_not;rfl)|(apply D_loadW;rfl;rfl)|(apply D_box;rfl;rfl)|exact D_build rfl|(apply D_ixPE;rfl;rfl;all_goals first|omega|((repeat rw [w64 _ (by omega) (by omega)]);omega)|decide))
 | refine W_seq ?_
 | refine W_region ?_
 | (refine idC ?_;refine cs rfl (fun _=>?_) (fun _=>?_))
 | refine WL_nil ?_
 | (refine idG ?_;refine gr rfl rfl ?_)
 | refine tn ?_
 | refine tr ?_
 | refine W_skip ?_
 | refine W_ret ?_
 | (refine idR ?_;first|refine rL2 rfl (by first|exact trivial|exact ⟨rfl,trivial⟩) (by exact ResO.cellBA rfl rfl rfl) (by exact ResO.tmp rfl) ?_ ?_)
 | (refine idA ?_;first|refine m_var rfl rfl rfl rfl rfl rfl rfl ?_|refine m_alloc rfl ?_)
 | (refine idS ?_;refine pS (S_store rfl rfl rfl rfl rfl rfl rfl) ?_)
 | (refine Le.bool ?_)
            all_goals first|exact Le.of_eq rfl|rfl|contradiction|skip
      · have htr:=main 4 (by decide) (by decide) rfl
        have hnx:=next_toL htr ho hL he hi
        have hsz : sz (topT (T 4)) < 1152921504606846975:=by have:=htr.len;omega
        by_cases hrk : rankT (dkeyB 4 d) (topT (T 4)) < sz (topT (T 4))
        · have hsk:=tseek_pc (dkeyB 4 d) (T 4) htr.ok hsz (shT_L htr) hrk
          rw [at_toL hrk] at hnx
          cases hN : nextL 4 L d with
          | none=>rw [hN] at hnx;cases hnx
          | some s =>
            rw [hN] at hnx
            rw [Option.some.inj hnx] at hsk
            obtain ⟨s1,s2⟩:=hnL s hN
            have hrd:=dread_pc 4 (dkeyB 4 s) (by have:=dkey_len 4 s;omega)
            obtain ⟨k1,k2⟩:=key_read s2 s1
            rw [k1,k2] at hrd
            refine PC.of_body Tryz.func24 Tryz.ntmps24 rfl rfl rfl ?_
            repeat' first
 | (apply p1 (hd:=rfl);case hop=>first|(apply D_move;rfl)|(apply D_assign;rfl)|exact D_peE rfl rfl|exact D_nilE rfl|(apply D_pc hk;rfl;exact .same rfl (.same rfl .nil))|(apply D_pc hsk;rfl;exact .same rfl (.same rfl .nil))|(apply D_pc hrd;rfl;exact .same rfl (.same rfl .nil))|(apply D_load1;rfl)|(apply D_fld;rfl)|(apply D_pickF;rfl;rfl)|(apply D_int;rfl;rfl;rfl)|(apply D_ext;rfl;rfl)|(apply D_not;rfl)|(apply D_loadW;rfl;rfl)|(apply D_box;rfl;rfl)|exact D_build rfl|(apply D_ixPE;rfl;rfl;all_goals first|omega|((repeat rw [w64 _ (by omega) (by omega)]);omega)|decide))
 | refine W_seq ?_
 | refine W_region ?_
 | (refine idC ?_;refine cs rfl (fun _=>?_) (fun _=>?_))
 | refine WL_nil ?_
 | (refine idG ?_;refine gr rfl rfl ?_)
 | refine tn ?_
 | refine tr ?_
 | refine W_skip ?_
 | refine W_ret ?_
 | (refine idR ?_;first|refine rL2 rfl (by first|exact trivial|exact ⟨rfl,trivial⟩) (by exact ResO.cellBA rfl rfl rfl) (by exact ResO.tmp rfl) ?_ ?_)
 | (refine idA ?_;first|refine m_var rfl rfl rfl rfl rfl rfl rfl ?_|refine m_alloc rfl ?_)
 | (refine idS ?_;refine pS (S_store rfl rfl rfl rfl rfl rfl rfl) ?_)
 | (refine Le.bool ?_)
            all_goals first|exact (iEq_t 0 0).mpr rfl|exact Le.of_eq rfl|rfl|contradiction|skip
        · have hsk:=tseekN_pc (dkeyB 4 d) (T 4) htr.ok hsz hrk
          rw [List.getElem?_eq_none (by rw [toL_len];omega)] at hnx
          cases hN : nextL 4 L d with
          | some s=>rw [hN] at hnx;cases hnx
          | none =>
            refine PC.of_body Tryz.func24 Tryz.ntmps24 rfl rfl rfl ?_
            repeat' first
 | (apply p1 (hd:=rfl);case hop=>first|(apply D_move;rfl)|(apply D_assign;rfl)|exact D_peE rfl rfl|exact D_nilE rfl|(apply D_pc hk;rfl;exact .same rfl (.same rfl .nil))|(apply D_pc hsk;rfl;exact .same rfl (.same rfl .nil))|(apply D_load1;rfl)|(apply D_fld;rfl)|(apply D_pickF;rfl;rfl)|(apply D_int;rfl;rfl;rfl)|(apply D_ext;rfl;rfl)|(apply D_not;rfl)|(apply D_loadW;rfl;rfl)|(apply D_box;rfl;rfl)|exact D_build rfl|(apply D_ixPE;rfl;rfl;all_goals first|omega|((repeat rw [w64 _ (by omega) (by omega)]);omega)|decide))
 | refine W_seq ?_
 | refine W_region ?_
 | (refine idC ?_;refine cs rfl (fun _=>?_) (fun _=>?_))
 | refine WL_nil ?_
 | (refine idG ?_;refine gr rfl rfl ?_)
 | refine tn ?_
 | refine tr ?_
 | refine W_skip ?_
 | refine W_ret ?_
 | (refine idR ?_;first|refine rL2 rfl (by first|exact trivial|exact ⟨rfl,trivial⟩) (by exact ResO.cellBA rfl rfl rfl) (by exact ResO.tmp rfl) ?_ ?_)
 | (refine idA ?_;first|refine m_var rfl rfl rfl rfl rfl rfl rfl ?_|refine m_alloc rfl ?_)
 | (refine idS ?_;refine pS (S_store rfl rfl rfl rfl rfl rfl rfl) ?_)
 | (refine Le.bool ?_)
            all_goals first|exact Le.of_eq rfl|rfl|contradiction|skip
  · rw [show nextL o L d = none from if_neg he]
    rcases x with _|T
    · rw [xA_no]
      refine PC.of_body Tryz.func24 Tryz.ntmps24 rfl rfl rfl ?_
      repeat' first
 | (apply p1 (hd:=rfl);case hop=>first|(apply D_move;rfl)|(apply D_assign;rfl)|exact D_peN rfl rfl|(apply D_pc hk;rfl;exact .same rfl (.same rfl .nil))|(apply D_pickT;rfl;rfl)|(apply D_ext;rfl;rfl)|(apply D_loadW;rfl;rfl)|(apply D_box;rfl;rfl)|exact D_build rfl)
 | refine W_seq ?_
 | refine W_region ?_
 | (refine idC ?_;refine c1 rfl ?_)
 | refine WL_nil ?_
 | (refine idG ?_;refine g0f rfl rfl rfl ?_)
 | refine tn ?_
 | refine tr ?_
 | refine W_ret ?_
 | (refine idR ?_;first|refine rL2 rfl (by first|exact trivial|exact ⟨rfl,trivial⟩) (by exact ResO.cellBA rfl rfl rfl) (by exact ResO.tmp rfl) ?_ ?_)
 | (refine idA ?_;refine m_alloc rfl ?_)
 | (refine idS ?_;refine pS (S_store rfl rfl rfl rfl rfl rfl rfl) ?_)
 | (refine Le.bool ?_)
      all_goals first|exact Le.of_eq rfl|rfl|contradiction|skip
    · rw [xA_so]
      refine PC.of_body Tryz.func24 Tryz.ntmps24 rfl rfl rfl ?_
      repeat' first
 | (apply p1 (hd:=rfl);case hop=>first|(apply D_move;rfl)|(apply D_assign;rfl)|exact D_peE rfl rfl|exact D_nilE rfl|(apply D_pc hk;rfl;exact .same rfl (.same rfl .nil))|(apply D_fld;rfl)|(apply D_pickF;rfl;rfl)|(apply D_int;rfl;rfl;rfl)|(apply D_ext;rfl;rfl)|(apply D_loadW;rfl;rfl)|(apply D_box;rfl;rfl)|exact D_build rfl|(apply D_ixPE;rfl;rfl;all_goals first|omega|((repeat rw [w64 _ (by omega) (by omega)]);omega)|decide))
 | refine W_seq ?_
 | refine W_region ?_
 | (refine idC ?_;refine cs rfl (fun _=>?_) (fun _=>?_))
 | refine WL_nil ?_
 | (refine idG ?_;refine gr rfl rfl ?_)
 | refine tn ?_
 | refine tr ?_
 | refine W_skip ?_
 | refine W_ret ?_
 | (refine idR ?_;first|refine rL2 rfl (by first|exact trivial|exact ⟨rfl,trivial⟩) (by exact ResO.cellBA rfl rfl rfl) (by exact ResO.tmp rfl) ?_ ?_)
 | (refine idA ?_;refine m_alloc rfl ?_)
 | (refine idS ?_;refine pS (S_store rfl rfl rfl rfl rfl rfl rfl) ?_)
 | (refine Le.bool ?_)
      all_goals first|exact Le.of_eq rfl|rfl|contradiction|skip
end Go.Proofs

namespace Go.Proofs
open Go.AL Go.Sort
attribute [local irreducible] Go.AL.W Go.AL.WL Go.AL.WD Go.AL.POp Go.AL.PPOp Go.AL.POpS Go.AL.PC Go.AL.AC Go.AL.YW Go.AL.Ret Go.AL.Le Go.AL.thn Go.AL.inBlk Go.AL.scp
abbrev wtD1 (d : Dat) : Nat:=1 + d.v.s.length
theorem gr_sum : ∀ (l : List Dat) (n : Int),0 ≤ n → n + 21 * ((l.map wtD1).sum : Nat) < 9223372036854775807 → grS n l = n + ((l.map fun d=>20 + d.v.s.length).sum : Nat)
  | [],n,h0,h=>by simp [grS]
  | d :: t,n,h0,h=>by
    simp only [List.map_cons,List.sum_cons,wtD1] at h ⊢
    have hw : IntKind.i64.wrap (IntKind.i64.wrap (n + 20) + d.v.s.length) = n + 20 + d.v.s.length:=by
      rw [w64 (n + 20) (by omega) (by omega),w64 _ (by omega) (by omega)]
    rw [grS,hw,gr_sum t _ (by omega) (by omega)]
    omega
theorem gr_few {l : List Dat} (hw : (l.map wtD1).sum ≤ 1048576) (h : ¬ 4000 < grS 0 l) : l.length ≤ 200 ∧ ∀ d,d ∈ l → d.v.s.length ≤ 4000:=by
  have h1:=gr_sum l 0 (by omega) (by omega)
  rw [h1] at h
  have h2 : 20 * l.length ≤ (l.map fun d=>20 + d.v.s.length).sum ∧ ∀ d,d ∈ l → 20 + d.v.s.length ≤ (l.map fun d=>20 + d.v.s.length).sum:=by
    clear h h1 hw
    induction l with
    | nil=>exact ⟨by simp,fun d hd=>by cases hd⟩
    | cons x t ih =>
      simp only [List.map_cons,List.sum_cons,List.length_cons]
      refine ⟨by omega,fun d hd=>?_⟩
      rcases List.mem_cons.1 hd with rfl|hd
      · omega
      · have:=ih.2 d hd;omega
  exact ⟨by omega,fun d hd=>by have:=h2.2 d hd;omega⟩
theorem wt_sl {l : List Dat} (hw : (l.map wtD1).sum ≤ 1048576) : l.length ≤ 1048576 ∧ ∀ d,d ∈ l → d.v.s.length ≤ 1048576:=by
  have h2 : l.length ≤ (l.map wtD1).sum ∧ ∀ d,d ∈ l → d.v.s.length ≤ (l.map wtD1).sum:=by
    clear hw
    induction l with
    | nil=>exact ⟨by simp,fun d hd=>by cases hd⟩
    | cons x t ih =>
      simp only [List.map_cons,List.sum_cons,List.length_cons,wtD1]
      refine ⟨by omega,fun d hd=>?_⟩
      rcases List.mem_cons.1 hd with rfl|hd
      · omega
      · have:=ih.2 d hd;omega
  exact ⟨by omega,fun d hd=>by have:=h2.2 d hd;omega⟩
end Go.Proofs

namespace Go.Proofs
open Go.AL Go.Sort
attribute [local irreducible] Go.AL.W Go.AL.WL Go.AL.WD Go.AL.POp Go.AL.PPOp Go.AL.POpS Go.AL.PC Go.AL.AC Go.AL.YW Go.AL.Ret Go.AL.Le Go.AL.thn Go.AL.inBlk Go.AL.scp
structure Vw where
  up : Int
  af : Int
  at_ : Int
  one : Bool
  no : Bool
abbrev wC (v : Vw) : List AV:=[.sc (.int .i64 v.up),.sc (.int .i64 v.af),.sc (.int .i64 v.at_),.sc (.bool v.one),.sc (.bool v.no)]
abbrev eW (v : Vw) : AV:=.ag (wC v)
def seeP (v : Vw) (d : Dat) : Prop:=v.af < d.t ∧ (v.up = 0 ∨ d.t ≤ v.up)
noncomputable def seeB (v : Vw) (d : Dat) : Bool:=dP (seeP v d)
abbrev okV (v : Vw) : Prop:=(0 ≤ v.up ∧ 0 ≤ v.af) ∧ v.up ≤ 1099511627776 ∧ v.af ≤ 1099511627776
open Classical in
noncomputable def datsE (o : Int) (p : List Prt) (v : Vw) : Int:=if preE o p ≠ 0 then preE o p else if okV v then 0 else 2
open Classical in
noncomputable def datsL (o : Int) (p : List Prt) (v : Vw) (L : List Dat) : List Dat:=if datsE o p v = 0 then (preL o (preB o p) L).filter (seeB v) else []
theorem preB_len (o : Int) (p : List Prt) : (preB o p).length ≤ 8036:=by
  unfold preB
  split
  · rename_i h
    unfold keyB
    split
    · rename_i h2
      have : ∀ l : List Prt,(∀ p,p ∈ l → PartP p) → (l.flatMap partB).length ≤ 2009 * l.length:=by
        intro l
        induction l with
        | nil=>intro _;simp
        | cons x t ih =>
          intro h3
          have h4:=ih fun p hp=>h3 p (.tail _ hp)
          have h5:=partB_len (h3 x (.head _))
          rw [List.flatMap_cons,List.length_append,List.length_cons];omega
      have h6:=this p h2
      have:=h.2.1
      omega
    · simp
  · simp
theorem preE_o {o : Int} {p : List Prt} (h : preE o p = 0) : 1 ≤ o ∧ o ≤ 4:=(preE_P h).1
set_option maxHeartbeats 16000000 in
theorem idatoms_pc [GlobF Tryz.prog] (x : Option Ix) (L : List Dat) (hx : IxOf L (topI x)) (hL : okL L) (hl : L.length ≤ 262144) (o : Int) (p : List Prt) (v : Vw) (hp : p.length < 9223372036854775808) (hs : ∀ q,q ∈ p → q.v.s.length < 9223372036854775808) :
    PC Tryz.prog 13 [xA x,.sc (.int .i64 o),.sl none 5 (p.map pC),eW v] (.tu [sl9 (datsL o p v L),.sc (.int .i64 (datsE o p v))]):=by
  have hpre:=prefix_pc o p hp hs
  refine PC.of_body Tryz.func13 Tryz.ntmps13 rfl rfl rfl ?_
  by_cases c1 : preE o p = 0
  rotate_left
  · have e1 : datsE o p v = preE o p:=by unfold datsE;rw [if_pos c1]
    rw [show datsL o p v L = [] by unfold datsL;rw [e1,if_neg c1],e1]
    repeat' first
 | (apply p1 (hd:=rfl);case hop=>first|(apply D_move;rfl)|(apply D_assign;rfl)|(apply D_pc hpre;rfl;exact .same rfl (.same rfl .nil))|(apply D_load1;rfl)|(apply D_fld;rfl)|(apply D_int;rfl;rfl;rfl)|(apply D_ext;rfl;rfl)|(apply D_box;rfl;rfl))
 | refine W_seq ?_
 | refine W_region ?_
 | (refine idC ?_;refine cs rfl (fun _=>?_) (fun _=>?_))
 | refine WL_nil ?_
 | refine tn ?_
 | refine tr ?_
 | refine W_skip ?_
 | refine W_ret ?_
 | (refine idR ?_;refine ret2 rfl rfl rfl rfl ?_ ?_)
 | (refine Le.int ?_)
    all_goals first|exact Le.nil rfl|rfl|contradiction|skip
  have e1 : datsE o p v = if okV v then 0 else 2:=by unfold datsE;rw [if_neg (by simpa using c1)]
  rw [c1] at hpre
  by_cases c2 : okV v
  rotate_left
  · rw [if_neg c2] at e1
    rw [show datsL o p v L = [] by unfold datsL;rw [e1,if_neg (by decide)],e1]
    by_cases c3 : (min v.up v.af) < 0
    · have g1 : Value.bool (iLt (min v.up v.af) 0) = .bool true:=by rw [(iLt_t _ _).mpr c3]
      repeat' first
 | (apply p1 (hd:=rfl);case hop=>first|(apply D_move;rfl)|(apply D_assign;rfl)|(apply D_pc hpre;rfl;exact .same rfl (.same rfl .nil))|exact D_min rfl rfl|exact D_sc (D_int rfl rfl rfl) g1|(apply D_load1;rfl)|(apply D_fld;rfl)|(apply D_pickT;rfl;rfl)|(apply D_int;rfl;rfl;rfl)|(apply D_ext;rfl;rfl)|(apply D_box;rfl;rfl))
 | refine W_seq ?_
 | refine W_region ?_
 | (refine idC ?_;refine cs rfl (fun _=>?_) (fun _=>?_))
 | refine WL_nil ?_
 | (refine idG ?_;refine g0f rfl rfl rfl ?_)
 | refine tn ?_
 | refine tr ?_
 | refine W_skip ?_
 | refine W_ret ?_
 | (refine idR ?_;refine ret2 rfl rfl rfl rfl ?_ ?_)
 | (refine idA ?_;refine m_alloc rfl ?_)
 | (refine Le.int ?_)
      all_goals first|exact Le.nil rfl|rfl|contradiction|skip
    · have g1 : Value.bool (iLt (min v.up v.af) 0) = .bool false:=by rw [(iLt_f _ _).mpr (by omega)]
      have g2 : Value.bool (iLt 1099511627776 (max v.up v.af)) = .bool true:=by
        rw [(iLt_t _ _).mpr]
        unfold okV at c2
        omega
      repeat' first
 | (apply p1 (hd:=rfl);case hop=>first|(apply D_move;rfl)|(apply D_assign;rfl)|(apply D_pc hpre;rfl;exact .same rfl (.same rfl .nil))|exact D_min rfl rfl|exact D_max rfl rfl|exact D_sc (D_int rfl rfl rfl) g1|exact D_sc (D_int rfl rfl rfl) g2|(apply D_load1;rfl)|(apply D_fld;rfl)|(apply D_pickF;rfl;rfl)|(apply D_int;rfl;rfl;rfl)|(apply D_ext;rfl;rfl)|(apply D_box;rfl;rfl))
 | refine W_seq ?_
 | refine W_region ?_
 | (refine idC ?_;refine cs rfl (fun _=>?_) (fun _=>?_))
 | refine WL_nil ?_
 | (refine idG ?_;refine gr rfl rfl ?_)
 | refine tn ?_
 | refine tr ?_
 | refine W_skip ?_
 | refine W_ret ?_
 | (refine idR ?_;refine ret2 rfl rfl rfl rfl ?_ ?_)
 | (refine idA ?_;refine m_alloc rfl ?_)
 | (refine Le.int ?_)
      all_goals first|exact Le.nil rfl|rfl|contradiction|skip
  rw [if_pos c2] at e1
  have eL : datsL o p v L = (preL o (preB o p) L).filter (seeB v):=by unfold datsL;rw [if_pos e1]
  rw [e1,eL]
  obtain ⟨n,hn⟩ : ∃ n : Nat,o = n:=⟨o.toNat,by have:=(preE_o c1).1;omega⟩
  have ho:=preE_o c1
  have hb:=preB_len o p
  subst hn
  have hbg:=begin_pc x (n : Int) (preB n p)
  have g1 : Value.bool (iLt (min v.up v.af) 0) = .bool false:=by
    rw [(iLt_f _ _).mpr]
    unfold okV at c2
    omega
  have g2 : Value.bool (iLt 1099511627776 (max v.up v.af)) = .bool false:=by
    rw [(iLt_f _ _).mpr]
    unfold okV at c2
    omega
  repeat' first
 | (apply p1 (hd:=rfl);case hop=>first|(apply D_move;rfl)|(apply D_assign;rfl)|(apply D_pc hpre;rfl;exact .same rfl (.same rfl .nil))|exact D_min rfl rfl|exact D_max rfl rfl|exact D_sc (D_int rfl rfl rfl) g1|exact D_sc (D_int rfl rfl rfl) g2|(apply D_pc hbg;rfl;exact .same rfl (.same rfl (.same rfl .nil)))|(apply D_load1;rfl)|(apply D_fld;rfl)|(apply D_pickF;rfl;rfl)|(apply D_int;rfl;rfl;rfl)|(apply D_ext;rfl;rfl)|(apply D_box;rfl;rfl))
 | refine W_seq ?_
 | refine W_region ?_
 | (refine idC ?_;first|refine c0 rfl ?_|refine cs rfl (fun _=>?_) (fun _=>?_))
 | refine WL_nil ?_
 | (refine idG ?_;refine gr rfl rfl ?_)
 | refine tn ?_
 | refine tr ?_
 | refine W_skip ?_
 | refine W_block ?_
 | refine W_ret ?_
 | (refine idR ?_;refine ret2 rfl rfl rfl rfl ?_ ?_)
 | (refine idA ?_;refine m_alloc rfl ?_)
 | (refine Le.int ?_)
  all_goals try contradiction
  have hEl:=preL_len n (preB n p) L
  refine W_adoptC 0 0 9 48 rfl rfl ?_
  refine W_rangeX (.inl rfl) fun l1 X hX=>?_
  generalize hE : preL n (preB n p) L = E at *
  refine AC.mono (begin1_ac x L hx hL hl n (by omega) (preB n p) (by omega) l1 (fun i h=>h = [.cells [.sl (some 1) 9 (((E.take i).filter (seeB v)).map dC)],.tail ((E.take i).filter (seeB v)).length 9 48,rawD,X .ready none]) rfl ?_) ?_
  · rw [hE]
    rintro i hi h rfl
    have hli : ((E.take i).filter (seeB v)).length ≤ i:=Nat.le_trans (List.length_filter_le _ _) (by rw [List.length_take];omega)
    have hts : E.take (i + 1) = E.take i ++ [E[i]'hi]:=List.take_succ_eq_append_getElem hi
    refine YW.round (r:=3) ((show _ = some (X .ready none) from rfl).trans (congrArg some (hX .ready none))) rfl rfl ?_
    repeat' first
 | refine W_region ?_
 | refine WL_nil ?_
 | (refine idA ?_;refine m_var rfl rfl rfl rfl rfl rfl rfl ?_)
    refine ⟨rfl,(show _ = some (X .ready none) from rfl).trans (congrArg some (hX .ready none)),?_⟩
    refine W_hq (h':=[.cells [.sl (some 1) 9 (((E.take i).filter (seeB v)).map dC)],.tail ((E.take i).filter (seeB v)).length 9 48,rawD,X .busy none]) (by rw [hX .busy none];rfl) ?_
    have hT : seeP v (E[i]'hi) → (E.take (i + 1)).filter (seeB v) = (E.take i).filter (seeB v) ++ [E[i]'hi]:=fun h=>by
      rw [hts,List.filter_append,List.filter_cons,if_pos (show seeB v (E[i]'hi) = true from dP_t.mpr h)];rfl
    have hF : ¬ seeP v (E[i]'hi) → (E.take (i + 1)).filter (seeB v) = (E.take i).filter (seeB v):=fun h=>by
      rw [hts,List.filter_append,List.filter_cons,if_neg (show ¬ seeB v (E[i]'hi) = true from fun h2=>h (dP_t.mp h2))];simp
    repeat' first
 | (apply p1 (hd:=rfl);case hop=>first|(apply D_move;rfl)|(apply D_load1;rfl)|(apply D_fld;rfl)|(apply D_pickT;rfl;rfl)|(apply D_pickF;rfl;rfl)|(apply D_int;rfl;rfl;rfl)|(apply D_loadW;rfl;rfl)|(apply D_lit;rfl;rfl;rfl;rfl))
 | refine W_seq ?_
 | refine W_region ?_
 | (refine idC ?_;first|refine c0 rfl ?_|refine cs rfl (fun _=>?_) (fun _=>?_))
 | refine WL_nil ?_
 | (refine idG ?_;first|refine g0t rfl rfl rfl ?_|refine g0f rfl rfl rfl ?_|refine g0u rfl rfl rfl ?_|refine gr rfl rfl ?_|refine gs rfl rfl (fun _=>?_) (fun _=>?_))
 | refine tn ?_
 | refine bn ?_
 | refine W_skip ?_
 | refine W_block ?_
 | (refine idLd ?_;refine p1L (D_loadB1 rfl rfl rfl) rfl ?_)
 | (refine idS ?_;refine pS (S_store rfl rfl rfl rfl rfl rfl rfl) ?_)
 | (refine idAp ?_;refine m_app rfl rfl (by rfl) ?_ rfl rfl ?_ ?_ rfl ?_;(focus (simp;done));(focus (simp only [List.length_map,List.length_append,List.length_cons,List.length_nil];omega));(focus (simp only [List.length_map,List.length_append,List.length_cons,List.length_nil];omega)))
    all_goals first
      | contradiction
      | (have h9 : seeP v (E[i]'hi):=⟨by assumption,by first|exact .inl (by assumption)|exact .inr (by assumption)⟩
         refine ⟨rfl,⟨_,_,(show _ = some (X .busy none) from rfl).trans (congrArg some (hX _ _))⟩,⟨rfl,?_⟩⟩
         rw [show ((E.take (i + 1)).filter (seeB v)).length = ((E.take i).filter (seeB v)).length + 1 by rw [hT h9,List.length_append];rfl,hT h9,← hX .ready none,List.map_append];simp only [List.length_map];rfl)
      | (have h9 : ¬ seeP v (E[i]'hi):=fun h=>by
           have h1:=h.1
           have h2:=h.2
           omega
         refine ⟨rfl,⟨_,_,(show _ = some (X .busy none) from rfl).trans (congrArg some (hX _ _))⟩,⟨rfl,?_⟩⟩
         rw [hF h9,← hX .ready none];rfl)
      | skip
  · rw [hE]
    rintro _ h' rfl
    refine ⟨_,_,(show _ = some (X .ready none) from rfl).trans (congrArg some (hX _ _)),by decide,?_⟩
    repeat' first
 | (apply p1 (hd:=rfl);case hop=>first|(apply D_assign;rfl))
 | refine W_seq ?_
 | refine W_region ?_
 | refine WL_nil ?_
 | refine tn ?_
 | refine bn ?_
 | refine W_ret ?_
 | (refine idR ?_;first|refine rL2 rfl (by first|exact trivial|exact ⟨rfl,trivial⟩) (by exact ResO.tmp rfl) (by exact ResO.tmp rfl) ?_ ?_)
 | (refine idLd ?_;refine p1L (D_loadB1 rfl rfl rfl) rfl ?_)
 | (refine Le.int ?_)
    all_goals first|exact Le.tokq (by rw [List.take_length])|rfl|skip
end Go.Proofs
