/- Contracts of texts' tokens, told one by one. -/
import Derived.Test.YtnjnjbombcefcaaDoorCDInst
set_option linter.all false
namespace Go.Proofs
open Go.AL Go.Txt
attribute [local irreducible] Go.AL.W Go.AL.WL Go.AL.WD Go.AL.POp Go.AL.PPOp Go.AL.POpS Go.AL.PC Go.AL.AC Go.AL.YW Go.AL.Ret Go.AL.Le Go.AL.thn Go.AL.inBlk Go.AL.scp
theorem blank_b (c : UInt8) : blankB c = true ↔ (c.toNat : Int) = 32 ∨ (c.toNat : Int) = 9 ∨ (c.toNat : Int) = 10 ∨ (c.toNat : Int) = 13:=by
  simp only [blankB,Bool.or_eq_true,beq_iff_eq,← UInt8.toNat_inj]
  show ((c.toNat = 32 ∨ c.toNat = 9) ∨ c.toNat = 10) ∨ c.toNat = 13 ↔ _
  omega
set_option maxHeartbeats 4000000 in
theorem blank_pc [GlobF Tryd.prog] (c : UInt8) : PC Tryd.prog 82 [.sc (.int .u8 c.toNat)] (.sc (.bool (blankB c))):=by
  have hb:=blank_b c
  refine PC.of_body Tryd.func82 Tryd.ntmps82 rfl rfl rfl ?_
  repeat' first
 | (apply p1 (hd:=rfl);case hop=>first|(apply D_move;rfl)|(apply D_assign;rfl)|(apply D_pickT;rfl;rfl)|(apply D_pickF;rfl;rfl)|(apply D_int;rfl;rfl;rfl))
 | refine W_seq ?_
 | refine W_region ?_
 | refine WL_nil ?_
 | (refine idG ?_;first|refine g0f rfl rfl rfl ?_|refine gr rfl rfl ?_|refine gs rfl rfl (fun _=>?_) (fun _=>?_))
 | refine tn ?_
 | refine W_ret ?_
 | (refine idR ?_;refine ret1 rfl rfl rfl ?_)
 | (refine Le.bool ?_)
  all_goals (rw [Bool.eq_iff_iff,hb];first|(simp only [iEq_t];omega)|(simp only [Bool.false_eq_true,false_iff];omega)|(simp only [true_iff];omega))
theorem word_b (c : UInt8) : wordC c = true ↔ 32 < (c.toNat : Int) ∧ (c.toNat : Int) ≤ 126 ∧ ¬ (0 ≤ Lib.indexByte [40,41,91,93,123,125,34,59] c):=by
  rw [idx_mem]
  simp only [wordC,Bool.and_eq_true,decide_eq_true_eq,Bool.not_eq_true',List.contains_eq_mem,decide_eq_false_iff_not]
  constructor
  · rintro ⟨⟨a,b⟩,h⟩;exact ⟨by omega,by omega,h⟩
  · rintro ⟨a,b,h⟩;exact ⟨⟨by omega,by omega⟩,h⟩
set_option maxHeartbeats 4000000 in
theorem size1_pc [GlobF Tryd.prog] (c : UInt8) : PC Tryd.prog 109 [.sc (.int .u8 c.toNat)] (.sc (.bool (wordC c))):=by
  have hb:=word_b c
  refine PC.of_body Tryd.func109 Tryd.ntmps109 rfl rfl rfl ?_
  repeat' first
 | (apply p1 (hd:=rfl);case hop=>first|(apply D_move;rfl)|(apply D_assign;rfl)|(apply D_pc (idx_pc [40,41,91,93,123,125,34,59] _);rfl;exact .same rfl (.same rfl .nil))|(apply D_pickT;rfl;rfl)|(apply D_pickF;rfl;rfl)|(apply D_int;rfl;rfl;rfl))
 | refine W_seq ?_
 | refine W_region ?_
 | refine WL_nil ?_
 | (refine idG ?_;first|refine g0t rfl rfl rfl ?_|refine gr rfl rfl ?_|refine gs rfl rfl (fun _=>?_) (fun _=>?_))
 | refine tn ?_
 | refine W_ret ?_
 | (refine idR ?_;refine ret1 rfl rfl rfl ?_)
 | (refine Le.bool ?_)
  all_goals (rw [Bool.eq_iff_iff,hb];first|(simp only [iLt_t];omega)|(simp only [Bool.false_eq_true,false_iff];omega)|(simp only [true_iff];omega))
theorem u34 {c : UInt8} : (c.toNat : Int) = 34 ↔ c = 34:=by rw [← UInt8.toNat_inj];show _ ↔ c.toNat = 34;omega
set_option maxHeartbeats 4000000 in
theorem size_pc [GlobF Tryd.prog] (s : List UInt8) (h0 : 0 < s.length) (hs : s.length < 281474976710656) : PC Tryd.prog 83 [str s] (.tu [.sc (.int .i64 (szI s)),.sc (.bool (sz s).isSome)]):=by
  refine PC.of_body Tryd.func83 Tryd.ntmps83 rfl rfl rfl ?_
  repeat' first
 | (apply p1 (hd:=rfl);case hop=>first|(apply D_move;rfl)|(apply D_assign;rfl)|(apply D_pc (idx_pc (s.drop 1) 34);rfl;exact .same rfl (.same rfl .nil))|(apply D_int;rfl;rfl;rfl)|(apply D_idxSn;rfl;rfl;(first|omega|(simp;done)))|(apply D_slSl;rfl;rfl;all_goals first|omega|((repeat rw [w64 _ (by omega) (by omega)]);omega)|decide))
 | refine W_seq ?_
 | refine W_region ?_
 | (refine idC ?_;refine cs rfl (fun _=>?_) (fun _=>?_))
 | refine WL_nil ?_
 | refine tn ?_
 | refine tr ?_
 | refine W_skip ?_
 | refine W_block ?_
 | refine W_ret ?_
 | (refine idR ?_;refine ret2 rfl rfl rfl rfl ?_ ?_)
 | refine Le.bool ?_
 | (refine Le.int ?_)
  · rename_i h
    obtain ⟨e1,e2,e3,e4⟩:=sz_q h0 (u34.1 h)
    rw [e1,w64 _ (by omega) (by omega)]
  · rename_i h
    obtain ⟨e1,e2,e3,e4⟩:=sz_q h0 (u34.1 h)
    rw [Bool.eq_iff_iff,e2,iLe_t]
  rename_i h
  have h34 : s[0] ≠ 34:=fun e=>h (u34.2 e)
  refine W_loopL (X:=Nat) (fun n=>[(0,str s),(5,.sc (.func (.func 109) #[] #[])),(6,.sc (.int .i64 (n : Int)))]) (fun _=>[])
    (fun n=>n ≤ s.length ∧ ∀ (i : Nat) (h : i < s.length),i < n → wordC s[i] = true) (fun n=>s.length - n) 0 ⟨Nat.zero_le _,fun i h hi=>by omega⟩ ⟨rfl,rfl,rfl,trivial⟩ rfl ?_
  rintro n ⟨hn,hz⟩
  by_cases hnl : n < s.length
  · have hs1:=size1_pc (s[n]'hnl)
    cases hw : wordC (s[n]'hnl) with
    | true =>
      rw [hw] at hs1
      repeat' first
 | (apply p1 (hd:=rfl);case hop=>first|(apply D_move;rfl)|(apply D_assign;rfl)|(apply D_pc hs1;rfl;exact .same rfl .nil)|(apply D_pickT;rfl;rfl)|(apply D_pickF;rfl;rfl)|(apply D_int;rfl;rfl;rfl)|(apply D_len_str;rfl)|(apply D_idxSn;rfl;rfl;(first|omega|(simp;done))))
 | refine W_seq ?_
 | refine W_region ?_
 | (refine idC ?_;first|refine c1 rfl ?_|refine c0 rfl ?_)
 | refine WL_nil ?_
 | (refine idG ?_;first|refine g0t rfl rfl rfl ?_|refine gr rfl rfl ?_|refine gs rfl rfl (fun _=>?_) (fun _=>?_))
 | refine tn ?_
 | refine bn ?_
 | refine te ?_
 | (refine idB ?_;refine bh rfl ?_)
 | refine W_skip ?_
 | refine W_block ?_
 | refine W_exit ?_
 | refine W_ret ?_
 | (refine idR ?_;refine ret2 rfl rfl rfl rfl ?_ ?_)
 | refine Le.bool ?_
 | (refine Le.int ?_)
      all_goals first
        | contradiction
        | (exfalso;omega)
        | exact ⟨rfl,n + 1,⟨hnl,fun i h hi=>by
            by_cases e : i = n
            · subst e;exact hw
            · exact hz i h (by omega)⟩,by omega,⟨rfl,rfl,ieq (wsucc n (by omega)),trivial⟩,rfl⟩
        | trace_state
    | false =>
      rw [hw] at hs1
      have hsz:=sz_word h0 h34 hn hz (fun _=>hw)
      have hI : szI s = (n : Int):=by
        unfold szI;rw [hsz]
        by_cases e : n = 0
        · subst e;simp only [if_true];rw [if_neg];rfl
          intro e;apply h34
          cases s with
          | nil=>simp at h0
          | cons c r=>simpa using e
        · simp only [if_neg e]
      have hS : (sz s).isSome = true ↔ 0 < n:=by
        rw [hsz];split <;> simp <;> omega
      repeat' first
 | (apply p1 (hd:=rfl);case hop=>first|(apply D_move;rfl)|(apply D_assign;rfl)|(apply D_pc hs1;rfl;exact .same rfl .nil)|(apply D_pickT;rfl;rfl)|(apply D_pickF;rfl;rfl)|(apply D_int;rfl;rfl;rfl)|(apply D_len_str;rfl)|(apply D_idxSn;rfl;rfl;(first|omega|(simp;done))))
 | refine W_seq ?_
 | refine W_region ?_
 | (refine idC ?_;refine c0 rfl ?_)
 | refine WL_nil ?_
 | (refine idG ?_;first|refine g0t rfl rfl rfl ?_|refine gr rfl rfl ?_|refine gs rfl rfl (fun _=>?_) (fun _=>?_))
 | refine tn ?_
 | refine te ?_
 | (refine idB ?_;refine bh rfl ?_)
 | refine W_exit ?_
 | refine W_ret ?_
 | (refine idR ?_;refine ret2 rfl rfl rfl rfl ?_ ?_)
 | refine Le.bool ?_
 | (refine Le.int ?_)
      all_goals first
        | contradiction
        | (exfalso;omega)
        | exact hI.symm
        | (rw [Bool.eq_iff_iff,hS,iLt_t];omega)
        | trace_state
  · have e : n = s.length:=by omega
    have hsz:=sz_word h0 h34 hn hz (fun h=>absurd h hnl)
    have hI : szI s = (n : Int):=by
      unfold szI;rw [hsz,if_neg (by omega)]
    have hS : (sz s).isSome = true:=by
      rw [hsz,if_neg (by omega)];rfl
    repeat' first
 | (apply p1 (hd:=rfl);case hop=>first|(apply D_move;rfl)|(apply D_assign;rfl)|(apply D_pickF;rfl;rfl)|(apply D_int;rfl;rfl;rfl)|(apply D_len_str;rfl)|(apply D_idxSn;rfl;rfl;(first|omega|(simp;done))))
 | refine W_seq ?_
 | refine W_region ?_
 | (refine idC ?_;refine c0 rfl ?_)
 | refine WL_nil ?_
 | (refine idG ?_;first|refine g0t rfl rfl rfl ?_|refine gr rfl rfl ?_|refine gs rfl rfl (fun _=>?_) (fun _=>?_))
 | refine tn ?_
 | refine te ?_
 | (refine idB ?_;refine bh rfl ?_)
 | refine W_exit ?_
 | refine W_ret ?_
 | (refine idR ?_;refine ret2 rfl rfl rfl rfl ?_ ?_)
 | refine Le.bool ?_
 | (refine Le.int ?_)
    all_goals first
      | contradiction
      | (exfalso;omega)
      | exact hI.symm
      | (rw [Bool.eq_iff_iff,iLt_t];simp only [hS,iff_true];omega)
      | trace_state
end Go.Proofs
