/- Contracts of texts' tokens, told one by one. -/
import Derived.Test.YtnjnjbombcefcaaDoorCDInst
import Derived.Test.YtnjnjbombcefcaaDoorPTx
import Derived.Test.YtnjnjbombcefcaaDoorPTx4
import Derived.Test.YtnjnjbombcefcaaDoorOps26
import Derived.Shelf.Strings.Search3
set_option linter.all false
namespace Go.Proofs
open Go.AL Go.Txt
attribute [local irreducible] Go.AL.W Go.AL.WL Go.AL.WD Go.AL.POp Go.AL.PPOp Go.AL.POpS Go.AL.PC Go.AL.AC Go.AL.YW Go.AL.Ret Go.AL.Le Go.AL.thn Go.AL.inBlk Go.AL.scp
theorem blank_b (c : UInt8) : blankB c = true ↔ (c.toNat : Int) = 32 ∨ (c.toNat : Int) = 9 ∨ (c.toNat : Int) = 10 ∨ (c.toNat : Int) = 13:=by
  simp only [blankB,Bool.or_eq_true,beq_iff_eq,← UInt8.toNat_inj]
  show ((c.toNat = 32 ∨ c.toNat = 9) ∨ c.toNat = 10) ∨ c.toNat = 13 ↔ _
  omega
set_option maxHeartbeats 4000000 in
theorem blank_pc [GlobF Tryd.prog] (c : UInt8) : PC Tryd.prog 82 [.sc (.int .u8 c.toNat)] (.sc (.bool (blankB c))):=by
  have hb:=blank_b c
  refine PC.of_body Tryd.func82 Tryd.ntmps82 rfl rfl rfl ?_
  repeat' first
 | (apply p1 (hd:=rfl);case hop=>first|(apply D_move;rfl)|(apply D_assign;rfl)|(apply D_pickT;rfl;rfl)|(apply D_pickF;rfl;rfl)|(apply D_int;rfl;rfl;rfl))
 | refine W_seq ?_
 | refine W_region ?_
 | refine WL_nil ?_
 | (refine idG ?_;first|refine g0f rfl rfl rfl ?_|refine gr rfl rfl ?_|refine gs rfl rfl (fun _=>?_) (fun _=>?_))
 | refine tn ?_
 | refine W_ret ?_
 | (refine idR ?_;refine ret1 rfl rfl rfl ?_)
 | (refine Le.bool ?_)
  all_goals (rw [Bool.eq_iff_iff,hb];first|(simp only [iEq_t];omega)|(simp only [Bool.false_eq_true,false_iff];omega)|(simp only [true_iff];omega))
theorem word_b (c : UInt8) : wordC c = true ↔ 32 < (c.toNat : Int) ∧ (c.toNat : Int) ≤ 126 ∧ ¬ (0 ≤ Lib.indexByte [40,41,91,93,123,125,34,59] c):=by
  rw [idx_mem]
  simp only [wordC,Bool.and_eq_true,decide_eq_true_eq,Bool.not_eq_true',List.contains_eq_mem,decide_eq_false_iff_not]
  constructor
  · rintro ⟨⟨a,b⟩,h⟩;exact ⟨by omega,by omega,h⟩
  · rintro ⟨a,b,h⟩;exact ⟨⟨by omega,by omega⟩,h⟩
set_option maxHeartbeats 4000000 in
theorem size1_pc [GlobF Tryd.prog] (c : UInt8) : PC Tryd.prog 109 [.sc (.int .u8 c.toNat)] (.sc (.bool (wordC c))):=by
  have hb:=word_b c
  refine PC.of_body Tryd.func109 Tryd.ntmps109 rfl rfl rfl ?_
  repeat' first
 | (apply p1 (hd:=rfl);case hop=>first|(apply D_move;rfl)|(apply D_assign;rfl)|(apply D_pc (idx_pc [40,41,91,93,123,125,34,59] _);rfl;exact .same rfl (.same rfl .nil))|(apply D_pickT;rfl;rfl)|(apply D_pickF;rfl;rfl)|(apply D_int;rfl;rfl;rfl))
 | refine W_seq ?_
 | refine W_region ?_
 | refine WL_nil ?_
 | (refine idG ?_;first|refine g0t rfl rfl rfl ?_|refine gr rfl rfl ?_|refine gs rfl rfl (fun _=>?_) (fun _=>?_))
 | refine tn ?_
 | refine W_ret ?_
 | (refine idR ?_;refine ret1 rfl rfl rfl ?_)
 | (refine Le.bool ?_)
  all_goals (rw [Bool.eq_iff_iff,hb];first|(simp only [iLt_t];omega)|(simp only [Bool.false_eq_true,false_iff];omega)|(simp only [true_iff];omega))
theorem u34 {c : UInt8} : (c.toNat : Int) = 34 ↔ c = 34:=by rw [← UInt8.toNat_inj];show _ ↔ c.toNat = 34;omega
set_option maxHeartbeats 4000000 in
theorem size_pc [GlobF Tryd.prog] (s : List UInt8) (h0 : 0 < s.length) (hs : s.length < 281474976710656) : PC Tryd.prog 83 [str s] (.tu [.sc (.int .i64 (szI s)),.sc (.bool (sz s).isSome)]):=by
  refine PC.of_body Tryd.func83 Tryd.ntmps83 rfl rfl rfl ?_
  repeat' first
 | (apply p1 (hd:=rfl);case hop=>first|(apply D_move;rfl)|(apply D_assign;rfl)|(apply D_pc (idx_pc (s.drop 1) 34);rfl;exact .same rfl (.same rfl .nil))|(apply D_int;rfl;rfl;rfl)|(apply D_idxSn;rfl;rfl;(first|omega|(simp;done)))|(apply D_slSl;rfl;rfl;all_goals first|omega|((repeat rw [w64 _ (by omega) (by omega)]);omega)|decide))
 | refine W_seq ?_
 | refine W_region ?_
 | (refine idC ?_;refine cs rfl (fun _=>?_) (fun _=>?_))
 | refine WL_nil ?_
 | refine tn ?_
 | refine tr ?_
 | refine W_skip ?_
 | refine W_block ?_
 | refine W_ret ?_
 | (refine idR ?_;refine ret2 rfl rfl rfl rfl ?_ ?_)
 | refine Le.bool ?_
 | (refine Le.int ?_)
  · rename_i h
    obtain ⟨e1,e2,e3,e4⟩:=sz_q h0 (u34.1 h)
    rw [e1,w64 _ (by omega) (by omega)]
  · rename_i h
    obtain ⟨e1,e2,e3,e4⟩:=sz_q h0 (u34.1 h)
    rw [Bool.eq_iff_iff,e2,iLe_t]
  rename_i h
  have h34 : s[0] ≠ 34:=fun e=>h (u34.2 e)
  refine W_loopL (X:=Nat) (fun n=>[(0,str s),(5,.sc (.func (.func 109) #[] #[])),(6,.sc (.int .i64 (n : Int)))]) (fun _=>[])
    (fun n=>n ≤ s.length ∧ ∀ (i : Nat) (h : i < s.length),i < n → wordC s[i] = true) (fun n=>s.length - n) 0 ⟨Nat.zero_le _,fun i h hi=>by omega⟩ ⟨rfl,rfl,rfl,trivial⟩ rfl ?_
  rintro n ⟨hn,hz⟩
  by_cases hnl : n < s.length
  · have hs1:=size1_pc (s[n]'hnl)
    cases hw : wordC (s[n]'hnl) with
    | true =>
      rw [hw] at hs1
      repeat' first
 | (apply p1 (hd:=rfl);case hop=>first|(apply D_move;rfl)|(apply D_assign;rfl)|(apply D_pc hs1;rfl;exact .same rfl .nil)|(apply D_pickT;rfl;rfl)|(apply D_pickF;rfl;rfl)|(apply D_int;rfl;rfl;rfl)|(apply D_len_str;rfl)|(apply D_idxSn;rfl;rfl;(first|omega|(simp;done))))
 | refine W_seq ?_
 | refine W_region ?_
 | (refine idC ?_;first|refine c1 rfl ?_|refine c0 rfl ?_)
 | refine WL_nil ?_
 | (refine idG ?_;first|refine g0t rfl rfl rfl ?_|refine gr rfl rfl ?_|refine gs rfl rfl (fun _=>?_) (fun _=>?_))
 | refine tn ?_
 | refine bn ?_
 | refine te ?_
 | (refine idB ?_;refine bh rfl ?_)
 | refine W_skip ?_
 | refine W_block ?_
 | refine W_exit ?_
 | refine W_ret ?_
 | (refine idR ?_;refine ret2 rfl rfl rfl rfl ?_ ?_)
 | refine Le.bool ?_
 | (refine Le.int ?_)
      all_goals first
        | contradiction
        | (exfalso;omega)
        | exact ⟨rfl,n + 1,⟨hnl,fun i h hi=>by
            by_cases e : i = n
            · subst e;exact hw
            · exact hz i h (by omega)⟩,by omega,⟨rfl,rfl,ieq (wsucc n (by omega)),trivial⟩,rfl⟩
        | trace_state
    | false =>
      rw [hw] at hs1
      have hsz:=sz_word h0 h34 hn hz (fun _=>hw)
      have hI : szI s = (n : Int):=by
        unfold szI;rw [hsz]
        by_cases e : n = 0
        · subst e;simp only [if_true];rw [if_neg];rfl
          intro e;apply h34
          cases s with
          | nil=>simp at h0
          | cons c r=>simpa using e
        · simp only [if_neg e]
      have hS : (sz s).isSome = true ↔ 0 < n:=by
        rw [hsz];split <;> simp <;> omega
      repeat' first
 | (apply p1 (hd:=rfl);case hop=>first|(apply D_move;rfl)|(apply D_assign;rfl)|(apply D_pc hs1;rfl;exact .same rfl .nil)|(apply D_pickT;rfl;rfl)|(apply D_pickF;rfl;rfl)|(apply D_int;rfl;rfl;rfl)|(apply D_len_str;rfl)|(apply D_idxSn;rfl;rfl;(first|omega|(simp;done))))
 | refine W_seq ?_
 | refine W_region ?_
 | (refine idC ?_;refine c0 rfl ?_)
 | refine WL_nil ?_
 | (refine idG ?_;first|refine g0t rfl rfl rfl ?_|refine gr rfl rfl ?_|refine gs rfl rfl (fun _=>?_) (fun _=>?_))
 | refine tn ?_
 | refine te ?_
 | (refine idB ?_;refine bh rfl ?_)
 | refine W_exit ?_
 | refine W_ret ?_
 | (refine idR ?_;refine ret2 rfl rfl rfl rfl ?_ ?_)
 | refine Le.bool ?_
 | (refine Le.int ?_)
      all_goals first
        | contradiction
        | (exfalso;omega)
        | exact hI.symm
        | (rw [Bool.eq_iff_iff,hS,iLt_t];omega)
        | trace_state
  · have e : n = s.length:=by omega
    have hsz:=sz_word h0 h34 hn hz (fun h=>absurd h hnl)
    have hI : szI s = (n : Int):=by
      unfold szI;rw [hsz,if_neg (by omega)]
    have hS : (sz s).isSome = true:=by
      rw [hsz,if_neg (by omega)];rfl
    repeat' first
 | (apply p1 (hd:=rfl);case hop=>first|(apply D_move;rfl)|(apply D_assign;rfl)|(apply D_pickF;rfl;rfl)|(apply D_int;rfl;rfl;rfl)|(apply D_len_str;rfl)|(apply D_idxSn;rfl;rfl;(first|omega|(simp;done))))
 | refine W_seq ?_
 | refine W_region ?_
 | (refine idC ?_;refine c0 rfl ?_)
 | refine WL_nil ?_
 | (refine idG ?_;first|refine g0t rfl rfl rfl ?_|refine gr rfl rfl ?_|refine gs rfl rfl (fun _=>?_) (fun _=>?_))
 | refine tn ?_
 | refine te ?_
 | (refine idB ?_;refine bh rfl ?_)
 | refine W_exit ?_
 | refine W_ret ?_
 | (refine idR ?_;refine ret2 rfl rfl rfl rfl ?_ ?_)
 | refine Le.bool ?_
 | (refine Le.int ?_)
    all_goals first
      | contradiction
      | (exfalso;omega)
      | exact hI.symm
      | (rw [Bool.eq_iff_iff,iLt_t];simp only [hS,iff_true];omega)
      | trace_state
end Go.Proofs

namespace Go.Proofs
open Go.AL Go.Txt
attribute [local irreducible] Go.AL.W Go.AL.WL Go.AL.WD Go.AL.POp Go.AL.PPOp Go.AL.POpS Go.AL.PC Go.AL.AC Go.AL.YW Go.AL.Ret Go.AL.Le Go.AL.thn Go.AL.inBlk Go.AL.scp
def tkA (t : Tok) : AV:=.ag [str t.s,.sc (.int .i64 (t.ln : Int)),.sc (.int .i64 (t.cl : Int)),.sc (.bool t.bad)]
structure Tk0 where
  a : Nat
  f : Nat
  n : Nat
  w : Bool
  h : List AObj
set_option maxHeartbeats 16000000 in
theorem tokens1_ac [GlobF Tryd.prog] (s : List UInt8) (hs : s.length < 1099511627776) (l : Nat) (I : List Tok → List AObj → Prop) (D : List AObj → Prop) {h0 : List AObj} (hI : I (toks s 1 1 false) h0)
    (hst : ∀ ts h o,I ts h → I ts (h ++ [o]))
    (hy : ∀ t ts h,I (t :: ts) h → YW Tryd.prog l [tkA t] h (fun b h'=>(b = true → I ts h') ∧ (b = false → D h'))) :
    AC Tryd.prog 81 [.sc (.func (.yield l) #[] #[]),.ep [str s]] h0 (fun _ h'=>I [] h' ∨ D h'):=by
  have hst2 : ∀ ts h x y,I ts h → I ts ((h ++ [x]).set h.length y):=fun ts h x y hI=>by rw [set_lastO];exact hst _ _ _ hI
  have hend : ∀ {b : Bool} {h' : List AObj},((b = true → I [] h') ∧ (b = false → D h')) → I [] h' ∨ D h':=fun {b h'} hb=>by
    cases b with
    | true=>exact .inl (hb.1 rfl)
    | false=>exact .inr (hb.2 rfl)
  have hnT : Value.bool (bNot true) = .bool false:=by simp [bNot]
  have hnF : Value.bool (bNot false) = .bool true:=by simp [bNot]
  refine AC.of_body Tryd.func81 Tryd.ntmps81 rfl rfl rfl ?_
  repeat' first
 | (apply p1 (hd:=rfl);case hop=>first|(apply D_assign;rfl))
 | refine W_seq ?_
 | refine W_region ?_
 | refine WL_nil ?_
 | refine tn ?_
 | refine W_block ?_
 | refine W_label ?_
 | (refine W_scope ?_)
  refine W_loopL (X:=Tk0) (fun x=>[(0,.sc (.func (.yield l) #[] #[])),(1,.ep [str s]),(3,.sc (.int .i64 (x.n : Int))),(4,.sc (.int .i64 (x.f : Int))),(5,.sc (.bool x.w)),(6,.sc (.int .i64 (x.a : Int)))]) (fun x=>x.h)
    (fun x=>x.a ≤ s.length ∧ x.f ≤ x.a ∧ x.n ≤ x.a + 1 ∧ I (toks (s.drop x.a) x.n (x.a - x.f + 1) x.w) x.h) (fun x=>s.length - x.a) ⟨0,0,1,false,h0⟩ ⟨Nat.zero_le _,Nat.le_refl _,Nat.le_refl _,hI⟩ ⟨rfl,rfl,rfl,rfl,rfl,rfl,trivial⟩ rfl ?_
  rintro ⟨a,f,n,w,h⟩ ⟨ha,hf,hn,hIs⟩
  simp only at ha hf hn hIs ⊢
  have hcl : IntKind.i64.wrap (IntKind.i64.wrap ((a : Int) - (f : Int)) + 1) = ((a - f + 1 : Nat) : Int):=by
    rw [w64 ((a : Int) - (f : Int)) (by omega) (by omega),w64 _ (by omega) (by omega)];omega
  have hn1 : IntKind.i64.wrap ((n : Int) + 1) = ((n + 1 : Nat) : Int):=wsucc n (by omega)
  by_cases hal : a < s.length
  · have ha1 : IntKind.i64.wrap ((a : Int) + 1) = ((a + 1 : Nat) : Int):=wsucc a (by omega)
    have h59i : (s[a].toNat : Int) = 59 ↔ s[a] = 59:=by rw [← UInt8.toNat_inj];show _ ↔ s[a].toNat = 59;omega
    have h10i : (s[a].toNat : Int) = 10 ↔ s[a] = 10:=by rw [← UInt8.toNat_inj];show _ ↔ s[a].toNat = 10;omega
    have hki : 0 ≤ Lib.indexByte [40,91,123,41,93,125] s[a] ↔ s[a] ∈ opn ++ cls:=idx_mem _ _
    have hbk:=blank_pc s[a]
    by_cases h10 : s[a] = 10
    · have h10':=h10i.2 h10
      repeat' first
 | (apply p1 (hd:=rfl);case hop=>first|(apply D_move;rfl)|(apply D_assign;rfl)|exact D_sc (D_int rfl rfl rfl) (congrArg (Value.int IntKind.i64) hcl)|(apply D_load1;rfl)|(apply D_int;rfl;rfl;rfl)|(apply D_len_str;rfl)|(apply D_idxSn;rfl;rfl;(first|omega|(simp;done)))|exact D_build rfl)
 | refine W_seq ?_
 | refine W_region ?_
 | (refine idC ?_;refine cs rfl (fun _=>?_) (fun _=>?_))
 | refine WL_nil ?_
 | refine tn ?_
 | refine bn ?_
 | refine te ?_
 | (refine idB ?_;first|refine bh rfl ?_|refine bm rfl ?_)
 | refine W_skip ?_
 | refine W_block ?_
 | refine W_exit ?_
 | (refine idA ?_;refine m_alloc rfl ?_)
 | (refine idS ?_;first|refine pS (S_store rfl rfl rfl (by (repeat first|assumption|exact get_last|(refine get_last2 ?_;focus (simp;done))|apply get_set|apply get_app|(apply get_ne;focus omega)|(apply get_ne;focus (simp only [List.length_set,List.length_append,List.length_cons,List.length_nil];omega)));done) (by rfl) (by rfl) (by rfl)) ?_)
      all_goals first
        | contradiction
        | (exfalso;omega)
        | skip
      rw [toks_nl hal h10] at hIs
      refine ⟨rfl,⟨a + 1,a + 1,n + 1,false,_⟩,⟨hal,Nat.le_refl _,by show n + 1 ≤ a + 1 + 1;omega,?_⟩,by show s.length - (a + 1) < s.length - a;omega,⟨rfl,rfl,ieq hn1,ieq ha1,rfl,ieq ha1,trivial⟩,rfl⟩
      show I (toks (s.drop (a + 1)) (n + 1) (a + 1 - (a + 1) + 1) false) _
      rw [Nat.sub_self]
      exact hst2 _ _ _ _ hIs
    have h10' : ¬ (s[a].toNat : Int) = 10:=fun e=>h10 (h10i.1 e)
    cases hbl : blankB s[a] with
    | true =>
      rw [hbl] at hbk
      repeat' first
 | (apply p1 (hd:=rfl);case hop=>first|(apply D_move;rfl)|(apply D_assign;rfl)|exact D_sc (D_int rfl rfl rfl) (congrArg (Value.int IntKind.i64) hcl)|(apply D_pc hbk;rfl;exact .same rfl .nil)|(apply D_load1;rfl)|(apply D_int;rfl;rfl;rfl)|(apply D_len_str;rfl)|(apply D_idxSn;rfl;rfl;(first|omega|(simp;done)))|exact D_build rfl)
 | refine W_seq ?_
 | refine W_region ?_
 | (refine idC ?_;first|refine c1 rfl ?_|refine cs rfl (fun _=>?_) (fun _=>?_))
 | refine WL_nil ?_
 | refine tn ?_
 | refine bn ?_
 | refine te ?_
 | (refine idB ?_;first|refine bh rfl ?_|refine bm rfl ?_)
 | refine W_skip ?_
 | refine W_block ?_
 | refine W_exit ?_
 | (refine idA ?_;refine m_alloc rfl ?_)
 | (refine idS ?_;first|refine pS (S_store rfl rfl rfl (by (repeat first|assumption|exact get_last|(refine get_last2 ?_;focus (simp;done))|apply get_set|apply get_app|(apply get_ne;focus omega)|(apply get_ne;focus (simp only [List.length_set,List.length_append,List.length_cons,List.length_nil];omega)));done) (by rfl) (by rfl) (by rfl)) ?_)
      all_goals first
        | contradiction
        | (exfalso;omega)
        | skip
      rw [toks_bl hal h10 hbl] at hIs
      refine ⟨rfl,⟨a + 1,f,n,false,_⟩,⟨hal,by show f ≤ a + 1;omega,by show n ≤ a + 1 + 1;omega,?_⟩,by show s.length - (a + 1) < s.length - a;omega,⟨rfl,rfl,rfl,rfl,rfl,ieq ha1,trivial⟩,rfl⟩
      show I (toks (s.drop (a + 1)) n (a + 1 - f + 1) false) _
      rw [show a + 1 - f + 1 = a - f + 1 + 1 by omega]
      exact hst2 _ _ _ _ hIs
    | false =>
      rw [hbl] at hbk
      by_cases h59 : s[a] = 59
      · have h59':=h59i.2 h59
        repeat' first
 | (apply p1 (hd:=rfl);case hop=>first|(apply D_move;rfl)|(apply D_assign;rfl)|exact D_sc (D_int rfl rfl rfl) (congrArg (Value.int IntKind.i64) hcl)|(apply D_pc hbk;rfl;exact .same rfl .nil)|(apply D_load1;rfl)|(apply D_int;rfl;rfl;rfl)|(apply D_len_str;rfl)|(apply D_idxSn;rfl;rfl;(first|omega|(simp;done)))|exact D_build rfl)
 | refine W_seq ?_
 | refine W_region ?_
 | (refine idC ?_;first|refine c0 rfl ?_|refine cs rfl (fun _=>?_) (fun _=>?_))
 | refine WL_nil ?_
 | refine tn ?_
 | refine bn ?_
 | refine te ?_
 | (refine idB ?_;first|refine bh rfl ?_|refine bm rfl ?_)
 | refine W_skip ?_
 | refine W_block ?_
 | refine W_exit ?_
 | (refine idA ?_;refine m_alloc rfl ?_)
 | (refine idS ?_;first|refine pS (S_store rfl rfl rfl (by (repeat first|assumption|exact get_last|(refine get_last2 ?_;focus (simp;done))|apply get_set|apply get_app|(apply get_ne;focus omega)|(apply get_ne;focus (simp only [List.length_set,List.length_append,List.length_cons,List.length_nil];omega)));done) (by rfl) (by rfl) (by rfl)) ?_)
        all_goals first
          | contradiction
          | (exfalso;omega)
          | skip
        refine W_hq set_lastO ?_
        refine W_loopL (X:=Nat) (fun k=>[(0,.sc (.func (.yield l) #[] #[])),(1,.ep [str s]),(3,.sc (.int .i64 (n : Int))),(4,.sc (.int .i64 (f : Int))),(5,.sc (.bool w)),(6,.sc (.int .i64 (k : Int)))]) (fun _=>h ++ [AObj.cells [str [],.sc (.int .i64 (n : Int)),.sc (.int .i64 ((a - f + 1 : Nat) : Int)),.sc (.bool false)]])
          (fun k=>a ≤ k ∧ k ≤ s.length ∧ ∀ (q : Nat) (h : q < s.length),a ≤ q → q < k → s[q] ≠ 10) (fun k=>s.length - k) a ⟨Nat.le_refl _,ha,fun q h h1 h2=>by omega⟩ ⟨rfl,rfl,rfl,rfl,rfl,rfl,trivial⟩ rfl ?_
        rintro k ⟨hak,hk,hz⟩
        have hout : (∀ (h : k < s.length),s[k] = 10) → a < k ∧ I (toks (s.drop k) n (k - f + 1) w) h:=fun hx=>by
          obtain ⟨e1,e2⟩:=toks_rem hal h59 hak hk hz hx n (a - f + 1) w
          rw [e2,show a - f + 1 + (k - a) = k - f + 1 by omega] at hIs
          exact ⟨e1,hIs⟩
        by_cases hkl : k < s.length
        · have h10k : (s[k].toNat : Int) = 10 ↔ s[k] = 10:=by rw [← UInt8.toNat_inj];show _ ↔ s[k].toNat = 10;omega
          repeat' first
 | (apply p1 (hd:=rfl);case hop=>first|(apply D_move;rfl)|(apply D_assign;rfl)|(apply D_load1;rfl)|(apply D_pickT;rfl;rfl)|(apply D_pickF;rfl;rfl)|(apply D_int;rfl;rfl;rfl)|(apply D_len_str;rfl)|(apply D_idxSn;rfl;rfl;(first|omega|(simp;done))))
 | refine W_seq ?_
 | refine W_region ?_
 | (refine idC ?_;first|refine c0 rfl ?_|refine cs rfl (fun _=>?_) (fun _=>?_))
 | refine WL_nil ?_
 | (refine idG ?_;first|refine g0t rfl rfl rfl ?_|refine gr rfl rfl ?_|refine gs rfl rfl (fun _=>?_) (fun _=>?_))
 | refine tn ?_
 | refine bn ?_
 | refine te ?_
 | (refine idB ?_;first|refine bh rfl ?_|refine bm rfl ?_)
 | refine W_skip ?_
 | refine W_block ?_
 | (refine W_exit ?_)
          all_goals first
            | contradiction
            | (exfalso;omega)
            | (rename_i hx
               refine ⟨rfl,k + 1,⟨by omega,hkl,fun q h h1 h2=>?_⟩,by omega,⟨rfl,rfl,rfl,rfl,rfl,ieq (wsucc k (by omega)),trivial⟩,rfl⟩
               by_cases e : q = k
               · subst e;exact fun e=>hx (h10k.2 e)
               · exact hz q h h1 (by omega))
            | (obtain ⟨e1,e2⟩:=hout (fun _=>h10k.1 (by omega))
               exact ⟨rfl,⟨k,f,n,w,_⟩,⟨hk,by show f ≤ k;omega,by show n ≤ k + 1;omega,hst _ _ _ e2⟩,by show s.length - k < s.length - a;omega,⟨rfl,rfl,rfl,rfl,rfl,rfl,trivial⟩,rfl⟩)
            | trace_state
        · obtain ⟨e1,e2⟩:=hout (fun h=>absurd h hkl)
          repeat' first
 | (apply p1 (hd:=rfl);case hop=>first|(apply D_move;rfl)|(apply D_assign;rfl)|(apply D_load1;rfl)|(apply D_pickT;rfl;rfl)|(apply D_pickF;rfl;rfl)|(apply D_int;rfl;rfl;rfl)|(apply D_len_str;rfl)|(apply D_idxSn;rfl;rfl;(first|omega|(simp;done))))
 | refine W_seq ?_
 | refine W_region ?_
 | (refine idC ?_;first|refine c0 rfl ?_|refine cs rfl (fun _=>?_) (fun _=>?_))
 | refine WL_nil ?_
 | (refine idG ?_;first|refine g0t rfl rfl rfl ?_|refine gr rfl rfl ?_|refine gs rfl rfl (fun _=>?_) (fun _=>?_))
 | refine tn ?_
 | refine bn ?_
 | refine te ?_
 | (refine idB ?_;first|refine bh rfl ?_|refine bm rfl ?_)
 | refine W_skip ?_
 | refine W_block ?_
 | (refine W_exit ?_)
          all_goals first
            | contradiction
            | (exfalso;omega)
            | exact ⟨rfl,⟨k,f,n,w,_⟩,⟨hk,by show f ≤ k;omega,by show n ≤ k + 1;omega,hst _ _ _ e2⟩,by show s.length - k < s.length - a;omega,⟨rfl,rfl,rfl,rfl,rfl,rfl,trivial⟩,rfl⟩
            | trace_state
      have h59' : ¬ (s[a].toNat : Int) = 59:=fun e=>h59 (h59i.1 e)
      by_cases hk : s[a] ∈ opn ++ cls
      · have hk':=hki.2 hk
        have hbr : (s.take (IntKind.i64.wrap ((a : Int) + 1)).toNat).drop ((a : Int)).toNat = [s[a]]:=by
          rw [ha1];show (s.take (a + 1)).drop a = _
          rw [List.take_succ_eq_append_getElem hal,List.drop_left' (by rw [List.length_take];omega)]
        rw [toks_br hal h10 hbl h59 hk] at hIs
        have hyi:=hy _ _ _ (hst _ _ .dead hIs)
        repeat' first
 | (apply p1 (hd:=rfl);case hop=>first|(apply D_move;rfl)|(apply D_assign;rfl)|exact D_sc (D_int rfl rfl rfl) (congrArg (Value.int IntKind.i64) hcl)|(apply D_pc hbk;rfl;exact .same rfl .nil)|(apply D_pc (idx_pc [40,91,123,41,93,125] _);rfl;exact .same rfl (.same rfl .nil))|exact D_eqv2 (D_slS rfl rfl rfl (by omega) (by rw [ha1];omega) (by rw [ha1];omega)) (congrArg str hbr)|(apply D_load1;rfl)|(apply D_fld;rfl)|(apply D_int;rfl;rfl;rfl)|(apply D_len_str;rfl)|(apply D_not;rfl)|(apply D_idxSn;rfl;rfl;(first|omega|(simp;done)))|(apply D_slSl;rfl;rfl;all_goals first|omega|((repeat rw [w64 _ (by omega) (by omega)]);omega)|decide)|exact D_build rfl|exact D_fldB rfl)
 | refine W_seq ?_
 | refine W_region ?_
 | (refine idC ?_;first|refine c0 rfl ?_|refine cs rfl (fun _=>?_) (fun _=>?_))
 | refine WL_nil ?_
 | refine tn ?_
 | refine tr ?_
 | refine br ?_
 | refine bn ?_
 | refine te ?_
 | (refine idB ?_;first|refine bh rfl ?_|refine bm rfl ?_)
 | refine W_skip ?_
 | refine W_block ?_
 | refine W_exit ?_
 | refine W_ret ?_
 | refine sr ?_
 | (refine idLd ?_;first|refine p1L (D_loadBA rfl (by (repeat first|assumption|exact get_last|(refine get_last2 ?_;focus (simp;done))|apply get_set|apply get_app|(apply get_ne;focus omega)|(apply get_ne;focus (simp only [List.length_set,List.length_append,List.length_cons,List.length_nil];omega)));done) (by rfl)) rfl ?_)
 | (refine idA ?_;refine m_alloc rfl ?_)
 | (refine idS ?_;first|refine pS (S_store rfl rfl rfl (by (repeat first|assumption|exact get_last|(refine get_last2 ?_;focus (simp;done))|apply get_set|apply get_app|(apply get_ne;focus omega)|(apply get_ne;focus (simp only [List.length_set,List.length_append,List.length_cons,List.length_nil];omega)));done) (by rfl) (by rfl) (by rfl)) ?_)
 | (refine m_freeze h.length (by (repeat first|assumption|exact get_last|(refine get_last2 ?_;focus (simp;done))|apply get_set|apply get_app|(apply get_ne;focus omega)|(apply get_ne;focus (simp only [List.length_set,List.length_append,List.length_cons,List.length_nil];omega)));done) ?_;refine WL_weak (s':=⟨[(0,.sc (.func (.yield l) #[] #[])),(1,.ep [str s]),(3,.sc (.int .i64 (n : Int))),(4,.sc (.int .i64 (f : Int))),(5,.sc (.bool false)),(6,.sc (.int .i64 (a : Int))),(7,.ep [str [s[a]],.sc (.int .i64 (n : Int)),.sc (.int .i64 ((a - f + 1 : Nat) : Int)),.sc (.bool false)]),(122,.sc (.func (.yield l) #[] #[])),(123,.ag [str [s[a]],.sc (.int .i64 (n : Int)),.sc (.int .i64 ((a - f + 1 : Nat) : Int)),.sc (.bool false)])],h ++ [.dead],⟨[],h0.length⟩⟩) ⟨⟨rfl,rfl,rfl,rfl,rfl,rfl,congrArg some frz_self,rfl,rfl,trivial⟩,by simp [set_lastO,List.set_set],rfl⟩ ?_;refine m_yield rfl rfl rfl hyi ?_;rintro (_|_) h' ⟨hb1,hb2⟩)
        all_goals first
          | contradiction
          | (exfalso;omega)
          | exact ret0 (.inl rfl) rfl rfl (.inr (hb2 rfl))
          | skip
        refine ⟨rfl,⟨a + 1,f,n,false,h'⟩,⟨hal,by show f ≤ a + 1;omega,by show n ≤ a + 1 + 1;omega,?_⟩,by show s.length - (a + 1) < s.length - a;omega,⟨rfl,rfl,rfl,rfl,rfl,ieq ha1,trivial⟩,rfl⟩
        show I (toks (s.drop (a + 1)) n (a + 1 - f + 1) false) _
        rw [show a + 1 - f + 1 = a - f + 1 + 1 by omega]
        exact hb1 rfl
      · have hk' : ¬ 0 ≤ Lib.indexByte [40,91,123,41,93,125] s[a]:=fun e=>hk (hki.1 e)
        have h34i : (s[a].toNat : Int) = 34 ↔ s[a] = 34:=u34
        have hszp:=size_pc (s.drop a) (by rw [List.length_drop];omega) (by rw [List.length_drop];omega)
        obtain ⟨t1,t2,t3,t4⟩:=toks_sz hal h10 hbl h59 hk n (a - f + 1) w
        cases hsz : sz (s.drop a) with
        | some m =>
          have hszI : szI (s.drop a) = (m : Int):=by unfold szI;rw [hsz]
          rw [hszI,hsz] at hszp
          obtain ⟨hm,hm0⟩:=sz_le hsz
          rw [List.length_drop] at hm
          cases w with
          | true =>
            rw [t1 m hsz rfl] at hIs
            repeat' first
 | (apply p1 (hd:=rfl);case hop=>first|(apply D_move;rfl)|(apply D_assign;rfl)|exact D_sc (D_int rfl rfl rfl) (congrArg (Value.int IntKind.i64) hcl)|(apply D_pc hbk;rfl;exact .same rfl .nil)|(apply D_pc (idx_pc [40,91,123,41,93,125] _);rfl;exact .same rfl (.same rfl .nil))|exact D_sc (D_not rfl) hnT|(apply D_pc hszp;rfl;exact .same rfl .nil)|(apply D_load1;rfl)|(apply D_pickT;rfl;rfl)|(apply D_pickF;rfl;rfl)|(apply D_int;rfl;rfl;rfl)|(apply D_len_str;rfl)|(apply D_ext;rfl;rfl)|(apply D_idxSn;rfl;rfl;(first|omega|(simp;done)))|(apply D_slS;rfl;rfl;rfl;all_goals first|omega|((repeat rw [w64 _ (by omega) (by omega)]);omega)|decide)|(apply D_slSl;rfl;rfl;all_goals first|omega|((repeat rw [w64 _ (by omega) (by omega)]);omega)|decide)|exact D_build rfl|exact D_fldB rfl)
 | refine W_seq ?_
 | refine W_region ?_
 | (refine idC ?_;first|refine c1 rfl ?_|refine c0 rfl ?_|refine cs rfl (fun _=>?_) (fun _=>?_))
 | refine WL_nil ?_
 | (refine idG ?_;first|refine g0t rfl rfl rfl ?_|refine g0f rfl rfl rfl ?_)
 | refine tn ?_
 | refine bn ?_
 | refine te ?_
 | (refine idB ?_;first|refine bh rfl ?_|refine bm rfl ?_)
 | refine W_skip ?_
 | refine W_block ?_
 | refine W_exit ?_
 | (refine idLd ?_;first|refine p1L (D_loadB1 rfl (by (repeat first|assumption|exact get_last|(refine get_last2 ?_;focus (simp;done))|apply get_set|apply get_app|(apply get_ne;focus omega)|(apply get_ne;focus (simp only [List.length_set,List.length_append,List.length_cons,List.length_nil];omega)));done) (by rfl)) rfl ?_|refine p1L (D_loadBA rfl (by (repeat first|assumption|exact get_last|(refine get_last2 ?_;focus (simp;done))|apply get_set|apply get_app|(apply get_ne;focus omega)|(apply get_ne;focus (simp only [List.length_set,List.length_append,List.length_cons,List.length_nil];omega)));done) (by rfl)) rfl ?_)
 | (refine idA ?_;refine m_alloc rfl ?_)
 | (refine idS ?_;first|refine pS (S_store rfl rfl rfl (by (repeat first|assumption|exact get_last|(refine get_last2 ?_;focus (simp;done))|apply get_set|apply get_app|(apply get_ne;focus omega)|(apply get_ne;focus (simp only [List.length_set,List.length_append,List.length_cons,List.length_nil];omega)));done) (by rfl) (by rfl) (by rfl)) ?_)
            all_goals first
              | contradiction
              | (exfalso;omega)
              | skip
            refine m_yield (K:=fun b h'=>(b = true → I [] h') ∧ (b = false → D h')) rfl rfl rfl ?_ ?_
            · simp only [set_lastO]
              exact hy _ [] _ (hst _ _ _ hIs)
            rintro b h' hb
            repeat' first
 | refine WL_nil ?_
 | refine tn ?_
 | refine tr ?_
 | refine br ?_
 | refine W_ret ?_
 | (refine sr ?_)
            exact ret0 (.inl rfl) rfl rfl (hend hb)
          | false =>
            rw [t2 m hsz rfl] at hIs
            have hyi:=hy _ _ _ (hst _ _ .dead hIs)
            have ham : IntKind.i64.wrap ((a : Int) + (m : Int)) = ((a + m : Nat) : Int):=by rw [w64 _ (by omega) (by omega)];omega
            have hbr : (s.take (IntKind.i64.wrap ((a : Int) + (m : Int))).toNat).drop ((a : Int)).toNat = (s.drop a).take m:=by
              rw [ham];show (s.take (a + m)).drop a = _
              rw [List.drop_take];congr 1;omega
            have hlm : IntKind.i64.wrap ((a : Int) + (((s.drop a).take m).length : Int)) = ((a + m : Nat) : Int):=by
              rw [List.length_take,List.length_drop,show min m (s.length - a) = m by omega,ham]
            repeat' first
 | (apply p1 (hd:=rfl);case hop=>first|(apply D_move;rfl)|(apply D_assign;rfl)|exact D_sc (D_int rfl rfl rfl) (congrArg (Value.int IntKind.i64) hcl)|(apply D_pc hbk;rfl;exact .same rfl .nil)|(apply D_pc (idx_pc [40,91,123,41,93,125] _);rfl;exact .same rfl (.same rfl .nil))|exact D_sc (D_not rfl) hnT|exact D_sc (D_not rfl) hnF|(apply D_pc hszp;rfl;exact .same rfl .nil)|exact D_eqv2 (D_slS rfl rfl rfl (by omega) (by rw [ham];omega) (by rw [ham];omega)) (congrArg str hbr)|(apply D_load1;rfl)|(apply D_fld;rfl)|(apply D_pickT;rfl;rfl)|(apply D_pickF;rfl;rfl)|(apply D_int;rfl;rfl;rfl)|(apply D_len_str;rfl)|(apply D_ext;rfl;rfl)|(apply D_idxSn;rfl;rfl;(first|omega|(simp;done)))|(apply D_slS;rfl;rfl;rfl;all_goals first|omega|((repeat rw [w64 _ (by omega) (by omega)]);omega)|decide)|(apply D_slSl;rfl;rfl;all_goals first|omega|((repeat rw [w64 _ (by omega) (by omega)]);omega)|decide)|exact D_build rfl|exact D_fldB rfl)
 | refine W_seq ?_
 | refine W_region ?_
 | (refine idC ?_;first|refine c1 rfl ?_|refine c0 rfl ?_|refine cs rfl (fun _=>?_) (fun _=>?_))
 | refine WL_nil ?_
 | (refine idG ?_;first|refine g0t rfl rfl rfl ?_|refine gr rfl rfl ?_)
 | refine tn ?_
 | refine tr ?_
 | refine br ?_
 | refine bn ?_
 | refine te ?_
 | (refine idB ?_;first|refine bh rfl ?_|refine bm rfl ?_)
 | refine W_skip ?_
 | refine W_block ?_
 | refine W_exit ?_
 | refine W_ret ?_
 | refine sr ?_
 | (refine idLd ?_;first|refine p1L (D_loadB1 rfl (by (repeat first|assumption|exact get_last|(refine get_last2 ?_;focus (simp;done))|apply get_set|apply get_app|(apply get_ne;focus omega)|(apply get_ne;focus (simp only [List.length_set,List.length_append,List.length_cons,List.length_nil];omega)));done) (by rfl)) rfl ?_|refine p1L (D_loadBA rfl (by (repeat first|assumption|exact get_last|(refine get_last2 ?_;focus (simp;done))|apply get_set|apply get_app|(apply get_ne;focus omega)|(apply get_ne;focus (simp only [List.length_set,List.length_append,List.length_cons,List.length_nil];omega)));done) (by rfl)) rfl ?_)
 | (refine idA ?_;refine m_alloc rfl ?_)
 | (refine idS ?_;first|refine pS (S_store rfl rfl rfl (by (repeat first|assumption|exact get_last|(refine get_last2 ?_;focus (simp;done))|apply get_set|apply get_app|(apply get_ne;focus omega)|(apply get_ne;focus (simp only [List.length_set,List.length_append,List.length_cons,List.length_nil];omega)));done) (by rfl) (by rfl) (by rfl)) ?_)
 | (refine m_freeze h.length (by (repeat first|assumption|exact get_last|(refine get_last2 ?_;focus (simp;done))|apply get_set|apply get_app|(apply get_ne;focus omega)|(apply get_ne;focus (simp only [List.length_set,List.length_append,List.length_cons,List.length_nil];omega)));done) ?_;refine WL_weak (s':=⟨[(0,.sc (.func (.yield l) #[] #[])),(1,.ep [str s]),(3,.sc (.int .i64 (n : Int))),(4,.sc (.int .i64 (f : Int))),(5,.sc (.bool true)),(6,.sc (.int .i64 (a : Int))),(7,.ep [str ((s.drop a).take m),.sc (.int .i64 (n : Int)),.sc (.int .i64 ((a - f + 1 : Nat) : Int)),.sc (.bool false)]),(122,.sc (.func (.yield l) #[] #[])),(123,.ag [str ((s.drop a).take m),.sc (.int .i64 (n : Int)),.sc (.int .i64 ((a - f + 1 : Nat) : Int)),.sc (.bool false)])],h ++ [.dead],⟨[],h0.length⟩⟩) ⟨⟨rfl,rfl,rfl,rfl,rfl,rfl,congrArg some frz_self,rfl,rfl,trivial⟩,by simp [set_lastO,List.set_set],rfl⟩ ?_;refine m_yield rfl rfl rfl hyi ?_;rintro (_|_) h' ⟨hb1,hb2⟩)
            all_goals first
              | contradiction
              | (exfalso;omega)
              | exact ret0 (.inl rfl) rfl rfl (.inr (hb2 rfl))
              | skip
            refine ⟨rfl,⟨a + m,f,n,true,h'⟩,⟨by show a + m ≤ s.length;omega,by show f ≤ a + m;omega,by show n ≤ a + m + 1;omega,?_⟩,by show s.length - (a + m) < s.length - a;omega,⟨rfl,rfl,rfl,rfl,rfl,ieq hlm,trivial⟩,rfl⟩
            show I (toks (s.drop (a + m)) n (a + m - f + 1) true) _
            rw [show a + m - f + 1 = a - f + 1 + m by omega]
            exact hb1 rfl
        | none =>
          rw [hsz] at hszp
          cases w with
          | true =>
            rw [t4 hsz (by simp)] at hIs
            repeat' first
 | (apply p1 (hd:=rfl);case hop=>first|(apply D_move;rfl)|(apply D_assign;rfl)|exact D_sc (D_int rfl rfl rfl) (congrArg (Value.int IntKind.i64) hcl)|(apply D_pc hbk;rfl;exact .same rfl .nil)|(apply D_pc (idx_pc [40,91,123,41,93,125] _);rfl;exact .same rfl (.same rfl .nil))|exact D_sc (D_not rfl) hnT|(apply D_pc hszp;rfl;exact .same rfl .nil)|(apply D_load1;rfl)|(apply D_pickT;rfl;rfl)|(apply D_pickF;rfl;rfl)|(apply D_int;rfl;rfl;rfl)|(apply D_len_str;rfl)|(apply D_ext;rfl;rfl)|(apply D_idxSn;rfl;rfl;(first|omega|(simp;done)))|(apply D_slS;rfl;rfl;rfl;all_goals first|omega|((repeat rw [w64 _ (by omega) (by omega)]);omega)|decide)|(apply D_slSl;rfl;rfl;all_goals first|omega|((repeat rw [w64 _ (by omega) (by omega)]);omega)|decide)|exact D_build rfl|exact D_fldB rfl)
 | refine W_seq ?_
 | refine W_region ?_
 | (refine idC ?_;first|refine c1 rfl ?_|refine c0 rfl ?_|refine cs rfl (fun _=>?_) (fun _=>?_))
 | refine WL_nil ?_
 | (refine idG ?_;first|refine g0t rfl rfl rfl ?_|refine g0f rfl rfl rfl ?_)
 | refine tn ?_
 | refine bn ?_
 | refine te ?_
 | (refine idB ?_;first|refine bh rfl ?_|refine bm rfl ?_)
 | refine W_skip ?_
 | refine W_block ?_
 | refine W_exit ?_
 | (refine idLd ?_;first|refine p1L (D_loadB1 rfl (by (repeat first|assumption|exact get_last|(refine get_last2 ?_;focus (simp;done))|apply get_set|apply get_app|(apply get_ne;focus omega)|(apply get_ne;focus (simp only [List.length_set,List.length_append,List.length_cons,List.length_nil];omega)));done) (by rfl)) rfl ?_|refine p1L (D_loadBA rfl (by (repeat first|assumption|exact get_last|(refine get_last2 ?_;focus (simp;done))|apply get_set|apply get_app|(apply get_ne;focus omega)|(apply get_ne;focus (simp only [List.length_set,List.length_append,List.length_cons,List.length_nil];omega)));done) (by rfl)) rfl ?_)
 | (refine idA ?_;refine m_alloc rfl ?_)
 | (refine idS ?_;first|refine pS (S_store rfl rfl rfl (by (repeat first|assumption|exact get_last|(refine get_last2 ?_;focus (simp;done))|apply get_set|apply get_app|(apply get_ne;focus omega)|(apply get_ne;focus (simp only [List.length_set,List.length_append,List.length_cons,List.length_nil];omega)));done) (by rfl) (by rfl) (by rfl)) ?_)
            all_goals first
              | contradiction
              | (exfalso;omega)
              | skip
            refine m_yield (K:=fun b h'=>(b = true → I [] h') ∧ (b = false → D h')) rfl rfl rfl ?_ ?_
            · simp only [set_lastO]
              exact hy _ [] _ (hst _ _ _ hIs)
            rintro b h' hb
            repeat' first
 | refine WL_nil ?_
 | refine tn ?_
 | refine tr ?_
 | refine br ?_
 | refine W_ret ?_
 | (refine sr ?_)
            exact ret0 (.inl rfl) rfl rfl (hend hb)
          | false =>
            by_cases h34 : s[a] = 34
            · have h34':=h34i.2 h34
              rw [t3 hsz rfl h34] at hIs
              repeat' first
 | (apply p1 (hd:=rfl);case hop=>first|(apply D_move;rfl)|(apply D_assign;rfl)|exact D_sc (D_int rfl rfl rfl) (congrArg (Value.int IntKind.i64) hcl)|(apply D_pc hbk;rfl;exact .same rfl .nil)|(apply D_pc (idx_pc [40,91,123,41,93,125] _);rfl;exact .same rfl (.same rfl .nil))|exact D_sc (D_not rfl) hnF|(apply D_pc hszp;rfl;exact .same rfl .nil)|(apply D_load1;rfl)|(apply D_pickT;rfl;rfl)|(apply D_pickF;rfl;rfl)|(apply D_int;rfl;rfl;rfl)|(apply D_lenM;rfl)|(apply D_len_str;rfl)|(apply D_ext;rfl;rfl)|(apply D_s2b;rfl)|(apply D_idxSn;rfl;rfl;(first|omega|(simp;done)))|(apply D_slS;rfl;rfl;rfl;all_goals first|omega|((repeat rw [w64 _ (by omega) (by omega)]);omega)|decide)|(apply D_slSl;rfl;rfl;all_goals first|omega|((repeat rw [w64 _ (by omega) (by omega)]);omega)|decide)|exact D_build rfl|exact D_fldB rfl)
 | refine W_seq ?_
 | refine W_region ?_
 | (refine idC ?_;first|refine c1 rfl ?_|refine c0 rfl ?_|refine cs rfl (fun _=>?_) (fun _=>?_))
 | refine WL_nil ?_
 | (refine idG ?_;refine gr rfl rfl ?_)
 | refine tn ?_
 | refine bn ?_
 | refine te ?_
 | (refine idB ?_;first|refine bh rfl ?_|refine bm rfl ?_)
 | refine W_skip ?_
 | refine W_block ?_
 | refine W_exit ?_
 | (refine idLd ?_;first|refine p1L (D_loadB1 rfl (by (repeat first|assumption|exact get_last|(refine get_last2 ?_;focus (simp;done))|apply get_set|apply get_app|(apply get_ne;focus omega)|(apply get_ne;focus (simp only [List.length_set,List.length_append,List.length_cons,List.length_nil];omega)));done) (by rfl)) rfl ?_|refine p1L (D_loadBA rfl (by (repeat first|assumption|exact get_last|(refine get_last2 ?_;focus (simp;done))|apply get_set|apply get_app|(apply get_ne;focus omega)|(apply get_ne;focus (simp only [List.length_set,List.length_append,List.length_cons,List.length_nil];omega)));done) (by rfl)) rfl ?_)
 | (refine idA ?_;refine m_alloc rfl ?_)
 | (refine idS ?_;first|refine pS (S_store rfl rfl rfl (by (repeat first|assumption|exact get_last|(refine get_last2 ?_;focus (simp;done))|apply get_set|apply get_app|(apply get_ne;focus omega)|(apply get_ne;focus (simp only [List.length_set,List.length_append,List.length_cons,List.length_nil];omega)));done) (by rfl) (by rfl) (by rfl)) ?_)
              all_goals first
                | contradiction
                | (exfalso;omega)
                | skip
              have hlen : (s.drop a).length = s.length - a:=by rw [List.length_drop]
              refine W_loopL (X:=Nat × Nat) (fun k=>[(0,.sc (.func (.yield l) #[] #[])),(1,.ep [str s]),(3,.sc (.int .i64 ((advL (n,a - f + 1) ((s.drop a).take k.1)).1 : Int))),(4,.sc (.int .i64 (k.2 : Int))),(6,.sc (.int .i64 ((a + k.1 : Nat) : Int))),(7,.bp h.length 0),(89,bytesAV (s.drop a)),(90,.sc (.int .i64 ((s.drop a).length : Int))),(91,.sc (.int .i64 (k.1 : Int)))]) (fun _=>h ++ [AObj.cells [str [],.sc (.int .i64 (n : Int)),.sc (.int .i64 ((a - f + 1 : Nat) : Int)),.sc (.bool true)]])
                (fun k=>k.1 ≤ (s.drop a).length ∧ k.2 ≤ a + k.1 ∧ (advL (n,a - f + 1) ((s.drop a).take k.1)).2 = a + k.1 - k.2 + 1) (fun k=>(s.drop a).length - k.1) (0,f) ⟨Nat.zero_le _,by show f ≤ a + 0;omega,by show (a - f + 1) = a + 0 - f + 1;omega⟩ ⟨rfl,rfl,rfl,rfl,rfl,rfl,rfl,rfl,rfl,trivial⟩ (by simp only [set_lastO];rfl) ?_
              rintro ⟨k,g⟩ ⟨hk1,hk2,hk3⟩
              simp only at hk1 hk2 hk3 ⊢
              have hle:=advL_le ((s.drop a).take k) (n,a - f + 1)
              rw [List.length_take] at hle
              simp only at hle
              by_cases hkl : k < (s.drop a).length
              · have h10k : (((s.drop a)[k]).toNat : Int) = 10 ↔ (s.drop a)[k] = 10:=by rw [← UInt8.toNat_inj];show _ ↔ ((s.drop a)[k]).toNat = 10;omega
                have hsn:=advL_snoc (n,a - f + 1) (s.drop a) k hkl
                have hak : IntKind.i64.wrap (((a + k : Nat) : Int) + 1) = ((a + (k + 1) : Nat) : Int):=wsucc (a + k) (by omega)
                by_cases hx : (s.drop a)[k] = 10
                · have hx':=h10k.2 hx
                  have ha1 : (advL (n,a - f + 1) ((s.drop a).take (k + 1))).1 = (advL (n,a - f + 1) ((s.drop a).take k)).1 + 1:=by rw [hsn];unfold adv;rw [if_pos hx]
                  have ha2 : (advL (n,a - f + 1) ((s.drop a).take (k + 1))).2 = 1:=by rw [hsn];unfold adv;rw [if_pos hx]
                  repeat' first
 | (apply p1 (hd:=rfl);case hop=>first|(apply D_move;rfl)|(apply D_assign;rfl)|(apply D_load1;rfl)|(apply D_int;rfl;rfl;rfl)|(apply D_idxAn;rfl;rfl;(first|omega|(simp;done)))|exact D_fldB rfl)
 | refine W_seq ?_
 | refine W_region ?_
 | (refine idC ?_;first|refine c1 rfl ?_|refine cs rfl (fun _=>?_) (fun _=>?_))
 | refine WL_nil ?_
 | refine tn ?_
 | refine bn ?_
 | refine te ?_
 | (refine idB ?_;refine bh rfl ?_)
 | refine W_skip ?_
 | refine W_block ?_
 | refine W_exit ?_
 | (refine idLd ?_;first|refine p1L (D_loadB1 rfl (by (repeat first|assumption|exact get_last|(refine get_last2 ?_;focus (simp;done))|apply get_set|apply get_app|(apply get_ne;focus omega)|(apply get_ne;focus (simp only [List.length_set,List.length_append,List.length_cons,List.length_nil];omega)));done) (by rfl)) rfl ?_|refine p1L (D_loadBA rfl (by (repeat first|assumption|exact get_last|(refine get_last2 ?_;focus (simp;done))|apply get_set|apply get_app|(apply get_ne;focus omega)|(apply get_ne;focus (simp only [List.length_set,List.length_append,List.length_cons,List.length_nil];omega)));done) (by rfl)) rfl ?_)
 | (refine idS ?_;first|refine pS (S_store rfl rfl rfl (by (repeat first|assumption|exact get_last|(refine get_last2 ?_;focus (simp;done))|apply get_set|apply get_app|(apply get_ne;focus omega)|(apply get_ne;focus (simp only [List.length_set,List.length_append,List.length_cons,List.length_nil];omega)));done) (by rfl) (by rfl) (by rfl)) ?_)
                  all_goals first
                    | contradiction
                    | (exfalso;omega)
                    | exact ⟨rfl,(k + 1,a + (k + 1)),⟨hkl,Nat.le_refl _,by rw [ha2];show 1 = a + (k + 1) - (a + (k + 1)) + 1;omega⟩,by show _ - (k + 1) < _ - k;omega,⟨rfl,rfl,ieq (by rw [ha1];exact wsucc _ (by omega)),ieq hak,ieq hak,rfl,rfl,rfl,ieq (wsucc k (by omega)),trivial⟩,rfl⟩
                    | trace_state
                · have hx' : ¬ (((s.drop a)[k]).toNat : Int) = 10:=fun e=>hx (h10k.1 e)
                  have ha1 : (advL (n,a - f + 1) ((s.drop a).take (k + 1))).1 = (advL (n,a - f + 1) ((s.drop a).take k)).1:=by rw [hsn];unfold adv;rw [if_neg hx]
                  have ha2 : (advL (n,a - f + 1) ((s.drop a).take (k + 1))).2 = (advL (n,a - f + 1) ((s.drop a).take k)).2 + 1:=by rw [hsn];unfold adv;rw [if_neg hx]
                  repeat' first
 | (apply p1 (hd:=rfl);case hop=>first|(apply D_move;rfl)|(apply D_assign;rfl)|(apply D_load1;rfl)|(apply D_int;rfl;rfl;rfl)|(apply D_idxAn;rfl;rfl;(first|omega|(simp;done)))|exact D_fldB rfl)
 | refine W_seq ?_
 | refine W_region ?_
 | (refine idC ?_;first|refine c1 rfl ?_|refine cs rfl (fun _=>?_) (fun _=>?_))
 | refine WL_nil ?_
 | refine tn ?_
 | refine bn ?_
 | refine te ?_
 | (refine idB ?_;refine bh rfl ?_)
 | refine W_skip ?_
 | refine W_block ?_
 | refine W_exit ?_
 | (refine idLd ?_;first|refine p1L (D_loadB1 rfl (by (repeat first|assumption|exact get_last|(refine get_last2 ?_;focus (simp;done))|apply get_set|apply get_app|(apply get_ne;focus omega)|(apply get_ne;focus (simp only [List.length_set,List.length_append,List.length_cons,List.length_nil];omega)));done) (by rfl)) rfl ?_|refine p1L (D_loadBA rfl (by (repeat first|assumption|exact get_last|(refine get_last2 ?_;focus (simp;done))|apply get_set|apply get_app|(apply get_ne;focus omega)|(apply get_ne;focus (simp only [List.length_set,List.length_append,List.length_cons,List.length_nil];omega)));done) (by rfl)) rfl ?_)
 | (refine idS ?_;first|refine pS (S_store rfl rfl rfl (by (repeat first|assumption|exact get_last|(refine get_last2 ?_;focus (simp;done))|apply get_set|apply get_app|(apply get_ne;focus omega)|(apply get_ne;focus (simp only [List.length_set,List.length_append,List.length_cons,List.length_nil];omega)));done) (by rfl) (by rfl) (by rfl)) ?_)
                  all_goals first
                    | contradiction
                    | (exfalso;omega)
                    | exact ⟨rfl,(k + 1,g),⟨hkl,by show g ≤ a + (k + 1);omega,by rw [ha2,hk3];show _ = a + (k + 1) - g + 1;omega⟩,by show _ - (k + 1) < _ - k;omega,⟨rfl,rfl,ieq (by rw [ha1]),rfl,ieq hak,rfl,rfl,rfl,ieq (wsucc k (by omega)),trivial⟩,rfl⟩
                    | trace_state
              · have ek : k = (s.drop a).length:=by omega
                rw [ek,List.take_length] at hk3 hle
                have hcl2 : IntKind.i64.wrap (IntKind.i64.wrap (((a + k : Nat) : Int) - (g : Int)) + 1) = ((advL (n,a - f + 1) (s.drop a)).2 : Int):=by
                  rw [w64 (((a + k : Nat) : Int) - (g : Int)) (by omega) (by omega),w64 _ (by omega) (by omega)];omega
                have hln : (((advL (n,a - f + 1) ((s.drop a).take k)).1 : Nat) : Int) = ((advL (n,a - f + 1) (s.drop a)).1 : Int):=by rw [ek,List.take_length]
                rw [hln]
                repeat' first
 | (apply p1 (hd:=rfl);case hop=>first|(apply D_move;rfl)|(apply D_assign;rfl)|exact D_sc (D_int rfl rfl rfl) (congrArg (Value.int IntKind.i64) hcl2)|(apply D_load1;rfl)|(apply D_int;rfl;rfl;rfl)|(apply D_idxAn;rfl;rfl;(first|omega|(simp;done)))|exact D_fldB rfl)
 | refine W_seq ?_
 | refine W_region ?_
 | (refine idC ?_;first|refine c1 rfl ?_|refine cs rfl (fun _=>?_) (fun _=>?_))
 | refine WL_nil ?_
 | refine tn ?_
 | refine bn ?_
 | refine te ?_
 | (refine idB ?_;refine bh rfl ?_)
 | refine W_skip ?_
 | refine W_block ?_
 | refine W_exit ?_
 | (refine idLd ?_;first|refine p1L (D_loadB1 rfl (by (repeat first|assumption|exact get_last|(refine get_last2 ?_;focus (simp;done))|apply get_set|apply get_app|(apply get_ne;focus omega)|(apply get_ne;focus (simp only [List.length_set,List.length_append,List.length_cons,List.length_nil];omega)));done) (by rfl)) rfl ?_|refine p1L (D_loadBA rfl (by (repeat first|assumption|exact get_last|(refine get_last2 ?_;focus (simp;done))|apply get_set|apply get_app|(apply get_ne;focus omega)|(apply get_ne;focus (simp only [List.length_set,List.length_append,List.length_cons,List.length_nil];omega)));done) (by rfl)) rfl ?_)
 | (refine idS ?_;first|refine pS (S_store rfl rfl rfl (by (repeat first|assumption|exact get_last|(refine get_last2 ?_;focus (simp;done))|apply get_set|apply get_app|(apply get_ne;focus omega)|(apply get_ne;focus (simp only [List.length_set,List.length_append,List.length_cons,List.length_nil];omega)));done) (by rfl) (by rfl) (by rfl)) ?_)
                all_goals first
                  | contradiction
                  | (exfalso;omega)
                  | skip
                refine m_yield (K:=fun b h'=>(b = true → I [] h') ∧ (b = false → D h')) rfl rfl rfl ?_ ?_
                · simp only [set_lastO]
                  exact hy _ [] _ (hst _ _ _ hIs)
                rintro b h' hb
                repeat' first
 | refine WL_nil ?_
 | refine tn ?_
 | refine tr ?_
 | refine br ?_
 | refine W_ret ?_
 | (refine sr ?_)
                exact ret0 (.inl rfl) rfl rfl (hend hb)
            · rw [t4 hsz (fun e=>h34 e.2)] at hIs
              have h34' : ¬ (s[a].toNat : Int) = 34:=fun e=>h34 (h34i.1 e)
              repeat' first
 | (apply p1 (hd:=rfl);case hop=>first|(apply D_move;rfl)|(apply D_assign;rfl)|exact D_sc (D_int rfl rfl rfl) (congrArg (Value.int IntKind.i64) hcl)|(apply D_pc hbk;rfl;exact .same rfl .nil)|(apply D_pc (idx_pc [40,91,123,41,93,125] _);rfl;exact .same rfl (.same rfl .nil))|exact D_sc (D_not rfl) hnF|(apply D_pc hszp;rfl;exact .same rfl .nil)|(apply D_load1;rfl)|(apply D_pickT;rfl;rfl)|(apply D_pickF;rfl;rfl)|(apply D_int;rfl;rfl;rfl)|(apply D_lenM;rfl)|(apply D_len_str;rfl)|(apply D_ext;rfl;rfl)|(apply D_s2b;rfl)|(apply D_idxSn;rfl;rfl;(first|omega|(simp;done)))|(apply D_slS;rfl;rfl;rfl;all_goals first|omega|((repeat rw [w64 _ (by omega) (by omega)]);omega)|decide)|(apply D_slSl;rfl;rfl;all_goals first|omega|((repeat rw [w64 _ (by omega) (by omega)]);omega)|decide)|exact D_build rfl|exact D_fldB rfl)
 | refine W_seq ?_
 | refine W_region ?_
 | (refine idC ?_;first|refine c1 rfl ?_|refine c0 rfl ?_|refine cs rfl (fun _=>?_) (fun _=>?_))
 | refine WL_nil ?_
 | (refine idG ?_;refine gr rfl rfl ?_)
 | refine tn ?_
 | refine bn ?_
 | refine te ?_
 | (refine idB ?_;first|refine bh rfl ?_|refine bm rfl ?_)
 | refine W_skip ?_
 | refine W_block ?_
 | refine W_exit ?_
 | (refine idLd ?_;first|refine p1L (D_loadB1 rfl (by (repeat first|assumption|exact get_last|(refine get_last2 ?_;focus (simp;done))|apply get_set|apply get_app|(apply get_ne;focus omega)|(apply get_ne;focus (simp only [List.length_set,List.length_append,List.length_cons,List.length_nil];omega)));done) (by rfl)) rfl ?_|refine p1L (D_loadBA rfl (by (repeat first|assumption|exact get_last|(refine get_last2 ?_;focus (simp;done))|apply get_set|apply get_app|(apply get_ne;focus omega)|(apply get_ne;focus (simp only [List.length_set,List.length_append,List.length_cons,List.length_nil];omega)));done) (by rfl)) rfl ?_)
 | (refine idA ?_;refine m_alloc rfl ?_)
 | (refine idS ?_;first|refine pS (S_store rfl rfl rfl (by (repeat first|assumption|exact get_last|(refine get_last2 ?_;focus (simp;done))|apply get_set|apply get_app|(apply get_ne;focus omega)|(apply get_ne;focus (simp only [List.length_set,List.length_append,List.length_cons,List.length_nil];omega)));done) (by rfl) (by rfl) (by rfl)) ?_)
              all_goals first
                | contradiction
                | (exfalso;omega)
                | skip
              refine m_yield (K:=fun b h'=>(b = true → I [] h') ∧ (b = false → D h')) rfl rfl rfl ?_ ?_
              · simp only [set_lastO]
                exact hy _ [] _ (hst _ _ _ hIs)
              rintro b h' hb
              repeat' first
 | refine WL_nil ?_
 | refine tn ?_
 | refine tr ?_
 | refine br ?_
 | refine W_ret ?_
 | (refine sr ?_)
              exact ret0 (.inl rfl) rfl rfl (hend hb)
  · have e : a = s.length:=by omega
    subst e
    rw [toks_end s (Nat.le_refl _)] at hIs
    repeat' first
 | (apply p1 (hd:=rfl);case hop=>first|(apply D_move;rfl)|(apply D_assign;rfl)|exact D_sc (D_int rfl rfl rfl) (congrArg (Value.int IntKind.i64) hcl)|(apply D_load1;rfl)|(apply D_int;rfl;rfl;rfl)|(apply D_len_str;rfl)|(apply D_idxSn;rfl;rfl;(first|omega|(simp;done)))|exact D_build rfl)
 | refine W_seq ?_
 | refine W_region ?_
 | (refine idC ?_;refine cs rfl (fun _=>?_) (fun _=>?_))
 | refine WL_nil ?_
 | refine tn ?_
 | refine bn ?_
 | refine te ?_
 | (refine idB ?_;first|refine bh rfl ?_|refine bm rfl ?_)
 | refine W_skip ?_
 | refine W_block ?_
 | refine W_exit ?_
 | refine sn ?_
 | (refine idA ?_;refine m_alloc rfl ?_)
 | (refine idS ?_;first|refine pS (S_store rfl rfl rfl (by (repeat first|assumption|exact get_last|(refine get_last2 ?_;focus (simp;done))|apply get_set|apply get_app|(apply get_ne;focus omega)|(apply get_ne;focus (simp only [List.length_set,List.length_append,List.length_cons,List.length_nil];omega)));done) (by rfl) (by rfl) (by rfl)) ?_)
 | (refine m_yield rfl rfl rfl (hy _ _ _ hIs) ?_;rintro b h' hb)
    all_goals first
      | contradiction
      | (exfalso;omega)
      | exact ret0 (.inr rfl) rfl rfl (hend hb)
      | trace_state
end Go.Proofs

namespace Go.Proofs
open Go.Shelf
def Tryd.lays143_ren : Go.Shelf.Ren:=⟨fun|143=>40|219=>84|217=>90|225=>110|224=>111|267=>112|266=>120|314=>132|n=>n,fun|9=>9|3=>3|4=>4|5=>5|46=>147|146=>167|51=>166|n=>n,fun|1=>1|n=>n⟩
theorem Tryd.lays143 : Go.Proofs.Lays.n143 Tryd.prog Tryd.lays143_ren:={
  mixed:=by kernel_rfl
  f143:=Tryd.func40.trans (congrArg some (by kernel_rfl))
  f217:=Tryd.func90.trans (congrArg some (by kernel_rfl))
  f219:=Tryd.func84.trans (congrArg some (by kernel_rfl))
  f224:=Tryd.func111.trans (congrArg some (by kernel_rfl))
  f225:=Tryd.func110.trans (congrArg some (by kernel_rfl))
  f266:=Tryd.func120.trans (congrArg some (by kernel_rfl))
  f267:=Tryd.func112.trans (congrArg some (by kernel_rfl))
  f314:=Tryd.func132.trans (congrArg some (by kernel_rfl))
  t3:=Tryd.underlying3
  a3:=Tryd.isAgg3
  z3:=Tryd.sizeOf3
  v3:=Tryd.zeroValue3
  t4:=Tryd.underlying4
  a4:=Tryd.isAgg4
  z4:=Tryd.sizeOf4
  v4:=Tryd.zeroValue4
  t5:=Tryd.underlying5
  a5:=Tryd.isAgg5
  z5:=Tryd.sizeOf5
  v5:=Tryd.zeroValue5
  t9:=Tryd.underlying9
  a9:=Tryd.isAgg9
  z9:=Tryd.sizeOf9
  v9:=Tryd.zeroValue9
  t46:=Tryd.underlying147
  a46:=Tryd.isAgg147
  z46:=Tryd.sizeOf147
  v46:=Tryd.zeroValue147
  t51:=Tryd.underlying166
  a51:=Tryd.isAgg166
  z51:=Tryd.sizeOf166
  v51:=Tryd.zeroValue166
  t146:=Tryd.underlying167
  a146:=Tryd.isAgg167
  z146:=Tryd.sizeOf167
  v146:=Tryd.zeroValue167
  g1:=by kernel_rfl }
open Go.AL
attribute [local irreducible] Go.AL.W Go.AL.WL Go.AL.WD Go.AL.POp Go.AL.PPOp Go.AL.POpS Go.AL.PC Go.AL.AC Go.AL.YW Go.AL.Ret Go.AL.Le Go.AL.thn Go.AL.inBlk Go.AL.scp
def MaxLenOK [GlobF Tryd.prog] : Prop:=∃ m : Int,GlobF.f Tryd.prog 1 0 = some (.int .i64 m)
theorem index_pc [GlobF Tryd.prog] (hg : MaxLenOK) (s t : List UInt8) (hs : s.length < 4294967281) : PC Tryd.prog 40 [str s,str t] (.sc (.int .i64 (Lib.index s t))):=by
  obtain ⟨m,hm⟩:=hg
  exact PC.of_calls (us:=[.string ⟨s.toArray⟩,.string ⟨t.toArray⟩]) (enters_of Tryd.func40 (by kernel_rfl) rfl) fun w hgl=>Any.strings_Index Tryd.lays143 ⟨s.toArray⟩ ⟨t.toArray⟩ m w hs (hgl 1 0 _ hm)
theorem contains_pc [GlobF Tryd.prog] (hg : MaxLenOK) (s t : List UInt8) (hs : s.length < 4294967281) : PC Tryd.prog 39 [str s,str t] (.sc (.bool (decide (0 ≤ Lib.index s t)))):=by
  have hi:=index_pc hg s t hs
  refine PC.of_body Tryd.func39 Tryd.ntmps39 rfl rfl rfl ?_
  repeat' first
 | (apply p1 (hd:=rfl);case hop=>first|(apply D_move;rfl)|(apply D_assign;rfl)|(apply D_pc hi;rfl;exact .same rfl (.same rfl .nil))|(apply D_int;rfl;rfl;rfl))
 | refine W_seq ?_
 | refine W_region ?_
 | refine WL_nil ?_
 | refine tn ?_
 | refine W_ret ?_
 | (refine idR ?_;refine ret1 rfl rfl rfl ?_)
 | (refine Le.bool ?_)
  all_goals (rw [Bool.eq_iff_iff,iLe_t,decide_eq_true_iff])
end Go.Proofs
