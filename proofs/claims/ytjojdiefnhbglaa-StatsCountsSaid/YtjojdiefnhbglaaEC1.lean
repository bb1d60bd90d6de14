/- Contracts of facts' functions for seat E: may some be; the document's; what they weigh. -/
import Derived.Test.YtjojdiefnhbglaaEInst
import Derived.Test.YtjojdiefnhbglaaOps5
import Derived.Test.YtjojdiefnhbglaaOps12
import Derived.Test.YtjojdiefnhbglaaOps17
import Derived.Test.YtjojdiefnhbglaaOps19
import Derived.Test.YtjojdiefnhbglaaOps22
import Derived.Lib.BytesEntry
set_option linter.all false
namespace Go.Proofs
open Go.AL Go.Sort
attribute [local irreducible] Go.AL.W Go.AL.WL Go.AL.WD Go.AL.POp Go.AL.PPOp Go.AL.POpS Go.AL.PC Go.AL.AC Go.AL.YW Go.AL.Ret Go.AL.Le Go.AL.thn Go.AL.inBlk Go.AL.scp
structure Val where
  kind : Int
  n : Int
  s : List UInt8
abbrev vC (v : Val) : List AV:=[.sc (.int .i64 v.kind),.sc (.int .i64 v.n),str v.s]
abbrev eV (v : Val) : AV:=.ag (vC v)
def lowP (c : UInt8) : Prop:=97 ≤ (c.toNat : Int) ∧ (c.toNat : Int) ≤ 122
def digP (c : UInt8) : Prop:=48 ≤ (c.toNat : Int) ∧ (c.toNat : Int) ≤ 57
def tailP (c : UInt8) : Prop:=digP c ∨ (c.toNat : Int) = 46 ∨ (c.toNat : Int) = 95 ∨ (c.toNat : Int) = 45 ∨ (c.toNat : Int) = 47
def WordP (s : List UInt8) : Prop:=1 ≤ s.length ∧ s.length ≤ 64 ∧ ∀ (j : Nat) (h : j < s.length),lowP s[j] ∨ (0 < j ∧ tailP s[j])
open Classical in
noncomputable def wordB (s : List UInt8) : Bool:=decide (WordP s)
theorem wordB_t {s : List UInt8} (h : WordP s) : true = wordB s:=by unfold wordB;simp [h]
theorem wordB_f {s : List UInt8} (h : ¬ WordP s) : false = wordB s:=by unfold wordB;simp [h]
set_option maxHeartbeats 1000000 in
theorem word_pc [GlobF Try.prog] (s : List UInt8) (hl : s.length < 9223372036854775808) : PC Try.prog 153 [str s] (.sc (.bool (wordB s))):=by
  refine PC.of_body Try.func153 Try.ntmps153 rfl rfl rfl ?_
  repeat' first
 | (apply p1 (hd:=rfl);case hop=>first|(apply D_move;rfl)|(apply D_assign;rfl)|(apply D_lenM;rfl)|(apply D_s2b;rfl))
 | refine W_seq ?_
 | refine W_region ?_
 | refine WL_nil ?_
 | refine tn ?_
 | (refine W_block ?_)
  refine W_loopL (X:=Nat) (fun i=>[(0,str s),(2,.sc (.bool false)),(6,bytesAV s),(7,.sc (.int .i64 (s.length : Int))),(8,.sc (.int .i64 (i : Int)))]) (fun _=>[])
    (fun i=>i ≤ s.length ∧ ∀ (j : Nat) (h : j < s.length),j < i → lowP s[j] ∨ (0 < j ∧ tailP s[j])) (fun i=>s.length - i) 0 ⟨by omega,fun j h h'=>by omega⟩ ⟨rfl,rfl,rfl,rfl,rfl,trivial⟩ rfl ?_
  rintro i ⟨hi,hz⟩
  repeat' first
 | (apply p1 (hd:=rfl);case hop=>first|(apply D_move;rfl)|(apply D_assign;rfl)|(apply D_load1;rfl)|(apply D_pickT;rfl;rfl)|(apply D_pickF;rfl;rfl)|(apply D_int;rfl;rfl;rfl)|(apply D_len_str;rfl)|(apply D_idxAn;rfl;rfl;(first|omega|(simp;done))))
 | refine W_seq ?_
 | refine W_region ?_
 | (refine idC ?_;first|refine c1 rfl ?_|refine c0 rfl ?_|refine cs rfl (fun _=>?_) (fun _=>?_))
 | refine WL_nil ?_
 | (refine idG ?_;first|refine g0t rfl rfl rfl ?_|refine g0f rfl rfl rfl ?_|refine g0u rfl rfl rfl ?_|refine gr rfl rfl ?_|refine gs rfl rfl (fun _=>?_) (fun _=>?_))
 | refine tn ?_
 | refine tr ?_
 | refine br ?_
 | refine bn ?_
 | refine te ?_
 | (refine idB ?_;refine bh rfl ?_)
 | refine W_skip ?_
 | refine W_block ?_
 | refine W_exit ?_
 | refine W_ret ?_
 | (refine idR ?_;refine ret1 rfl rfl rfl ?_)
 | (refine Le.bool ?_)
  all_goals first
    | (refine ⟨rfl,i + 1,⟨by omega,fun j h hj=>?_⟩,by omega,⟨rfl,rfl,rfl,rfl,ieq (wsucc i (by omega)),trivial⟩,rfl⟩
       by_cases e : j = i
       · subst e;simp only [lowP,tailP,digP];omega
       · exact hz j h (by omega))
    | exact wordB_f fun h=>by
        have:=h.2.2 i (by omega)
        simp only [lowP,tailP,digP] at this;omega
    | exact wordB_f fun h=>by have h1:=h.1;have h2:=h.2.1;omega
    | skip
  all_goals
    by_cases hs : s.length ≤ 64
    · rw [(iLe_t _ _).mpr (by omega)]
      exact wordB_t ⟨by omega,hs,fun j h=>hz j h (by omega)⟩
    · rw [(iLe_f _ _).mpr (by omega)]
      exact wordB_f fun h=>hs h.2.1
open Classical in
noncomputable def dP (p : Prop) : Bool:=decide p
theorem dP_t {p : Prop} : (dP p = true) = p:=by unfold dP;simp
theorem dP_f {p : Prop} : (dP p = false) = ¬ p:=by unfold dP;simp
instance (p : Prop) : BP (dP p) p (¬ p):=⟨fun h=>by rwa [dP_t] at h,fun h=>by rwa [dP_f] at h⟩
instance (s : List UInt8) : BP (wordB s) (WordP s) (¬ WordP s):=⟨fun h=>by unfold wordB at h;simpa using h,fun h=>by unfold wordB at h;simpa using h⟩
theorem dP_eq {p : Prop} {b : Bool} (h : b = true ↔ p) : b = dP p:=by
  cases b
  · exact (dP_f.mpr (fun hp=>by simpa using h.2 hp)).symm
  · exact (dP_t.mpr (h.1 rfl)).symm
set_option maxHeartbeats 400000 in
theorem lower_pc [GlobF Try.prog] (c : UInt8) : PC Try.prog 136 [.sc (.int .u8 c.toNat)] (.sc (.bool (dP (lowP c)))):=by
  refine PC.of_body Try.func136 Try.ntmps136 rfl rfl rfl ?_
  repeat' first
 | (apply p1 (hd:=rfl);case hop=>first|(apply D_move;rfl)|(apply D_assign;rfl)|(apply D_pickT;rfl;rfl)|(apply D_pickF;rfl;rfl)|(apply D_int;rfl;rfl;rfl))
 | refine W_seq ?_
 | refine W_region ?_
 | refine WL_nil ?_
 | (refine idG ?_;first|refine g0t rfl rfl rfl ?_|refine gr rfl rfl ?_|refine gs rfl rfl (fun _=>?_) (fun _=>?_))
 | refine tn ?_
 | refine W_ret ?_
 | (refine idR ?_;refine ret1 rfl rfl rfl ?_)
 | (refine Le.bool ?_)
  all_goals (refine dP_eq ?_;simp only [lowP,iLe_t,Bool.false_eq_true,false_iff];omega)
set_option maxHeartbeats 400000 in
theorem digit_pc [GlobF Try.prog] (c : UInt8) : PC Try.prog 137 [.sc (.int .u8 c.toNat)] (.sc (.bool (dP (digP c)))):=by
  refine PC.of_body Try.func137 Try.ntmps137 rfl rfl rfl ?_
  repeat' first
 | (apply p1 (hd:=rfl);case hop=>first|(apply D_move;rfl)|(apply D_assign;rfl)|(apply D_pickT;rfl;rfl)|(apply D_pickF;rfl;rfl)|(apply D_int;rfl;rfl;rfl))
 | refine W_seq ?_
 | refine W_region ?_
 | refine WL_nil ?_
 | (refine idG ?_;first|refine g0t rfl rfl rfl ?_|refine gr rfl rfl ?_|refine gs rfl rfl (fun _=>?_) (fun _=>?_))
 | refine tn ?_
 | refine W_ret ?_
 | (refine idR ?_;refine ret1 rfl rfl rfl ?_)
 | (refine Le.bool ?_)
  all_goals (refine dP_eq ?_;simp only [digP,iLe_t,Bool.false_eq_true,false_iff];omega)
set_option maxHeartbeats 1000000 in
theorem word1_pc [GlobF Try.prog] (s : List UInt8) (hl : s.length < 9223372036854775808) : PC Try.prog 100 [str s] (.sc (.bool (wordB s))):=by
  refine PC.of_body Try.func100 Try.ntmps100 rfl rfl rfl ?_
  repeat' first
 | (apply p1 (hd:=rfl);case hop=>first|(apply D_move;rfl)|(apply D_assign;rfl)|(apply D_pc (lower_pc _);rfl;exact .same rfl .nil)|(apply D_pickT;rfl;rfl)|(apply D_pickF;rfl;rfl)|(apply D_int;rfl;rfl;rfl)|(apply D_len_str;rfl)|(apply D_not;rfl)|(apply D_idxS;rfl;rfl;omega;(first|omega|(simp;done)|(simp;omega))))
 | refine W_seq ?_
 | refine W_region ?_
 | (refine idC ?_;first|refine c1 rfl ?_|refine cs rfl (fun _=>?_) (fun _=>?_))
 | refine WL_nil ?_
 | (refine idG ?_;first|refine g0f rfl rfl rfl ?_|refine gr rfl rfl ?_|refine gs rfl rfl (fun _=>?_) (fun _=>?_))
 | refine tn ?_
 | refine tr ?_
 | refine W_skip ?_
 | refine W_block ?_
 | refine W_ret ?_
 | (refine idR ?_;refine ret1 rfl rfl rfl ?_)
 | (refine Le.bool ?_)
  · exact wordB_f fun h=>by have h1:=h.1;omega
  · exact wordB_f fun h=>by have h1:=h.2.1;omega
  · rename_i h1 h2 hne
    exact wordB_f fun h=>by
      have:=h.2.2 0 (by omega)
      rcases this with h | ⟨h,_⟩
      · exact hne h
      · omega
  rename_i h1 h2 hlow
  refine W_loopL (X:=Nat) (fun i=>[(0,str s),(2,.sc (.bool false)),(3,.sc (.int .i64 (i : Int)))]) (fun _=>[])
    (fun i=>i ≤ s.length ∧ ∀ (j : Nat) (h : j < s.length),j < i → lowP s[j] ∨ (0 < j ∧ tailP s[j])) (fun i=>s.length - i) 0 ⟨by omega,fun j h h'=>by omega⟩ ⟨rfl,rfl,rfl,trivial⟩ rfl ?_
  rintro i ⟨hi,hz⟩
  repeat' first
 | (apply p1 (hd:=rfl);case hop=>first|(apply D_move;rfl)|(apply D_assign;rfl)|(apply D_pc (lower_pc _);rfl;exact .same rfl .nil)|(apply D_pc (digit_pc _);rfl;exact .same rfl .nil)|(apply D_pickT;rfl;rfl)|(apply D_pickF;rfl;rfl)|(apply D_int;rfl;rfl;rfl)|(apply D_len_str;rfl)|(apply D_not;rfl)|(apply D_idxSn;rfl;rfl;(first|omega|(simp;done))))
 | refine W_seq ?_
 | refine W_region ?_
 | (refine idC ?_;first|refine c0 rfl ?_|refine cs rfl (fun _=>?_) (fun _=>?_))
 | refine WL_nil ?_
 | (refine idG ?_;first|refine g0t rfl rfl rfl ?_|refine gr rfl rfl ?_|refine gs rfl rfl (fun _=>?_) (fun _=>?_))
 | refine tn ?_
 | refine tr ?_
 | refine br ?_
 | refine bn ?_
 | refine te ?_
 | (refine idB ?_;refine bh rfl ?_)
 | refine W_skip ?_
 | refine W_block ?_
 | refine W_exit ?_
 | refine W_ret ?_
 | (refine idR ?_;refine ret1 rfl rfl rfl ?_)
 | (refine Le.bool ?_)
  all_goals first
    | (refine ⟨rfl,i + 1,⟨by omega,fun j h hj=>?_⟩,by omega,⟨rfl,rfl,ieq (wsucc i (by omega)),trivial⟩,rfl⟩
       by_cases e : j = i
       · subst e
         by_cases hj0 : j = 0
         · subst hj0;exact .inl hlow
         · simp only [lowP,tailP,digP] at *;omega
       · exact hz j h (by omega))
    | exact wordB_f fun h=>by
        have:=h.2.2 i (by omega)
        simp only [lowP,tailP,digP] at *;omega
    | exact wordB_t ⟨by omega,by omega,fun j h=>hz j h (by omega)⟩
def MayP (v : Val) : Prop :=
  (v.kind = 2 ∧ 0 ≤ v.n ∧ v.n ≤ 1 ∧ v.s = []) ∨ ((v.kind = 1 ∨ v.kind = 6) ∧ v.s = []) ∨ (v.kind = 5 ∧ v.s = [] ∧ 0 ≤ v.n ∧ v.n < 9007199254740992) ∨
  ((v.kind = 3 ∨ v.kind = 4) ∧ v.n = 0 ∧ v.s.length ≤ 1000) ∨ (v.kind = 7 ∧ v.n = 0 ∧ WordP v.s)
noncomputable def mayB (v : Val) : Bool:=dP (MayP v)
instance (v : Val) : BP (mayB v) (MayP v) (¬ MayP v):=⟨fun h=>by unfold mayB at h;rwa [dP_t] at h,fun h=>by unfold mayB at h;rwa [dP_f] at h⟩
theorem wordB_tt (s : List UInt8) : (wordB s = true) = WordP s:=by unfold wordB;simp
set_option maxHeartbeats 1000000 in
theorem may_pc [GlobF Try.prog] (v : Val) (hl : v.s.length < 9223372036854775808) : PC Try.prog 130 [eV v] (.sc (.bool (mayB v))):=by
  refine PC.of_body Try.func130 Try.ntmps130 rfl rfl rfl ?_
  repeat' first
 | (apply p1 (hd:=rfl);case hop=>first|(apply D_move;rfl)|(apply D_assign;rfl)|(apply D_pc (word_pc v.s hl);rfl;exact .same rfl .nil)|(apply D_load1;rfl)|(apply D_fld;rfl)|(apply D_pickT;rfl;rfl)|(apply D_pickF;rfl;rfl)|(apply D_int;rfl;rfl;rfl)|(apply D_len_str;rfl)|(apply D_str;rfl;rfl;rfl)|(apply D_box;rfl;rfl))
 | refine W_seq ?_
 | refine W_region ?_
 | (refine idC ?_;first|refine c1 rfl ?_|refine cs rfl (fun _=>?_) (fun _=>?_))
 | refine WL_nil ?_
 | (refine idG ?_;first|refine g0t rfl rfl rfl ?_|refine g0f rfl rfl rfl ?_|refine gr rfl rfl ?_|refine gs rfl rfl (fun _=>?_) (fun _=>?_))
 | refine tn ?_
 | refine tr ?_
 | refine br ?_
 | refine bn ?_
 | refine te ?_
 | (refine idB ?_;first|refine bh rfl ?_|refine bm rfl ?_)
 | refine W_skip ?_
 | refine W_block ?_
 | refine W_exit ?_
 | refine W_ret ?_
 | (refine idR ?_;refine ret1 rfl rfl rfl ?_)
 | (refine Le.bool ?_)
  all_goals (refine dP_eq ?_;simp_all [MayP,sEq_t,iLe_t,iLt_t,iEq_t,wordB_tt] <;> omega)
set_option maxHeartbeats 1000000 in
theorem may1_pc [GlobF Try.prog] (v : Val) (hl : v.s.length < 9223372036854775808) : PC Try.prog 71 [eV v] (.sc (.bool (mayB v))):=by
  refine PC.of_body Try.func71 Try.ntmps71 rfl rfl rfl ?_
  repeat' first
 | (apply p1 (hd:=rfl);case hop=>first|(apply D_move;rfl)|(apply D_assign;rfl)|(apply D_pc (word1_pc v.s hl);rfl;exact .same rfl .nil)|(apply D_load1;rfl)|(apply D_fld;rfl)|(apply D_pickT;rfl;rfl)|(apply D_pickF;rfl;rfl)|(apply D_int;rfl;rfl;rfl)|(apply D_len_str;rfl)|(apply D_str;rfl;rfl;rfl)|(apply D_box;rfl;rfl))
 | refine W_seq ?_
 | refine W_region ?_
 | (refine idC ?_;first|refine c1 rfl ?_|refine cs rfl (fun _=>?_) (fun _=>?_))
 | refine WL_nil ?_
 | (refine idG ?_;first|refine g0t rfl rfl rfl ?_|refine g0f rfl rfl rfl ?_|refine g0u rfl rfl rfl ?_|refine gr rfl rfl ?_|refine gs rfl rfl (fun _=>?_) (fun _=>?_))
 | refine tn ?_
 | refine tr ?_
 | refine br ?_
 | refine bn ?_
 | refine W_skip ?_
 | refine W_block ?_
 | refine W_ret ?_
 | (refine idR ?_;refine ret1 rfl rfl rfl ?_)
 | (refine Le.bool ?_)
  all_goals (refine dP_eq ?_;simp_all [MayP,sEq_t,iLe_t,iLt_t,iEq_t,wordB_tt] <;> omega)
set_option maxHeartbeats 1000000 in
theorem check_pc [GlobF Try.prog] (v : Val) (hl : v.s.length < 9223372036854775808) : PC Try.prog 93 [eV v] (.sc (.int .i64 (if mayB v then 0 else 10))):=by
  refine PC.of_body Try.func93 Try.ntmps93 rfl rfl rfl ?_
  repeat' first
 | (apply p1 (hd:=rfl);case hop=>first|(apply D_assign;rfl)|(apply D_pc (may_pc v hl);rfl;exact .same rfl .nil)|(apply D_not;rfl)|(apply D_loadW;rfl;rfl)|(apply D_box;rfl;rfl))
 | refine W_seq ?_
 | refine W_region ?_
 | (refine idC ?_;refine cs rfl (fun _=>?_) (fun _=>?_))
 | refine WL_nil ?_
 | refine tn ?_
 | refine tr ?_
 | refine W_skip ?_
 | refine W_ret ?_
 | (refine idR ?_;refine ret1 rfl rfl rfl ?_)
 | (refine Le.int ?_)
  all_goals simp [mayB,dP_t, *]
abbrev iC (n : Int) : List AV:=[.sc (.int .i64 n)]
def cmpI (a b : Int) : Int:=if a < b then -1 else if b < a then 1 else 0
def orI : List Int → Int
  | []=>0
  | x :: l=>if x = 0 then orI l else x
instance : Xt Try.prog 173 Extern.BytealgCompare.compare:=⟨run_callFunc_extern Try.func173 (by kernel_rfl) (by kernel_rfl) (by kernel_rfl) (by kernel_rfl)⟩
set_option maxHeartbeats 400000 in
theorem isNaN_pc [GlobF Try.prog] (n : Int) : PC Try.prog 168 [.sc (.int .i64 n)] (.sc (.bool false)):=by
  refine PC.of_body Try.func168 Try.ntmps168 rfl rfl rfl ?_
  repeat' first
 | (apply p1 (hd:=rfl);case hop=>first|(apply D_move;rfl)|(apply D_assign;rfl)|(apply D_int;rfl;rfl;rfl))
 | refine W_seq ?_
 | refine W_region ?_
 | refine WL_nil ?_
 | refine tn ?_
 | refine W_ret ?_
 | (refine idR ?_;refine ret1 rfl rfl rfl ?_)
 | (refine Le.bool ?_)
  simp [bNot,iEq]
set_option maxHeartbeats 400000 in
theorem isNaN64_pc [GlobF Try.prog] (n : Int) : PC Try.prog 84 [.sc (.int .i64 n)] (.sc (.bool false)):=by
  refine PC.of_body Try.func84 Try.ntmps84 rfl rfl rfl ?_
  repeat' first
 | (apply p1 (hd:=rfl);case hop=>first|(apply D_move;rfl)|(apply D_assign;rfl)|(apply D_int;rfl;rfl;rfl))
 | refine W_seq ?_
 | refine W_region ?_
 | refine WL_nil ?_
 | refine tn ?_
 | refine W_ret ?_
 | (refine idR ?_;refine ret1 rfl rfl rfl ?_)
 | (refine Le.bool ?_)
  simp [bNot,iEq]
set_option maxHeartbeats 400000 in
theorem cmpInt_pc [GlobF Try.prog] (a b : Int) : PC Try.prog 157 [.sc (.int .i64 a),.sc (.int .i64 b)] (.sc (.int .i64 (cmpI a b))):=by
  refine PC.of_body Try.func157 Try.ntmps157 rfl rfl rfl ?_
  repeat' first
 | (apply p1 (hd:=rfl);case hop=>first|(apply D_move;rfl)|(apply D_assign;rfl)|(apply D_pc (isNaN_pc a);rfl;exact .same rfl .nil)|(apply D_pc (isNaN_pc b);rfl;exact .same rfl .nil)|(apply D_int;rfl;rfl;rfl))
 | refine W_seq ?_
 | refine W_region ?_
 | (refine idC ?_;first|refine c0 rfl ?_|refine cs rfl (fun _=>?_) (fun _=>?_))
 | refine WL_nil ?_
 | refine tn ?_
 | refine tr ?_
 | refine W_skip ?_
 | refine W_ret ?_
 | (refine idR ?_;refine ret1 rfl rfl rfl ?_)
 | (refine Le.int ?_)
  all_goals (unfold cmpI;split <;> first|rfl|omega|(split <;> first|rfl|omega))
set_option maxHeartbeats 400000 in
theorem cmpInt64_pc [GlobF Try.prog] (a b : Int) : PC Try.prog 45 [.sc (.int .i64 a),.sc (.int .i64 b)] (.sc (.int .i64 (cmpI a b))):=by
  refine PC.of_body Try.func45 Try.ntmps45 rfl rfl rfl ?_
  repeat' first
 | (apply p1 (hd:=rfl);case hop=>first|(apply D_move;rfl)|(apply D_assign;rfl)|(apply D_pc (isNaN64_pc a);rfl;exact .same rfl .nil)|(apply D_pc (isNaN64_pc b);rfl;exact .same rfl .nil)|(apply D_int;rfl;rfl;rfl))
 | refine W_seq ?_
 | refine W_region ?_
 | (refine idC ?_;first|refine c0 rfl ?_|refine cs rfl (fun _=>?_) (fun _=>?_))
 | refine WL_nil ?_
 | refine tn ?_
 | refine tr ?_
 | refine W_skip ?_
 | refine W_ret ?_
 | (refine idR ?_;refine ret1 rfl rfl rfl ?_)
 | (refine Le.int ?_)
  all_goals (unfold cmpI;split <;> first|rfl|omega|(split <;> first|rfl|omega))
set_option maxHeartbeats 400000 in
theorem cmpStr0_pc [GlobF Try.prog] (a b : List UInt8) : PC Try.prog 169 [str a,str b] (.sc (.int .i64 (Lib.compareBytes a b))):=by
  refine PC.of_body Try.func169 Try.ntmps169 rfl rfl rfl ?_
  repeat' first
 | (apply p1 (hd:=rfl);case hop=>first|(apply D_move;rfl)|(apply D_assign;rfl)|exact D_xcmp rfl rfl rfl)
 | refine W_seq ?_
 | refine W_region ?_
 | refine WL_nil ?_
 | refine tn ?_
 | refine W_ret ?_
 | (refine idR ?_;refine ret1 rfl rfl rfl ?_)
 | (refine Le.int ?_)
  rfl
set_option maxHeartbeats 400000 in
theorem cmpStr_pc [GlobF Try.prog] (a b : List UInt8) : PC Try.prog 158 [str a,str b] (.sc (.int .i64 (Lib.compareBytes a b))):=by
  refine PC.of_body Try.func158 Try.ntmps158 rfl rfl rfl ?_
  repeat' first
 | (apply p1 (hd:=rfl);case hop=>first|(apply D_move;rfl)|(apply D_assign;rfl)|(apply D_pc (cmpStr0_pc a b);rfl;exact .same rfl (.same rfl .nil)))
 | refine W_seq ?_
 | refine W_region ?_
 | refine WL_nil ?_
 | refine tn ?_
 | refine W_ret ?_
 | (refine idR ?_;refine ret1 rfl rfl rfl ?_)
 | (refine Le.int ?_)
  rfl
theorem orI_zeros : ∀ (l : List Int) (i : Nat),(∀ j,j < i → l[j]? = some 0) → orI l = orI (l.drop i)
  | _,0,_=>rfl
  | [],i + 1,h=>by have:=h 0 (by omega);simp at this
  | x :: l,i + 1,h=>by
    have h0:=h 0 (by omega)
    simp at h0;subst h0
    simp only [orI,if_true,List.drop_succ_cons]
    exact orI_zeros l i fun j hj=>by have:=h (j + 1) (by omega);simpa using this
set_option maxHeartbeats 400000 in
theorem or_pc [GlobF Try.prog] (l : List Int) (hl : l.length < 9223372036854775808) : PC Try.prog 143 [.sl none 1 (l.map iC)] (.sc (.int .i64 (orI l))):=by
  refine PC.of_body Try.func143 Try.ntmps143 rfl rfl rfl ?_
  repeat' first
 | (apply p1 (hd:=rfl);case hop=>first|(apply D_move;rfl)|(apply D_assign;rfl)|(apply D_lenM;rfl))
 | refine W_seq ?_
 | refine W_region ?_
 | refine WL_nil ?_
 | refine tn ?_
 | (refine W_block ?_)
  refine W_loopL (X:=Nat) (fun i=>[(3,.sc (.int .i64 0)),(6,.sl none 1 (l.map iC)),(7,.sc (.int .i64 (l.length : Int))),(8,.sc (.int .i64 (i : Int)))]) (fun _=>[])
    (fun i=>i ≤ l.length ∧ ∀ j,j < i → l[j]? = some 0) (fun i=>l.length - i) 0 ⟨by omega,fun j h=>by omega⟩ ⟨rfl,rfl,rfl,rfl,trivial⟩ rfl ?_
  rintro i ⟨hi,hz⟩
  repeat' first
 | (apply p1 (hd:=rfl);case hop=>first|(apply D_move;rfl)|(apply D_assign;rfl)|(apply D_load1;rfl)|(apply D_int;rfl;rfl;rfl)|(apply D_idxAn;rfl;rfl;(first|omega|(simp;done))))
 | refine W_seq ?_
 | refine W_region ?_
 | (refine idC ?_;refine cs rfl (fun _=>?_) (fun _=>?_))
 | refine WL_nil ?_
 | refine tn ?_
 | refine tr ?_
 | refine br ?_
 | refine bn ?_
 | refine te ?_
 | (refine idB ?_;refine bh rfl ?_)
 | refine W_skip ?_
 | refine W_block ?_
 | refine W_exit ?_
 | refine W_ret ?_
 | (refine idR ?_;refine ret1 rfl rfl rfl ?_)
 | (refine Le.int ?_)
  · rename_i hlt hne
    have hlt' : i < l.length:=by omega
    rw [orI_zeros l i hz,List.drop_eq_getElem_cons hlt',orI,if_neg hne]
  · rename_i hlt heq
    refine ⟨rfl,i + 1,⟨by omega,fun j hj=>?_⟩,by omega,⟨rfl,rfl,rfl,ieq (wsucc i (by omega)),trivial⟩,rfl⟩
    by_cases e : j = i
    · subst e;rw [List.getElem?_eq_getElem (by omega),heq]
    · exact hz j (by omega)
  · rw [orI_zeros l i hz,List.drop_eq_nil_of_le (by omega)];rfl
def cmpV (a b : Val) : Int:=orI [cmpI a.kind b.kind,cmpI a.n b.n,Lib.compareBytes a.s b.s]
set_option maxHeartbeats 1000000 in
theorem compare_pc [GlobF Try.prog] (a b : Val) : PC Try.prog 144 [eV a,eV b] (.sc (.int .i64 (cmpV a b))):=by
  refine PC.of_body Try.func144 Try.ntmps144 rfl rfl rfl ?_
  repeat' first
 | (apply p1 (hd:=rfl);case hop=>first|(apply D_assign;rfl)|(apply D_box;rfl;rfl))
 | refine W_seq ?_
 | refine W_region ?_
 | refine WL_nil ?_
 | refine tn ?_
 | refine W_ret ?_
 | (refine idR ?_;refine ret1 rfl rfl rfl ?_)
 | refine Le.int ?_
 | (refine idW ?_;refine W_draw0 rfl ?_)
 | (apply d1 (hd:=rfl);case hop=>first|(apply D_assign;rfl)|(apply D_pc (cmpInt_pc _ _);rfl;exact .same rfl (.same rfl .nil))|(apply D_pc (cmpInt64_pc _ _);rfl;exact .same rfl (.same rfl .nil))|(apply D_pc (cmpStr_pc _ _);rfl;exact .same rfl (.same rfl .nil))|(apply D_pc (or_pc [cmpI a.kind b.kind,cmpI a.n b.n,Lib.compareBytes a.s b.s] (by show 3 < _;decide));rfl;exact .same rfl .nil)|(apply D_load1;rfl)|(apply D_fld;rfl)|(apply D_lit;rfl;rfl;rfl;rfl))
 | (refine WD_nil (by first|decide +kernel|kernel_rfl|rfl) ?_)
  all_goals rfl
theorem renN {rg rg' : List (Nat × AV)} {h : List AObj} (hr : RenL [] rg rg') : Ren ⟨[],0⟩ [] rg h rg' []:=⟨List.nodup_nil,fun r hr=>absurd hr (Nat.not_lt_zero r),fun r hr=>(by cases hr),hr,trivial⟩
abbrev sC (s : Sp) : List AV:=[.sc (.int .i64 s.f),.sc (.int .i64 s.t)]
theorem dP_T {p : Prop} (h : p) : true = dP p:=(dP_t.mpr h).symm
theorem dP_F {p : Prop} (h : ¬ p) : false = dP p:=(dP_f.mpr h).symm
instance : Inhabited Sp:=⟨⟨0,0⟩⟩
structure Dat where
  e : Int
  a : Int
  v : Val
  t : Int
  add : Bool
  fr : Int
  to : Int
abbrev dC (d : Dat) : List AV:=[.sc (.int .i64 d.e),.sc (.int .i64 d.a),.sc (.int .i64 d.v.kind),.sc (.int .i64 d.v.n),str d.v.s,.sc (.int .i64 d.t),.sc (.bool d.add),.sc (.int .i64 d.fr),.sc (.int .i64 d.to)]
abbrev eD (d : Dat) : AV:=.ag (dC d)
def val0 : Val:=⟨0,0,[]⟩
def dat0 : Dat:=⟨0,0,val0,0,false,0,0⟩
def dmayP (d : Dat) : Prop:=0 ≤ d.e ∧ d.e < 9007199254740992 ∧ 0 ≤ d.a ∧ d.a < 9007199254740992 ∧ mayB d.v = true ∧ 1 ≤ d.t ∧ d.t ≤ 1099511627776 ∧ d.fr < d.to
set_option maxHeartbeats 1000000 in
theorem dmay_pc [GlobF Try.prog] (d : Dat) (hl : d.v.s.length < 9223372036854775808) : PC Try.prog 56 [eD d] (.sc (.bool (dP (dmayP d)))):=by
  refine PC.of_body Try.func56 Try.ntmps56 rfl rfl rfl ?_
  repeat' first
 | (apply p1 (hd:=rfl);case hop=>first|(apply D_move;rfl)|(apply D_assign;rfl)|(apply D_pc (check_pc d.v hl);rfl;exact .same rfl .nil)|(apply D_load1;rfl)|(apply D_fld;rfl)|(apply D_pickT;rfl;rfl)|(apply D_pickF;rfl;rfl)|(apply D_int;rfl;rfl;rfl)|(apply D_loadA;rfl;rfl)|(apply D_box;rfl;rfl))
 | refine W_seq ?_
 | refine W_region ?_
 | refine WL_nil ?_
 | (refine idG ?_;first|refine g0t rfl rfl rfl ?_|refine gr rfl rfl ?_|refine gs rfl rfl (fun _=>?_) (fun _=>?_))
 | refine tn ?_
 | refine W_ret ?_
 | (refine idR ?_;refine ret1 rfl rfl rfl ?_)
 | (refine Le.bool ?_)
  all_goals (refine dP_eq ?_;unfold dmayP)
  all_goals first
    | (simp only [iLt_t,Bool.false_eq_true];cases hm : mayB d.v <;> simp_all <;> omega)
    | (simp only [iLt_t,Bool.false_eq_true];omega)
noncomputable instance : DecidableEq Val:=fun _ _=>Classical.propDecidable _
set_option maxHeartbeats 1000000 in
theorem dcheck_pc [GlobF Try.prog] (d : Dat) (hl : d.v.s.length < 9223372036854775808) : PC Try.prog 29 [eD d] (.sc (.int .i64 (if dP (dmayP d) then 0 else 40))):=by
  refine PC.of_body Try.func29 Try.ntmps29 rfl rfl rfl ?_
  repeat' first
 | (apply p1 (hd:=rfl);case hop=>first|(apply D_assign;rfl)|(apply D_pc (dmay_pc d hl);rfl;exact .same rfl .nil)|(apply D_not;rfl)|(apply D_loadW;rfl;rfl)|(apply D_box;rfl;rfl))
 | refine W_seq ?_
 | refine W_region ?_
 | (refine idC ?_;refine cs rfl (fun _=>?_) (fun _=>?_))
 | refine WL_nil ?_
 | refine tn ?_
 | refine tr ?_
 | refine W_skip ?_
 | refine W_ret ?_
 | (refine idR ?_;refine ret1 rfl rfl rfl ?_)
 | (refine Le.int ?_)
  all_goals
    simp [dP_t, *]
instance : Inhabited Dat:=⟨dat0⟩
instance : Inhabited Val:=⟨val0⟩
instance : Inhabited Dat:=⟨dat0⟩
noncomputable instance : DecidableEq Dat:=fun _ _=>Classical.propDecidable _
theorem cb_drop : ∀ (i : Nat) (a b : List UInt8),i ≤ a.length → i ≤ b.length → (∀ j (h : j < a.length) (h' : j < b.length),j < i → a[j] = b[j]) → Lib.compareBytes a b = Lib.compareBytes (a.drop i) (b.drop i)
  | 0,_,_,_,_,_=>rfl
  | i + 1,[],_,h,_,_=>by simp at h
  | i + 1,_,[],_,h,_=>by simp at h
  | i + 1,x :: a,y :: b,h1,h2,h=>by
    have e : x = y:=h 0 (by simp) (by simp) (by omega)
    subst e
    simp only [List.drop_succ_cons,Lib.compareBytes,UInt8.lt_irrefl,if_false]
    exact cb_drop i a b (by simpa using h1) (by simpa using h2) fun j hj hj' hji=>by
      have:=h (j + 1) (by simpa using hj) (by simpa using hj') (by omega)
      simpa using this
theorem cmpV_s {a b : Val} (h1 : a.kind = b.kind) (h2 : a.n = b.n) : cmpV a b = Lib.compareBytes a.s b.s:=by
  simp only [cmpV,cmpI,h1,h2,Int.lt_irrefl,if_false,orI]
  split <;> simp_all
set_option maxHeartbeats 1000000 in
theorem compare1_pc [GlobF Try.prog] (a b : Val) (ha : a.s.length < 9223372036854775808) : PC Try.prog 108 [eV a,eV b] (.sc (.int .i64 (cmpV a b))):=by
  refine PC.of_body Try.func108 Try.ntmps108 rfl rfl rfl ?_
  repeat' first
 | (apply p1 (hd:=rfl);case hop=>first|(apply D_assign;rfl)|(apply D_load1;rfl)|(apply D_fld;rfl)|(apply D_int;rfl;rfl;rfl)|(apply D_box;rfl;rfl))
 | refine W_seq ?_
 | refine W_region ?_
 | (refine idC ?_;refine cs rfl (fun _=>?_) (fun _=>?_))
 | refine WL_nil ?_
 | refine tn ?_
 | refine tr ?_
 | refine W_skip ?_
 | refine W_block ?_
 | refine W_ret ?_
 | (refine idR ?_;refine ret1 rfl rfl rfl ?_)
 | (refine Le.int ?_)
  · simp only [cmpV,cmpI,orI];split <;> simp_all
  · simp only [cmpV,cmpI,orI];split <;> simp_all <;> omega
  · have e : a.kind = b.kind:=by omega
    simp only [cmpV,cmpI,orI,e];simp_all
  · have e : a.kind = b.kind:=by omega
    have e2 : ¬ a.n < b.n:=by omega
    have e3 : b.n < a.n:=by omega
    simp [cmpV,cmpI,orI,e,e2,e3]
  rename_i h1 h2 h3 h4
  have hc:=cmpV_s (a:=a) (b:=b) (by omega) (by omega)
  rw [hc]
  refine W_loopL (X:=Nat) (fun i=>[(2,.ep (vC a)),(3,.ep (vC b)),(4,.sc (.int .i64 0)),(5,.sc (.int .i64 (i : Int)))]) (fun _=>[])
    (fun i=>i ≤ a.s.length ∧ i ≤ b.s.length ∧ ∀ (j : Nat) (h : j < a.s.length) (h' : j < b.s.length),j < i → a.s[j] = b.s[j]) (fun i=>a.s.length - i) 0 ⟨by omega,by omega,fun j h h' h''=>by omega⟩ ⟨rfl,rfl,rfl,rfl,trivial⟩ rfl ?_
  rintro i ⟨hia,hib,hz⟩
  have hd:=cb_drop i a.s b.s hia hib hz
  repeat' first
 | (apply p1 (hd:=rfl);case hop=>first|(apply D_move;rfl)|(apply D_assign;rfl)|(apply D_load1;rfl)|(apply D_fld;rfl)|(apply D_pickT;rfl;rfl)|(apply D_pickF;rfl;rfl)|(apply D_int;rfl;rfl;rfl)|(apply D_len_str;rfl))
 | refine W_seq ?_
 | refine W_region ?_
 | (refine idC ?_;first|refine c0 rfl ?_|refine cs rfl (fun _=>?_) (fun _=>?_))
 | refine WL_nil ?_
 | (refine idG ?_;first|refine g0t rfl rfl rfl ?_|refine gr rfl rfl ?_|refine gs rfl rfl (fun _=>?_) (fun _=>?_))
 | refine tn ?_
 | refine tr ?_
 | refine br ?_
 | refine bn ?_
 | refine te ?_
 | (refine idB ?_;refine bh rfl ?_)
 | refine W_skip ?_
 | refine W_block ?_
 | refine W_exit ?_
 | refine W_ret ?_
 | (refine idR ?_;refine ret1 rfl rfl rfl ?_)
 | refine Le.int ?_
 | (refine idW ?_;refine W_draw0 rfl ?_)
 | (apply d1 (hd:=rfl);case hop=>first|(apply D_move;rfl)|(apply D_load1;rfl)|(apply D_fld;rfl)|(apply D_int;rfl;rfl;rfl)|(apply D_idxSn;rfl;rfl;(first|omega|(simp;done))))
 | (refine WD_nil (by first|decide +kernel|kernel_rfl|rfl) ?_)
  · have ga : i < a.s.length:=by omega
    have gb : i < b.s.length:=by omega
    rw [hd,List.drop_eq_getElem_cons ga,List.drop_eq_getElem_cons gb,Lib.compareBytes,if_pos (by rw [UInt8.lt_iff_toNat_lt];omega)]
  · have ga : i < a.s.length:=by omega
    have gb : i < b.s.length:=by omega
    rw [hd,List.drop_eq_getElem_cons ga,List.drop_eq_getElem_cons gb,Lib.compareBytes,if_neg (by rw [UInt8.lt_iff_toNat_lt];omega),if_pos (by rw [UInt8.lt_iff_toNat_lt];omega)]
  · refine ⟨rfl,i + 1,⟨by omega,by omega,fun j h h' hj=>?_⟩,by omega,⟨rfl,rfl,rfl,ieq (wsucc i (by omega)),trivial⟩,rfl⟩
    by_cases e : j = i
    · subst e;exact UInt8.toNat_inj.1 (by omega)
    · exact hz j h h' (by omega)
  all_goals rw [hd]
  all_goals first
    | (exfalso;omega)
    | (have ga : i < a.s.length:=by omega
       have gb : b.s.drop i = []:=List.drop_eq_nil_of_le (by omega)
       rw [List.drop_eq_getElem_cons ga,gb];rfl)
    | (have gb : i < b.s.length:=by omega
       have ga : a.s.drop i = []:=List.drop_eq_nil_of_le (by omega)
       rw [List.drop_eq_getElem_cons gb,ga];rfl)
    | (have gb : b.s.drop i = []:=List.drop_eq_nil_of_le (by omega)
       have ga : a.s.drop i = []:=List.drop_eq_nil_of_le (by omega)
       rw [ga,gb];rfl)
set_option maxHeartbeats 1000000 in
theorem entity_pc [GlobF Try.prog] (n : Int) : PC Try.prog 70 [.sc (.int .i64 n)] (.sc (.bool (dP (0 ≤ n ∧ n < 9007199254740992)))):=by
  refine PC.of_body Try.func70 Try.ntmps70 rfl rfl rfl ?_
  repeat' first
 | (apply p1 (hd:=rfl);case hop=>first|(apply D_move;rfl)|(apply D_assign;rfl)|(apply D_pickT;rfl;rfl)|(apply D_pickF;rfl;rfl)|(apply D_int;rfl;rfl;rfl))
 | refine W_seq ?_
 | refine W_region ?_
 | refine WL_nil ?_
 | (refine idG ?_;first|refine g0t rfl rfl rfl ?_|refine gr rfl rfl ?_|refine gs rfl rfl (fun _=>?_) (fun _=>?_))
 | refine tn ?_
 | refine W_ret ?_
 | (refine idR ?_;refine ret1 rfl rfl rfl ?_)
 | (refine Le.bool ?_)
  all_goals (refine dP_eq ?_;first|(rw [iLt_t];omega)|(simp;omega))
set_option maxHeartbeats 4000000 in
theorem dmay1_pc [GlobF Try.prog] (d : Dat) (hl : d.v.s.length < 9223372036854775808) : PC Try.prog 35 [eD d] (.sc (.bool (dP (dmayP d)))):=by
  refine PC.of_body Try.func35 Try.ntmps35 rfl rfl rfl ?_
  repeat' first
 | (apply p1 (hd:=rfl);case hop=>first|(apply D_move;rfl)|(apply D_assign;rfl)|(apply D_pc (may1_pc d.v hl);rfl;exact .same rfl .nil)|(apply D_pc (entity_pc d.e);rfl;exact .same rfl .nil)|(apply D_pc (entity_pc d.a);rfl;exact .same rfl .nil)|(apply D_load1;rfl)|(apply D_fld;rfl)|(apply D_pickT;rfl;rfl)|(apply D_pickF;rfl;rfl)|(apply D_int;rfl;rfl;rfl)|(apply D_loadA;rfl;rfl)|(apply D_box;rfl;rfl))
 | refine W_seq ?_
 | refine W_region ?_
 | refine WL_nil ?_
 | (refine idG ?_;first|refine g0t rfl rfl rfl ?_|refine gr rfl rfl ?_|refine gs rfl rfl (fun _=>?_) (fun _=>?_))
 | refine tn ?_
 | refine W_ret ?_
 | (refine idR ?_;refine ret1 rfl rfl rfl ?_)
 | (refine Le.bool ?_)
  all_goals
    have hm : mayB d.v = true ↔ MayP d.v:=by simp only [mayB,dP_t]
    refine dP_eq ?_
    unfold dmayP
    rw [hm]
  all_goals first
    | (simp_all [iLt_t];done)
    | (simp_all [iLt_t];omega)
    | (simp only [iLt_t];simp_all;omega)
instance : Inhabited Val:=⟨val0⟩
instance : Inhabited Dat:=⟨dat0⟩
structure Fac where
  e : Int
  a : Int
  v : Val
  sp : List Sp
end Go.Proofs

namespace Go.AL
section
variable {P : Program} [GlobF P] {ty : TypeId} {pos : String} {af : Array Edge} {dst : Option Nat} {gd : Option (Nat × Bool)} {ρ : Operand → Option AV}
end
end Go.AL
