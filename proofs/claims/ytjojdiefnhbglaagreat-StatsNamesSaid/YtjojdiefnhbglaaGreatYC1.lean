/- Contracts of facts' functions for seat E: may some be; the document's; what they weigh. -/
import Derived.Test.YtjojdiefnhbglaaGreatYInst
import Derived.Test.YtjojdiefnhbglaaGreatOps5
import Derived.Test.YtjojdiefnhbglaaGreatOps12
import Derived.Test.YtjojdiefnhbglaaGreatOps17
import Derived.Test.YtjojdiefnhbglaaGreatOps19
import Derived.Test.YtjojdiefnhbglaaGreatOps22
import Derived.Test.YtjojdiefnhbglaaGreatOps26
import Derived.Lib.BytesEntry
set_option linter.all false
namespace Go.Proofs
open Go.AL Go.Sort
attribute [local irreducible] Go.AL.W Go.AL.WL Go.AL.WD Go.AL.POp Go.AL.PPOp Go.AL.POpS Go.AL.PC Go.AL.AC Go.AL.YW Go.AL.Ret Go.AL.Le Go.AL.thn Go.AL.inBlk Go.AL.scp
structure Val where
  kind : Int
  n : Int
  s : List UInt8
abbrev vC (v : Val) : List AV:=[.sc (.int .i64 v.kind),.sc (.int .i64 v.n),str v.s]
abbrev eV (v : Val) : AV:=.ag (vC v)
def lowP (c : UInt8) : Prop:=97 ≤ (c.toNat : Int) ∧ (c.toNat : Int) ≤ 122
def digP (c : UInt8) : Prop:=48 ≤ (c.toNat : Int) ∧ (c.toNat : Int) ≤ 57
def tailP (c : UInt8) : Prop:=digP c ∨ (c.toNat : Int) = 46 ∨ (c.toNat : Int) = 95 ∨ (c.toNat : Int) = 45 ∨ (c.toNat : Int) = 47
def WordP (s : List UInt8) : Prop:=1 ≤ s.length ∧ s.length ≤ 64 ∧ ∀ (j : Nat) (h : j < s.length),lowP s[j] ∨ (0 < j ∧ tailP s[j])
open Classical in
noncomputable def wordB (s : List UInt8) : Bool:=decide (WordP s)
theorem wordB_t {s : List UInt8} (h : WordP s) : true = wordB s:=by unfold wordB;simp [h]
theorem wordB_f {s : List UInt8} (h : ¬ WordP s) : false = wordB s:=by unfold wordB;simp [h]
set_option maxHeartbeats 1000000 in
theorem word_pc [GlobF Tryz.prog] (s : List UInt8) (hl : s.length < 9223372036854775808) : PC Tryz.prog 232 [str s] (.sc (.bool (wordB s))):=by
  refine PC.of_body Tryz.func232 Tryz.ntmps232 rfl rfl rfl ?_
  repeat' first
 | (apply p1 (hd:=rfl);case hop=>first|(apply D_move;rfl)|(apply D_assign;rfl)|(apply D_lenM;rfl)|(apply D_s2b;rfl))
 | refine W_seq ?_
 | refine W_region ?_
 | refine WL_nil ?_
 | refine tn ?_
 | (refine W_block ?_)
  refine W_loopL (X:=Nat) (fun i=>[(0,str s),(2,.sc (.bool false)),(6,bytesAV s),(7,.sc (.int .i64 (s.length : Int))),(8,.sc (.int .i64 (i : Int)))]) (fun _=>[])
    (fun i=>i ≤ s.length ∧ ∀ (j : Nat) (h : j < s.length),j < i → lowP s[j] ∨ (0 < j ∧ tailP s[j])) (fun i=>s.length - i) 0 ⟨by omega,fun j h h'=>by omega⟩ ⟨rfl,rfl,rfl,rfl,rfl,trivial⟩ rfl ?_
  rintro i ⟨hi,hz⟩
  repeat' first
 | (apply p1 (hd:=rfl);case hop=>first|(apply D_move;rfl)|(apply D_assign;rfl)|(apply D_load1;rfl)|(apply D_pickT;rfl;rfl)|(apply D_pickF;rfl;rfl)|(apply D_int;rfl;rfl;rfl)|(apply D_len_str;rfl)|(apply D_idxAn;rfl;rfl;(first|omega|(simp;done))))
 | refine W_seq ?_
 | refine W_region ?_
 | (refine idC ?_;first|refine c1 rfl ?_|refine c0 rfl ?_|refine cs rfl (fun _=>?_) (fun _=>?_))
 | refine WL_nil ?_
 | (refine idG ?_;first|refine g0t rfl rfl rfl ?_|refine g0f rfl rfl rfl ?_|refine g0u rfl rfl rfl ?_|refine gr rfl rfl ?_|refine gs rfl rfl (fun _=>?_) (fun _=>?_))
 | refine tn ?_
 | refine tr ?_
 | refine br ?_
 | refine bn ?_
 | refine te ?_
 | (refine idB ?_;refine bh rfl ?_)
 | refine W_skip ?_
 | refine W_block ?_
 | refine W_exit ?_
 | refine W_ret ?_
 | (refine idR ?_;refine ret1 rfl rfl rfl ?_)
 | (refine Le.bool ?_)
  all_goals first
    | (refine ⟨rfl,i + 1,⟨by omega,fun j h hj=>?_⟩,by omega,⟨rfl,rfl,rfl,rfl,ieq (wsucc i (by omega)),trivial⟩,rfl⟩
       by_cases e : j = i
       · subst e;simp only [lowP,tailP,digP];omega
       · exact hz j h (by omega))
    | exact wordB_f fun h=>by
        have:=h.2.2 i (by omega)
        simp only [lowP,tailP,digP] at this;omega
    | exact wordB_f fun h=>by have h1:=h.1;have h2:=h.2.1;omega
    | skip
  all_goals
    by_cases hs : s.length ≤ 64
    · rw [(iLe_t _ _).mpr (by omega)]
      exact wordB_t ⟨by omega,hs,fun j h=>hz j h (by omega)⟩
    · rw [(iLe_f _ _).mpr (by omega)]
      exact wordB_f fun h=>hs h.2.1
open Classical in
noncomputable def dP (p : Prop) : Bool:=decide p
theorem dP_t {p : Prop} : (dP p = true) = p:=by unfold dP;simp
theorem dP_f {p : Prop} : (dP p = false) = ¬ p:=by unfold dP;simp
instance (p : Prop) : BP (dP p) p (¬ p):=⟨fun h=>by rwa [dP_t] at h,fun h=>by rwa [dP_f] at h⟩
instance (s : List UInt8) : BP (wordB s) (WordP s) (¬ WordP s):=⟨fun h=>by unfold wordB at h;simpa using h,fun h=>by unfold wordB at h;simpa using h⟩
theorem dP_eq {p : Prop} {b : Bool} (h : b = true ↔ p) : b = dP p:=by
  cases b
  · exact (dP_f.mpr (fun hp=>by simpa using h.2 hp)).symm
  · exact (dP_t.mpr (h.1 rfl)).symm
def MayP (v : Val) : Prop :=
  (v.kind = 2 ∧ 0 ≤ v.n ∧ v.n ≤ 1 ∧ v.s = []) ∨ ((v.kind = 1 ∨ v.kind = 6) ∧ v.s = []) ∨ (v.kind = 5 ∧ v.s = [] ∧ 0 ≤ v.n ∧ v.n < 9007199254740992) ∨
  ((v.kind = 3 ∨ v.kind = 4) ∧ v.n = 0 ∧ v.s.length ≤ 1000) ∨ (v.kind = 7 ∧ v.n = 0 ∧ WordP v.s)
noncomputable def mayB (v : Val) : Bool:=dP (MayP v)
instance (v : Val) : BP (mayB v) (MayP v) (¬ MayP v):=⟨fun h=>by unfold mayB at h;rwa [dP_t] at h,fun h=>by unfold mayB at h;rwa [dP_f] at h⟩
theorem wordB_tt (s : List UInt8) : (wordB s = true) = WordP s:=by unfold wordB;simp
set_option maxHeartbeats 1000000 in
theorem may_pc [GlobF Tryz.prog] (v : Val) (hl : v.s.length < 9223372036854775808) : PC Tryz.prog 200 [eV v] (.sc (.bool (mayB v))):=by
  refine PC.of_body Tryz.func200 Tryz.ntmps200 rfl rfl rfl ?_
  repeat' first
 | (apply p1 (hd:=rfl);case hop=>first|(apply D_move;rfl)|(apply D_assign;rfl)|(apply D_pc (word_pc v.s hl);rfl;exact .same rfl .nil)|(apply D_load1;rfl)|(apply D_fld;rfl)|(apply D_pickT;rfl;rfl)|(apply D_pickF;rfl;rfl)|(apply D_int;rfl;rfl;rfl)|(apply D_len_str;rfl)|(apply D_str;rfl;rfl;rfl)|(apply D_box;rfl;rfl))
 | refine W_seq ?_
 | refine W_region ?_
 | (refine idC ?_;first|refine c1 rfl ?_|refine cs rfl (fun _=>?_) (fun _=>?_))
 | refine WL_nil ?_
 | (refine idG ?_;first|refine g0t rfl rfl rfl ?_|refine g0f rfl rfl rfl ?_|refine gr rfl rfl ?_|refine gs rfl rfl (fun _=>?_) (fun _=>?_))
 | refine tn ?_
 | refine tr ?_
 | refine br ?_
 | refine bn ?_
 | refine te ?_
 | (refine idB ?_;first|refine bh rfl ?_|refine bm rfl ?_)
 | refine W_skip ?_
 | refine W_block ?_
 | refine W_exit ?_
 | refine W_ret ?_
 | (refine idR ?_;refine ret1 rfl rfl rfl ?_)
 | (refine Le.bool ?_)
  all_goals (refine dP_eq ?_;simp_all [MayP,sEq_t,iLe_t,iLt_t,iEq_t,wordB_tt] <;> omega)
set_option maxHeartbeats 1000000 in
theorem check_pc [GlobF Tryz.prog] (v : Val) (hl : v.s.length < 9223372036854775808) : PC Tryz.prog 142 [eV v] (.sc (.int .i64 (if mayB v then 0 else 10))):=by
  refine PC.of_body Tryz.func142 Tryz.ntmps142 rfl rfl rfl ?_
  repeat' first
 | (apply p1 (hd:=rfl);case hop=>first|(apply D_assign;rfl)|(apply D_pc (may_pc v hl);rfl;exact .same rfl .nil)|(apply D_not;rfl)|(apply D_loadW;rfl;rfl)|(apply D_box;rfl;rfl))
 | refine W_seq ?_
 | refine W_region ?_
 | (refine idC ?_;refine cs rfl (fun _=>?_) (fun _=>?_))
 | refine WL_nil ?_
 | refine tn ?_
 | refine tr ?_
 | refine W_skip ?_
 | refine W_ret ?_
 | (refine idR ?_;refine ret1 rfl rfl rfl ?_)
 | (refine Le.int ?_)
  all_goals simp [mayB,dP_t, *]
abbrev iC (n : Int) : List AV:=[.sc (.int .i64 n)]
def cmpI (a b : Int) : Int:=if a < b then -1 else if b < a then 1 else 0
def orI : List Int → Int
  | []=>0
  | x :: l=>if x = 0 then orI l else x
instance : Xt Tryz.prog 252 Extern.BytealgCompare.compare:=⟨run_callFunc_extern Tryz.func252 (by kernel_rfl) (by kernel_rfl) (by kernel_rfl) (by kernel_rfl)⟩
set_option maxHeartbeats 400000 in
theorem isNaN_pc [GlobF Tryz.prog] (n : Int) : PC Tryz.prog 234 [.sc (.int .i64 n)] (.sc (.bool false)):=by
  refine PC.of_body Tryz.func234 Tryz.ntmps234 rfl rfl rfl ?_
  repeat' first
 | (apply p1 (hd:=rfl);case hop=>first|(apply D_move;rfl)|(apply D_assign;rfl)|(apply D_int;rfl;rfl;rfl))
 | refine W_seq ?_
 | refine W_region ?_
 | refine WL_nil ?_
 | refine tn ?_
 | refine W_ret ?_
 | (refine idR ?_;refine ret1 rfl rfl rfl ?_)
 | (refine Le.bool ?_)
  simp [bNot,iEq]
set_option maxHeartbeats 400000 in
theorem isNaN64_pc [GlobF Tryz.prog] (n : Int) : PC Tryz.prog 125 [.sc (.int .i64 n)] (.sc (.bool false)):=by
  refine PC.of_body Tryz.func125 Tryz.ntmps125 rfl rfl rfl ?_
  repeat' first
 | (apply p1 (hd:=rfl);case hop=>first|(apply D_move;rfl)|(apply D_assign;rfl)|(apply D_int;rfl;rfl;rfl))
 | refine W_seq ?_
 | refine W_region ?_
 | refine WL_nil ?_
 | refine tn ?_
 | refine W_ret ?_
 | (refine idR ?_;refine ret1 rfl rfl rfl ?_)
 | (refine Le.bool ?_)
  simp [bNot,iEq]
set_option maxHeartbeats 400000 in
theorem cmpInt_pc [GlobF Tryz.prog] (a b : Int) : PC Tryz.prog 212 [.sc (.int .i64 a),.sc (.int .i64 b)] (.sc (.int .i64 (cmpI a b))):=by
  refine PC.of_body Tryz.func212 Tryz.ntmps212 rfl rfl rfl ?_
  repeat' first
 | (apply p1 (hd:=rfl);case hop=>first|(apply D_move;rfl)|(apply D_assign;rfl)|(apply D_pc (isNaN_pc a);rfl;exact .same rfl .nil)|(apply D_pc (isNaN_pc b);rfl;exact .same rfl .nil)|(apply D_int;rfl;rfl;rfl))
 | refine W_seq ?_
 | refine W_region ?_
 | (refine idC ?_;first|refine c0 rfl ?_|refine cs rfl (fun _=>?_) (fun _=>?_))
 | refine WL_nil ?_
 | refine tn ?_
 | refine tr ?_
 | refine W_skip ?_
 | refine W_ret ?_
 | (refine idR ?_;refine ret1 rfl rfl rfl ?_)
 | (refine Le.int ?_)
  all_goals (unfold cmpI;split <;> first|rfl|omega|(split <;> first|rfl|omega))
set_option maxHeartbeats 400000 in
theorem cmpInt64_pc [GlobF Tryz.prog] (a b : Int) : PC Tryz.prog 70 [.sc (.int .i64 a),.sc (.int .i64 b)] (.sc (.int .i64 (cmpI a b))):=by
  refine PC.of_body Tryz.func70 Tryz.ntmps70 rfl rfl rfl ?_
  repeat' first
 | (apply p1 (hd:=rfl);case hop=>first|(apply D_move;rfl)|(apply D_assign;rfl)|(apply D_pc (isNaN64_pc a);rfl;exact .same rfl .nil)|(apply D_pc (isNaN64_pc b);rfl;exact .same rfl .nil)|(apply D_int;rfl;rfl;rfl))
 | refine W_seq ?_
 | refine W_region ?_
 | (refine idC ?_;first|refine c0 rfl ?_|refine cs rfl (fun _=>?_) (fun _=>?_))
 | refine WL_nil ?_
 | refine tn ?_
 | refine tr ?_
 | refine W_skip ?_
 | refine W_ret ?_
 | (refine idR ?_;refine ret1 rfl rfl rfl ?_)
 | (refine Le.int ?_)
  all_goals (unfold cmpI;split <;> first|rfl|omega|(split <;> first|rfl|omega))
set_option maxHeartbeats 400000 in
theorem cmpStr0_pc [GlobF Tryz.prog] (a b : List UInt8) : PC Tryz.prog 235 [str a,str b] (.sc (.int .i64 (Lib.compareBytes a b))):=by
  refine PC.of_body Tryz.func235 Tryz.ntmps235 rfl rfl rfl ?_
  repeat' first
 | (apply p1 (hd:=rfl);case hop=>first|(apply D_move;rfl)|(apply D_assign;rfl)|exact D_xcmp rfl rfl rfl)
 | refine W_seq ?_
 | refine W_region ?_
 | refine WL_nil ?_
 | refine tn ?_
 | refine W_ret ?_
 | (refine idR ?_;refine ret1 rfl rfl rfl ?_)
 | (refine Le.int ?_)
  rfl
set_option maxHeartbeats 400000 in
theorem cmpStr_pc [GlobF Tryz.prog] (a b : List UInt8) : PC Tryz.prog 213 [str a,str b] (.sc (.int .i64 (Lib.compareBytes a b))):=by
  refine PC.of_body Tryz.func213 Tryz.ntmps213 rfl rfl rfl ?_
  repeat' first
 | (apply p1 (hd:=rfl);case hop=>first|(apply D_move;rfl)|(apply D_assign;rfl)|(apply D_pc (cmpStr0_pc a b);rfl;exact .same rfl (.same rfl .nil)))
 | refine W_seq ?_
 | refine W_region ?_
 | refine WL_nil ?_
 | refine tn ?_
 | refine W_ret ?_
 | (refine idR ?_;refine ret1 rfl rfl rfl ?_)
 | (refine Le.int ?_)
  rfl
theorem orI_zeros : ∀ (l : List Int) (i : Nat),(∀ j,j < i → l[j]? = some 0) → orI l = orI (l.drop i)
  | _,0,_=>rfl
  | [],i + 1,h=>by have:=h 0 (by omega);simp at this
  | x :: l,i + 1,h=>by
    have h0:=h 0 (by omega)
    simp at h0;subst h0
    simp only [orI,if_true,List.drop_succ_cons]
    exact orI_zeros l i fun j hj=>by have:=h (j + 1) (by omega);simpa using this
set_option maxHeartbeats 400000 in
theorem or_pc [GlobF Tryz.prog] (l : List Int) (hl : l.length < 9223372036854775808) : PC Tryz.prog 184 [.sl none 1 (l.map iC)] (.sc (.int .i64 (orI l))):=by
  refine PC.of_body Tryz.func184 Tryz.ntmps184 rfl rfl rfl ?_
  repeat' first
 | (apply p1 (hd:=rfl);case hop=>first|(apply D_move;rfl)|(apply D_assign;rfl)|(apply D_lenM;rfl))
 | refine W_seq ?_
 | refine W_region ?_
 | refine WL_nil ?_
 | refine tn ?_
 | (refine W_block ?_)
  refine W_loopL (X:=Nat) (fun i=>[(3,.sc (.int .i64 0)),(6,.sl none 1 (l.map iC)),(7,.sc (.int .i64 (l.length : Int))),(8,.sc (.int .i64 (i : Int)))]) (fun _=>[])
    (fun i=>i ≤ l.length ∧ ∀ j,j < i → l[j]? = some 0) (fun i=>l.length - i) 0 ⟨by omega,fun j h=>by omega⟩ ⟨rfl,rfl,rfl,rfl,trivial⟩ rfl ?_
  rintro i ⟨hi,hz⟩
  repeat' first
 | (apply p1 (hd:=rfl);case hop=>first|(apply D_move;rfl)|(apply D_assign;rfl)|(apply D_load1;rfl)|(apply D_int;rfl;rfl;rfl)|(apply D_idxAn;rfl;rfl;(first|omega|(simp;done))))
 | refine W_seq ?_
 | refine W_region ?_
 | (refine idC ?_;refine cs rfl (fun _=>?_) (fun _=>?_))
 | refine WL_nil ?_
 | refine tn ?_
 | refine tr ?_
 | refine br ?_
 | refine bn ?_
 | refine te ?_
 | (refine idB ?_;refine bh rfl ?_)
 | refine W_skip ?_
 | refine W_block ?_
 | refine W_exit ?_
 | refine W_ret ?_
 | (refine idR ?_;refine ret1 rfl rfl rfl ?_)
 | (refine Le.int ?_)
  · rename_i hlt hne
    have hlt' : i < l.length:=by omega
    rw [orI_zeros l i hz,List.drop_eq_getElem_cons hlt',orI,if_neg hne]
  · rename_i hlt heq
    refine ⟨rfl,i + 1,⟨by omega,fun j hj=>?_⟩,by omega,⟨rfl,rfl,rfl,ieq (wsucc i (by omega)),trivial⟩,rfl⟩
    by_cases e : j = i
    · subst e;rw [List.getElem?_eq_getElem (by omega),heq]
    · exact hz j (by omega)
  · rw [orI_zeros l i hz,List.drop_eq_nil_of_le (by omega)];rfl
def cmpV (a b : Val) : Int:=orI [cmpI a.kind b.kind,cmpI a.n b.n,Lib.compareBytes a.s b.s]
set_option maxHeartbeats 1000000 in
theorem compare_pc [GlobF Tryz.prog] (a b : Val) : PC Tryz.prog 164 [eV a,eV b] (.sc (.int .i64 (cmpV a b))):=by
  refine PC.of_body Tryz.func164 Tryz.ntmps164 rfl rfl rfl ?_
  repeat' first
 | (apply p1 (hd:=rfl);case hop=>first|(apply D_assign;rfl)|(apply D_box;rfl;rfl))
 | refine W_seq ?_
 | refine W_region ?_
 | refine WL_nil ?_
 | refine tn ?_
 | refine W_ret ?_
 | (refine idR ?_;refine ret1 rfl rfl rfl ?_)
 | refine Le.int ?_
 | (refine idW ?_;refine W_draw0 rfl ?_)
 | (apply d1 (hd:=rfl);case hop=>first|(apply D_assign;rfl)|(apply D_pc (cmpInt_pc _ _);rfl;exact .same rfl (.same rfl .nil))|(apply D_pc (cmpInt64_pc _ _);rfl;exact .same rfl (.same rfl .nil))|(apply D_pc (cmpStr_pc _ _);rfl;exact .same rfl (.same rfl .nil))|(apply D_pc (or_pc [cmpI a.kind b.kind,cmpI a.n b.n,Lib.compareBytes a.s b.s] (by show 3 < _;decide));rfl;exact .same rfl .nil)|(apply D_load1;rfl)|(apply D_fld;rfl)|(apply D_lit;rfl;rfl;rfl;rfl))
 | (refine WD_nil (by first|decide +kernel|kernel_rfl|rfl) ?_)
  all_goals rfl
theorem renN {rg rg' : List (Nat × AV)} {h : List AObj} (hr : RenL [] rg rg') : Ren ⟨[],0⟩ [] rg h rg' []:=⟨List.nodup_nil,fun r hr=>absurd hr (Nat.not_lt_zero r),fun r hr=>(by cases hr),hr,trivial⟩
abbrev sC (s : Sp) : List AV:=[.sc (.int .i64 s.f),.sc (.int .i64 s.t)]
abbrev sl2 (l : List Sp) : AV:=.sl none 2 (l.map sC)
theorem dP_T {p : Prop} (h : p) : true = dP p:=(dP_t.mpr h).symm
theorem dP_F {p : Prop} (h : ¬ p) : false = dP p:=(dP_f.mpr h).symm
theorem setN {l : List Sp} (i : Nat) (hi : i < l.length) (h : l[i].t ≤ l[i].f ∨ ∃ h0 : 0 < i,l[i].f ≤ (l[i - 1]'(by omega)).t) : ¬ SetP l:=fun hs=>by
  have:=(setI_iff l).2 hs i hi
  rcases h with h | ⟨h0,h⟩
  · omega
  · have:=this.2 h0;omega
set_option maxHeartbeats 4000000 in
theorem set_pc [GlobF Tryz.prog] (l : List Sp) (hl : l.length < 4611686018427387904) : PC Tryz.prog 128 [sl2 l] (.sc (.bool (dP (SetP l)))):=by
  refine PC.of_body Tryz.func128 Tryz.ntmps128 rfl rfl rfl ?_
  repeat' first
 | (apply p1 (hd:=rfl);case hop=>first|(apply D_move;rfl)|(apply D_assign;rfl)|(apply D_lenM;rfl))
 | refine W_seq ?_
 | refine W_region ?_
 | refine WL_nil ?_
 | refine tn ?_
 | (refine W_block ?_)
  refine W_loopR (X:=Nat) (fun i=>[(0,sl2 l),(5,sl2 l),(6,.sc (.int .i64 l.length)),(7,.sc (.int .i64 (i : Int)))]) (fun _=>[])
    (fun i=>i ≤ l.length ∧ ∀ (j : Nat) (h : j < l.length),j < i → l[j].f < l[j].t ∧ ∀ h0 : 0 < j,(l[j - 1]'(by omega)).t < l[j].f) (fun i=>l.length - i) 0 ⟨by omega,fun j h h'=>by omega⟩ ⟨rfl,rfl,rfl,rfl,trivial⟩ rfl ?_
  rintro i ⟨hi,hz⟩
  have hnext : ∀ (h : i < l.length),l[i].f < l[i].t → (∀ h0 : 0 < i,(l[i - 1]'(by omega)).t < l[i].f) → ∀ (j : Nat) (h : j < l.length),j < i + 1 → l[j].f < l[j].t ∧ ∀ h0 : 0 < j,(l[j - 1]'(by omega)).t < l[j].f:=fun h k1 k2 j hj hji=>by
    by_cases e : j = i
    · subst e;exact ⟨k1,k2⟩
    · exact hz j hj (by omega)
  have hend : l.length ≤ i → true = dP (SetP l):=fun h=>dP_T ((setI_iff l).1 fun j hj=>hz j hj (by omega))
  by_cases h0 : i = 0
  · subst h0
    repeat' first
 | (apply p1 (hd:=rfl);case hop=>first|(apply D_move;rfl)|(apply D_assign;rfl)|(apply D_int;rfl;rfl;rfl)|(apply D_loadW;rfl;rfl)|(apply D_idxAn;rfl;rfl;(first|omega|(simp;done))))
 | refine W_seq ?_
 | refine W_region ?_
 | (refine idC ?_;first|refine c1 rfl ?_|refine c0 rfl ?_|refine cs rfl (fun _=>?_) (fun _=>?_))
 | refine WL_nil ?_
 | refine tn ?_
 | refine tr ?_
 | refine br ?_
 | refine bn ?_
 | refine te ?_
 | (refine idB ?_;refine bh rfl ?_)
 | refine W_skip ?_
 | refine W_block ?_
 | refine W_exit ?_
 | refine W_ret ?_
 | (refine idR ?_;refine ret1 rfl rfl rfl ?_)
 | (refine idA ?_;refine m_alloc rfl ?_)
 | (refine idS ?_;refine pS (S_store rfl rfl rfl rfl rfl rfl rfl) ?_)
 | refine Le.bool ?_
 | (refine idW ?_;refine W_draw0 rfl ?_)
 | (apply d1 (hd:=rfl);case hop=>first|(apply D_move;rfl)|(apply D_load1;rfl)|(apply D_fld;rfl)|(apply D_pickT;rfl;rfl)|(apply D_pickF;rfl;rfl)|(apply D_int;rfl;rfl;rfl)|(apply D_idxA;rfl;rfl;omega;(first|omega|(simp;done)|(simp;omega)))|exact D_fldB rfl)
 | (refine idDg ?_;first|refine dg0t rfl rfl rfl ?_|refine dg0f rfl rfl rfl ?_|refine dg0u rfl rfl rfl ?_|refine dgr rfl rfl ?_|refine dgs rfl rfl (fun _=>?_) (fun _=>?_))
 | (refine idDn ?_;refine dL _ (fun hp' hs=>D_loadB1 rfl (hs.trans rfl) rfl) rfl ?_)
 | (refine WD_nil (by first|decide +kernel|kernel_rfl|rfl) ?_)
    · rename_i k1 k2
      exact dP_F (setN 0 (by omega) (.inl k2))
    · exfalso;omega
    · exfalso;omega
    · rename_i k1 k2 k3
      exact ⟨rfl,0 + 1,⟨by omega,hnext (by omega) k2 (fun h=>by omega)⟩,by omega,[],renN ⟨⟨_,rfl,.pur⟩,⟨_,rfl,.pur⟩,⟨_,rfl,.pur⟩,⟨_,rfl,by rw [wsucc 0 (by omega)];exact .pur⟩,trivial⟩⟩
    · exact hend (by omega)
  · have hsub : IntKind.i64.wrap ((i : Int) - 1) = ((i - 1 : Nat) : Int):=by rw [w64 _ (by omega) (by omega)];omega
    have hix : (IntKind.i64.wrap ((i : Int) - 1)).toNat = i - 1:=by rw [hsub];rfl
    repeat' first
 | (apply p1 (hd:=rfl);case hop=>first|(apply D_move;rfl)|(apply D_assign;rfl)|(apply D_int;rfl;rfl;rfl)|(apply D_loadW;rfl;rfl)|(apply D_idxAn;rfl;rfl;(first|omega|(simp;done))))
 | refine W_seq ?_
 | refine W_region ?_
 | (refine idC ?_;first|refine c1 rfl ?_|refine c0 rfl ?_|refine cs rfl (fun _=>?_) (fun _=>?_))
 | refine WL_nil ?_
 | refine tn ?_
 | refine tr ?_
 | refine br ?_
 | refine bn ?_
 | refine te ?_
 | (refine idB ?_;refine bh rfl ?_)
 | refine W_skip ?_
 | refine W_block ?_
 | refine W_exit ?_
 | refine W_ret ?_
 | (refine idR ?_;refine ret1 rfl rfl rfl ?_)
 | (refine idA ?_;refine m_alloc rfl ?_)
 | (refine idS ?_;refine pS (S_store rfl rfl rfl rfl rfl rfl rfl) ?_)
 | refine Le.bool ?_
 | (refine idW ?_;refine W_draw0 rfl ?_)
 | (apply d1 (hd:=rfl);case hop=>first|(apply D_move;rfl)|(apply D_load1;rfl)|(apply D_fld;rfl)|(apply D_pickT;rfl;rfl)|(apply D_pickF;rfl;rfl)|(apply D_int;rfl;rfl;rfl)|(apply D_idxA;rfl;rfl;omega;(first|omega|(simp;done)|(simp;omega)))|exact D_fldB rfl)
 | (refine idDg ?_;first|refine dg0t rfl rfl rfl ?_|refine dg0f rfl rfl rfl ?_|refine dg0u rfl rfl rfl ?_|refine dgr rfl rfl ?_|refine dgs rfl rfl (fun _=>?_) (fun _=>?_))
 | (refine idDn ?_;refine dL _ (fun hp' hs=>D_loadB1 rfl (hs.trans rfl) rfl) rfl ?_)
 | (refine WD_nil (by first|decide +kernel|kernel_rfl|rfl) ?_)
    · rename_i k1 k2
      exact dP_F (setN i (by omega) (.inl k2))
    · rename_i k1 k2 k3 k4
      simp only [hix] at k4
      exact dP_F (setN i (by omega) (.inr ⟨by omega,k4⟩))
    · rename_i k1 k2 k3 k4
      simp only [hix] at k4
      exact ⟨rfl,i + 1,⟨by omega,hnext (by omega) k2 (fun _=>k4)⟩,by omega,[],renN ⟨⟨_,rfl,.pur⟩,⟨_,rfl,.pur⟩,⟨_,rfl,.pur⟩,⟨_,rfl,by rw [wsucc i (by omega)];exact .pur⟩,trivial⟩⟩
    · exfalso;omega
    · exact hend (by omega)
set_option maxHeartbeats 4000000 in
theorem scheck_pc [GlobF Tryz.prog] (l : List Sp) (hl : l.length < 4611686018427387904) : PC Tryz.prog 183 [sl2 l] (.sc (.int .i64 (if dP (SetP l) then 0 else 30))):=by
  refine PC.of_body Tryz.func183 Tryz.ntmps183 rfl rfl rfl ?_
  repeat' first
 | (apply p1 (hd:=rfl);case hop=>first|(apply D_move;rfl)|(apply D_assign;rfl)|(apply D_pc (set_pc l hl);rfl;exact .same rfl .nil)|(apply D_not;rfl))
 | refine W_seq ?_
 | refine W_region ?_
 | (refine idC ?_;refine cs rfl (fun _=>?_) (fun _=>?_))
 | refine WL_nil ?_
 | refine tn ?_
 | refine tr ?_
 | refine W_skip ?_
 | refine W_ret ?_
 | (refine idR ?_;refine ret1 rfl rfl rfl ?_)
 | (refine Le.int ?_)
  all_goals simp [dP_t, *]
instance : Inhabited Sp:=⟨⟨0,0⟩⟩
theorem ren1 {rg rg' : List (Nat × AV)} {h : List AObj} {q e : Nat} {els : List (List AV)} [PurLL els] (hq : h[q]? = some (.row 2 e els)) (hr : RenL [q] rg rg') : Ren ⟨[],0⟩ [q] rg h rg' [.row 2 e els] :=
  ⟨by simp,fun r hr=>absurd hr (Nat.not_lt_zero r),fun r hr=>(by cases hr),hr,⟨⟨_,hq,.row _ _ _⟩,trivial⟩⟩
structure Dat where
  e : Int
  a : Int
  v : Val
  t : Int
  add : Bool
  fr : Int
  to : Int
abbrev dC (d : Dat) : List AV:=[.sc (.int .i64 d.e),.sc (.int .i64 d.a),.sc (.int .i64 d.v.kind),.sc (.int .i64 d.v.n),str d.v.s,.sc (.int .i64 d.t),.sc (.bool d.add),.sc (.int .i64 d.fr),.sc (.int .i64 d.to)]
abbrev eD (d : Dat) : AV:=.ag (dC d)
def val0 : Val:=⟨0,0,[]⟩
def dat0 : Dat:=⟨0,0,val0,0,false,0,0⟩
def dmayP (d : Dat) : Prop:=0 ≤ d.e ∧ d.e < 9007199254740992 ∧ 0 ≤ d.a ∧ d.a < 9007199254740992 ∧ mayB d.v = true ∧ 1 ≤ d.t ∧ d.t ≤ 1099511627776 ∧ d.fr < d.to
set_option maxHeartbeats 1000000 in
theorem dmay_pc [GlobF Tryz.prog] (d : Dat) (hl : d.v.s.length < 9223372036854775808) : PC Tryz.prog 88 [eD d] (.sc (.bool (dP (dmayP d)))):=by
  refine PC.of_body Tryz.func88 Tryz.ntmps88 rfl rfl rfl ?_
  repeat' first
 | (apply p1 (hd:=rfl);case hop=>first|(apply D_move;rfl)|(apply D_assign;rfl)|(apply D_pc (check_pc d.v hl);rfl;exact .same rfl .nil)|(apply D_load1;rfl)|(apply D_fld;rfl)|(apply D_pickT;rfl;rfl)|(apply D_pickF;rfl;rfl)|(apply D_int;rfl;rfl;rfl)|(apply D_loadA;rfl;rfl)|(apply D_box;rfl;rfl))
 | refine W_seq ?_
 | refine W_region ?_
 | refine WL_nil ?_
 | (refine idG ?_;first|refine g0t rfl rfl rfl ?_|refine gr rfl rfl ?_|refine gs rfl rfl (fun _=>?_) (fun _=>?_))
 | refine tn ?_
 | refine W_ret ?_
 | (refine idR ?_;refine ret1 rfl rfl rfl ?_)
 | (refine Le.bool ?_)
  all_goals (refine dP_eq ?_;unfold dmayP)
  all_goals first
    | (simp only [iLt_t,Bool.false_eq_true];cases hm : mayB d.v <;> simp_all <;> omega)
    | (simp only [iLt_t,Bool.false_eq_true];omega)
noncomputable instance : DecidableEq Val:=fun _ _=>Classical.propDecidable _
set_option maxHeartbeats 1000000 in
theorem dcheck_pc [GlobF Tryz.prog] (d : Dat) (hl : d.v.s.length < 9223372036854775808) : PC Tryz.prog 39 [eD d] (.sc (.int .i64 (if dP (dmayP d) then 0 else 40))):=by
  refine PC.of_body Tryz.func39 Tryz.ntmps39 rfl rfl rfl ?_
  repeat' first
 | (apply p1 (hd:=rfl);case hop=>first|(apply D_assign;rfl)|(apply D_pc (dmay_pc d hl);rfl;exact .same rfl .nil)|(apply D_not;rfl)|(apply D_loadW;rfl;rfl)|(apply D_box;rfl;rfl))
 | refine W_seq ?_
 | refine W_region ?_
 | (refine idC ?_;refine cs rfl (fun _=>?_) (fun _=>?_))
 | refine WL_nil ?_
 | refine tn ?_
 | refine tr ?_
 | refine W_skip ?_
 | refine W_ret ?_
 | (refine idR ?_;refine ret1 rfl rfl rfl ?_)
 | (refine Le.int ?_)
  all_goals
    simp [dP_t, *]
instance : Inhabited Dat:=⟨dat0⟩
instance : Inhabited Val:=⟨val0⟩
instance : Inhabited Dat:=⟨dat0⟩
noncomputable instance : DecidableEq Dat:=fun _ _=>Classical.propDecidable _
instance : Inhabited Val:=⟨val0⟩
instance : Inhabited Dat:=⟨dat0⟩
structure Fac where
  e : Int
  a : Int
  v : Val
  sp : List Sp
abbrev fC (f : Fac) : List AV:=[.sc (.int .i64 f.e),.sc (.int .i64 f.a),.sc (.int .i64 f.v.kind),.sc (.int .i64 f.v.n),str f.v.s,sl2 f.sp]
abbrev sl6 (l : List Fac) : AV:=.sl none 6 (l.map fC)
def cmpF (a b : Fac) : Int:=orI [cmpI a.e b.e,cmpI a.a b.a,cmpV a.v b.v]
abbrev eF (f : Fac) : AV:=.ag (fC f)
set_option maxHeartbeats 4000000 in
theorem fcompare_pc [GlobF Tryz.prog] (a b : Fac) : PC Tryz.prog 127 [eF a,eF b] (.sc (.int .i64 (cmpF a b))):=by
  refine PC.of_body Tryz.func127 Tryz.ntmps127 rfl rfl rfl ?_
  repeat' first
 | (apply p1 (hd:=rfl);case hop=>first|(apply D_assign;rfl)|(apply D_box;rfl;rfl))
 | refine W_seq ?_
 | refine W_region ?_
 | refine WL_nil ?_
 | refine tn ?_
 | refine W_ret ?_
 | (refine idR ?_;refine ret1 rfl rfl rfl ?_)
 | refine Le.int ?_
 | (refine idW ?_;refine W_draw0 rfl ?_)
 | (apply d1 (hd:=rfl);case hop=>first|(apply D_assign;rfl)|(apply D_pc (cmpInt64_pc a.e b.e);rfl;exact .same rfl (.same rfl .nil))|(apply D_pc (cmpInt64_pc a.a b.a);rfl;exact .same rfl (.same rfl .nil))|(apply D_pc (compare_pc a.v b.v);rfl;exact .same rfl (.same rfl .nil))|(apply D_pc (or_pc [cmpI a.e b.e,cmpI a.a b.a,cmpV a.v b.v] (of_decide_eq_true rfl));rfl;exact .same rfl .nil)|(apply D_load1;rfl)|(apply D_fld;rfl)|(apply D_loadA;rfl;rfl)|(apply D_lit;rfl;rfl;rfl;rfl))
 | (refine WD_nil (by first|decide +kernel|kernel_rfl|rfl) ?_)
  all_goals rfl
def datF (f : Fac) : Dat:=⟨f.e,f.a,f.v,1,false,0,1⟩
def mayF (f : Fac) : Prop:=dmayP (datF f) ∧ 0 < f.sp.length ∧ SetP f.sp
set_option maxHeartbeats 4000000 in
theorem fmay_pc [GlobF Tryz.prog] (f : Fac) (hs : f.v.s.length < 9223372036854775808) (hl : f.sp.length < 4611686018427387904) : PC Tryz.prog 126 [eF f] (.sc (.bool (dP (mayF f)))):=by
  have hc:=dcheck_pc (datF f) hs
  have hk:=scheck_pc f.sp hl
  have z0 : Value.bool (iEq 0 0) = .bool true:=by rw [(iEq_t _ _).mpr rfl]
  have z4 : Value.bool (iEq 40 0) = .bool false:=by rw [(iEq_f _ _).mpr (by decide)]
  have z3 : Value.bool (iEq 30 0) = .bool false:=by rw [(iEq_f _ _).mpr (by decide)]
  by_cases h1 : dmayP (datF f) <;> by_cases h2 : SetP f.sp
  all_goals
    first
      | rw [← dP_T h1,if_pos rfl] at hc
      | rw [← dP_F h1,if_neg (by decide)] at hc
    first
      | rw [← dP_T h2,if_pos rfl] at hk
      | rw [← dP_F h2,if_neg (by decide)] at hk
    refine PC.of_body Tryz.func126 Tryz.ntmps126 rfl rfl rfl ?_
    repeat' first
 | (apply p1 (hd:=rfl);case hop=>first|(apply D_move;rfl)|(apply D_assign;rfl)|(apply D_pc hc;rfl;exact .same rfl .nil)|(apply D_pc hk;rfl;exact .same rfl .nil)|exact D_sc (D_int rfl rfl rfl) z0|exact D_sc (D_int rfl rfl rfl) z4|exact D_sc (D_int rfl rfl rfl) z3|(apply D_load1;rfl)|(apply D_fld;rfl)|(apply D_pickT;rfl;rfl)|(apply D_pickF;rfl;rfl)|(apply D_int;rfl;rfl;rfl)|(apply D_lenM;rfl)|(apply D_loadW;rfl;rfl)|(apply D_loadA;rfl;rfl)|(apply D_box;rfl;rfl)|exact D_build rfl)
 | refine W_seq ?_
 | refine W_region ?_
 | refine WL_nil ?_
 | (refine idG ?_;first|refine g0t rfl rfl rfl ?_|refine gr rfl rfl ?_|refine gs rfl rfl (fun _=>?_) (fun _=>?_))
 | refine tn ?_
 | refine W_ret ?_
 | (refine idR ?_;refine ret1 rfl rfl rfl ?_)
 | (refine idA ?_;refine m_var rfl rfl rfl rfl rfl rfl rfl ?_)
 | (refine Le.bool ?_)
  all_goals first
    | exact dP_T ⟨h1,by omega,h2⟩
    | exact dP_F fun h=>h1 h.1
    | exact dP_F fun h=>h2 h.2.2
    | (refine dP_F fun h=>?_;have:=h.2.1;omega)
    | skip
def allI (l : List Fac) (n : Nat) : Prop:=∀ (i : Nat) (h : i < l.length),i < n → mayF l[i] ∧ ∀ h0 : 0 < i,cmpF (l[i - 1]'(by omega)) l[i] < 0
def allF (l : List Fac) : Prop:=allI l l.length
def bndF (l : List Fac) : Prop:=∀ f,f ∈ l → f.v.s.length < 9223372036854775808 ∧ f.sp.length < 4611686018427387904
set_option maxHeartbeats 8000000 in
theorem fall_pc [GlobF Tryz.prog] (l : List Fac) (hl : l.length < 4611686018427387904) (hb : bndF l) : PC Tryz.prog 72 [sl6 l] (.sc (.bool (dP (allF l)))):=by
  refine PC.of_body Tryz.func72 Tryz.ntmps72 rfl rfl rfl ?_
  repeat' first
 | (apply p1 (hd:=rfl);case hop=>first|(apply D_move;rfl)|(apply D_assign;rfl)|(apply D_lenM;rfl))
 | refine W_seq ?_
 | refine W_region ?_
 | refine WL_nil ?_
 | refine tn ?_
 | (refine W_block ?_)
  refine W_loopR (X:=Nat) (fun i=>[(0,sl6 l),(5,sl6 l),(6,.sc (.int .i64 (l.length : Int))),(7,.sc (.int .i64 (i : Int)))]) (fun _=>[])
    (fun i=>i ≤ l.length ∧ allI l i) (fun i=>l.length - i) 0 ⟨Nat.zero_le _,fun j h hj=>absurd hj (Nat.not_lt_zero j)⟩ ⟨rfl,rfl,rfl,rfl,trivial⟩ rfl ?_
  rintro i ⟨hi,hz⟩
  by_cases hil : i < l.length
  · have hm:=fmay_pc (l[i]'hil) (hb _ (List.getElem_mem _)).1 (hb _ (List.getElem_mem _)).2
    have hnext : mayF (l[i]'hil) → (∀ h0 : 0 < i,cmpF (l[i - 1]'(by omega)) l[i] < 0) → allI l (i + 1):=fun h1 h2 j hj hji=>by
      by_cases e : j = i
      · subst e;exact ⟨h1,h2⟩
      · exact hz j hj (by omega)
    have hno : ¬ (mayF (l[i]'hil) ∧ ∀ h0 : 0 < i,cmpF (l[i - 1]'(by omega)) l[i] < 0) → false = dP (allF l):=fun h=>dP_F fun e=>h (e i hil hil)
    by_cases h1 : mayF (l[i]'hil)
    · rw [← dP_T h1] at hm
      by_cases h0 : i = 0
      · subst h0
        repeat' first
 | (apply p1 (hd:=rfl);case hop=>first|(apply D_move;rfl)|(apply D_assign;rfl)|(apply D_int;rfl;rfl;rfl)|(apply D_loadW;rfl;rfl)|(apply D_idxAn;rfl;rfl;(first|omega|(simp;done))))
 | refine W_seq ?_
 | refine W_region ?_
 | (refine idC ?_;first|refine c1 rfl ?_|refine c0 rfl ?_|refine cs rfl (fun _=>?_) (fun _=>?_))
 | refine WL_nil ?_
 | refine tn ?_
 | refine tr ?_
 | refine br ?_
 | refine bn ?_
 | refine te ?_
 | (refine idB ?_;refine bh rfl ?_)
 | refine W_skip ?_
 | refine W_block ?_
 | refine W_exit ?_
 | refine W_ret ?_
 | (refine idR ?_;refine ret1 rfl rfl rfl ?_)
 | (refine idA ?_;refine m_alloc rfl ?_)
 | (refine idS ?_;refine pS (S_store rfl rfl rfl rfl rfl rfl rfl) ?_)
 | refine Le.bool ?_
 | (refine idW ?_;refine W_draw0 rfl ?_)
 | (apply d1 (hd:=rfl);case hop=>first|(apply D_move;rfl)|(apply D_pc hm;rfl;exact .same rfl .nil)|(apply D_pickT;rfl;rfl)|(apply D_pickF;rfl;rfl)|(apply D_int;rfl;rfl;rfl)|(apply D_not;rfl)|(apply D_loadW;rfl;rfl)|(apply D_idxA;rfl;rfl;omega;(first|omega|(simp;done)|(simp;omega))))
 | (refine idDg ?_;first|refine dg0t rfl rfl rfl ?_|refine dg0f rfl rfl rfl ?_|refine dg0u rfl rfl rfl ?_|refine dgr rfl rfl ?_|refine dgs rfl rfl (fun _=>?_) (fun _=>?_))
 | (refine idDn ?_;refine dL _ (fun hp' hs=>D_loadBA rfl (hs.trans rfl) rfl) rfl ?_)
 | (refine WD_nil (by first|decide +kernel|kernel_rfl|rfl) ?_)
        all_goals first
          | (exfalso;omega)
          | contradiction
          | exact ⟨rfl,0 + 1,⟨by omega,hnext h1 fun h=>absurd h (Nat.lt_irrefl 0)⟩,by omega,[],renN ⟨⟨_,rfl,.pur⟩,⟨_,rfl,.pur⟩,⟨_,rfl,.pur⟩,⟨_,rfl,by rw [wsucc 0 (by omega)];exact .pur⟩,trivial⟩⟩
          | skip
      · have hsub : IntKind.i64.wrap ((i : Int) - 1) = ((i - 1 : Nat) : Int):=by rw [w64 _ (by omega) (by omega)];omega
        have hc:=fcompare_pc (l[i - 1]'(by omega)) (l[i]'hil)
        repeat' first
 | (apply p1 (hd:=rfl);case hop=>first|(apply D_move;rfl)|(apply D_assign;rfl)|(apply D_int;rfl;rfl;rfl)|(apply D_loadW;rfl;rfl)|(apply D_idxAn;rfl;rfl;(first|omega|(simp;done))))
 | refine W_seq ?_
 | refine W_region ?_
 | (refine idC ?_;first|refine c1 rfl ?_|refine c0 rfl ?_|refine cs rfl (fun _=>?_) (fun _=>?_))
 | refine WL_nil ?_
 | refine tn ?_
 | refine tr ?_
 | refine br ?_
 | refine bn ?_
 | refine te ?_
 | (refine idB ?_;refine bh rfl ?_)
 | refine W_skip ?_
 | refine W_block ?_
 | refine W_exit ?_
 | refine W_ret ?_
 | (refine idR ?_;refine ret1 rfl rfl rfl ?_)
 | (refine idA ?_;refine m_alloc rfl ?_)
 | (refine idS ?_;refine pS (S_store rfl rfl rfl rfl rfl rfl rfl) ?_)
 | refine Le.bool ?_
 | (refine idW ?_;refine W_draw0 rfl ?_)
 | (apply d1 (hd:=rfl);case hop=>first|(apply D_move;rfl)|(apply D_pc hm;rfl;exact .same rfl .nil)|exact D_sc (D_int rfl rfl rfl) (congrArg _ hsub)|(apply D_pc hc;rfl;exact .same rfl (.same rfl .nil))|(apply D_pickT;rfl;rfl)|(apply D_pickF;rfl;rfl)|(apply D_int;rfl;rfl;rfl)|(apply D_not;rfl)|(apply D_loadW;rfl;rfl)|(apply D_idxAn;rfl;rfl;(first|omega|(simp;done))))
 | (refine idDg ?_;first|refine dg0t rfl rfl rfl ?_|refine dg0f rfl rfl rfl ?_|refine dg0u rfl rfl rfl ?_|refine dgr rfl rfl ?_|refine dgs rfl rfl (fun _=>?_) (fun _=>?_))
 | (refine idDn ?_;refine dL _ (fun hp' hs=>D_loadBA rfl (hs.trans rfl) rfl) rfl ?_)
 | (refine WD_nil (by first|decide +kernel|kernel_rfl|rfl) ?_)
        all_goals first
          | (exfalso;omega)
          | contradiction
          | exact ⟨rfl,i + 1,⟨by omega,hnext h1 fun h=>by assumption⟩,by omega,[],renN ⟨⟨_,rfl,.pur⟩,⟨_,rfl,.pur⟩,⟨_,rfl,.pur⟩,⟨_,rfl,by rw [wsucc i (by omega)];exact .pur⟩,trivial⟩⟩
          | (refine hno fun h=>?_;have:=h.2 (by omega);omega)
          | skip
    · rw [← dP_F h1] at hm
      repeat' first
 | (apply p1 (hd:=rfl);case hop=>first|(apply D_move;rfl)|(apply D_assign;rfl)|(apply D_int;rfl;rfl;rfl)|(apply D_loadW;rfl;rfl)|(apply D_idxAn;rfl;rfl;(first|omega|(simp;done))))
 | refine W_seq ?_
 | refine W_region ?_
 | (refine idC ?_;first|refine c1 rfl ?_|refine c0 rfl ?_|refine cs rfl (fun _=>?_) (fun _=>?_))
 | refine WL_nil ?_
 | refine tn ?_
 | refine tr ?_
 | refine br ?_
 | refine bn ?_
 | refine te ?_
 | (refine idB ?_;refine bh rfl ?_)
 | refine W_skip ?_
 | refine W_block ?_
 | refine W_exit ?_
 | refine W_ret ?_
 | (refine idR ?_;refine ret1 rfl rfl rfl ?_)
 | (refine idA ?_;refine m_alloc rfl ?_)
 | (refine idS ?_;refine pS (S_store rfl rfl rfl rfl rfl rfl rfl) ?_)
 | refine Le.bool ?_
 | (refine idW ?_;refine W_draw0 rfl ?_)
 | (apply d1 (hd:=rfl);case hop=>first|(apply D_move;rfl)|(apply D_pc hm;rfl;exact .same rfl .nil)|(apply D_pickT;rfl;rfl)|(apply D_pickF;rfl;rfl)|(apply D_int;rfl;rfl;rfl)|(apply D_not;rfl))
 | (refine idDg ?_;first|refine dg0t rfl rfl rfl ?_|refine dg0f rfl rfl rfl ?_|refine dg0u rfl rfl rfl ?_|refine dgr rfl rfl ?_|refine dgs rfl rfl (fun _=>?_) (fun _=>?_))
 | (refine idDn ?_;refine dL _ (fun hp' hs=>D_loadBA rfl (hs.trans rfl) rfl) rfl ?_)
 | (refine WD_nil (by first|decide +kernel|kernel_rfl|rfl) ?_)
      all_goals first
        | (exfalso;omega)
        | contradiction
        | exact hno fun h=>h1 h.1
        | skip
  · have e : i = l.length:=by omega
    subst e
    repeat' first
 | (apply p1 (hd:=rfl);case hop=>first|(apply D_move;rfl)|(apply D_assign;rfl)|(apply D_int;rfl;rfl;rfl)|(apply D_loadW;rfl;rfl)|(apply D_idxAn;rfl;rfl;(first|omega|(simp;done))))
 | refine W_seq ?_
 | refine W_region ?_
 | (refine idC ?_;refine cs rfl (fun _=>?_) (fun _=>?_))
 | refine WL_nil ?_
 | refine tn ?_
 | refine te ?_
 | (refine idB ?_;refine bh rfl ?_)
 | refine W_skip ?_
 | refine W_block ?_
 | refine W_exit ?_
 | refine W_ret ?_
 | (refine idR ?_;refine ret1 rfl rfl rfl ?_)
 | (refine idA ?_;refine m_alloc rfl ?_)
 | (refine idS ?_;refine pS (S_store rfl rfl rfl rfl rfl rfl rfl) ?_)
 | refine Le.bool ?_
 | (refine idW ?_;refine W_draw0 rfl ?_)
 | (refine idDn ?_;refine dL _ (fun hp' hs=>D_loadBA rfl (hs.trans rfl) rfl) rfl ?_)
    all_goals first
      | (exfalso;omega)
      | exact dP_T hz
      | skip
set_option maxHeartbeats 4000000 in
theorem fcheck_pc [GlobF Tryz.prog] (l : List Fac) (hl : l.length < 4611686018427387904) (hb : bndF l) : PC Tryz.prog 67 [sl6 l] (.sc (.int .i64 (if dP (allF l) then 0 else 60))):=by
  have h:=fall_pc l hl hb
  cases hx : dP (allF l) <;> rw [hx] at h
  all_goals
    refine PC.of_body Tryz.func67 Tryz.ntmps67 rfl rfl rfl ?_
    repeat' first
 | (apply p1 (hd:=rfl);case hop=>first|(apply D_move;rfl)|(apply D_assign;rfl)|(apply D_pc h;rfl;exact .same rfl .nil)|(apply D_not;rfl))
 | refine W_seq ?_
 | refine W_region ?_
 | (refine idC ?_;refine cs rfl (fun _=>?_) (fun _=>?_))
 | refine WL_nil ?_
 | refine tn ?_
 | refine tr ?_
 | refine W_skip ?_
 | refine W_ret ?_
 | (refine idR ?_;refine ret1 rfl rfl rfl ?_)
 | (refine Le.int ?_)
  all_goals first|rfl|contradiction|simp_all
def bndG (l : List Fac) : Prop:=∀ f,f ∈ l → f.v.s.length < 9223372036854775808 ∧ f.sp.length < 8796093022208
theorem cmpF_if (a b : Fac) : cmpF a b = if cmpI a.e b.e = 0 then (if cmpI a.a b.a = 0 then cmpV a.v b.v else cmpI a.a b.a) else cmpI a.e b.e:=by
  simp only [cmpF,orI]
  split
  · split
    · split
      · rename_i h;exact h.symm
      · rfl
    · rfl
  · rfl
theorem may_of {F : List Fac} (h : allF F) {f : Fac} (hf : f ∈ F) : mayF f:=by
  obtain ⟨i,hi,rfl⟩:=List.getElem_of_mem hf
  exact (h i hi hi).1
end Go.Proofs

namespace Go.AL
section
variable {P : Program} [GlobF P] {ty : TypeId} {pos : String} {af : Array Edge} {dst : Option Nat} {gd : Option (Nat × Bool)} {ρ : Operand → Option AV}
end
end Go.AL
