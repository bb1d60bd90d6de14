/- The facts on a seat's types, as instances of the abstract logic's classes. No condition. -/
import Derived.Test.YtnjnjbombcefcaaDoorOpen
import Derived.Test.YtnjnjbombcefcaaDoorOps17
import Derived.Test.YtnjnjbombcefcaaDoorProg
import Derived.Test.YtnjnjbombcefcaaDoorOps7
import Derived.Lib.Bytealg
set_option linter.all false
namespace Go.Proofs
open Go.AL
instance : Und Tryd.prog 2 (.int .i64):=⟨Tryd.underlying2⟩
instance : Agg Tryd.prog 2 false:=⟨Tryd.isAgg2⟩
instance : Und Tryd.prog 3 (.int .i64):=⟨Tryd.underlying3⟩
instance : Siz Tryd.prog 3 1:=⟨Tryd.sizeOf3⟩
instance : Agg Tryd.prog 3 false:=⟨Tryd.isAgg3⟩
instance : Zer Tryd.prog 3 (.int .i64 0):=⟨Tryd.zeroValue3⟩
instance : Siz Tryd.prog 4 1:=⟨Tryd.sizeOf4⟩
instance : Agg Tryd.prog 4 false:=⟨Tryd.isAgg4⟩
instance : Zer Tryd.prog 4 (.bool false):=⟨Tryd.zeroValue4⟩
instance : Und Tryd.prog 5 (.int .u8):=⟨Tryd.underlying5⟩
instance : Siz Tryd.prog 5 1:=⟨Tryd.sizeOf5⟩
instance : Agg Tryd.prog 5 false:=⟨Tryd.isAgg5⟩
instance : Zer Tryd.prog 5 (.int .u8 0):=⟨Tryd.zeroValue5⟩
instance : Inf Tryd.prog 5 1 1 (.int .u8 0):=⟨inf_of (by kernel_rfl)⟩
instance : Und Tryd.prog 9 .string:=⟨Tryd.underlying9⟩
instance : Siz Tryd.prog 9 1:=⟨Tryd.sizeOf9⟩
instance : Agg Tryd.prog 9 false:=⟨Tryd.isAgg9⟩
instance : Und Tryd.prog 22 (.slice 35):=⟨Tryd.underlying22⟩
instance : Siz Tryd.prog 22 1:=⟨Tryd.sizeOf22⟩
instance : Agg Tryd.prog 22 false:=⟨Tryd.isAgg22⟩
instance : Zer Tryd.prog 22 (.slice none 0 0):=⟨Tryd.zeroValue22⟩
instance : Inf Tryd.prog 22 1 24 (.slice none 0 0):=⟨inf_of (by kernel_rfl)⟩
instance : Siz Tryd.prog 23 1:=⟨Tryd.sizeOf23⟩
instance : Agg Tryd.prog 23 false:=⟨Tryd.isAgg23⟩
instance : Zer Tryd.prog 23 (.int .i64 0):=⟨Tryd.zeroValue23⟩
instance : Siz Tryd.prog 33 3:=⟨Tryd.sizeOf33⟩
instance : Agg Tryd.prog 33 true:=⟨Tryd.isAgg33⟩
instance : Zer Tryd.prog 33 (.agg #[.int .i64 0,.int .i64 0,.string ⟨#[]⟩]):=⟨Tryd.zeroValue33⟩
instance : Plc Tryd.prog 33 [(0,1),(1,1),(2,1)]:=⟨⟨_,Tryd.runUnderlying33,fun w=>by simp [Tryd.sizeOf2,Tryd.sizeOf3,Tryd.sizeOf9]⟩⟩
instance : Fld Tryd.prog 33 0 0:=⟨fun w a=>by simp [Instr.fieldAt,Instr.sureAddr,fieldPlace,Tryd.runUnderlying33,Tryd.sizeOf3]⟩
instance : Fld Tryd.prog 33 1 1:=⟨fun w a=>by simp [Instr.fieldAt,Instr.sureAddr,fieldPlace,Tryd.runUnderlying33,Tryd.sizeOf2]⟩
instance : Fld Tryd.prog 33 2 2:=⟨fun w a=>by simp [Instr.fieldAt,Instr.sureAddr,fieldPlace,Tryd.runUnderlying33,Tryd.sizeOf9]⟩
instance : Siz Tryd.prog 35 8:=⟨Tryd.sizeOf35⟩
instance : Agg Tryd.prog 35 true:=⟨Tryd.isAgg35⟩
instance : Zer Tryd.prog 35 (.agg #[.int .i64 0,.int .i64 0,.int .i64 0,.string ⟨#[]⟩,.string ⟨#[]⟩,.slice none 0 0,.int .i64 0,.int .i64 0]):=⟨Tryd.zeroValue35⟩
instance : Inf Tryd.prog 35 8 96 (.agg #[.int .i64 0,.int .i64 0,.int .i64 0,.string ⟨#[]⟩,.string ⟨#[]⟩,.slice none 0 0,.int .i64 0,.int .i64 0]):=⟨inf_of (by kernel_rfl)⟩
instance : Plc Tryd.prog 35 [(0,1),(1,3),(4,1),(5,1),(6,1),(7,1)]:=⟨⟨_,Tryd.runUnderlying35,fun w=>by simp [Tryd.sizeOf22,Tryd.sizeOf3,Tryd.sizeOf33,Tryd.sizeOf9]⟩⟩
instance : Fld Tryd.prog 35 0 0:=⟨fun w a=>by simp [Instr.fieldAt,Instr.sureAddr,fieldPlace,Tryd.runUnderlying35,Tryd.sizeOf3]⟩
instance : Fld Tryd.prog 35 1 1:=⟨fun w a=>by simp [Instr.fieldAt,Instr.sureAddr,fieldPlace,Tryd.runUnderlying35,Tryd.sizeOf33]⟩
instance : Fld Tryd.prog 35 2 4:=⟨fun w a=>by simp [Instr.fieldAt,Instr.sureAddr,fieldPlace,Tryd.runUnderlying35,Tryd.sizeOf9]⟩
instance : Fld Tryd.prog 35 3 5:=⟨fun w a=>by simp [Instr.fieldAt,Instr.sureAddr,fieldPlace,Tryd.runUnderlying35,Tryd.sizeOf22]⟩
instance : Fld Tryd.prog 35 4 6:=⟨fun w a=>by simp [Instr.fieldAt,Instr.sureAddr,fieldPlace,Tryd.runUnderlying35,Tryd.sizeOf3]⟩
instance : Fld Tryd.prog 35 5 7:=⟨fun w a=>by simp [Instr.fieldAt,Instr.sureAddr,fieldPlace,Tryd.runUnderlying35,Tryd.sizeOf3]⟩
instance : Und Tryd.prog 67 (.slice 22):=⟨Tryd.underlying67⟩
instance : Siz Tryd.prog 67 1:=⟨Tryd.sizeOf67⟩
instance : Agg Tryd.prog 67 false:=⟨Tryd.isAgg67⟩
instance : Zer Tryd.prog 67 (.slice none 0 0):=⟨Tryd.zeroValue67⟩
instance : Siz Tryd.prog 72 4:=⟨Tryd.sizeOf72⟩
instance : Agg Tryd.prog 72 true:=⟨Tryd.isAgg72⟩
instance : Zer Tryd.prog 72 (.agg #[.string ⟨#[]⟩,.int .i64 0,.int .i64 0,.bool false]):=⟨Tryd.zeroValue72⟩
instance : Plc Tryd.prog 72 [(0,1),(1,1),(2,1),(3,1)]:=⟨⟨_,Tryd.runUnderlying72,fun w=>by simp [Tryd.sizeOf3,Tryd.sizeOf4,Tryd.sizeOf9]⟩⟩
instance : Fld Tryd.prog 72 0 0:=⟨fun w a=>by simp [Instr.fieldAt,Instr.sureAddr,fieldPlace,Tryd.runUnderlying72,Tryd.sizeOf9]⟩
instance : Fld Tryd.prog 72 1 1:=⟨fun w a=>by simp [Instr.fieldAt,Instr.sureAddr,fieldPlace,Tryd.runUnderlying72,Tryd.sizeOf3]⟩
instance : Fld Tryd.prog 72 2 2:=⟨fun w a=>by simp [Instr.fieldAt,Instr.sureAddr,fieldPlace,Tryd.runUnderlying72,Tryd.sizeOf3]⟩
instance : Fld Tryd.prog 72 3 3:=⟨fun w a=>by simp [Instr.fieldAt,Instr.sureAddr,fieldPlace,Tryd.runUnderlying72,Tryd.sizeOf4]⟩
instance : Zer Tryd.prog 79 (.agg #[.string ⟨#[]⟩,.int .i64 0,.int .i64 0,.int .i64 0,.int .i64 0]):=⟨Tryd.zeroValue79⟩
instance : Plc Tryd.prog 79 [(0,1),(1,1),(2,1),(3,1),(4,1)]:=⟨⟨_,Tryd.runUnderlying79,fun w=>by simp [Tryd.sizeOf3,Tryd.sizeOf9]⟩⟩
instance : Fld Tryd.prog 79 0 0:=⟨fun w a=>by simp [Instr.fieldAt,Instr.sureAddr,fieldPlace,Tryd.runUnderlying79,Tryd.sizeOf9]⟩
instance : Fld Tryd.prog 79 1 1:=⟨fun w a=>by simp [Instr.fieldAt,Instr.sureAddr,fieldPlace,Tryd.runUnderlying79,Tryd.sizeOf3]⟩
instance : Fld Tryd.prog 79 2 2:=⟨fun w a=>by simp [Instr.fieldAt,Instr.sureAddr,fieldPlace,Tryd.runUnderlying79,Tryd.sizeOf3]⟩
instance : Fld Tryd.prog 79 3 3:=⟨fun w a=>by simp [Instr.fieldAt,Instr.sureAddr,fieldPlace,Tryd.runUnderlying79,Tryd.sizeOf3]⟩
instance : Fld Tryd.prog 79 4 4:=⟨fun w a=>by simp [Instr.fieldAt,Instr.sureAddr,fieldPlace,Tryd.runUnderlying79,Tryd.sizeOf3]⟩
instance : Und Tryd.prog 86 (.pointer 89):=⟨Tryd.underlying86⟩
instance : Siz Tryd.prog 86 1:=⟨Tryd.sizeOf86⟩
instance : Agg Tryd.prog 86 false:=⟨Tryd.isAgg86⟩
instance : Und Tryd.prog 87 (.slice 5):=⟨Tryd.underlying87⟩
instance : Siz Tryd.prog 87 1:=⟨Tryd.sizeOf87⟩
instance : Agg Tryd.prog 87 false:=⟨Tryd.isAgg87⟩
instance : Zer Tryd.prog 89 (.agg #[.pointer none,.slice none 0 0]):=⟨Tryd.zeroValue89⟩
instance : Inf Tryd.prog 89 2 32 (.agg #[.pointer none,.slice none 0 0]):=⟨inf_of (by kernel_rfl)⟩
instance : Fld Tryd.prog 89 0 0:=⟨fun w a=>by simp [Instr.fieldAt,Instr.sureAddr,fieldPlace,Tryd.runUnderlying89,Tryd.sizeOf86]⟩
instance : Fld Tryd.prog 89 1 1:=⟨fun w a=>by simp [Instr.fieldAt,Instr.sureAddr,fieldPlace,Tryd.runUnderlying89,Tryd.sizeOf87]⟩
instance : Ifc Tryd.prog 95:=⟨⟨_,Tryd.underlying95⟩⟩
instance : Agg Tryd.prog 95 false:=⟨Tryd.isAgg95⟩
instance : Und Tryd.prog 159 .unsafePointer:=⟨Tryd.underlying159⟩
instance : Zer Tryd.prog 197 (.agg #[.string ⟨#[]⟩,.string ⟨#[]⟩,.nilIface]):=⟨Tryd.zeroValue197⟩
instance : Plc Tryd.prog 197 [(0,1),(1,1),(2,1)]:=⟨⟨_,Tryd.runUnderlying197,fun w=>by simp [Tryd.sizeOf9,Tryd.sizeOf95]⟩⟩
instance : Mix Tryd.prog:=⟨by decide⟩
end Go.Proofs

namespace Go.Proofs
open Go.AL
instance : EqF Tryd.prog 2 [.i .i64] 1:=eqf_int Tryd.underlying2 Tryd.isAgg2
instance : EqF Tryd.prog 3 [.i .i64] 1:=eqf_int Tryd.underlying3 Tryd.isAgg3
instance : EqF Tryd.prog 9 [.s] 1:=eqf_str Tryd.underlying9 Tryd.isAgg9
instance : EqF Tryd.prog 33 [.i .i64,.i .i64,.s] 2:=eqf_struct Tryd.underlying33 (by kernel_rfl) Tryd.isAgg33 Tryd.sizeOf33 rfl (by repeat first|exact FldEq.nil _|refine FldEq.cons3 (by decide) rfl (by decide) (by rfl) ?_)
instance : EqG Tryd.prog 33:=⟨by kernel_rfl⟩
end Go.Proofs

namespace Go.Proofs
open Go.AL
attribute [local irreducible] Go.AL.W Go.AL.WL Go.AL.WD Go.AL.POp Go.AL.PPOp Go.AL.POpS Go.AL.PC Go.AL.AC Go.AL.YW Go.AL.Ret Go.AL.Le Go.AL.thn Go.AL.inBlk Go.AL.scp
structure Val where
  kind : Int
  n : Int
  s : List UInt8
abbrev vC (v : Val) : List AV:=[.sc (.int .i64 v.kind),.sc (.int .i64 v.n),str v.s]
abbrev eV (v : Val) : AV:=.ag (vC v)
def lowP (c : UInt8) : Prop:=97 ≤ (c.toNat : Int) ∧ (c.toNat : Int) ≤ 122
def digP (c : UInt8) : Prop:=48 ≤ (c.toNat : Int) ∧ (c.toNat : Int) ≤ 57
def tailP (c : UInt8) : Prop:=digP c ∨ (c.toNat : Int) = 46 ∨ (c.toNat : Int) = 95 ∨ (c.toNat : Int) = 45 ∨ (c.toNat : Int) = 47
def WordP (s : List UInt8) : Prop:=1 ≤ s.length ∧ s.length ≤ 64 ∧ ∀ (j : Nat) (h : j < s.length),lowP s[j] ∨ (0 < j ∧ tailP s[j])
open Classical in
noncomputable def wordB (s : List UInt8) : Bool:=decide (WordP s)
theorem wordB_t {s : List UInt8} (h : WordP s) : true = wordB s:=by unfold wordB;simp [h]
theorem wordB_f {s : List UInt8} (h : ¬ WordP s) : false = wordB s:=by unfold wordB;simp [h]
set_option maxHeartbeats 1000000 in
theorem word_pc [GlobF Tryd.prog] (s : List UInt8) (hl : s.length < 9223372036854775808) : PC Tryd.prog 117 [str s] (.sc (.bool (wordB s))):=by
  refine PC.of_body Tryd.func117 Tryd.ntmps117 rfl rfl rfl ?_
  repeat' first
 | (apply p1 (hd:=rfl);case hop=>first|(apply D_move;rfl)|(apply D_assign;rfl)|(apply D_lenM;rfl)|(apply D_s2b;rfl))
 | refine W_seq ?_
 | refine W_region ?_
 | refine WL_nil ?_
 | refine tn ?_
 | (refine W_block ?_)
  refine W_loopL (X:=Nat) (fun i=>[(0,str s),(2,.sc (.bool false)),(6,bytesAV s),(7,.sc (.int .i64 (s.length : Int))),(8,.sc (.int .i64 (i : Int)))]) (fun _=>[])
    (fun i=>i ≤ s.length ∧ ∀ (j : Nat) (h : j < s.length),j < i → lowP s[j] ∨ (0 < j ∧ tailP s[j])) (fun i=>s.length - i) 0 ⟨by omega,fun j h h'=>by omega⟩ ⟨rfl,rfl,rfl,rfl,rfl,trivial⟩ rfl ?_
  rintro i ⟨hi,hz⟩
  repeat' first
 | (apply p1 (hd:=rfl);case hop=>first|(apply D_move;rfl)|(apply D_assign;rfl)|(apply D_load1;rfl)|(apply D_pickT;rfl;rfl)|(apply D_pickF;rfl;rfl)|(apply D_int;rfl;rfl;rfl)|(apply D_len_str;rfl)|(apply D_idxAn;rfl;rfl;(first|omega|(simp;done))))
 | refine W_seq ?_
 | refine W_region ?_
 | (refine idC ?_;first|refine c1 rfl ?_|refine c0 rfl ?_|refine cs rfl (fun _=>?_) (fun _=>?_))
 | refine WL_nil ?_
 | (refine idG ?_;first|refine g0t rfl rfl rfl ?_|refine g0f rfl rfl rfl ?_|refine g0u rfl rfl rfl ?_|refine gr rfl rfl ?_|refine gs rfl rfl (fun _=>?_) (fun _=>?_))
 | refine tn ?_
 | refine tr ?_
 | refine br ?_
 | refine bn ?_
 | refine te ?_
 | (refine idB ?_;refine bh rfl ?_)
 | refine W_skip ?_
 | refine W_block ?_
 | refine W_exit ?_
 | refine W_ret ?_
 | (refine idR ?_;refine ret1 rfl rfl rfl ?_)
 | (refine Le.bool ?_)
  all_goals first
    | (refine ⟨rfl,i + 1,⟨by omega,fun j h hj=>?_⟩,by omega,⟨rfl,rfl,rfl,rfl,ieq (wsucc i (by omega)),trivial⟩,rfl⟩
       by_cases e : j = i
       · subst e;simp only [lowP,tailP,digP];omega
       · exact hz j h (by omega))
    | exact wordB_f fun h=>by
        have:=h.2.2 i (by omega)
        simp only [lowP,tailP,digP] at this;omega
    | exact wordB_f fun h=>by have h1:=h.1;have h2:=h.2.1;omega
    | skip
  all_goals
    by_cases hs : s.length ≤ 64
    · rw [(iLe_t _ _).mpr (by omega)]
      exact wordB_t ⟨by omega,hs,fun j h=>hz j h (by omega)⟩
    · rw [(iLe_f _ _).mpr (by omega)]
      exact wordB_f fun h=>hs h.2.1
open Classical in
noncomputable def dP (p : Prop) : Bool:=decide p
theorem dP_t {p : Prop} : (dP p = true) = p:=by unfold dP;simp
theorem dP_f {p : Prop} : (dP p = false) = ¬ p:=by unfold dP;simp
instance (p : Prop) : BP (dP p) p (¬ p):=⟨fun h=>by rwa [dP_t] at h,fun h=>by rwa [dP_f] at h⟩
instance (s : List UInt8) : BP (wordB s) (WordP s) (¬ WordP s):=⟨fun h=>by unfold wordB at h;simpa using h,fun h=>by unfold wordB at h;simpa using h⟩
theorem dP_eq {p : Prop} {b : Bool} (h : b = true ↔ p) : b = dP p:=by
  cases b
  · exact (dP_f.mpr (fun hp=>by simpa using h.2 hp)).symm
  · exact (dP_t.mpr (h.1 rfl)).symm
set_option maxHeartbeats 400000 in
theorem lower_pc [GlobF Tryd.prog] (c : UInt8) : PC Tryd.prog 123 [.sc (.int .u8 c.toNat)] (.sc (.bool (dP (lowP c)))):=by
  refine PC.of_body Tryd.func123 Tryd.ntmps123 rfl rfl rfl ?_
  repeat' first
 | (apply p1 (hd:=rfl);case hop=>first|(apply D_move;rfl)|(apply D_assign;rfl)|(apply D_pickT;rfl;rfl)|(apply D_pickF;rfl;rfl)|(apply D_int;rfl;rfl;rfl))
 | refine W_seq ?_
 | refine W_region ?_
 | refine WL_nil ?_
 | (refine idG ?_;first|refine g0t rfl rfl rfl ?_|refine gr rfl rfl ?_|refine gs rfl rfl (fun _=>?_) (fun _=>?_))
 | refine tn ?_
 | refine W_ret ?_
 | (refine idR ?_;refine ret1 rfl rfl rfl ?_)
 | (refine Le.bool ?_)
  all_goals (refine dP_eq ?_;simp only [lowP,iLe_t,Bool.false_eq_true,false_iff];omega)
set_option maxHeartbeats 400000 in
theorem digit_pc [GlobF Tryd.prog] (c : UInt8) : PC Tryd.prog 124 [.sc (.int .u8 c.toNat)] (.sc (.bool (dP (digP c)))):=by
  refine PC.of_body Tryd.func124 Tryd.ntmps124 rfl rfl rfl ?_
  repeat' first
 | (apply p1 (hd:=rfl);case hop=>first|(apply D_move;rfl)|(apply D_assign;rfl)|(apply D_pickT;rfl;rfl)|(apply D_pickF;rfl;rfl)|(apply D_int;rfl;rfl;rfl))
 | refine W_seq ?_
 | refine W_region ?_
 | refine WL_nil ?_
 | (refine idG ?_;first|refine g0t rfl rfl rfl ?_|refine gr rfl rfl ?_|refine gs rfl rfl (fun _=>?_) (fun _=>?_))
 | refine tn ?_
 | refine W_ret ?_
 | (refine idR ?_;refine ret1 rfl rfl rfl ?_)
 | (refine Le.bool ?_)
  all_goals (refine dP_eq ?_;simp only [digP,iLe_t,Bool.false_eq_true,false_iff];omega)
set_option maxHeartbeats 1000000 in
theorem word1_pc [GlobF Tryd.prog] (s : List UInt8) (hl : s.length < 9223372036854775808) : PC Tryd.prog 99 [str s] (.sc (.bool (wordB s))):=by
  refine PC.of_body Tryd.func99 Tryd.ntmps99 rfl rfl rfl ?_
  repeat' first
 | (apply p1 (hd:=rfl);case hop=>first|(apply D_move;rfl)|(apply D_assign;rfl)|(apply D_pc (lower_pc _);rfl;exact .same rfl .nil)|(apply D_pickT;rfl;rfl)|(apply D_pickF;rfl;rfl)|(apply D_int;rfl;rfl;rfl)|(apply D_len_str;rfl)|(apply D_not;rfl)|(apply D_idxS;rfl;rfl;omega;(first|omega|(simp;done)|(simp;omega))))
 | refine W_seq ?_
 | refine W_region ?_
 | (refine idC ?_;first|refine c1 rfl ?_|refine cs rfl (fun _=>?_) (fun _=>?_))
 | refine WL_nil ?_
 | (refine idG ?_;first|refine g0f rfl rfl rfl ?_|refine gr rfl rfl ?_|refine gs rfl rfl (fun _=>?_) (fun _=>?_))
 | refine tn ?_
 | refine tr ?_
 | refine W_skip ?_
 | refine W_block ?_
 | refine W_ret ?_
 | (refine idR ?_;refine ret1 rfl rfl rfl ?_)
 | (refine Le.bool ?_)
  · exact wordB_f fun h=>by have h1:=h.1;omega
  · exact wordB_f fun h=>by have h1:=h.2.1;omega
  · rename_i h1 h2 hne
    exact wordB_f fun h=>by
      have:=h.2.2 0 (by omega)
      rcases this with h | ⟨h,_⟩
      · exact hne h
      · omega
  rename_i h1 h2 hlow
  refine W_loopL (X:=Nat) (fun i=>[(0,str s),(2,.sc (.bool false)),(3,.sc (.int .i64 (i : Int)))]) (fun _=>[])
    (fun i=>i ≤ s.length ∧ ∀ (j : Nat) (h : j < s.length),j < i → lowP s[j] ∨ (0 < j ∧ tailP s[j])) (fun i=>s.length - i) 0 ⟨by omega,fun j h h'=>by omega⟩ ⟨rfl,rfl,rfl,trivial⟩ rfl ?_
  rintro i ⟨hi,hz⟩
  repeat' first
 | (apply p1 (hd:=rfl);case hop=>first|(apply D_move;rfl)|(apply D_assign;rfl)|(apply D_pc (lower_pc _);rfl;exact .same rfl .nil)|(apply D_pc (digit_pc _);rfl;exact .same rfl .nil)|(apply D_pickT;rfl;rfl)|(apply D_pickF;rfl;rfl)|(apply D_int;rfl;rfl;rfl)|(apply D_len_str;rfl)|(apply D_not;rfl)|(apply D_idxSn;rfl;rfl;(first|omega|(simp;done))))
 | refine W_seq ?_
 | refine W_region ?_
 | (refine idC ?_;first|refine c0 rfl ?_|refine cs rfl (fun _=>?_) (fun _=>?_))
 | refine WL_nil ?_
 | (refine idG ?_;first|refine g0t rfl rfl rfl ?_|refine gr rfl rfl ?_|refine gs rfl rfl (fun _=>?_) (fun _=>?_))
 | refine tn ?_
 | refine tr ?_
 | refine br ?_
 | refine bn ?_
 | refine te ?_
 | (refine idB ?_;refine bh rfl ?_)
 | refine W_skip ?_
 | refine W_block ?_
 | refine W_exit ?_
 | refine W_ret ?_
 | (refine idR ?_;refine ret1 rfl rfl rfl ?_)
 | (refine Le.bool ?_)
  all_goals first
    | (refine ⟨rfl,i + 1,⟨by omega,fun j h hj=>?_⟩,by omega,⟨rfl,rfl,ieq (wsucc i (by omega)),trivial⟩,rfl⟩
       by_cases e : j = i
       · subst e
         by_cases hj0 : j = 0
         · subst hj0;exact .inl hlow
         · simp only [lowP,tailP,digP] at *;omega
       · exact hz j h (by omega))
    | exact wordB_f fun h=>by
        have:=h.2.2 i (by omega)
        simp only [lowP,tailP,digP] at *;omega
    | exact wordB_t ⟨by omega,by omega,fun j h=>hz j h (by omega)⟩
def MayP (v : Val) : Prop :=
  (v.kind = 2 ∧ 0 ≤ v.n ∧ v.n ≤ 1 ∧ v.s = []) ∨ ((v.kind = 1 ∨ v.kind = 6) ∧ v.s = []) ∨ (v.kind = 5 ∧ v.s = [] ∧ 0 ≤ v.n ∧ v.n < 9007199254740992) ∨
  ((v.kind = 3 ∨ v.kind = 4) ∧ v.n = 0 ∧ v.s.length ≤ 1000) ∨ (v.kind = 7 ∧ v.n = 0 ∧ WordP v.s)
noncomputable def mayB (v : Val) : Bool:=dP (MayP v)
instance (v : Val) : BP (mayB v) (MayP v) (¬ MayP v):=⟨fun h=>by unfold mayB at h;rwa [dP_t] at h,fun h=>by unfold mayB at h;rwa [dP_f] at h⟩
theorem wordB_tt (s : List UInt8) : (wordB s = true) = WordP s:=by unfold wordB;simp
set_option maxHeartbeats 1000000 in
theorem may_pc [GlobF Tryd.prog] (v : Val) (hl : v.s.length < 9223372036854775808) : PC Tryd.prog 86 [eV v] (.sc (.bool (mayB v))):=by
  refine PC.of_body Tryd.func86 Tryd.ntmps86 rfl rfl rfl ?_
  repeat' first
 | (apply p1 (hd:=rfl);case hop=>first|(apply D_move;rfl)|(apply D_assign;rfl)|(apply D_pc (word_pc v.s hl);rfl;exact .same rfl .nil)|(apply D_load1;rfl)|(apply D_fld;rfl)|(apply D_pickT;rfl;rfl)|(apply D_pickF;rfl;rfl)|(apply D_int;rfl;rfl;rfl)|(apply D_len_str;rfl)|(apply D_str;rfl;rfl;rfl)|(apply D_box;rfl;rfl))
 | refine W_seq ?_
 | refine W_region ?_
 | (refine idC ?_;first|refine c1 rfl ?_|refine cs rfl (fun _=>?_) (fun _=>?_))
 | refine WL_nil ?_
 | (refine idG ?_;first|refine g0t rfl rfl rfl ?_|refine g0f rfl rfl rfl ?_|refine gr rfl rfl ?_|refine gs rfl rfl (fun _=>?_) (fun _=>?_))
 | refine tn ?_
 | refine tr ?_
 | refine br ?_
 | refine bn ?_
 | refine te ?_
 | (refine idB ?_;first|refine bh rfl ?_|refine bm rfl ?_)
 | refine W_skip ?_
 | refine W_block ?_
 | refine W_exit ?_
 | refine W_ret ?_
 | (refine idR ?_;refine ret1 rfl rfl rfl ?_)
 | (refine Le.bool ?_)
  all_goals (refine dP_eq ?_;simp_all [MayP,sEq_t,iLe_t,iLt_t,iEq_t,wordB_tt] <;> omega)
set_option maxHeartbeats 1000000 in
theorem may1_pc [GlobF Tryd.prog] (v : Val) (hl : v.s.length < 9223372036854775808) : PC Tryd.prog 58 [eV v] (.sc (.bool (mayB v))):=by
  refine PC.of_body Tryd.func58 Tryd.ntmps58 rfl rfl rfl ?_
  repeat' first
 | (apply p1 (hd:=rfl);case hop=>first|(apply D_move;rfl)|(apply D_assign;rfl)|(apply D_pc (word1_pc v.s hl);rfl;exact .same rfl .nil)|(apply D_load1;rfl)|(apply D_fld;rfl)|(apply D_pickT;rfl;rfl)|(apply D_pickF;rfl;rfl)|(apply D_int;rfl;rfl;rfl)|(apply D_len_str;rfl)|(apply D_str;rfl;rfl;rfl)|(apply D_box;rfl;rfl))
 | refine W_seq ?_
 | refine W_region ?_
 | (refine idC ?_;first|refine c1 rfl ?_|refine cs rfl (fun _=>?_) (fun _=>?_))
 | refine WL_nil ?_
 | (refine idG ?_;first|refine g0t rfl rfl rfl ?_|refine g0f rfl rfl rfl ?_|refine g0u rfl rfl rfl ?_|refine gr rfl rfl ?_|refine gs rfl rfl (fun _=>?_) (fun _=>?_))
 | refine tn ?_
 | refine tr ?_
 | refine br ?_
 | refine bn ?_
 | refine W_skip ?_
 | refine W_block ?_
 | refine W_ret ?_
 | (refine idR ?_;refine ret1 rfl rfl rfl ?_)
 | (refine Le.bool ?_)
  all_goals (refine dP_eq ?_;simp_all [MayP,sEq_t,iLe_t,iLt_t,iEq_t,wordB_tt] <;> omega)
end Go.Proofs

namespace Go.Proofs
open Go.AL
attribute [local irreducible] Go.AL.W Go.AL.WL Go.AL.WD Go.AL.POp Go.AL.PPOp Go.AL.POpS Go.AL.PC Go.AL.AC Go.AL.YW Go.AL.Ret Go.AL.Le Go.AL.thn Go.AL.inBlk Go.AL.scp
theorem dP_T {p : Prop} (h : p) : true = dP p:=(dP_t.mpr h).symm
theorem dP_F {p : Prop} (h : ¬ p) : false = dP p:=(dP_f.mpr h).symm
def digAt (s : List UInt8) (i : Int) : Prop:=∃ h : i.toNat < s.length,digP (s[i.toNat]'h)
instance : Xt Tryd.prog 120 Extern.BytealgIndexByte.indexByte:=⟨run_callFunc_extern Tryd.func120 (by kernel_rfl) (by kernel_rfl) (by kernel_rfl) (by kernel_rfl)⟩
theorem u8n (c : UInt8) : (c.toNat : Int).toNat.toUInt8 = c:=by simp
set_option maxHeartbeats 400000 in
theorem idx0_pc [GlobF Tryd.prog] (l : List UInt8) (c : UInt8) : PC Tryd.prog 90 [str l,.sc (.int .u8 c.toNat)] (.sc (.int .i64 (Lib.indexByte l c))):=by
  refine PC.of_body Tryd.func90 Tryd.ntmps90 rfl rfl rfl ?_
  repeat' first
 | (apply p1 (hd:=rfl);case hop=>first|(apply D_move;rfl)|(apply D_assign;rfl)|exact D_xidx rfl rfl rfl)
 | refine W_seq ?_
 | refine W_region ?_
 | refine WL_nil ?_
 | refine tn ?_
 | refine W_ret ?_
 | (refine idR ?_;refine ret1 rfl rfl rfl ?_)
 | (refine Le.int ?_)
  all_goals rw [u8n]
set_option maxHeartbeats 400000 in
theorem idx_pc [GlobF Tryd.prog] (l : List UInt8) (c : UInt8) : PC Tryd.prog 45 [str l,.sc (.int .u8 c.toNat)] (.sc (.int .i64 (Lib.indexByte l c))):=by
  refine PC.of_body Tryd.func45 Tryd.ntmps45 rfl rfl rfl ?_
  repeat' first
 | (apply p1 (hd:=rfl);case hop=>first|(apply D_move;rfl)|(apply D_assign;rfl)|(apply D_pc (idx0_pc l c);rfl;exact .same rfl (.same rfl .nil)))
 | refine W_seq ?_
 | refine W_region ?_
 | refine WL_nil ?_
 | refine tn ?_
 | refine W_ret ?_
 | (refine idR ?_;refine ret1 rfl rfl rfl ?_)
 | (refine Le.int ?_)
  all_goals rfl
set_option maxHeartbeats 400000 in
theorem dig_pc [GlobF Tryd.prog] (s : List UInt8) (i : Int) (hi : 0 ≤ i) : PC Tryd.prog 44 [.sc (.int .i64 i),.ep [str s]] (.sc (.bool (dP (digAt s i)))):=by
  refine PC.of_body Tryd.func44 Tryd.ntmps44 rfl rfl rfl ?_
  repeat' first
 | (apply p1 (hd:=rfl);case hop=>first|(apply D_move;rfl)|(apply D_assign;rfl)|(apply D_load1;rfl)|(apply D_pickT;rfl;rfl)|(apply D_pickF;rfl;rfl)|(apply D_int;rfl;rfl;rfl)|(apply D_len_str;rfl)|(apply D_idxS;rfl;rfl;omega;(first|omega|(simp;done)|(simp;omega))))
 | refine W_seq ?_
 | refine W_region ?_
 | refine WL_nil ?_
 | (refine idG ?_;first|refine g0t rfl rfl rfl ?_|refine gr rfl rfl ?_|refine gs rfl rfl (fun _=>?_) (fun _=>?_))
 | refine tn ?_
 | refine W_ret ?_
 | (refine idR ?_;refine ret1 rfl rfl rfl ?_)
 | (refine Le.bool ?_)
  · rename_i h1 h2
    refine dP_eq ⟨fun h=>⟨by omega,h2,by rwa [iLe_t] at h⟩,fun ⟨_,_,h⟩=>by rwa [iLe_t]⟩
  · rename_i h1 h2
    exact dP_F fun ⟨_,h,_⟩=>by omega
  · rename_i h1
    exact dP_F fun ⟨h,_⟩=>by omega
set_option maxHeartbeats 400000 in
theorem in_pc [GlobF Tryd.prog] (l : List UInt8) (c : UInt8) (hl : l.length < 4611686018427387904) : PC Tryd.prog 88 [str l,.sc (.int .u8 c.toNat)] (.sc (.bool (dP (c ∈ l)))):=by
  refine PC.of_body Tryd.func88 Tryd.ntmps88 rfl rfl rfl ?_
  repeat' first
 | (apply p1 (hd:=rfl);case hop=>first|(apply D_assign;rfl))
 | refine W_seq ?_
 | refine W_region ?_
 | refine WL_nil ?_
 | refine tn ?_
 | (refine W_block ?_)
  refine W_loopL (X:=Nat) (fun i=>[(0,str l),(1,.sc (.int .u8 c.toNat)),(4,.sc (.bool false)),(5,.sc (.int .i64 (i : Int)))]) (fun _=>[])
    (fun i=>i ≤ l.length ∧ ∀ (j : Nat) (h : j < l.length),j < i → l[j] ≠ c) (fun i=>l.length - i) 0 ⟨by omega,fun j h h'=>by omega⟩ ⟨rfl,rfl,rfl,rfl,trivial⟩ rfl ?_
  rintro i ⟨hi,hz⟩
  repeat' first
 | (apply p1 (hd:=rfl);case hop=>first|(apply D_move;rfl)|(apply D_assign;rfl)|(apply D_int;rfl;rfl;rfl)|(apply D_len_str;rfl)|(apply D_idxSn;rfl;rfl;(first|omega|(simp;done))))
 | refine W_seq ?_
 | refine W_region ?_
 | (refine idC ?_;refine cs rfl (fun _=>?_) (fun _=>?_))
 | refine WL_nil ?_
 | refine tn ?_
 | refine tr ?_
 | refine br ?_
 | refine bn ?_
 | refine te ?_
 | (refine idB ?_;refine bh rfl ?_)
 | refine W_skip ?_
 | refine W_block ?_
 | refine W_exit ?_
 | refine W_ret ?_
 | (refine idR ?_;refine ret1 rfl rfl rfl ?_)
 | (refine Le.bool ?_)
  · rename_i h1 h2
    have e : l[i] = c:=UInt8.toNat_inj.1 (by omega)
    exact dP_T (e ▸ List.getElem_mem _)
  · rename_i h1 h2
    refine ⟨rfl,i + 1,⟨by omega,fun j h hj=>?_⟩,by omega,⟨rfl,rfl,rfl,ieq (wsucc i (by omega)),trivial⟩,rfl⟩
    by_cases e : j = i
    · subst e;exact fun e=>h2 (by rw [e])
    · exact hz j h (by omega)
  · rename_i h1
    exact dP_F fun h=>by
      obtain ⟨j,hj,e⟩:=List.getElem_of_mem h
      exact hz j hj (by omega) e
abbrev sg : List UInt8:=[63,95,43,45,42,47,60,62,61,33,46,37,38]
abbrev sT : List UInt8:=[116,114,117,101]
abbrev sF : List UInt8:=[102,97,108,115,101]
def leadP (s : List UInt8) (h : 0 < s.length) : Prop:=((s[0].toNat : Int) = 43 ∨ (s[0].toNat : Int) = 45 ∨ (s[0].toNat : Int) = 33)
def okP (s : List UInt8) (j : Nat) (h : j < s.length) : Prop :=
  (digP s[j] ∨ lowP s[j] ∨ s[j] ∈ sg) ∧ ¬ (digP s[j] ∧ (j = 0 ∨ (j = 1 ∧ leadP s (by omega))))
def NamedP (s : List UInt8) : Prop:=1 ≤ s.length ∧ s.length ≤ 64 ∧ s ≠ sT ∧ s ≠ sF ∧ ∀ (j : Nat) (h : j < s.length),okP s j h
end Go.Proofs

namespace Go.Proofs
open Go.AL
attribute [local irreducible] Go.AL.W Go.AL.WL Go.AL.WD Go.AL.POp Go.AL.PPOp Go.AL.POpS Go.AL.PC Go.AL.AC Go.AL.YW Go.AL.Ret Go.AL.Le Go.AL.thn Go.AL.inBlk Go.AL.scp
set_option maxHeartbeats 4000000 in
theorem named1_pc [GlobF Tryd.prog] (s : List UInt8) (hl : s.length < 4611686018427387904) : PC Tryd.prog 98 [str s] (.sc (.bool (dP (NamedP s)))):=by
  refine PC.of_body Tryd.func98 Tryd.ntmps98 rfl rfl rfl ?_
  repeat' first
 | (apply p1 (hd:=rfl);case hop=>first|(apply D_move;rfl)|(apply D_assign;rfl)|(apply D_pickT;rfl;rfl)|(apply D_pickF;rfl;rfl)|(apply D_int;rfl;rfl;rfl)|(apply D_len_str;rfl)|(apply D_str;rfl;rfl;rfl))
 | refine W_seq ?_
 | refine W_region ?_
 | (refine idC ?_;first|refine c1 rfl ?_|refine cs rfl (fun _=>?_) (fun _=>?_))
 | refine WL_nil ?_
 | (refine idG ?_;first|refine g0f rfl rfl rfl ?_|refine gr rfl rfl ?_|refine gs rfl rfl (fun _=>?_) (fun _=>?_))
 | refine tn ?_
 | refine tr ?_
 | refine W_skip ?_
 | refine W_block ?_
 | refine W_ret ?_
 | (refine idR ?_;refine ret1 rfl rfl rfl ?_)
 | (refine Le.bool ?_)
  · exact dP_F fun h=>by have:=h.1;omega
  · exact dP_F fun h=>by have:=h.2.1;omega
  · exact dP_F fun h=>by have:=h.2.2.1;simp_all
  · exact dP_F fun h=>by have:=h.2.2.2.1;simp_all
  rename_i h1 h2 h3 h4
  refine W_loopL (X:=Nat) (fun i=>[(0,str s),(2,.sc (.bool false)),(3,.sc (.int .i64 (i : Int)))]) (fun _=>[])
    (fun i=>i ≤ s.length ∧ ∀ (j : Nat) (h : j < s.length),j < i → okP s j h) (fun i=>s.length - i) 0 ⟨by omega,fun j h h'=>by omega⟩ ⟨rfl,rfl,rfl,trivial⟩ rfl ?_
  rintro i ⟨hi,hz⟩
  repeat' first
 | (apply p1 (hd:=rfl);case hop=>first|(apply D_move;rfl)|(apply D_assign;rfl)|(apply D_pc (in_pc sg _ (by decide));rfl;exact .same rfl (.same rfl .nil))|(apply D_pickT;rfl;rfl)|(apply D_pickF;rfl;rfl)|(apply D_int;rfl;rfl;rfl)|(apply D_len_str;rfl)|(apply D_not;rfl)|(apply D_idxSn;rfl;rfl;(first|omega|(simp;done)))|(apply D_idxS;rfl;rfl;omega;(first|omega|(simp;done)|(simp;omega))))
 | refine W_seq ?_
 | refine W_region ?_
 | (refine idC ?_;first|refine c1 rfl ?_|refine c0 rfl ?_|refine cs rfl (fun _=>?_) (fun _=>?_))
 | refine WL_nil ?_
 | (refine idG ?_;first|refine g0t rfl rfl rfl ?_|refine g0f rfl rfl rfl ?_|refine g0u rfl rfl rfl ?_|refine gr rfl rfl ?_|refine gs rfl rfl (fun _=>?_) (fun _=>?_))
 | refine tn ?_
 | refine tr ?_
 | refine br ?_
 | refine bn ?_
 | refine te ?_
 | (refine idB ?_;refine bh rfl ?_)
 | refine W_skip ?_
 | refine W_block ?_
 | refine W_exit ?_
 | refine W_ret ?_
 | (refine idR ?_;refine ret1 rfl rfl rfl ?_)
 | (refine Le.bool ?_)
  all_goals first
    | contradiction
    | (exfalso;omega)
    | (refine ⟨rfl,i + 1,⟨by omega,fun j h hj=>?_⟩,by omega,⟨rfl,rfl,ieq (wsucc i (by omega)),trivial⟩,rfl⟩
       by_cases e : j = i
       · subst e
         refine ⟨?_,?_⟩
         · first
             | exact .inl ⟨by omega,by omega⟩
             | exact .inr (.inl ⟨by omega,by omega⟩)
             | exact .inr (.inr (by assumption))
         · clear hz
           try simp only [Int.toNat_zero] at *
           simp only [digP,leadP]
           omega
       · exact hz j h (by omega))
    | (refine dP_T ⟨by omega,by omega,h3,h4,fun j h=>hz j h (by omega)⟩;done)
    | (refine dP_F fun h=>?_
       have hk:=h.2.2.2.2 i (by omega)
       clear h hz
       obtain ⟨hk1,hk2⟩:=hk
       simp only [digP,lowP,leadP] at hk1 hk2
       try simp only [Int.toNat_zero] at *
       rcases hk1 with hk1|hk1|hk1 <;> first|omega|contradiction)
end Go.Proofs

namespace Go.Proofs
open Go.AL
attribute [local irreducible] Go.AL.W Go.AL.WL Go.AL.WD Go.AL.POp Go.AL.PPOp Go.AL.POpS Go.AL.PC Go.AL.AC Go.AL.YW Go.AL.Ret Go.AL.Le Go.AL.thn Go.AL.inBlk Go.AL.scp
theorem lead_iff (s : List UInt8) (h : 0 < s.length) : leadP s h ↔ s[0] ∈ ([43,45,33] : List UInt8):=by
  simp only [leadP,List.mem_cons,List.not_mem_nil,or_false,← UInt8.toNat_inj]
  show _ ↔ s[0].toNat = 43 ∨ s[0].toNat = 45 ∨ s[0].toNat = 33
  omega
theorem digAt_nat (s : List UInt8) (i : Nat) (h : i < s.length) : digAt s (i : Int) ↔ digP s[i]:=⟨fun ⟨_,h⟩=>h,fun h'=>⟨h,h'⟩⟩
theorem named_iff (s : List UInt8) (h1 : 0 < s.length) (h2 : s.length ≤ 64) (h3 : s ≠ sT) (h4 : s ≠ sF) (hz : ∀ (j : Nat) (h : j < s.length),digP s[j] ∨ lowP s[j] ∨ s[j] ∈ sg) :
    NamedP s ↔ ¬ digAt s 0 ∧ (¬ s[0] ∈ ([43,45,33] : List UInt8) ∨ ¬ digAt s 1):=by
  rw [← lead_iff s h1]
  constructor
  · intro h
    have hok:=h.2.2.2.2
    refine ⟨fun ⟨_,hd⟩=>(hok 0 h1).2 ⟨hd,.inl rfl⟩,?_⟩
    by_cases hl : leadP s h1
    · exact .inr fun ⟨h',hd⟩=>(hok 1 h').2 ⟨hd,.inr ⟨rfl,hl⟩⟩
    · exact .inl hl
  · rintro ⟨g0,g1⟩
    refine ⟨by omega,h2,h3,h4,fun j h=>⟨hz j h,?_⟩⟩
    rintro ⟨hd,rfl | ⟨rfl,hl⟩⟩
    · exact g0 ⟨h,hd⟩
    · rcases g1 with g1|g1
      · exact g1 hl
      · exact g1 ⟨h,hd⟩
set_option maxHeartbeats 4000000 in
theorem named_pc [GlobF Tryd.prog] (s : List UInt8) (hl : s.length < 4611686018427387904) : PC Tryd.prog 18 [str s] (.sc (.bool (dP (NamedP s)))):=by
  refine PC.of_body Tryd.func18 Tryd.ntmps18 rfl rfl rfl ?_
  repeat' first
 | (apply p1 (hd:=rfl);case hop=>first|(apply D_move;rfl)|(apply D_assign;rfl)|(apply D_load1;rfl)|(apply D_pickT;rfl;rfl)|(apply D_pickF;rfl;rfl)|(apply D_int;rfl;rfl;rfl)|(apply D_len_str;rfl)|(apply D_str;rfl;rfl;rfl)|(apply D_box;rfl;rfl)|exact D_mkfn rfl)
 | refine W_seq ?_
 | refine W_region ?_
 | (refine idC ?_;first|refine c1 rfl ?_|refine cs rfl (fun _=>?_) (fun _=>?_))
 | refine WL_nil ?_
 | (refine idG ?_;first|refine g0f rfl rfl rfl ?_|refine gr rfl rfl ?_|refine gs rfl rfl (fun _=>?_) (fun _=>?_))
 | refine tn ?_
 | refine tr ?_
 | refine W_skip ?_
 | refine W_block ?_
 | refine W_ret ?_
 | (refine idR ?_;refine ret1 rfl rfl rfl ?_)
 | (refine Le.bool ?_)
  · exact dP_F fun h=>by have:=h.1;omega
  · exact dP_F fun h=>by have:=h.2.1;omega
  · exact dP_F fun h=>by have:=h.2.2.1;simp_all
  · exact dP_F fun h=>by have:=h.2.2.2.1;simp_all
  rename_i h1 h2 h3 h4
  refine W_loopL (X:=Nat) (fun i=>[(1,.ep [str s]),(2,.sc (.bool false)),(3,.fn (.func 44) [] [.ep [str s]]),(23,.sc (.int .i64 (s.length : Int))),(24,.sc (.int .i64 (i : Int)))]) (fun _=>[])
    (fun i=>i ≤ s.length ∧ ∀ (j : Nat) (h : j < s.length),j < i → (digP s[j] ∨ lowP s[j] ∨ s[j] ∈ sg)) (fun i=>s.length - i) 0 ⟨by omega,fun j h h'=>by omega⟩ ⟨rfl,rfl,rfl,rfl,rfl,trivial⟩ rfl ?_
  rintro i ⟨hi,hz⟩
  repeat' first
 | (apply p1 (hd:=rfl);case hop=>first|(apply D_move;rfl)|(apply D_assign;rfl)|(apply D_pc (idx_pc sg _);rfl;exact .same rfl (.same rfl .nil))|(apply D_pc (idx_pc [43,45,33] _);rfl;exact .same rfl (.same rfl .nil))|(apply D_pcC (ys:=[.sc (.int .i64 (i : Int))]) (ys':=[.ep [str s]]) (dig_pc s (i : Int) (by omega));rfl;exact .same rfl .nil;exact ⟨Le.of_eq rfl,trivial⟩)|(apply D_pcC (ys:=[.sc (.int .i64 0)]) (ys':=[.ep [str s]]) (dig_pc s 0 (by omega));rfl;exact .same rfl .nil;exact ⟨Le.of_eq rfl,trivial⟩)|(apply D_pcC (ys:=[.sc (.int .i64 1)]) (ys':=[.ep [str s]]) (dig_pc s 1 (by omega));rfl;exact .same rfl .nil;exact ⟨Le.of_eq rfl,trivial⟩)|(apply D_load1;rfl)|(apply D_pickT;rfl;rfl)|(apply D_pickF;rfl;rfl)|(apply D_int;rfl;rfl;rfl)|(apply D_not;rfl)|(apply D_idxSn;rfl;rfl;(first|omega|(simp;done)))|(apply D_idxS;rfl;rfl;omega;(first|omega|(simp;done)|(simp;omega))))
 | refine W_seq ?_
 | refine W_region ?_
 | (refine idC ?_;first|refine c0 rfl ?_|refine cs rfl (fun _=>?_) (fun _=>?_))
 | refine WL_nil ?_
 | (refine idG ?_;first|refine g0t rfl rfl rfl ?_|refine g0f rfl rfl rfl ?_|refine g0u rfl rfl rfl ?_|refine gr rfl rfl ?_|refine gs rfl rfl (fun _=>?_) (fun _=>?_))
 | refine tn ?_
 | refine tr ?_
 | refine br ?_
 | refine bn ?_
 | refine te ?_
 | (refine idB ?_;refine bh rfl ?_)
 | refine W_skip ?_
 | refine W_block ?_
 | refine W_exit ?_
 | refine W_ret ?_
 | (refine idR ?_;refine ret1 rfl rfl rfl ?_)
 | (refine Le.bool ?_)
  all_goals first
    | (exfalso;omega)
    | (refine ⟨rfl,i + 1,⟨by omega,fun j h hj=>?_⟩,by omega,⟨rfl,rfl,rfl,rfl,ieq (wsucc i (by omega)),trivial⟩,rfl⟩
       by_cases e : j = i
       · subst e
         first
           | exact .inr (.inl ⟨by omega,by omega⟩)
           | exact .inl ((digAt_nat s _ h).1 (by assumption))
           | exact .inr (.inr ((idx_mem _ _).1 (by assumption)))
       · exact hz j h (by omega))
    | (have hlt : i < s.length:=by omega
       refine dP_F fun h=>?_
       have hk:=(h.2.2.2.2 i hlt).1
       rcases hk with hk|hk|hk
       · exact absurd ((digAt_nat s i hlt).2 hk) (by assumption)
       · simp only [lowP] at hk;omega
       · have:=(idx_mem _ _).2 hk;omega)
    | skip
  all_goals have hn:=named_iff s (by omega) (by omega) h3 h4 fun j h=>hz j h (by omega)
  all_goals have hm : s[0] ∈ ([43,45,33] : List UInt8) ↔ 0 ≤ Lib.indexByte [43,45,33] s[0]:=(idx_mem _ _).symm
  all_goals simp only [Int.toNat_zero] at *
  · rename_i g0 g1
    refine dP_T (hn.2 ⟨g0,.inl fun h=>?_⟩)
    have:=hm.1 h
    omega
  · rename_i g0 g1
    have hin : s[0] ∈ ([43,45,33] : List UInt8):=hm.2 g1
    by_cases g : digAt s 1
    · rw [(bNot_f _).mpr (dP_t.mpr g)]
      exact dP_F fun h=>(hn.1 h).2.elim (fun e=>e hin) fun e=>e g
    · rw [(bNot_t _).mpr (dP_f.mpr g)]
      exact dP_T (hn.2 ⟨g0,.inr g⟩)
  · rename_i g
    exact dP_F fun h=>(hn.1 h).1 g
end Go.Proofs

namespace Go.Txt
inductive Nd where
  | mk (k vk vn : Int) (vs s : List UInt8) (kids : List Nd) (ln cl : Int)
def Nd.k : Nd → Int | .mk k _ _ _ _ _ _ _=>k
def Nd.within : Nd → List Nd → Nd | .mk k a b c d _ x y,l=>.mk k a b c d l x y
structure Tok where
  s : List UInt8
  ln : Nat
  cl : Nat
  bad : Bool
def blankB (c : UInt8) : Bool:=c == 32 || c == 9 || c == 10 || c == 13
abbrev opn : List UInt8:=[40,91,123]
abbrev cls : List UInt8:=[41,93,125]
abbrev stp : List UInt8:=[40,41,91,93,123,125,34,59]
abbrev fit : List UInt8:=[32,9,10,13,40,41,91,93,123,125,59]
def wordC (c : UInt8) : Bool:=decide (32 < c.toNat) && decide (c.toNat ≤ 126) && !(stp.contains c)
def nnl (c : UInt8) : Bool:=c != 10
def nqt (c : UInt8) : Bool:=c != 34
def wordN (l : List UInt8) : Nat:=(l.takeWhile wordC).length
def sz : List UInt8 → Option Nat
  | []=>none
  | c :: r=>if c = 34 then (if 34 ∈ r then some ((r.takeWhile nqt).length + 2) else none) else if wordN (c :: r) = 0 then none else some (wordN (c :: r))
theorem sz_pos {l : List UInt8} {n : Nat} (h : sz l = some n) : 0 < n:=by
  cases l with
  | nil=>simp [sz] at h
  | cons c r =>
    simp only [sz] at h
    split at h
    · split at h
      · cases h;omega
      · cases h
    · split at h
      · cases h
      · cases h;omega
def adv (p : Nat × Nat) (c : UInt8) : Nat × Nat:=if c = 10 then (p.1 + 1,1) else (p.1,p.2 + 1)
def advL (p : Nat × Nat) (l : List UInt8) : Nat × Nat:=l.foldl adv p
def place (s : List UInt8) (i : Nat) : Nat × Nat:=advL (1,1) (s.take i)
def toks (l : List UInt8) (ln cl : Nat) (w : Bool) : List Tok :=
  match l with
  | []=>[⟨[],ln,cl,false⟩]
  | c :: r =>
    if c = 10 then toks r (ln + 1) 1 false
    else if blankB c = true then toks r ln (cl + 1) false
    else if c = 59 then toks (r.dropWhile nnl) ln (cl + 1 + (r.takeWhile nnl).length) w
    else if c ∈ opn ++ cls then ⟨[c],ln,cl,false⟩ :: toks r ln (cl + 1) false
    else match _h : sz (c :: r) with
      | none=>if w = false ∧ c = 34 then [⟨[],(advL (ln,cl) (c :: r)).1,(advL (ln,cl) (c :: r)).2,true⟩] else [⟨[],ln,cl,true⟩]
      | some n=>if w = true then [⟨[],ln,cl,true⟩] else ⟨(c :: r).take n,ln,cl,false⟩ :: toks ((c :: r).drop n) ln (cl + n) true
termination_by l.length
decreasing_by
  · simp
  · simp
  · have : (r.dropWhile nnl).length ≤ r.length:=(List.dropWhile_suffix _).length_le
    simp only [List.length_cons];omega
  · simp
  · have:=sz_pos _h
    simp only [List.length_drop,List.length_cons];omega
inductive Res where
  | ok (l : List Nd)
  | err (ln cl : Nat)
abbrev Leaf : Type:=List UInt8 → Option (Int × Int × Int × List UInt8 × List UInt8)
def leafN (x : Int × Int × Int × List UInt8 × List UInt8) (ln cl : Nat) : Nd:=.mk x.1 x.2.1 x.2.2.1 x.2.2.2.1 x.2.2.2.2 [] ln cl
def opnN (c : UInt8) (ln cl : Nat) (kids : List Nd) : Nd:=.mk (3 + (opn.idxOf c : Nat)) 0 0 [] [] kids ln cl
def mach (leaf : Leaf) : List Tok → List Nd → List (List Nd × Nd) → Nat → Res
  | [],_,_,_=>.ok []
  | t :: ts,cur,stk,many =>
    if t.bad = true ∨ (t.s = [] ∧ stk ≠ []) then .err t.ln t.cl
    else match t.s with
      | []=>.ok cur
      | c :: r =>
        if r = [] ∧ c ∈ cls then
          match stk with
          | []=>.err t.ln t.cl
          | (o,h) :: stk'=>if h.k = 3 + (cls.idxOf c : Nat) then mach leaf ts (o ++ [h.within cur]) stk' many else .err t.ln t.cl
        else if 5000 < many + 1 then .err t.ln t.cl
        else if r = [] ∧ c ∈ opn then (if stk.length = 50 then .err t.ln t.cl else mach leaf ts [] ((cur,opnN c t.ln t.cl []) :: stk) (many + 1))
        else match leaf (c :: r) with
          | some x=>mach leaf ts (cur ++ [leafN x t.ln t.cl]) stk (many + 1)
          | none=>.err t.ln t.cl
def skipL (l : List UInt8) : Nat :=
  match l with
  | []=>0
  | c :: r=>if c = 59 then 1 + (r.takeWhile nnl).length + skipL (r.dropWhile nnl) else if blankB c = true then 1 + skipL r else 0
termination_by l.length
decreasing_by
  · have : (r.dropWhile nnl).length ≤ r.length:=(List.dropWhile_suffix _).length_le
    simp only [List.length_cons];omega
  · simp
def rsz : List UInt8 → Option Nat
  | []=>some 0
  | c :: r=>if c = 34 then (if 34 ∈ r then some ((r.takeWhile nqt).length + 2) else none) else some (wordN (c :: r))
def fits : List UInt8 → Bool
  | []=>true
  | c :: _=>fit.contains c
abbrev RR:=Except Nat (List Nd × Nat × Nat)
def rleaf (leaf : Leaf) (s : List UInt8) (i many : Nat) : Except Nat (Nd × Nat × Nat) :=
  match rsz (s.drop i) with
  | none=>.error s.length
  | some n =>
    if n = 0 ∨ 5000 < many + 1 then .error i
    else match leaf ((s.drop i).take n) with
      | none=>.error i
      | some x=>if fits (s.drop (i + n)) = true then .ok (leafN x (place s i).1 (place s i).2,i + n,many + 1) else .error (i + n)
def rnodes (leaf : Leaf) (s : List UInt8) : Nat → Option UInt8 → Nat → Nat → Nat → RR
  | 0,_,i,_,_=>.error i
  | f + 1,e,i,deep,many =>
    match s.drop (i + skipL (s.drop i)) with
    | []=>if e.isSome = true then .error (i + skipL (s.drop i)) else .ok ([],i + skipL (s.drop i),many)
    | c :: _ =>
      if c ∈ cls then (if e = some c then .ok ([],i + skipL (s.drop i) + 1,many) else .error (i + skipL (s.drop i)))
      else
        match (if c ∈ opn then
            (if 50 ≤ deep ∨ 5000 < many + 1 then .error (i + skipL (s.drop i))
             else match rnodes leaf s f (some (cls.getD (opn.idxOf c) 0)) (i + skipL (s.drop i) + 1) (deep + 1) (many + 1) with
               | .error q=>.error q
               | .ok (ks,i2,m2)=>.ok (opnN c (place s (i + skipL (s.drop i))).1 (place s (i + skipL (s.drop i))).2 ks,i2,m2))
          else rleaf leaf s (i + skipL (s.drop i)) many : Except Nat (Nd × Nat × Nat)) with
        | .error q=>.error q
        | .ok (x,i2,m2) =>
          match rnodes leaf s f e i2 deep m2 with
          | .error q=>.error q
          | .ok (xs,i3,m3)=>.ok (x :: xs,i3,m3)
theorem advL_app (p : Nat × Nat) (l m : List UInt8) : advL p (l ++ m) = advL (advL p l) m:=List.foldl_append
theorem place_add (s : List UInt8) (i n : Nat) : place s (i + n) = advL (place s i) ((s.drop i).take n):=by
  unfold place;rw [List.take_add,advL_app]
theorem place_cons {s : List UInt8} {i : Nat} {c : UInt8} {r : List UInt8} (h : s.drop i = c :: r) : place s (i + 1) = adv (place s i) c:=by
  rw [place_add,h];rfl
theorem advL_no : ∀ {l : List UInt8} (p : Nat × Nat),(∀ c,c ∈ l → c ≠ 10) → advL p l = (p.1,p.2 + l.length)
  | [],p,_=>rfl
  | c :: l,p,h=>by
    have h1:=h c (.head _)
    have : adv p c = (p.1,p.2 + 1):=by unfold adv;rw [if_neg h1]
    rw [show advL p (c :: l) = advL (adv p c) l from rfl,this,advL_no _ fun x hx=>h x (.tail _ hx)]
    simp only [List.length_cons,Prod.mk.injEq,true_and];omega
theorem nnl_take (l : List UInt8) : ∀ c,c ∈ l.takeWhile nnl → c ≠ 10:=fun c hc e=>by
  have:=List.all_takeWhile (p:=nnl) (l:=l)
  have:=List.all_eq_true.1 this c hc
  subst e;simp [nnl] at this
theorem drop_tw {α : Type} (p : α → Bool) (l : List α) : l.drop (l.takeWhile p).length = l.dropWhile p:=by
  conv=>lhs;arg 2;rw [← List.takeWhile_append_dropWhile (p:=p) (l:=l)]
  rw [List.drop_left]
theorem take_tw {α : Type} (p : α → Bool) (l : List α) : l.take (l.takeWhile p).length = l.takeWhile p:=by
  conv=>lhs;arg 2;rw [← List.takeWhile_append_dropWhile (p:=p) (l:=l)]
  rw [List.take_left]
theorem toks_skip : ∀ (n : Nat) (l : List UInt8) (p : Nat × Nat),l.length ≤ n → toks l p.1 p.2 false = toks (l.drop (skipL l)) (advL p (l.take (skipL l))).1 (advL p (l.take (skipL l))).2 false
  | _,[],p,_=>by unfold skipL;simp [advL]
  | 0,c :: r,p,h=>by simp at h
  | n + 1,c :: r,p,h=>by
    simp only [List.length_cons] at h
    by_cases h59 : c = 59
    · have hs : skipL (c :: r) = 1 + (r.takeWhile nnl).length + skipL (r.dropWhile nnl):=by rw [skipL];rw [if_pos h59]
      have hd : (r.dropWhile nnl).length ≤ r.length:=(List.dropWhile_suffix _).length_le
      have ih:=toks_skip n (r.dropWhile nnl) (p.1,p.2 + 1 + (r.takeWhile nnl).length) (by omega)
      rw [hs]
      have e1 : (c :: r).drop (1 + (r.takeWhile nnl).length + skipL (r.dropWhile nnl)) = (r.dropWhile nnl).drop (skipL (r.dropWhile nnl)):=by
        rw [← List.drop_drop,← List.drop_drop,List.drop_succ_cons,List.drop_zero,drop_tw]
      have e2 : advL p ((c :: r).take (1 + (r.takeWhile nnl).length + skipL (r.dropWhile nnl))) = advL (p.1,p.2 + 1 + (r.takeWhile nnl).length) ((r.dropWhile nnl).take (skipL (r.dropWhile nnl))):=by
        rw [Nat.add_assoc,Nat.add_comm 1,List.take_succ_cons,List.take_add,drop_tw,take_tw]
        rw [show advL p (c :: (r.takeWhile nnl ++ (r.dropWhile nnl).take (skipL (r.dropWhile nnl)))) = advL (adv p c) (r.takeWhile nnl ++ (r.dropWhile nnl).take (skipL (r.dropWhile nnl))) from rfl,advL_app,advL_no _ (nnl_take r)]
        have : adv p c = (p.1,p.2 + 1):=by unfold adv;rw [if_neg (by rw [h59];decide)]
        rw [this]
      rw [e1,e2,← ih]
      rw [toks,if_neg (by rw [h59];decide),if_neg (by rw [h59];decide),if_pos h59]
    · by_cases hb : blankB c = true
      · have hs : skipL (c :: r) = 1 + skipL r:=by rw [skipL];rw [if_neg h59,if_pos hb]
        have ih:=toks_skip n r (adv p c) (by omega)
        rw [hs,Nat.add_comm 1,List.drop_succ_cons,List.take_succ_cons]
        rw [show advL p (c :: r.take (skipL r)) = advL (adv p c) (r.take (skipL r)) from rfl,← ih]
        rw [toks]
        by_cases h10 : c = 10
        · rw [if_pos h10];unfold adv;rw [if_pos h10]
        · rw [if_neg h10,if_pos hb];unfold adv;rw [if_neg h10]
      · have hs : skipL (c :: r) = 0:=by rw [skipL];rw [if_neg h59,if_neg hb]
        rw [hs];simp [advL]
theorem skip_head : ∀ (n : Nat) (l : List UInt8),l.length ≤ n → ∀ c r,l.drop (skipL l) = c :: r → c ≠ 59 ∧ blankB c = false
  | _,[],_,c,r,h=>by simp at h
  | 0,c :: r,h,_,_,_=>by simp at h
  | n + 1,c :: r,h,c',r',h'=>by
    simp only [List.length_cons] at h
    by_cases h59 : c = 59
    · have hs : skipL (c :: r) = 1 + (r.takeWhile nnl).length + skipL (r.dropWhile nnl):=by rw [skipL];rw [if_pos h59]
      have hd : (r.dropWhile nnl).length ≤ r.length:=(List.dropWhile_suffix _).length_le
      rw [hs,← List.drop_drop,← List.drop_drop,List.drop_succ_cons,List.drop_zero,drop_tw] at h'
      exact skip_head n _ (by omega) c' r' h'
    · by_cases hb : blankB c = true
      · have hs : skipL (c :: r) = 1 + skipL r:=by rw [skipL];rw [if_neg h59,if_pos hb]
        rw [hs,Nat.add_comm 1,List.drop_succ_cons] at h'
        exact skip_head n _ (by omega) c' r' h'
      · have hs : skipL (c :: r) = 0:=by rw [skipL];rw [if_neg h59,if_neg hb]
        rw [hs,List.drop_zero] at h'
        cases h'
        exact ⟨h59,by simpa using hb⟩
theorem toks_fits {l : List UInt8} (h : fits l = true) (ln cl : Nat) : toks l ln cl true = toks l ln cl false:=by
  cases l with
  | nil=>rw [toks,toks]
  | cons c r =>
    rw [toks,toks]
    by_cases h10 : c = 10
    · rw [if_pos h10,if_pos h10]
    rw [if_neg h10,if_neg h10]
    by_cases hb : blankB c = true
    · rw [if_pos hb,if_pos hb]
    rw [if_neg hb,if_neg hb]
    by_cases h59 : c = 59
    · rw [if_pos h59,if_pos h59]
      cases hr : r.dropWhile nnl with
      | nil=>rw [toks,toks]
      | cons c' r' =>
        have : nnl c' = false:=by
          have:=List.head_dropWhile_not nnl (l:=r) (by rw [hr];simp)
          simpa [hr] using this
        have h10' : c' = 10:=by simpa [nnl] using this
        rw [toks,toks,if_pos h10',if_pos h10']
    rw [if_neg h59,if_neg h59]
    by_cases hk : c ∈ opn ++ cls
    · rw [if_pos hk,if_pos hk]
    · exfalso
      have hf : c ∈ fit:=by simpa [fits] using h
      simp only [fit,List.mem_cons,List.not_mem_nil,or_false] at hf
      rcases hf with rfl|rfl|rfl|rfl|rfl|rfl|rfl|rfl|rfl|rfl|rfl <;> first|exact hb (by decide)|exact h59 rfl|exact h10 rfl|exact hk (by decide)
def headOK : Option UInt8 → List (List Nd × Nd) → Prop
  | none,[]=>True
  | some c,(_,h) :: _=>c ∈ cls ∧ h.k = 3 + (cls.idxOf c : Nat)
  | _,_=>False
def SimOK (leaf : Leaf) (s : List UInt8) (i many : Nat) (cur : List Nd) (stk : List (List Nd × Nd)) : RR → Prop
  | .error q=>mach leaf (toks (s.drop i) (place s i).1 (place s i).2 false) cur stk many = .err (place s q).1 (place s q).2
  | .ok (xs,i2,m2)=>i ≤ i2 ∧ i2 ≤ s.length ∧ match stk with
    | []=>mach leaf (toks (s.drop i) (place s i).1 (place s i).2 false) cur [] many = .ok (cur ++ xs)
    | (o,h) :: stk'=>mach leaf (toks (s.drop i) (place s i).1 (place s i).2 false) cur ((o,h) :: stk') many = mach leaf (toks (s.drop i2) (place s i2).1 (place s i2).2 false) (o ++ [h.within (cur ++ xs)]) stk' m2
theorem cls_inj {c d : UInt8} (hc : c ∈ cls) (hd : d ∈ cls) (h : cls.idxOf c = cls.idxOf d) : c = d:=by
  simp only [cls,List.mem_cons,List.not_mem_nil,or_false] at hc hd
  rcases hc with rfl|rfl|rfl <;> rcases hd with rfl|rfl|rfl <;> first|rfl|(exfalso;revert h;decide)
theorem rsz_sz {c : UInt8} {r : List UInt8} : sz (c :: r) = match rsz (c :: r) with|none=>none|some n=>if n = 0 then none else some n:=by
  simp only [sz,rsz]
  by_cases h : c = 34
  · rw [if_pos h,if_pos h]
    split <;> simp
  · rw [if_neg h,if_neg h]
theorem opn_cl {c : UInt8} (h : c ∈ opn) : cls.getD (opn.idxOf c) 0 ∈ cls ∧ cls.idxOf (cls.getD (opn.idxOf c) 0) = opn.idxOf c:=by
  simp only [opn,List.mem_cons,List.not_mem_nil,or_false] at h
  rcases h with rfl|rfl|rfl <;> decide
theorem within_opn (c : UInt8) (ln cl : Nat) (ks l : List Nd) : (opnN c ln cl ks).within l = opnN c ln cl l:=rfl
theorem skipL_le : ∀ (n : Nat) (l : List UInt8),l.length ≤ n → skipL l ≤ l.length
  | _,[],_=>by unfold skipL;simp
  | 0,c :: r,h=>by simp at h
  | n + 1,c :: r,h=>by
    simp only [List.length_cons] at h
    by_cases h59 : c = 59
    · have hs : skipL (c :: r) = 1 + (r.takeWhile nnl).length + skipL (r.dropWhile nnl):=by rw [skipL];rw [if_pos h59]
      have hd : (r.dropWhile nnl).length ≤ r.length:=(List.dropWhile_suffix _).length_le
      have ih:=skipL_le n (r.dropWhile nnl) (by omega)
      have : (r.takeWhile nnl).length + (r.dropWhile nnl).length = r.length:=by rw [← List.length_append,List.takeWhile_append_dropWhile]
      rw [hs,List.length_cons];omega
    · by_cases hb : blankB c = true
      · have hs : skipL (c :: r) = 1 + skipL r:=by rw [skipL];rw [if_neg h59,if_pos hb]
        have ih:=skipL_le n r (by omega)
        rw [hs,List.length_cons];omega
      · have hs : skipL (c :: r) = 0:=by rw [skipL];rw [if_neg h59,if_neg hb]
        omega
theorem toks_bad {l : List UInt8} (h : fits l = false) (ln cl : Nat) : toks l ln cl true = [⟨[],ln,cl,true⟩]:=by
  cases l with
  | nil=>simp [fits] at h
  | cons c r =>
    have hf : c ∉ fit:=fun hc=>by simp [fits,hc] at h
    rw [toks,if_neg fun e=>hf (by rw [e];decide),if_neg fun e=>hf ?_,if_neg fun e=>hf (by rw [e];decide),if_neg fun e=>hf ?_]
    · split
      · rw [if_neg (by simp)]
      · rw [if_pos rfl]
    · simp only [opn,cls,List.cons_append,List.nil_append,List.mem_cons,List.not_mem_nil,or_false] at e
      rcases e with rfl|rfl|rfl|rfl|rfl|rfl <;> decide
    · simp only [blankB,Bool.or_eq_true,beq_iff_eq] at e
      rcases e with ((rfl|rfl)|rfl)|rfl <;> decide
theorem mach_bad (leaf : Leaf) (ln cl : Nat) (ts : List Tok) (cur : List Nd) (stk : List (List Nd × Nd)) (many : Nat) : mach leaf (⟨[],ln,cl,true⟩ :: ts) cur stk many = .err ln cl:=by
  simp [mach]
theorem rsz_none {c : UInt8} {r : List UInt8} (h : rsz (c :: r) = none) : c = 34:=by
  simp only [rsz] at h
  by_cases h34 : c = 34
  · exact h34
  · rw [if_neg h34] at h;cases h
theorem rsz_zero {c : UInt8} {r : List UInt8} (h : rsz (c :: r) = some 0) : c ≠ 34:=fun e=>by
  simp only [rsz] at h
  rw [if_pos e] at h
  split at h <;> simp at h
theorem rsz_le {l : List UInt8} {n : Nat} (h : rsz l = some n) : n ≤ l.length:=by
  cases l with
  | nil=>simp [rsz] at h;omega
  | cons c r =>
    simp only [rsz] at h
    by_cases h34 : c = 34
    · rw [if_pos h34] at h
      split at h
      · next hm =>
        cases h
        have h1 : (r.takeWhile nqt).length + (r.dropWhile nqt).length = r.length:=by rw [← List.length_append,List.takeWhile_append_dropWhile]
        have h2 : r.dropWhile nqt ≠ []:=fun e=>by
          have:=List.takeWhile_append_dropWhile (p:=nqt) (l:=r)
          rw [e,List.append_nil] at this
          rw [← this] at hm
          have:=List.all_eq_true.1 (List.all_takeWhile (p:=nqt) (l:=r)) 34 hm
          simp [nqt] at this
        have h3:=List.length_pos_iff.2 h2
        simp only [List.length_cons];omega
      · cases h
    · rw [if_neg h34] at h
      cases h
      exact (List.takeWhile_prefix _).length_le
theorem sim (leaf : Leaf) (hleaf : ∀ w x,leaf w = some x → ∀ c,c ∈ w → c ≠ 10) (s : List UInt8) : ∀ (f : Nat) (e : Option UInt8) (i deep many : Nat) (cur : List Nd) (stk : List (List Nd × Nd)),
    s.length - i < f → i ≤ s.length → stk.length = deep → deep ≤ 50 → headOK e stk → SimOK leaf s i many cur stk (rnodes leaf s f e i deep many)
  | 0,_,_,_,_,_,_,h,_,_,_,_=>absurd h (Nat.not_lt_zero _)
  | f + 1, e, i,deep,many,cur,stk,hf,hi,hd,hdp,hh=>by
    have hsk:=toks_skip (s.drop i).length (s.drop i) (place s i) (Nat.le_refl _)
    have hsh:=skip_head (s.drop i).length (s.drop i) (Nat.le_refl _)
    have hpl:=place_add s i (skipL (s.drop i))
    have hkl:=skipL_le _ (s.drop i) (Nat.le_refl _)
    rw [List.length_drop] at hkl
    rw [← hpl,List.drop_drop] at hsk
    rw [List.drop_drop] at hsh
    unfold rnodes
    generalize hj : i + skipL (s.drop i) = j at *
    have hij : i ≤ j:=by omega
    have hjl : j ≤ s.length:=by omega
    cases hs : s.drop j with
    | nil =>
      rw [hs] at hsk
      rw [toks] at hsk
      dsimp only
      cases e with
      | none =>
        cases stk with
        | cons a b=>exact hh.elim
        | nil =>
          simp only [Option.isSome_none,Bool.false_eq_true,if_false]
          refine ⟨hij,hjl,?_⟩
          dsimp only
          rw [hsk];simp [mach]
      | some e =>
        cases stk with
        | nil=>exact hh.elim
        | cons a b =>
          simp only [Option.isSome_some,if_true,SimOK,hsk]
          simp [mach]
    | cons c r =>
      obtain ⟨h59,hb⟩:=hsh c r hs
      have h10 : c ≠ 10:=fun e=>by subst e;simp [blankB] at hb
      have hb' : ¬ blankB c = true:=by rw [hb];decide
      have hjlt : j < s.length:=by
        rcases Nat.lt_or_ge j s.length with h|h
        · exact h
        · rw [List.drop_of_length_le h] at hs;cases hs
      have hr : s.drop (j + 1) = r:=by rw [← List.drop_drop,hs];rfl
      have hp1 : place s (j + 1) = ((place s j).1,(place s j).2 + 1):=by rw [place_cons hs];unfold adv;rw [if_neg h10]
      rw [hs,toks,if_neg h10,if_neg hb',if_neg h59] at hsk
      dsimp only
      by_cases hc : c ∈ cls
      · rw [if_pos hc]
        rw [if_pos (List.mem_append.2 (.inr hc))] at hsk
        cases e with
        | none =>
          cases stk with
          | cons a b=>exact hh.elim
          | nil =>
            rw [if_neg (by simp)]
            simp only [SimOK,hsk]
            simp [mach,hc]
        | some e =>
          cases stk with
          | nil=>exact hh.elim
          | cons a b =>
            obtain ⟨o,h⟩:=a
            obtain ⟨hh1,hh2⟩:=hh
            by_cases hec : e = c
            · subst hec
              rw [if_pos rfl]
              refine ⟨by omega,by omega,?_⟩
              dsimp only
              rw [hsk,hr,hp1,List.append_nil]
              rw [mach]
              simp only [Bool.false_eq_true,false_or,List.cons_ne_nil,false_and,if_false,true_and,if_pos hc,if_pos hh2]
            · rw [if_neg (by simp [hec])]
              simp only [SimOK,hsk]
              rw [mach]
              simp only [Bool.false_eq_true,false_or,List.cons_ne_nil,false_and,if_false,true_and,if_pos hc]
              rw [if_neg]
              intro hk
              rw [hh2] at hk
              exact hec (cls_inj hh1 hc (by omega))
      · rw [if_neg hc]
        by_cases ho : c ∈ opn
        · rw [if_pos ho]
          rw [if_pos (List.mem_append.2 (.inl ho))] at hsk
          have hstep : mach leaf (toks (s.drop i) (place s i).1 (place s i).2 false) cur stk many = if 5000 < many + 1 then .err (place s j).1 (place s j).2 else if stk.length = 50 then .err (place s j).1 (place s j).2 else mach leaf (toks (s.drop (j + 1)) (place s (j + 1)).1 (place s (j + 1)).2 false) [] ((cur,opnN c (place s j).1 (place s j).2 []) :: stk) (many + 1):=by
            rw [hsk,mach,hr,hp1]
            simp only [Bool.false_eq_true,false_or,List.cons_ne_nil,false_and,if_false,true_and,if_neg hc,if_pos ho]
          by_cases hm : 50 ≤ deep ∨ 5000 < many + 1
          · rw [if_pos hm]
            simp only [SimOK,hstep]
            by_cases hm2 : 5000 < many + 1
            · rw [if_pos hm2]
            · rw [if_neg hm2,if_pos (by omega)]
          · rw [if_neg hm]
            rw [if_neg (by omega),if_neg (by omega)] at hstep
            have ih:=sim leaf hleaf s f (some (cls.getD (opn.idxOf c) 0)) (j + 1) (deep + 1) (many + 1) [] ((cur,opnN c (place s j).1 (place s j).2 []) :: stk) (by omega) (by omega) (by simp [hd]) (by omega) ⟨(opn_cl ho).1,by rw [(opn_cl ho).2];rfl⟩
            cases hrn : rnodes leaf s f (some (cls.getD (opn.idxOf c) 0)) (j + 1) (deep + 1) (many + 1) with
            | error q =>
              rw [hrn] at ih
              simp only [SimOK] at ih ⊢
              rw [hstep,ih]
            | ok x =>
              obtain ⟨ks,i2,m2⟩:=x
              rw [hrn] at ih
              obtain ⟨k1,k2,k3⟩:=ih
              dsimp only at k3 ⊢
              rw [within_opn,List.nil_append] at k3
              have ih2:=sim leaf hleaf s f e i2 deep m2 (cur ++ [opnN c (place s j).1 (place s j).2 ks]) stk (by omega) k2 hd hdp hh
              rw [← hstep] at k3
              cases hrn2 : rnodes leaf s f e i2 deep m2 with
              | error q =>
                rw [hrn2] at ih2
                simp only [SimOK] at ih2 ⊢
                rw [k3,ih2]
              | ok y =>
                obtain ⟨xs,i3,m3⟩:=y
                rw [hrn2] at ih2
                obtain ⟨j1,j2,j3⟩:=ih2
                refine ⟨by omega,j2,?_⟩
                cases stk with
                | nil=>dsimp only at j3 ⊢;rw [k3,j3];simp
                | cons a b=>obtain ⟨o,h⟩:=a;dsimp only at j3 ⊢;rw [k3,j3];simp
        · rw [if_neg ho]
          rw [if_neg (fun e=>(List.mem_append.1 e).elim ho hc)] at hsk
          unfold rleaf
          rw [hs]
          have hsz:=rsz_sz (c:=c) (r:=r)
          cases hq : rsz (c :: r) with
          | none =>
            rw [hq] at hsz
            dsimp only at hsz ⊢
            have h34:=rsz_none hq
            have : place s s.length = advL (place s j) (c :: r):=by
              have:=place_add s j (s.length - j)
              rw [show j + (s.length - j) = s.length by omega,hs,List.take_of_length_le] at this
              · exact this
              · rw [← hs,List.length_drop];exact Nat.le_refl _
            simp only [SimOK]
            rw [hsk]
            split
            · rw [if_pos ⟨rfl,h34⟩,mach_bad,this]
            · next h=>rw [hsz] at h;cases h
          | some n =>
            rw [hq] at hsz
            dsimp only at hsz ⊢
            have hnl:=rsz_le hq
            rw [← hs,List.length_drop] at hnl
            by_cases hn : n = 0
            · rw [if_pos (.inl hn)]
              rw [if_pos hn] at hsz
              subst hn
              have h34:=rsz_zero hq
              simp only [SimOK]
              rw [hsk]
              split
              · rw [if_neg (fun e=>h34 e.2),mach_bad]
              · next h=>rw [hsz] at h;cases h
            · rw [if_neg hn] at hsz
              obtain ⟨n',rfl⟩ : ∃ n',n = n' + 1:=⟨n - 1,by omega⟩
              have htk : (c :: r).take (n' + 1) = c :: r.take n':=rfl
              have hdd : (c :: r).drop (n' + 1) = s.drop (j + (n' + 1)):=by rw [← hs,List.drop_drop]
              have hstep : mach leaf (toks (s.drop i) (place s i).1 (place s i).2 false) cur stk many = if 5000 < many + 1 then .err (place s j).1 (place s j).2 else match leaf ((c :: r).take (n' + 1)) with
                  | some x=>mach leaf (toks (s.drop (j + (n' + 1))) (place s j).1 ((place s j).2 + (n' + 1)) true) (cur ++ [leafN x (place s j).1 (place s j).2]) stk (many + 1)
                  | none=>.err (place s j).1 (place s j).2:=by
                rw [hsk]
                split
                · next h=>rw [hsz] at h;cases h
                · next m h =>
                  rw [hsz] at h
                  cases h
                  rw [if_neg (by simp),mach,hdd]
                  simp only [htk,Bool.false_eq_true,false_or,List.cons_ne_nil,false_and,if_false]
                  rw [if_neg (show ¬ (r.take n' = [] ∧ c ∈ cls) from fun h=>hc h.2),if_neg (show ¬ (r.take n' = [] ∧ c ∈ opn) from fun h=>ho h.2)]
              by_cases hm : 5000 < many + 1
              · rw [if_pos (.inr hm)]
                simp only [SimOK]
                rw [hstep,if_pos hm]
              · rw [if_neg (by omega)]
                rw [if_neg hm] at hstep
                cases hlf : leaf ((c :: r).take (n' + 1)) with
                | none =>
                  rw [hlf] at hstep
                  simp only [SimOK]
                  exact hstep
                | some x =>
                  rw [hlf] at hstep
                  dsimp only at hstep ⊢
                  have hno:=hleaf _ _ hlf
                  have hp2 : place s (j + (n' + 1)) = ((place s j).1,(place s j).2 + (n' + 1)):=by
                    rw [place_add,hs,advL_no _ hno,List.length_take,Nat.min_eq_left (by rw [← hs,List.length_drop];exact hnl)]
                  cases hft : fits (s.drop (j + (n' + 1))) with
                  | false =>
                    rw [if_neg (by simp)]
                    simp only [SimOK]
                    rw [hstep,toks_bad hft,mach_bad,hp2]
                  | true =>
                    rw [if_pos rfl]
                    dsimp only
                    rw [toks_fits hft] at hstep
                    have ih2:=sim leaf hleaf s f e (j + (n' + 1)) deep (many + 1) (cur ++ [leafN x (place s j).1 (place s j).2]) stk (by omega) (by omega) hd hdp hh
                    cases hrn2 : rnodes leaf s f e (j + (n' + 1)) deep (many + 1) with
                    | error q =>
                      rw [hrn2] at ih2
                      simp only [SimOK] at ih2 ⊢
                      rw [hp2] at ih2
                      rw [hstep,ih2]
                    | ok y =>
                      obtain ⟨xs,i3,m3⟩:=y
                      rw [hrn2] at ih2
                      obtain ⟨j1,j2,j3⟩:=ih2
                      refine ⟨by omega,j2,?_⟩
                      rw [hp2] at j3
                      cases stk with
                      | nil=>dsimp only at j3 ⊢;rw [hstep,j3];simp
                      | cons a b=>obtain ⟨o,h⟩:=a;dsimp only at j3 ⊢;rw [hstep,j3];simp
theorem parse_same (leaf : Leaf) (hleaf : ∀ w x,leaf w = some x → ∀ c,c ∈ w → c ≠ 10) (s : List UInt8) (f : Nat) (hf : s.length < f) :
    mach leaf (toks s 1 1 false) [] [] 0 = match rnodes leaf s f none 0 0 0 with
      | .error q=>.err (place s q).1 (place s q).2
      | .ok (xs,_,_)=>.ok xs:=by
  have h:=sim leaf hleaf s f none 0 0 0 [] [] (by omega) (Nat.zero_le _) rfl (by omega) trivial
  cases hr : rnodes leaf s f none 0 0 0 with
  | error q=>rw [hr] at h;simpa [SimOK,place,advL] using h
  | ok x=>obtain ⟨xs,i2,m2⟩:=x;rw [hr] at h;simpa [SimOK,place,advL] using h.2.2
end Go.Txt

namespace Go.Txt
mutual
def nsz : Nd → Nat
  | .mk _ _ _ _ _ kids _ _=>1 + nszL kids
def nszL : List Nd → Nat
  | []=>0
  | x :: l=>nsz x + nszL l
end
mutual
def ndp : Nd → Nat
  | .mk k _ _ _ _ kids _ _=>if k < 3 then 0 else 1 + ndpL kids
def ndpL : List Nd → Nat
  | []=>0
  | x :: l=>max (ndp x) (ndpL l)
end
mutual
def era : Nd → Nd
  | .mk k a b c d kids _ _=>.mk k a b c d (eraL kids) 0 0
def eraL : List Nd → List Nd
  | []=>[]
  | x :: l=>era x :: eraL l
end
theorem nszL_app (l m : List Nd) : nszL (l ++ m) = nszL l + nszL m:=by
  induction l with
  | nil=>simp [nszL]
  | cons x l ih=>simp only [List.cons_append,nszL,ih];omega
theorem ndpL_app (l m : List Nd) : ndpL (l ++ m) = max (ndpL l) (ndpL m):=by
  induction l with
  | nil=>simp [ndpL]
  | cons x l ih=>simp only [List.cons_append,ndpL,ih];omega
theorem eraL_app (l m : List Nd) : eraL (l ++ m) = eraL l ++ eraL m:=by
  induction l with
  | nil=>simp [eraL]
  | cons x l ih=>simp only [List.cons_append,eraL,ih]
end Go.Txt

namespace Go.Txt
theorem tw_n {α : Type} (p : α → Bool) : ∀ (l : List α) (n : Nat),n ≤ l.length → (∀ (i : Nat) (h : i < l.length),i < n → p l[i] = true) → (∀ (h : n < l.length),p l[n] = false) →
    l.takeWhile p = l.take n ∧ l.dropWhile p = l.drop n
  | [],n,hn,_,_=>by simp
  | x :: l,0,_,_,h=>by
    have:=h (by simp)
    simp only [List.getElem_cons_zero] at this
    simp [this]
  | x :: l,n + 1,hn,h1,h2=>by
    have hx:=h1 0 (by simp) (by omega)
    simp only [List.getElem_cons_zero] at hx
    obtain ⟨e1,e2⟩:=tw_n p l n (by simpa using hn) (fun i hi hin=>by have:=h1 (i + 1) (by simp;omega) (by omega);simpa using this) (fun hl=>by have:=h2 (by simp;omega);simpa using this)
    simp [hx,e1,e2]
theorem drop_c {s : List UInt8} {i : Nat} (h : i < s.length) : s.drop i = s[i] :: s.drop (i + 1):=(List.drop_eq_getElem_cons h)
theorem toks_end (s : List UInt8) {i : Nat} (h : s.length ≤ i) (ln cl : Nat) (w : Bool) : toks (s.drop i) ln cl w = [⟨[],ln,cl,false⟩]:=by
  rw [List.drop_of_length_le h,toks]
theorem toks_nl {s : List UInt8} {i : Nat} (h : i < s.length) (hc : s[i] = 10) (ln cl : Nat) (w : Bool) : toks (s.drop i) ln cl w = toks (s.drop (i + 1)) (ln + 1) 1 false:=by
  rw [drop_c h,toks,if_pos hc]
theorem toks_bl {s : List UInt8} {i : Nat} (h : i < s.length) (hc : s[i] ≠ 10) (hb : blankB s[i] = true) (ln cl : Nat) (w : Bool) : toks (s.drop i) ln cl w = toks (s.drop (i + 1)) ln (cl + 1) false:=by
  rw [drop_c h,toks,if_neg hc,if_pos hb]
theorem toks_rem {s : List UInt8} {i j : Nat} (h : i < s.length) (hc : s[i] = 59) (hij0 : i ≤ j) (hj : j ≤ s.length) (h1 : ∀ (m : Nat) (h : m < s.length),i ≤ m → m < j → s[m] ≠ 10) (h2 : ∀ (h : j < s.length),s[j] = 10) (ln cl : Nat) (w : Bool) :
    i < j ∧ toks (s.drop i) ln cl w = toks (s.drop j) ln (cl + (j - i)) w:=by
  have hij : i < j:=by
    rcases Nat.lt_or_ge i j with h'|h'
    · exact h'
    · exfalso
      have e : j = i:=by omega
      subst e
      have:=h2 h
      rw [hc] at this
      exact absurd this (by decide)
  refine ⟨hij,?_⟩
  rw [drop_c h,toks,if_neg (by rw [hc];decide),if_neg (by rw [hc];decide),if_pos hc]
  obtain ⟨e1,e2⟩:=tw_n nnl (s.drop (i + 1)) (j - (i + 1)) (by rw [List.length_drop];omega) (fun m hm hmj=>by
    rw [List.length_drop] at hm
    rw [List.getElem_drop]
    have:=h1 (i + 1 + m) (by omega) (by omega) (by omega)
    simpa [nnl] using this) (fun hl=>by
    rw [List.length_drop] at hl
    rw [List.getElem_drop]
    have:=h2 (by omega)
    have e : i + 1 + (j - (i + 1)) = j:=by omega
    simp only [e,nnl,this];decide)
  rw [e1,e2,List.drop_drop,List.length_take,List.length_drop]
  congr 1
  · congr 1;omega
  · omega
theorem toks_br {s : List UInt8} {i : Nat} (h : i < s.length) (h10 : s[i] ≠ 10) (hb : blankB s[i] = false) (h59 : s[i] ≠ 59) (hk : s[i] ∈ opn ++ cls) (ln cl : Nat) (w : Bool) :
    toks (s.drop i) ln cl w = ⟨[s[i]],ln,cl,false⟩ :: toks (s.drop (i + 1)) ln (cl + 1) false:=by
  rw [drop_c h,toks,if_neg h10,if_neg (by rw [hb];decide),if_neg h59,if_pos hk]
theorem toks_sz {s : List UInt8} {i : Nat} (h : i < s.length) (h10 : s[i] ≠ 10) (hb : blankB s[i] = false) (h59 : s[i] ≠ 59) (hk : ¬ s[i] ∈ opn ++ cls) (ln cl : Nat) (w : Bool) :
    (∀ n,sz (s.drop i) = some n → w = true → toks (s.drop i) ln cl w = [⟨[],ln,cl,true⟩])
    ∧ (∀ n,sz (s.drop i) = some n → w = false → toks (s.drop i) ln cl w = ⟨(s.drop i).take n,ln,cl,false⟩ :: toks (s.drop (i + n)) ln (cl + n) true)
    ∧ (sz (s.drop i) = none → w = false → s[i] = 34 → toks (s.drop i) ln cl w = [⟨[],(advL (ln,cl) (s.drop i)).1,(advL (ln,cl) (s.drop i)).2,true⟩])
    ∧ (sz (s.drop i) = none → ¬ (w = false ∧ s[i] = 34) → toks (s.drop i) ln cl w = [⟨[],ln,cl,true⟩]):=by
  have hd:=drop_c h
  have ht : toks (s.drop i) ln cl w = match sz (s.drop i) with
      | none=>if w = false ∧ s[i] = 34 then [⟨[],(advL (ln,cl) (s.drop i)).1,(advL (ln,cl) (s.drop i)).2,true⟩] else [⟨[],ln,cl,true⟩]
      | some n=>if w = true then [⟨[],ln,cl,true⟩] else ⟨(s.drop i).take n,ln,cl,false⟩ :: toks ((s.drop i).drop n) ln (cl + n) true:=by
    rw [hd,toks,if_neg h10,if_neg (by rw [hb];decide),if_neg h59,if_neg hk]
    split <;> simp_all
  refine ⟨fun n e hw=>?_,fun n e hw=>?_,fun e hw h34=>?_,fun e hw=>?_⟩
  · rw [ht,e];simp only [if_pos hw]
  · rw [ht,e];simp only [hw,Bool.false_eq_true,if_false]
    rw [List.drop_drop]
  · rw [ht,e];simp only [if_pos (And.intro hw h34)]
  · rw [ht,e];simp only [if_neg hw]
theorem sz_word {l : List UInt8} {n : Nat} (hl : 0 < l.length) (h34 : l[0] ≠ 34) (hn : n ≤ l.length) (h1 : ∀ (i : Nat) (h : i < l.length),i < n → wordC l[i] = true) (h2 : ∀ (h : n < l.length),wordC l[n] = false) :
    sz l = if n = 0 then none else some n:=by
  cases l with
  | nil=>simp at hl
  | cons c r =>
    simp only [List.getElem_cons_zero] at h34
    have e:=(tw_n wordC (c :: r) n hn h1 h2).1
    have hw : wordN (c :: r) = n:=by unfold wordN;rw [e,List.length_take];omega
    simp only [sz,if_neg h34,hw]
theorem advL_snoc (p : Nat × Nat) (l : List UInt8) (i : Nat) (h : i < l.length) : advL p (l.take (i + 1)) = adv (advL p (l.take i)) l[i]:=by
  rw [List.take_succ_eq_append_getElem h,advL_app];rfl
theorem ixb_tw (r : List UInt8) : Lib.indexByte r 34 = if 34 ∈ r then (((r.takeWhile nqt).length : Nat) : Int) else -1:=by
  induction r with
  | nil=>simp [Lib.indexByte]
  | cons b r ih =>
    unfold Lib.indexByte
    by_cases hb : b = 34
    · subst hb;simp [nqt]
    · have h1 : (b == 34) = false:=by simpa using hb
      have h2 : nqt b = true:=by simpa [nqt] using hb
      rw [h1,ih]
      by_cases hm : 34 ∈ r
      · simp [hm,h2]
      · have h34 : ¬ (34 : UInt8) = b:=fun e=>hb e.symm
        simp [hm,h34]
theorem advL_le (l : List UInt8) : ∀ (p : Nat × Nat),(advL p l).1 ≤ p.1 + l.length ∧ (advL p l).2 ≤ p.2 + l.length + 1:=by
  induction l with
  | nil=>intro p;exact ⟨Nat.le_refl _,Nat.le_succ _⟩
  | cons c l ih =>
    intro p
    have h:=ih (adv p c)
    have e : advL p (c :: l) = advL (adv p c) l:=rfl
    rw [e,List.length_cons]
    have h1 : (adv p c).1 ≤ p.1 + 1:=by unfold adv;split <;> simp
    have h2 : (adv p c).2 ≤ p.2 + 1:=by unfold adv;split <;> simp
    omega
theorem place_le (s : List UInt8) (i : Nat) : (place s i).1 ≤ i + 1 ∧ (place s i).2 ≤ i + 2:=by
  have h:=advL_le (s.take i) (1,1)
  have hl : (s.take i).length ≤ i:=by rw [List.length_take];omega
  unfold place
  omega
def szI (s : List UInt8) : Int:=match sz s with
  | some n=>(n : Int)
  | none=>if s.head? = some 34 then 1 else 0
theorem sz_q {s : List UInt8} (h0 : 0 < s.length) (h34 : s[0] = 34) : szI s = Lib.indexByte (s.drop 1) 34 + 2 ∧ ((sz s).isSome = true ↔ 0 ≤ Lib.indexByte (s.drop 1) 34) ∧ Lib.indexByte (s.drop 1) 34 ≤ s.length ∧ -1 ≤ Lib.indexByte (s.drop 1) 34:=by
  cases s with
  | nil=>simp at h0
  | cons c r =>
    simp only [List.getElem_cons_zero] at h34
    subst h34
    simp only [List.drop_succ_cons,List.drop_zero]
    rw [ixb_tw]
    have hl:=(List.takeWhile_prefix (p:=nqt) (l:=r)).length_le
    by_cases hm : (34 : UInt8) ∈ r
    · simp only [szI,sz,if_pos hm,if_true,List.length_cons,Option.isSome_some,true_iff]
      omega
    · simp only [szI,sz,if_neg hm,if_true,List.length_cons,List.head?_cons]
      simp
      omega
def TokOK (t : Tok) : Prop:=t.s.length ≤ 1 ∨ ∃ c r,t.s = c :: r ∧ c ∉ opn ++ cls
theorem toks_ok (N : Nat) : ∀ (l : List UInt8) (ln cl : Nat) (w : Bool),l.length ≤ N → ∀ t,t ∈ toks l ln cl w → TokOK t ∧ t.s.length ≤ N:=by
  induction N with
  | zero =>
    intro l ln cl w h t ht
    have : l = []:=List.length_eq_zero_iff.1 (by omega)
    subst this
    rw [toks,List.mem_singleton] at ht
    subst ht
    exact ⟨.inl (by simp),by simp⟩
  | succ N ih =>
    intro l ln cl w h t ht
    have up : ∀ {l' : List UInt8} {ln' cl' : Nat} {w' : Bool},l'.length ≤ N → t ∈ toks l' ln' cl' w' → TokOK t ∧ t.s.length ≤ N + 1:=fun hl hm=>⟨(ih _ _ _ _ hl t hm).1,Nat.le_succ_of_le (ih _ _ _ _ hl t hm).2⟩
    cases l with
    | nil =>
      rw [toks,List.mem_singleton] at ht
      subst ht
      exact ⟨.inl (by simp),by simp⟩
    | cons c r =>
      simp only [List.length_cons] at h
      rw [toks] at ht
      split at ht
      · exact up (by omega) ht
      split at ht
      · exact up (by omega) ht
      split at ht
      · exact up (Nat.le_trans (List.dropWhile_suffix _).length_le (by omega)) ht
      split at ht
      · rcases List.mem_cons.1 ht with rfl|ht
        · exact ⟨.inl (by simp),by simp⟩
        · exact up (by omega) ht
      · next hk =>
        split at ht
        · split at ht <;> (rw [List.mem_singleton] at ht;subst ht;exact ⟨.inl (by simp),by simp⟩)
        · next n hn =>
          split at ht
          · rw [List.mem_singleton] at ht;subst ht;exact ⟨.inl (by simp),by simp⟩
          · rcases List.mem_cons.1 ht with rfl|ht
            · have hp:=sz_pos hn
              refine ⟨.inr ⟨c,r.take (n - 1),?_,hk⟩,?_⟩
              · obtain ⟨m,rfl⟩ : ∃ m,n = m + 1:=⟨n - 1,by omega⟩
                rfl
              · simp only [List.length_take,List.length_cons];omega
            · have hp:=sz_pos hn
              exact up (by simp only [List.length_drop,List.length_cons];omega) ht
end Go.Txt
