/- The facts on a seat's types, as instances of the abstract logic's classes. No condition. -/
import Derived.Test.YtnjnjbombcefcaaDoorOpen
import Derived.Test.YtnjnjbombcefcaaDoorOps17
import Derived.Test.YtnjnjbombcefcaaDoorProg
import Derived.Test.YtnjnjbombcefcaaDoorOps7
import Derived.Lib.UnsafeStr
import Derived.Lib.Walk
import Derived.WalkKit
import Derived.OwnWalk
import Derived.Shelf.RegionOpenPlain
import Derived.Test.YtnjnjbombcefcaaDoorOps5
import Derived.Test.YtnjnjbombcefcaaDoorOps19
import Derived.Shelf.Strconv.Itoa4
import Derived.Shelf.Strconv.ParseInt10All
import Derived.Lib.BufferWrite
import Derived.Lib.Hide
import Derived.Laws.MakeOwn
set_option linter.all false
namespace Go.Proofs
open Go.AL
instance : Und Tryd.prog 2 (.int .i64):=⟨Tryd.underlying2⟩
instance : Agg Tryd.prog 2 false:=⟨Tryd.isAgg2⟩
instance : Und Tryd.prog 3 (.int .i64):=⟨Tryd.underlying3⟩
instance : Siz Tryd.prog 3 1:=⟨Tryd.sizeOf3⟩
instance : Agg Tryd.prog 3 false:=⟨Tryd.isAgg3⟩
instance : Zer Tryd.prog 3 (.int .i64 0):=⟨Tryd.zeroValue3⟩
instance : Siz Tryd.prog 4 1:=⟨Tryd.sizeOf4⟩
instance : Agg Tryd.prog 4 false:=⟨Tryd.isAgg4⟩
instance : Zer Tryd.prog 4 (.bool false):=⟨Tryd.zeroValue4⟩
instance : Und Tryd.prog 5 (.int .u8):=⟨Tryd.underlying5⟩
instance : Siz Tryd.prog 5 1:=⟨Tryd.sizeOf5⟩
instance : Agg Tryd.prog 5 false:=⟨Tryd.isAgg5⟩
instance : Zer Tryd.prog 5 (.int .u8 0):=⟨Tryd.zeroValue5⟩
instance : Inf Tryd.prog 5 1 1 (.int .u8 0):=⟨inf_of (by kernel_rfl)⟩
instance : Und Tryd.prog 9 .string:=⟨Tryd.underlying9⟩
instance : Siz Tryd.prog 9 1:=⟨Tryd.sizeOf9⟩
instance : Agg Tryd.prog 9 false:=⟨Tryd.isAgg9⟩
instance : Und Tryd.prog 22 (.slice 35):=⟨Tryd.underlying22⟩
instance : Siz Tryd.prog 22 1:=⟨Tryd.sizeOf22⟩
instance : Agg Tryd.prog 22 false:=⟨Tryd.isAgg22⟩
instance : Zer Tryd.prog 22 (.slice none 0 0):=⟨Tryd.zeroValue22⟩
instance : Inf Tryd.prog 22 1 24 (.slice none 0 0):=⟨inf_of (by kernel_rfl)⟩
instance : Siz Tryd.prog 23 1:=⟨Tryd.sizeOf23⟩
instance : Agg Tryd.prog 23 false:=⟨Tryd.isAgg23⟩
instance : Zer Tryd.prog 23 (.int .i64 0):=⟨Tryd.zeroValue23⟩
instance : Siz Tryd.prog 33 3:=⟨Tryd.sizeOf33⟩
instance : Agg Tryd.prog 33 true:=⟨Tryd.isAgg33⟩
instance : Zer Tryd.prog 33 (.agg #[.int .i64 0,.int .i64 0,.string ⟨#[]⟩]):=⟨Tryd.zeroValue33⟩
instance : Plc Tryd.prog 33 [(0,1),(1,1),(2,1)]:=⟨⟨_,Tryd.runUnderlying33,fun w=>by simp [Tryd.sizeOf2,Tryd.sizeOf3,Tryd.sizeOf9]⟩⟩
instance : Fld Tryd.prog 33 0 0:=⟨fun w a=>by simp [Instr.fieldAt,Instr.sureAddr,fieldPlace,Tryd.runUnderlying33,Tryd.sizeOf3]⟩
instance : Fld Tryd.prog 33 1 1:=⟨fun w a=>by simp [Instr.fieldAt,Instr.sureAddr,fieldPlace,Tryd.runUnderlying33,Tryd.sizeOf2]⟩
instance : Fld Tryd.prog 33 2 2:=⟨fun w a=>by simp [Instr.fieldAt,Instr.sureAddr,fieldPlace,Tryd.runUnderlying33,Tryd.sizeOf9]⟩
instance : Siz Tryd.prog 35 8:=⟨Tryd.sizeOf35⟩
instance : Agg Tryd.prog 35 true:=⟨Tryd.isAgg35⟩
instance : Zer Tryd.prog 35 (.agg #[.int .i64 0,.int .i64 0,.int .i64 0,.string ⟨#[]⟩,.string ⟨#[]⟩,.slice none 0 0,.int .i64 0,.int .i64 0]):=⟨Tryd.zeroValue35⟩
instance : Inf Tryd.prog 35 8 96 (.agg #[.int .i64 0,.int .i64 0,.int .i64 0,.string ⟨#[]⟩,.string ⟨#[]⟩,.slice none 0 0,.int .i64 0,.int .i64 0]):=⟨inf_of (by kernel_rfl)⟩
instance : Plc Tryd.prog 35 [(0,1),(1,3),(4,1),(5,1),(6,1),(7,1)]:=⟨⟨_,Tryd.runUnderlying35,fun w=>by simp [Tryd.sizeOf22,Tryd.sizeOf3,Tryd.sizeOf33,Tryd.sizeOf9]⟩⟩
instance : Fld Tryd.prog 35 0 0:=⟨fun w a=>by simp [Instr.fieldAt,Instr.sureAddr,fieldPlace,Tryd.runUnderlying35,Tryd.sizeOf3]⟩
instance : Fld Tryd.prog 35 1 1:=⟨fun w a=>by simp [Instr.fieldAt,Instr.sureAddr,fieldPlace,Tryd.runUnderlying35,Tryd.sizeOf33]⟩
instance : Fld Tryd.prog 35 2 4:=⟨fun w a=>by simp [Instr.fieldAt,Instr.sureAddr,fieldPlace,Tryd.runUnderlying35,Tryd.sizeOf9]⟩
instance : Fld Tryd.prog 35 3 5:=⟨fun w a=>by simp [Instr.fieldAt,Instr.sureAddr,fieldPlace,Tryd.runUnderlying35,Tryd.sizeOf22]⟩
instance : Fld Tryd.prog 35 4 6:=⟨fun w a=>by simp [Instr.fieldAt,Instr.sureAddr,fieldPlace,Tryd.runUnderlying35,Tryd.sizeOf3]⟩
instance : Fld Tryd.prog 35 5 7:=⟨fun w a=>by simp [Instr.fieldAt,Instr.sureAddr,fieldPlace,Tryd.runUnderlying35,Tryd.sizeOf3]⟩
instance : Und Tryd.prog 67 (.slice 22):=⟨Tryd.underlying67⟩
instance : Siz Tryd.prog 67 1:=⟨Tryd.sizeOf67⟩
instance : Agg Tryd.prog 67 false:=⟨Tryd.isAgg67⟩
instance : Zer Tryd.prog 67 (.slice none 0 0):=⟨Tryd.zeroValue67⟩
instance : Siz Tryd.prog 72 4:=⟨Tryd.sizeOf72⟩
instance : Agg Tryd.prog 72 true:=⟨Tryd.isAgg72⟩
instance : Zer Tryd.prog 72 (.agg #[.string ⟨#[]⟩,.int .i64 0,.int .i64 0,.bool false]):=⟨Tryd.zeroValue72⟩
instance : Plc Tryd.prog 72 [(0,1),(1,1),(2,1),(3,1)]:=⟨⟨_,Tryd.runUnderlying72,fun w=>by simp [Tryd.sizeOf3,Tryd.sizeOf4,Tryd.sizeOf9]⟩⟩
instance : Fld Tryd.prog 72 0 0:=⟨fun w a=>by simp [Instr.fieldAt,Instr.sureAddr,fieldPlace,Tryd.runUnderlying72,Tryd.sizeOf9]⟩
instance : Fld Tryd.prog 72 1 1:=⟨fun w a=>by simp [Instr.fieldAt,Instr.sureAddr,fieldPlace,Tryd.runUnderlying72,Tryd.sizeOf3]⟩
instance : Fld Tryd.prog 72 2 2:=⟨fun w a=>by simp [Instr.fieldAt,Instr.sureAddr,fieldPlace,Tryd.runUnderlying72,Tryd.sizeOf3]⟩
instance : Fld Tryd.prog 72 3 3:=⟨fun w a=>by simp [Instr.fieldAt,Instr.sureAddr,fieldPlace,Tryd.runUnderlying72,Tryd.sizeOf4]⟩
instance : Zer Tryd.prog 79 (.agg #[.string ⟨#[]⟩,.int .i64 0,.int .i64 0,.int .i64 0,.int .i64 0]):=⟨Tryd.zeroValue79⟩
instance : Plc Tryd.prog 79 [(0,1),(1,1),(2,1),(3,1),(4,1)]:=⟨⟨_,Tryd.runUnderlying79,fun w=>by simp [Tryd.sizeOf3,Tryd.sizeOf9]⟩⟩
instance : Fld Tryd.prog 79 0 0:=⟨fun w a=>by simp [Instr.fieldAt,Instr.sureAddr,fieldPlace,Tryd.runUnderlying79,Tryd.sizeOf9]⟩
instance : Fld Tryd.prog 79 1 1:=⟨fun w a=>by simp [Instr.fieldAt,Instr.sureAddr,fieldPlace,Tryd.runUnderlying79,Tryd.sizeOf3]⟩
instance : Fld Tryd.prog 79 2 2:=⟨fun w a=>by simp [Instr.fieldAt,Instr.sureAddr,fieldPlace,Tryd.runUnderlying79,Tryd.sizeOf3]⟩
instance : Fld Tryd.prog 79 3 3:=⟨fun w a=>by simp [Instr.fieldAt,Instr.sureAddr,fieldPlace,Tryd.runUnderlying79,Tryd.sizeOf3]⟩
instance : Fld Tryd.prog 79 4 4:=⟨fun w a=>by simp [Instr.fieldAt,Instr.sureAddr,fieldPlace,Tryd.runUnderlying79,Tryd.sizeOf3]⟩
instance : Und Tryd.prog 86 (.pointer 89):=⟨Tryd.underlying86⟩
instance : Siz Tryd.prog 86 1:=⟨Tryd.sizeOf86⟩
instance : Agg Tryd.prog 86 false:=⟨Tryd.isAgg86⟩
instance : Und Tryd.prog 87 (.slice 5):=⟨Tryd.underlying87⟩
instance : Siz Tryd.prog 87 1:=⟨Tryd.sizeOf87⟩
instance : Agg Tryd.prog 87 false:=⟨Tryd.isAgg87⟩
instance : Zer Tryd.prog 89 (.agg #[.pointer none,.slice none 0 0]):=⟨Tryd.zeroValue89⟩
instance : Inf Tryd.prog 89 2 32 (.agg #[.pointer none,.slice none 0 0]):=⟨inf_of (by kernel_rfl)⟩
instance : Fld Tryd.prog 89 0 0:=⟨fun w a=>by simp [Instr.fieldAt,Instr.sureAddr,fieldPlace,Tryd.runUnderlying89,Tryd.sizeOf86]⟩
instance : Fld Tryd.prog 89 1 1:=⟨fun w a=>by simp [Instr.fieldAt,Instr.sureAddr,fieldPlace,Tryd.runUnderlying89,Tryd.sizeOf87]⟩
instance : Zer Tryd.prog 91 (.agg #[.pointer none,.slice none 0 0,.int .i64 0,.int .i64 0,.bool false]):=⟨Tryd.zeroValue91⟩
instance : Plc Tryd.prog 91 [(0,2),(2,1),(3,1),(4,1)]:=⟨⟨_,Tryd.runUnderlying91,fun w=>by simp [Tryd.sizeOf3,Tryd.sizeOf4,Tryd.sizeOf89]⟩⟩
instance : Fld Tryd.prog 91 0 0:=⟨fun w a=>by simp [Instr.fieldAt,Instr.sureAddr,fieldPlace,Tryd.runUnderlying91,Tryd.sizeOf89]⟩
instance : Fld Tryd.prog 91 1 2:=⟨fun w a=>by simp [Instr.fieldAt,Instr.sureAddr,fieldPlace,Tryd.runUnderlying91,Tryd.sizeOf3]⟩
instance : Fld Tryd.prog 91 2 3:=⟨fun w a=>by simp [Instr.fieldAt,Instr.sureAddr,fieldPlace,Tryd.runUnderlying91,Tryd.sizeOf3]⟩
instance : Fld Tryd.prog 91 3 4:=⟨fun w a=>by simp [Instr.fieldAt,Instr.sureAddr,fieldPlace,Tryd.runUnderlying91,Tryd.sizeOf4]⟩
instance : Ifc Tryd.prog 95:=⟨⟨_,Tryd.underlying95⟩⟩
instance : Agg Tryd.prog 95 false:=⟨Tryd.isAgg95⟩
instance : Und Tryd.prog 159 .unsafePointer:=⟨Tryd.underlying159⟩
instance : Zer Tryd.prog 197 (.agg #[.string ⟨#[]⟩,.string ⟨#[]⟩,.nilIface]):=⟨Tryd.zeroValue197⟩
instance : Plc Tryd.prog 197 [(0,1),(1,1),(2,1)]:=⟨⟨_,Tryd.runUnderlying197,fun w=>by simp [Tryd.sizeOf9,Tryd.sizeOf95]⟩⟩
instance : Mix Tryd.prog:=⟨by decide⟩
end Go.Proofs

namespace Go.Proofs
open Go.AL
instance : EqF Tryd.prog 2 [.i .i64] 1:=eqf_int Tryd.underlying2 Tryd.isAgg2
instance : EqF Tryd.prog 3 [.i .i64] 1:=eqf_int Tryd.underlying3 Tryd.isAgg3
instance : EqF Tryd.prog 9 [.s] 1:=eqf_str Tryd.underlying9 Tryd.isAgg9
instance : EqF Tryd.prog 33 [.i .i64,.i .i64,.s] 2:=eqf_struct Tryd.underlying33 (by kernel_rfl) Tryd.isAgg33 Tryd.sizeOf33 rfl (by repeat first|exact FldEq.nil _|refine FldEq.cons3 (by decide) rfl (by decide) (by rfl) ?_)
instance : EqG Tryd.prog 33:=⟨by kernel_rfl⟩
end Go.Proofs

namespace Go.Proofs
open Go.AL
attribute [local irreducible] Go.AL.W Go.AL.WL Go.AL.WD Go.AL.POp Go.AL.PPOp Go.AL.POpS Go.AL.PC Go.AL.AC Go.AL.YW Go.AL.Ret Go.AL.Le Go.AL.thn Go.AL.inBlk Go.AL.scp
structure Val where
  kind : Int
  n : Int
  s : List UInt8
abbrev vC (v : Val) : List AV:=[.sc (.int .i64 v.kind),.sc (.int .i64 v.n),str v.s]
abbrev eV (v : Val) : AV:=.ag (vC v)
def lowP (c : UInt8) : Prop:=97 ≤ (c.toNat : Int) ∧ (c.toNat : Int) ≤ 122
def digP (c : UInt8) : Prop:=48 ≤ (c.toNat : Int) ∧ (c.toNat : Int) ≤ 57
def tailP (c : UInt8) : Prop:=digP c ∨ (c.toNat : Int) = 46 ∨ (c.toNat : Int) = 95 ∨ (c.toNat : Int) = 45 ∨ (c.toNat : Int) = 47
def WordP (s : List UInt8) : Prop:=1 ≤ s.length ∧ s.length ≤ 64 ∧ ∀ (j : Nat) (h : j < s.length),lowP s[j] ∨ (0 < j ∧ tailP s[j])
open Classical in
noncomputable def wordB (s : List UInt8) : Bool:=decide (WordP s)
theorem wordB_t {s : List UInt8} (h : WordP s) : true = wordB s:=by unfold wordB;simp [h]
theorem wordB_f {s : List UInt8} (h : ¬ WordP s) : false = wordB s:=by unfold wordB;simp [h]
set_option maxHeartbeats 1000000 in
theorem word_pc [GlobF Tryd.prog] (s : List UInt8) (hl : s.length < 9223372036854775808) : PC Tryd.prog 117 [str s] (.sc (.bool (wordB s))):=by
  refine PC.of_body Tryd.func117 Tryd.ntmps117 rfl rfl rfl ?_
  repeat' first
 | (apply p1 (hd:=rfl);case hop=>first|(apply D_move;rfl)|(apply D_assign;rfl)|(apply D_lenM;rfl)|(apply D_s2b;rfl))
 | refine W_seq ?_
 | refine W_region ?_
 | refine WL_nil ?_
 | refine tn ?_
 | (refine W_block ?_)
  refine W_loopL (X:=Nat) (fun i=>[(0,str s),(2,.sc (.bool false)),(6,bytesAV s),(7,.sc (.int .i64 (s.length : Int))),(8,.sc (.int .i64 (i : Int)))]) (fun _=>[])
    (fun i=>i ≤ s.length ∧ ∀ (j : Nat) (h : j < s.length),j < i → lowP s[j] ∨ (0 < j ∧ tailP s[j])) (fun i=>s.length - i) 0 ⟨by omega,fun j h h'=>by omega⟩ ⟨rfl,rfl,rfl,rfl,rfl,trivial⟩ rfl ?_
  rintro i ⟨hi,hz⟩
  repeat' first
 | (apply p1 (hd:=rfl);case hop=>first|(apply D_move;rfl)|(apply D_assign;rfl)|(apply D_load1;rfl)|(apply D_pickT;rfl;rfl)|(apply D_pickF;rfl;rfl)|(apply D_int;rfl;rfl;rfl)|(apply D_len_str;rfl)|(apply D_idxAn;rfl;rfl;(first|omega|(simp;done))))
 | refine W_seq ?_
 | refine W_region ?_
 | (refine idC ?_;first|refine c1 rfl ?_|refine c0 rfl ?_|refine cs rfl (fun _=>?_) (fun _=>?_))
 | refine WL_nil ?_
 | (refine idG ?_;first|refine g0t rfl rfl rfl ?_|refine g0f rfl rfl rfl ?_|refine g0u rfl rfl rfl ?_|refine gr rfl rfl ?_|refine gs rfl rfl (fun _=>?_) (fun _=>?_))
 | refine tn ?_
 | refine tr ?_
 | refine br ?_
 | refine bn ?_
 | refine te ?_
 | (refine idB ?_;refine bh rfl ?_)
 | refine W_skip ?_
 | refine W_block ?_
 | refine W_exit ?_
 | refine W_ret ?_
 | (refine idR ?_;refine ret1 rfl rfl rfl ?_)
 | (refine Le.bool ?_)
  all_goals first
    | (refine ⟨rfl,i + 1,⟨by omega,fun j h hj=>?_⟩,by omega,⟨rfl,rfl,rfl,rfl,ieq (wsucc i (by omega)),trivial⟩,rfl⟩
       by_cases e : j = i
       · subst e;simp only [lowP,tailP,digP];omega
       · exact hz j h (by omega))
    | exact wordB_f fun h=>by
        have:=h.2.2 i (by omega)
        simp only [lowP,tailP,digP] at this;omega
    | exact wordB_f fun h=>by have h1:=h.1;have h2:=h.2.1;omega
    | skip
  all_goals
    by_cases hs : s.length ≤ 64
    · rw [(iLe_t _ _).mpr (by omega)]
      exact wordB_t ⟨by omega,hs,fun j h=>hz j h (by omega)⟩
    · rw [(iLe_f _ _).mpr (by omega)]
      exact wordB_f fun h=>hs h.2.1
open Classical in
noncomputable def dP (p : Prop) : Bool:=decide p
theorem dP_t {p : Prop} : (dP p = true) = p:=by unfold dP;simp
theorem dP_f {p : Prop} : (dP p = false) = ¬ p:=by unfold dP;simp
instance (p : Prop) : BP (dP p) p (¬ p):=⟨fun h=>by rwa [dP_t] at h,fun h=>by rwa [dP_f] at h⟩
instance (s : List UInt8) : BP (wordB s) (WordP s) (¬ WordP s):=⟨fun h=>by unfold wordB at h;simpa using h,fun h=>by unfold wordB at h;simpa using h⟩
theorem dP_eq {p : Prop} {b : Bool} (h : b = true ↔ p) : b = dP p:=by
  cases b
  · exact (dP_f.mpr (fun hp=>by simpa using h.2 hp)).symm
  · exact (dP_t.mpr (h.1 rfl)).symm
def MayP (v : Val) : Prop :=
  (v.kind = 2 ∧ 0 ≤ v.n ∧ v.n ≤ 1 ∧ v.s = []) ∨ ((v.kind = 1 ∨ v.kind = 6) ∧ v.s = []) ∨ (v.kind = 5 ∧ v.s = [] ∧ 0 ≤ v.n ∧ v.n < 9007199254740992) ∨
  ((v.kind = 3 ∨ v.kind = 4) ∧ v.n = 0 ∧ v.s.length ≤ 1000) ∨ (v.kind = 7 ∧ v.n = 0 ∧ WordP v.s)
noncomputable def mayB (v : Val) : Bool:=dP (MayP v)
instance (v : Val) : BP (mayB v) (MayP v) (¬ MayP v):=⟨fun h=>by unfold mayB at h;rwa [dP_t] at h,fun h=>by unfold mayB at h;rwa [dP_f] at h⟩
theorem wordB_tt (s : List UInt8) : (wordB s = true) = WordP s:=by unfold wordB;simp
set_option maxHeartbeats 1000000 in
theorem may_pc [GlobF Tryd.prog] (v : Val) (hl : v.s.length < 9223372036854775808) : PC Tryd.prog 86 [eV v] (.sc (.bool (mayB v))):=by
  refine PC.of_body Tryd.func86 Tryd.ntmps86 rfl rfl rfl ?_
  repeat' first
 | (apply p1 (hd:=rfl);case hop=>first|(apply D_move;rfl)|(apply D_assign;rfl)|(apply D_pc (word_pc v.s hl);rfl;exact .same rfl .nil)|(apply D_load1;rfl)|(apply D_fld;rfl)|(apply D_pickT;rfl;rfl)|(apply D_pickF;rfl;rfl)|(apply D_int;rfl;rfl;rfl)|(apply D_len_str;rfl)|(apply D_str;rfl;rfl;rfl)|(apply D_box;rfl;rfl))
 | refine W_seq ?_
 | refine W_region ?_
 | (refine idC ?_;first|refine c1 rfl ?_|refine cs rfl (fun _=>?_) (fun _=>?_))
 | refine WL_nil ?_
 | (refine idG ?_;first|refine g0t rfl rfl rfl ?_|refine g0f rfl rfl rfl ?_|refine gr rfl rfl ?_|refine gs rfl rfl (fun _=>?_) (fun _=>?_))
 | refine tn ?_
 | refine tr ?_
 | refine br ?_
 | refine bn ?_
 | refine te ?_
 | (refine idB ?_;first|refine bh rfl ?_|refine bm rfl ?_)
 | refine W_skip ?_
 | refine W_block ?_
 | refine W_exit ?_
 | refine W_ret ?_
 | (refine idR ?_;refine ret1 rfl rfl rfl ?_)
 | (refine Le.bool ?_)
  all_goals (refine dP_eq ?_;simp_all [MayP,sEq_t,iLe_t,iLt_t,iEq_t,wordB_tt] <;> omega)
end Go.Proofs

namespace Go.Proofs
open Go.AL
attribute [local irreducible] Go.AL.W Go.AL.WL Go.AL.WD Go.AL.POp Go.AL.PPOp Go.AL.POpS Go.AL.PC Go.AL.AC Go.AL.YW Go.AL.Ret Go.AL.Le Go.AL.thn Go.AL.inBlk Go.AL.scp
theorem dP_T {p : Prop} (h : p) : true = dP p:=(dP_t.mpr h).symm
theorem dP_F {p : Prop} (h : ¬ p) : false = dP p:=(dP_f.mpr h).symm
def digAt (s : List UInt8) (i : Int) : Prop:=∃ h : i.toNat < s.length,digP (s[i.toNat]'h)
instance : Xt Tryd.prog 120 Extern.BytealgIndexByte.indexByte:=⟨run_callFunc_extern Tryd.func120 (by kernel_rfl) (by kernel_rfl) (by kernel_rfl) (by kernel_rfl)⟩
theorem u8n (c : UInt8) : (c.toNat : Int).toNat.toUInt8 = c:=by simp
set_option maxHeartbeats 400000 in
theorem idx0_pc [GlobF Tryd.prog] (l : List UInt8) (c : UInt8) : PC Tryd.prog 90 [str l,.sc (.int .u8 c.toNat)] (.sc (.int .i64 (Lib.indexByte l c))):=by
  refine PC.of_body Tryd.func90 Tryd.ntmps90 rfl rfl rfl ?_
  repeat' first
 | (apply p1 (hd:=rfl);case hop=>first|(apply D_move;rfl)|(apply D_assign;rfl)|exact D_xidx rfl rfl rfl)
 | refine W_seq ?_
 | refine W_region ?_
 | refine WL_nil ?_
 | refine tn ?_
 | refine W_ret ?_
 | (refine idR ?_;refine ret1 rfl rfl rfl ?_)
 | (refine Le.int ?_)
  all_goals rw [u8n]
set_option maxHeartbeats 400000 in
theorem idx_pc [GlobF Tryd.prog] (l : List UInt8) (c : UInt8) : PC Tryd.prog 45 [str l,.sc (.int .u8 c.toNat)] (.sc (.int .i64 (Lib.indexByte l c))):=by
  refine PC.of_body Tryd.func45 Tryd.ntmps45 rfl rfl rfl ?_
  repeat' first
 | (apply p1 (hd:=rfl);case hop=>first|(apply D_move;rfl)|(apply D_assign;rfl)|(apply D_pc (idx0_pc l c);rfl;exact .same rfl (.same rfl .nil)))
 | refine W_seq ?_
 | refine W_region ?_
 | refine WL_nil ?_
 | refine tn ?_
 | refine W_ret ?_
 | (refine idR ?_;refine ret1 rfl rfl rfl ?_)
 | (refine Le.int ?_)
  all_goals rfl
set_option maxHeartbeats 400000 in
theorem dig_pc [GlobF Tryd.prog] (s : List UInt8) (i : Int) (hi : 0 ≤ i) : PC Tryd.prog 44 [.sc (.int .i64 i),.ep [str s]] (.sc (.bool (dP (digAt s i)))):=by
  refine PC.of_body Tryd.func44 Tryd.ntmps44 rfl rfl rfl ?_
  repeat' first
 | (apply p1 (hd:=rfl);case hop=>first|(apply D_move;rfl)|(apply D_assign;rfl)|(apply D_load1;rfl)|(apply D_pickT;rfl;rfl)|(apply D_pickF;rfl;rfl)|(apply D_int;rfl;rfl;rfl)|(apply D_len_str;rfl)|(apply D_idxS;rfl;rfl;omega;(first|omega|(simp;done)|(simp;omega))))
 | refine W_seq ?_
 | refine W_region ?_
 | refine WL_nil ?_
 | (refine idG ?_;first|refine g0t rfl rfl rfl ?_|refine gr rfl rfl ?_|refine gs rfl rfl (fun _=>?_) (fun _=>?_))
 | refine tn ?_
 | refine W_ret ?_
 | (refine idR ?_;refine ret1 rfl rfl rfl ?_)
 | (refine Le.bool ?_)
  · rename_i h1 h2
    refine dP_eq ⟨fun h=>⟨by omega,h2,by rwa [iLe_t] at h⟩,fun ⟨_,_,h⟩=>by rwa [iLe_t]⟩
  · rename_i h1 h2
    exact dP_F fun ⟨_,h,_⟩=>by omega
  · rename_i h1
    exact dP_F fun ⟨h,_⟩=>by omega
abbrev sg : List UInt8:=[63,95,43,45,42,47,60,62,61,33,46,37,38]
abbrev sT : List UInt8:=[116,114,117,101]
abbrev sF : List UInt8:=[102,97,108,115,101]
def leadP (s : List UInt8) (h : 0 < s.length) : Prop:=((s[0].toNat : Int) = 43 ∨ (s[0].toNat : Int) = 45 ∨ (s[0].toNat : Int) = 33)
def okP (s : List UInt8) (j : Nat) (h : j < s.length) : Prop :=
  (digP s[j] ∨ lowP s[j] ∨ s[j] ∈ sg) ∧ ¬ (digP s[j] ∧ (j = 0 ∨ (j = 1 ∧ leadP s (by omega))))
def NamedP (s : List UInt8) : Prop:=1 ≤ s.length ∧ s.length ≤ 64 ∧ s ≠ sT ∧ s ≠ sF ∧ ∀ (j : Nat) (h : j < s.length),okP s j h
end Go.Proofs

namespace Go.Proofs
open Go.AL
attribute [local irreducible] Go.AL.W Go.AL.WL Go.AL.WD Go.AL.POp Go.AL.PPOp Go.AL.POpS Go.AL.PC Go.AL.AC Go.AL.YW Go.AL.Ret Go.AL.Le Go.AL.thn Go.AL.inBlk Go.AL.scp
end Go.Proofs

namespace Go.Proofs
open Go.AL
attribute [local irreducible] Go.AL.W Go.AL.WL Go.AL.WD Go.AL.POp Go.AL.PPOp Go.AL.POpS Go.AL.PC Go.AL.AC Go.AL.YW Go.AL.Ret Go.AL.Le Go.AL.thn Go.AL.inBlk Go.AL.scp
theorem lead_iff (s : List UInt8) (h : 0 < s.length) : leadP s h ↔ s[0] ∈ ([43,45,33] : List UInt8):=by
  simp only [leadP,List.mem_cons,List.not_mem_nil,or_false,← UInt8.toNat_inj]
  show _ ↔ s[0].toNat = 43 ∨ s[0].toNat = 45 ∨ s[0].toNat = 33
  omega
theorem digAt_nat (s : List UInt8) (i : Nat) (h : i < s.length) : digAt s (i : Int) ↔ digP s[i]:=⟨fun ⟨_,h⟩=>h,fun h'=>⟨h,h'⟩⟩
theorem named_iff (s : List UInt8) (h1 : 0 < s.length) (h2 : s.length ≤ 64) (h3 : s ≠ sT) (h4 : s ≠ sF) (hz : ∀ (j : Nat) (h : j < s.length),digP s[j] ∨ lowP s[j] ∨ s[j] ∈ sg) :
    NamedP s ↔ ¬ digAt s 0 ∧ (¬ s[0] ∈ ([43,45,33] : List UInt8) ∨ ¬ digAt s 1):=by
  rw [← lead_iff s h1]
  constructor
  · intro h
    have hok:=h.2.2.2.2
    refine ⟨fun ⟨_,hd⟩=>(hok 0 h1).2 ⟨hd,.inl rfl⟩,?_⟩
    by_cases hl : leadP s h1
    · exact .inr fun ⟨h',hd⟩=>(hok 1 h').2 ⟨hd,.inr ⟨rfl,hl⟩⟩
    · exact .inl hl
  · rintro ⟨g0,g1⟩
    refine ⟨by omega,h2,h3,h4,fun j h=>⟨hz j h,?_⟩⟩
    rintro ⟨hd,rfl | ⟨rfl,hl⟩⟩
    · exact g0 ⟨h,hd⟩
    · rcases g1 with g1|g1
      · exact g1 hl
      · exact g1 ⟨h,hd⟩
set_option maxHeartbeats 4000000 in
theorem named_pc [GlobF Tryd.prog] (s : List UInt8) (hl : s.length < 4611686018427387904) : PC Tryd.prog 18 [str s] (.sc (.bool (dP (NamedP s)))):=by
  refine PC.of_body Tryd.func18 Tryd.ntmps18 rfl rfl rfl ?_
  repeat' first
 | (apply p1 (hd:=rfl);case hop=>first|(apply D_move;rfl)|(apply D_assign;rfl)|(apply D_load1;rfl)|(apply D_pickT;rfl;rfl)|(apply D_pickF;rfl;rfl)|(apply D_int;rfl;rfl;rfl)|(apply D_len_str;rfl)|(apply D_str;rfl;rfl;rfl)|(apply D_box;rfl;rfl)|exact D_mkfn rfl)
 | refine W_seq ?_
 | refine W_region ?_
 | (refine idC ?_;first|refine c1 rfl ?_|refine cs rfl (fun _=>?_) (fun _=>?_))
 | refine WL_nil ?_
 | (refine idG ?_;first|refine g0f rfl rfl rfl ?_|refine gr rfl rfl ?_|refine gs rfl rfl (fun _=>?_) (fun _=>?_))
 | refine tn ?_
 | refine tr ?_
 | refine W_skip ?_
 | refine W_block ?_
 | refine W_ret ?_
 | (refine idR ?_;refine ret1 rfl rfl rfl ?_)
 | (refine Le.bool ?_)
  · exact dP_F fun h=>by have:=h.1;omega
  · exact dP_F fun h=>by have:=h.2.1;omega
  · exact dP_F fun h=>by have:=h.2.2.1;simp_all
  · exact dP_F fun h=>by have:=h.2.2.2.1;simp_all
  rename_i h1 h2 h3 h4
  refine W_loopL (X:=Nat) (fun i=>[(1,.ep [str s]),(2,.sc (.bool false)),(3,.fn (.func 44) [] [.ep [str s]]),(23,.sc (.int .i64 (s.length : Int))),(24,.sc (.int .i64 (i : Int)))]) (fun _=>[])
    (fun i=>i ≤ s.length ∧ ∀ (j : Nat) (h : j < s.length),j < i → (digP s[j] ∨ lowP s[j] ∨ s[j] ∈ sg)) (fun i=>s.length - i) 0 ⟨by omega,fun j h h'=>by omega⟩ ⟨rfl,rfl,rfl,rfl,rfl,trivial⟩ rfl ?_
  rintro i ⟨hi,hz⟩
  repeat' first
 | (apply p1 (hd:=rfl);case hop=>first|(apply D_move;rfl)|(apply D_assign;rfl)|(apply D_pc (idx_pc sg _);rfl;exact .same rfl (.same rfl .nil))|(apply D_pc (idx_pc [43,45,33] _);rfl;exact .same rfl (.same rfl .nil))|(apply D_pcC (ys:=[.sc (.int .i64 (i : Int))]) (ys':=[.ep [str s]]) (dig_pc s (i : Int) (by omega));rfl;exact .same rfl .nil;exact ⟨Le.of_eq rfl,trivial⟩)|(apply D_pcC (ys:=[.sc (.int .i64 0)]) (ys':=[.ep [str s]]) (dig_pc s 0 (by omega));rfl;exact .same rfl .nil;exact ⟨Le.of_eq rfl,trivial⟩)|(apply D_pcC (ys:=[.sc (.int .i64 1)]) (ys':=[.ep [str s]]) (dig_pc s 1 (by omega));rfl;exact .same rfl .nil;exact ⟨Le.of_eq rfl,trivial⟩)|(apply D_load1;rfl)|(apply D_pickT;rfl;rfl)|(apply D_pickF;rfl;rfl)|(apply D_int;rfl;rfl;rfl)|(apply D_not;rfl)|(apply D_idxSn;rfl;rfl;(first|omega|(simp;done)))|(apply D_idxS;rfl;rfl;omega;(first|omega|(simp;done)|(simp;omega))))
 | refine W_seq ?_
 | refine W_region ?_
 | (refine idC ?_;first|refine c0 rfl ?_|refine cs rfl (fun _=>?_) (fun _=>?_))
 | refine WL_nil ?_
 | (refine idG ?_;first|refine g0t rfl rfl rfl ?_|refine g0f rfl rfl rfl ?_|refine g0u rfl rfl rfl ?_|refine gr rfl rfl ?_|refine gs rfl rfl (fun _=>?_) (fun _=>?_))
 | refine tn ?_
 | refine tr ?_
 | refine br ?_
 | refine bn ?_
 | refine te ?_
 | (refine idB ?_;refine bh rfl ?_)
 | refine W_skip ?_
 | refine W_block ?_
 | refine W_exit ?_
 | refine W_ret ?_
 | (refine idR ?_;refine ret1 rfl rfl rfl ?_)
 | (refine Le.bool ?_)
  all_goals first
    | (exfalso;omega)
    | (refine ⟨rfl,i + 1,⟨by omega,fun j h hj=>?_⟩,by omega,⟨rfl,rfl,rfl,rfl,ieq (wsucc i (by omega)),trivial⟩,rfl⟩
       by_cases e : j = i
       · subst e
         first
           | exact .inr (.inl ⟨by omega,by omega⟩)
           | exact .inl ((digAt_nat s _ h).1 (by assumption))
           | exact .inr (.inr ((idx_mem _ _).1 (by assumption)))
       · exact hz j h (by omega))
    | (have hlt : i < s.length:=by omega
       refine dP_F fun h=>?_
       have hk:=(h.2.2.2.2 i hlt).1
       rcases hk with hk|hk|hk
       · exact absurd ((digAt_nat s i hlt).2 hk) (by assumption)
       · simp only [lowP] at hk;omega
       · have:=(idx_mem _ _).2 hk;omega)
    | skip
  all_goals have hn:=named_iff s (by omega) (by omega) h3 h4 fun j h=>hz j h (by omega)
  all_goals have hm : s[0] ∈ ([43,45,33] : List UInt8) ↔ 0 ≤ Lib.indexByte [43,45,33] s[0]:=(idx_mem _ _).symm
  all_goals simp only [Int.toNat_zero] at *
  · rename_i g0 g1
    refine dP_T (hn.2 ⟨g0,.inl fun h=>?_⟩)
    have:=hm.1 h
    omega
  · rename_i g0 g1
    have hin : s[0] ∈ ([43,45,33] : List UInt8):=hm.2 g1
    by_cases g : digAt s 1
    · rw [(bNot_f _).mpr (dP_t.mpr g)]
      exact dP_F fun h=>(hn.1 h).2.elim (fun e=>e hin) fun e=>e g
    · rw [(bNot_t _).mpr (dP_f.mpr g)]
      exact dP_T (hn.2 ⟨g0,.inr g⟩)
  · rename_i g
    exact dP_F fun h=>(hn.1 h).1 g
end Go.Proofs

namespace Go.Proofs
open Go.AL
attribute [local irreducible] Go.AL.W Go.AL.WL Go.AL.WD Go.AL.POp Go.AL.PPOp Go.AL.POpS Go.AL.PC Go.AL.AC Go.AL.YW Go.AL.Ret Go.AL.Le Go.AL.thn Go.AL.inBlk Go.AL.scp
instance : Xt Tryd.prog 122 Extern.AbiNoEscape.same:=⟨run_callFunc_extern Tryd.func122 (by kernel_rfl) (by kernel_rfl) (by kernel_rfl) (by kernel_rfl)⟩
instance : Lies Tryd.prog 89 2 0 89:=⟨by kernel_rfl⟩
def ownP (r : Nat) (p : AV) : Prop:=p = .sc (.pointer none) ∨ p = .bp r 0
set_option maxHeartbeats 4000000 in
theorem ccheck_ac [GlobF Tryd.prog] {h : List AObj} {r n T : Nat} {p : AV} {xs : List AV} [hl : Lies Tryd.prog T n 0 89] (hr : h[r]? = some (.cells (p :: xs) (some T))) (hn : xs.length + 1 = n) (hp : ownP r p) :
    AC Tryd.prog 93 [.bp r 0] h (fun v h'=>v = .tu [] ∧ h' = h.set r (.cells (.bp r 0 :: xs) (some T))):=by
  rcases hp with rfl|rfl
  · refine AC.of_body Tryd.func93 Tryd.ntmps93 rfl rfl rfl ?_
    repeat' first
 | (refine p1L (D_loadB1 rfl hr rfl) rfl ?_)
 | (refine p1L (D_toU rfl hr rfl rfl) rfl ?_)
 | (refine p1L (D_fromU rfl hr hn) rfl ?_)
 | (refine pS (S_store rfl rfl rfl hr rfl rfl rfl) ?_)
 | (apply p1 (hd:=rfl);case hop=>first|(apply D_move;rfl)|exact D_peN rfl rfl|exact D_noesc rfl rfl|exact D_fldB rfl|(apply D_nilB;rfl))
 | refine W_seq ?_
 | refine W_region ?_
 | (refine idC ?_;refine c1 rfl ?_)
 | refine WL_nil ?_
 | (refine tn ?_)
    exact ret0 (.inr rfl) rfl rfl ⟨rfl,rfl⟩
  · refine AC.of_body Tryd.func93 Tryd.ntmps93 rfl rfl rfl ?_
    repeat' first
 | (refine p1L (D_loadB1 rfl hr rfl) rfl ?_)
 | (apply p1 (hd:=rfl);case hop=>first|(apply D_move;rfl)|exact D_peB rfl rfl|exact D_pnB rfl rfl|exact D_fldB rfl|(apply D_nilB;rfl))
 | refine W_seq ?_
 | refine W_region ?_
 | (refine idC ?_;refine c0 rfl ?_)
 | refine WL_nil ?_
 | refine tn ?_
 | (refine W_skip ?_)
    exact ret0 (.inr rfl) rfl rfl ⟨rfl,(set_self hr).symm⟩
abbrev bCells (p : AV) (tk : Nat) (l : List UInt8) (ys : List AV) : List AV:=p :: .sl (some tk) 1 (l.map byteC) :: ys
structure Bld (h : List AObj) (r tk T : Nat) (p : AV) (l : List UInt8) (ys : List AV) : Prop where
  box : h[r]? = some (.cells (bCells p tk l ys) (some T))
  tail : h[tk]? = some (.tail l.length 1 5)
  own : ownP r p
  lt : l.length < 1099511627776
theorem Bld.ne {h : List AObj} {r tk T : Nat} {p : AV} {l : List UInt8} {ys : List AV} (hb : Bld h r tk T p l ys) : r ≠ tk:=fun e=>by
  subst e
  have:=hb.box.symm.trans hb.tail
  cases this
def bldH (h : List AObj) (r tk T : Nat) (l : List UInt8) (ys : List AV) : List AObj:=(h.set tk (.tail l.length 1 5)).set r (.cells (bCells (.bp r 0) tk l ys) (some T))
theorem Bld.next {h : List AObj} {r tk T : Nat} {p : AV} {l : List UInt8} {ys : List AV} (hb : Bld h r tk T p l ys) (m : List UInt8) (zs : List AV) (hm : m.length < 1099511627776) : Bld (bldH h r tk T m zs) r tk T (.bp r 0) m zs :=
  ⟨List.getElem?_set_self (by rw [List.length_set];exact get_lt hb.box),by unfold bldH;rw [List.getElem?_set_ne hb.ne];exact List.getElem?_set_self (get_lt hb.tail),.inr rfl,hm⟩
set_option maxHeartbeats 4000000 in
theorem wbyte_ac [GlobF Tryd.prog] {h : List AObj} {r tk n T : Nat} {p : AV} {l : List UInt8} {ys : List AV} [hl : Lies Tryd.prog T n 0 89] (hn : ys.length + 2 = n) (hb : Bld h r tk T p l ys) (c : UInt8) :
    AC Tryd.prog 48 [.bp r 0,.sc (.int .u8 c.toNat)] h (fun v h'=>v = .sc .nilIface ∧ h' = bldH h r tk T (l ++ [c]) ys):=by
  have hlt:=hb.lt
  have hc:=ccheck_ac (n:=n) hb.box (by simpa using hn) hb.own
  have h1 : (h.set r (.cells (bCells (.bp r 0) tk l ys) (some T)))[r]? = some (.cells (bCells (.bp r 0) tk l ys) (some T)):=List.getElem?_set_self (get_lt hb.box)
  have h2 : (h.set r (.cells (bCells (.bp r 0) tk l ys) (some T)))[tk]? = some (.tail l.length 1 5):=get_ne hb.ne hb.tail
  have h3 : ((h.set r (.cells (bCells (.bp r 0) tk l ys) (some T))).set tk (.tail (l.length + 1) 1 5))[r]? = some (.cells (bCells (.bp r 0) tk l ys) (some T)):=get_ne hb.ne.symm h1
  refine AC.of_body Tryd.func48 Tryd.ntmps48 rfl rfl rfl ?_
  repeat' first
 | (refine m_call hc rfl rfl rfl ?_;rintro _ _ ⟨rfl,rfl⟩)
 | (refine p1L (D_loadB1 rfl h1 rfl) rfl ?_)
 | (refine idAp ?_;refine m_app rfl rfl h2 (by rw [List.length_map]) rfl rfl (by simp only [List.length_map,List.length_cons,List.length_nil];omega) (by simp only [List.length_map,List.length_cons,List.length_nil];omega) rfl ?_)
 | (refine pS (S_store rfl rfl rfl (by rw [List.length_map];exact h3) rfl rfl rfl) ?_)
 | (apply p1 (hd:=rfl);case hop=>first|(apply D_move;rfl)|(apply D_assign;rfl)|(apply D_lit;rfl;rfl;rfl;rfl)|exact D_fldB rfl|(apply D_nilB;rfl))
 | refine W_seq ?_
 | refine W_region ?_
 | refine WL_nil ?_
 | refine tn ?_
 | (refine W_ret ?_)
  refine retK1 (.inl rfl) rfl rfl (ResO.tmp rfl) ⟨rfl,?_⟩
  simp only [bldH]
  rw [List.set_comm _ _ hb.ne,List.set_set]
  simp [bCells]
set_option maxHeartbeats 4000000 in
theorem wstr_ac [GlobF Tryd.prog] {h : List AObj} {r tk n T : Nat} {p : AV} {l : List UInt8} {ys : List AV} [hl : Lies Tryd.prog T n 0 89] (hn : ys.length + 2 = n) (hb : Bld h r tk T p l ys) (s : List UInt8) (hs : s.length < 1099511627776) :
    AC Tryd.prog 91 [.bp r 0,str s] h (fun v h'=>v = .tu [.sc (.int .i64 (s.length : Int)),.sc .nilIface] ∧ h' = bldH h r tk T (l ++ s) ys):=by
  have hlt:=hb.lt
  have hc:=ccheck_ac (n:=n) hb.box (by simpa using hn) hb.own
  have h1 : (h.set r (.cells (bCells (.bp r 0) tk l ys) (some T)))[r]? = some (.cells (bCells (.bp r 0) tk l ys) (some T)):=List.getElem?_set_self (get_lt hb.box)
  have h2 : (h.set r (.cells (bCells (.bp r 0) tk l ys) (some T)))[tk]? = some (.tail l.length 1 5):=get_ne hb.ne hb.tail
  have h3 : ((h.set r (.cells (bCells (.bp r 0) tk l ys) (some T))).set tk (.tail (l.length + s.length) 1 5))[r]? = some (.cells (bCells (.bp r 0) tk l ys) (some T)):=get_ne hb.ne.symm h1
  refine AC.of_body Tryd.func91 Tryd.ntmps91 rfl rfl rfl ?_
  repeat' first
 | (refine m_call hc rfl rfl rfl ?_;rintro _ _ ⟨rfl,rfl⟩)
 | (refine p1L (D_loadB1 rfl h1 rfl) rfl ?_)
 | (refine idAp ?_;refine m_appS rfl rfl h2 (by rw [List.length_map]) (by rw [List.length_map];omega) rfl ?_)
 | (refine pS (S_store rfl rfl rfl (by rw [List.length_map];exact h3) rfl rfl rfl) ?_)
 | (apply p1 (hd:=rfl);case hop=>first|(apply D_move;rfl)|(apply D_assign;rfl)|(apply D_len_str;rfl)|exact D_fldB rfl|(apply D_nilB;rfl))
 | refine W_seq ?_
 | refine W_region ?_
 | refine WL_nil ?_
 | refine tn ?_
 | (refine W_ret ?_)
  refine retK (rs:=[_,_]) (.inl rfl) rfl trivial (.cons (ResO.tmp rfl) (.cons (ResO.tmp rfl) .nil)) ⟨rfl,?_⟩
  show _ = bldH h r tk T (l ++ s) ys
  simp only [bldH,kill]
  rw [List.set_comm _ _ hb.ne,List.set_set]
  simp [bCells]
theorem drew_freeze_heap (w : World) (g n b : Nat) (hb : b ≠ g) : (w.drew.freeze ⟨g,0,none⟩ n).heap[b]? = w.heap[b]?:=by
  unfold World.freeze
  split
  · rfl
  · show (w.heap.modify g _)[b]? = w.heap[b]?
    simp [Array.getElem?_modify,Ne.symm hb]
theorem drew_freeze_cell (w : World) (g n b o : Nat) : (w.drew.freeze ⟨g,0,none⟩ n).cell? ⟨b,o,none⟩ = w.cell? ⟨b,o,none⟩:=by
  by_cases hb : b = g
  · subst hb
    unfold World.freeze
    split
    · rfl
    · have e : ∀ f : Obj → Obj,(w.heap.modify b f)[b]? = (w.heap[b]?).map f:=fun f=>by rw [Array.getElem?_modify,if_pos rfl]
      simp only [World.cell?]
      rw [show w.drew.heap = w.heap from rfl,e]
      cases h : w.heap[b]? with
      | none=>rfl
      | some o=>cases o <;> rfl
  · unfold World.cell?
    rw [drew_freeze_heap w g n b hb]
theorem drew_freeze_size (w : World) (g n : Nat) : (w.drew.freeze ⟨g,0,none⟩ n).heap.size = w.heap.size:=by
  unfold World.freeze
  split
  · rfl
  · show (w.heap.modify g _).size = w.heap.size
    simp
theorem drew_freeze_drawn (w : World) (g n : Nat) : (w.drew.freeze ⟨g,0,none⟩ n).drawn = w.drawn + 1 ∧ (w.drew.freeze ⟨g,0,none⟩ n).tape = w.tape ∧ (w.drew.freeze ⟨g,0,none⟩ n).os = w.os ∧ (w.drew.freeze ⟨g,0,none⟩ n).output = w.output:=by
  unfold World.freeze
  split <;> exact ⟨rfl,rfl,rfl,rfl⟩
set_option maxHeartbeats 4000000 in
set_option maxRecDepth 100000 in
theorem bstr_calls (b g cap : Nat) (cs cur : Array Value) (T : TypeId) (l : List UInt8) (w : World) (h0 : l ≠ []) (hbk : w.heap[b]? = some (.cells cs T (0,0))) (hcs : cs[1]? = some (.slice (some ⟨g,0,none⟩) l.length cap)) (hg : w.heap[g]? = some (.cells cur 5 (0,0)))
    (hnc : l.length ≤ cap) (hcm : cap ≤ maxLen) (hsz : cur.size = cap) (hby : ∀ j x,l[j]? = some x → w.cell? ⟨g,j,none⟩ = some (.int .u8 x.toNat)) :
    Calls Tryd.prog 47 #[.pointer (some ⟨b,0,none⟩)] w fun e w'=>e = .returned (.string ⟨l.toArray⟩) ∧ w' = w.drew.freeze ⟨g,0,none⟩ l.length:=by
  have hl0 : l.length ≠ 0:=by simpa using h0
  have c1 : w.drew.cell? ⟨b,1,none⟩ = some (.slice (some ⟨g,0,none⟩) l.length cap):=by
    have : w.drew.heap[b]? = some (.cells cs T (0,0)):=hbk
    rw [Lib.cell_of_heap this];exact hcs
  have hSD : ∀ ts ty,(Builtin.unsafeSliceData_ ts ty #[.slice (some ⟨g,0,none⟩) l.length cap]).run Tryd.prog w.drew = .ok (.pointer (some ⟨g,0,none⟩)) w.drew:=fun ts ty =>
    Lib.run_unsafeSliceData_row _ _ _ _ _ _ (by omega)
  have hUS : ∀ pt it ty,Tryd.prog.underlying pt = some (.pointer 5) → (Builtin.unsafeString_ #[pt,it] ty #[.pointer (some ⟨g,0,none⟩),.int .i64 l.length]).run Tryd.prog w.drew = .ok (.string ⟨l.toArray⟩) (w.drew.freeze ⟨g,0,none⟩ l.length):=fun pt it ty hpt=>by
    refine Lib.run_unsafeString_row w.drew pt it ty 5 hpt (by kernel_rfl) g cur.size (by have hg' : w.drew.heap[g]? = some (.cells cur 5 (0,0)):=hg;simp [World.shape?,hg']) l h0 (by omega) (by unfold maxLen at hcm;omega) ?_
    intro j x hx
    rw [Addr.add_lit,Nat.zero_add]
    exact hby j x hx
  have hUS':=hUS 137 3 9 Tryd.underlying137
  have hSD':=hSD #[87] 137
  have mixed : Tryd.prog.follows Departure.mixedOrders = true:=by decide
  go_enter Tryd.func47,Tryd.ntmps47
  go_wp2
  go_region_o
  all_goals (go_wp2;go_ret;exact ⟨rfl,rfl⟩)
set_option maxHeartbeats 4000000 in
set_option maxRecDepth 100000 in
theorem bstr0_calls (b : Nat) (cs : Array Value) (T : TypeId) (w : World) (hbk : w.heap[b]? = some (.cells cs T (0,0))) (hcs : cs[1]? = some (.slice none 0 0)) :
    Calls Tryd.prog 47 #[.pointer (some ⟨b,0,none⟩)] w fun e w'=>e = .returned (.string ⟨#[]⟩) ∧ w' = w.drew:=by
  have c1 : w.drew.cell? ⟨b,1,none⟩ = some (.slice none 0 0):=by
    have : w.drew.heap[b]? = some (.cells cs T (0,0)):=hbk
    rw [Lib.cell_of_heap this];exact hcs
  have hSD : (Builtin.unsafeSliceData_ #[87] 137 #[.slice none 0 0]).run Tryd.prog w.drew = .ok (.pointer none) w.drew:=Lib.run_unsafeSliceData_nil _ _ _ _ _
  have hUS : (Builtin.unsafeString_ #[137,3] 9 #[.pointer none,.int .i64 0]).run Tryd.prog w.drew = .ok (.string .empty) w.drew:=Lib.run_unsafeString_none _ _ _ _ _
  have mixed : Tryd.prog.follows Departure.mixedOrders = true:=by decide
  go_enter Tryd.func47,Tryd.ntmps47
  go_wp2
  go_region_o
  all_goals (go_wp2;go_ret;exact ⟨rfl,rfl⟩)
set_option maxHeartbeats 4000000 in
set_option maxRecDepth 100000 in
theorem bstr1_calls (b g cap : Nat) (cs : Array Value) (T : TypeId) (w : World) (hbk : w.heap[b]? = some (.cells cs T (0,0))) (hcs : cs[1]? = some (.slice (some ⟨g,0,none⟩) 0 cap)) (hc0 : cap ≠ 0) :
    Calls Tryd.prog 47 #[.pointer (some ⟨b,0,none⟩)] w fun e w'=>e = .returned (.string ⟨#[]⟩) ∧ w' = w.drew:=by
  have c1 : w.drew.cell? ⟨b,1,none⟩ = some (.slice (some ⟨g,0,none⟩) 0 cap):=by
    have : w.drew.heap[b]? = some (.cells cs T (0,0)):=hbk
    rw [Lib.cell_of_heap this];exact hcs
  have hSD : (Builtin.unsafeSliceData_ #[87] 137 #[.slice (some ⟨g,0,none⟩) 0 cap]).run Tryd.prog w.drew = .ok (.pointer (some ⟨g,0,none⟩)) w.drew:=Lib.run_unsafeSliceData_row _ _ _ _ _ _ hc0
  have hUS : (Builtin.unsafeString_ #[137,3] 9 #[.pointer (some ⟨g,0,none⟩),.int .i64 0]).run Tryd.prog w.drew = .ok (.string .empty) w.drew:=Lib.run_unsafeString_none _ _ _ _ _
  clear hc0
  have mixed : Tryd.prog.follows Departure.mixedOrders = true:=by decide
  go_enter Tryd.func47,Tryd.ntmps47
  go_wp2
  go_region_o
  all_goals (go_wp2;go_ret;exact ⟨rfl,rfl⟩)
set_option maxHeartbeats 4000000 in
set_option maxRecDepth 100000 in
theorem bstr2_calls (b g : Nat) (cs cur : Array Value) (T : TypeId) (w : World) (hbk : w.heap[b]? = some (.cells cs T (0,0))) (hcs : cs[1]? = some (.slice (some ⟨g,0,none⟩) 0 0)) (hg : w.heap[g]? = some (.cells cur 5 (0,0))) :
    Calls Tryd.prog 47 #[.pointer (some ⟨b,0,none⟩)] w fun e w'=>e = .returned (.string ⟨#[]⟩) ∧ Grown w w':=by
  have hlt : b < w.heap.size:=(Array.getElem?_eq_some_iff.1 hbk).1
  have c1 : w.drew.cell? ⟨b,1,none⟩ = some (.slice (some ⟨g,0,none⟩) 0 0):=by
    have : w.drew.heap[b]? = some (.cells cs T (0,0)):=hbk
    rw [Lib.cell_of_heap this];exact hcs
  have hSD : (Builtin.unsafeSliceData_ #[87] 137 #[.slice (some ⟨g,0,none⟩) 0 0]).run Tryd.prog w.drew = .ok (.pointer (some ⟨w.drew.heap.size,0,none⟩)) (w.drew.alloc (.view ⟨g,0,none⟩ 5)) :=
    Lib.run_unsafeSliceData_zero w.drew _ _ 5 Tryd.underlying137 ⟨g,0,none⟩ 0 (5,cur.size) (by have hg' : w.drew.heap[g]? = some (.cells cur 5 (0,0)):=hg;simp [World.shape?,hg'])
  have c2 : (w.drew.alloc (.view ⟨g,0,none⟩ 5)).cell? ⟨b,1,none⟩ = some (.slice (some ⟨g,0,none⟩) 0 0):=by
    have : (w.drew.alloc (.view ⟨g,0,none⟩ 5)).heap[b]? = _:=(Lib.alloc_old w.drew _ b hlt).trans hbk
    rw [Lib.cell_of_heap this];exact hcs
  have c3 : (w.alloc (.view ⟨g,0,none⟩ 5)).drew.cell? ⟨b,1,none⟩ = some (.slice (some ⟨g,0,none⟩) 0 0):=c2
  have c0 : w.cell? ⟨b,1,none⟩ = some (.slice (some ⟨g,0,none⟩) 0 0):=c1
  have hUS : (Builtin.unsafeString_ #[137,3] 9 #[.pointer (some ⟨w.heap.size,0,none⟩),.int .i64 0]).run Tryd.prog (w.alloc (.view ⟨g,0,none⟩ 5)).drew = .ok (.string .empty) (w.alloc (.view ⟨g,0,none⟩ 5)).drew:=Lib.run_unsafeString_none _ _ _ _ _
  have mixed : Tryd.prog.follows Departure.mixedOrders = true:=by decide
  have hG' : Grown w (w.alloc (.view ⟨g,0,none⟩ 5)).drew:=⟨rfl,rfl,rfl,Nat.le_succ _,by show w.heap.size ≤ (w.heap.push _).size;simp,fun k hk=>Lib.alloc_old w.drew _ k hk⟩
  have hG : Grown w (w.drew.alloc (.view ⟨g,0,none⟩ 5)):=⟨rfl,rfl,rfl,Nat.le_succ _,by show w.heap.size ≤ (w.heap.push _).size;simp,fun k hk=>Lib.alloc_old w.drew _ k hk⟩
  go_enter Tryd.func47,Tryd.ntmps47
  go_wp2
  go_region_o
  all_goals (go_wp2;go_ret;first|exact ⟨rfl,hG⟩|exact ⟨rfl,hG'⟩)
end Go.Proofs

namespace Go.Proofs
open Go.AL
theorem bstr_ac [GlobF Tryd.prog] {h : List AObj} {r tk T : Nat} {p : AV} {l : List UInt8} {ys : List AV} (hb : Bld h r tk T p l ys) :
    AC Tryd.prog 47 [.bp r 0] h (fun v h'=>v = str l ∧ h' = h.set tk .dead) :=
  ⟨enters_of Tryd.func47 (by kernel_rfl) rfl,fun B G w vs hr hc=>by
    obtain ⟨v,vs',rfl,hv,hnil⟩:=hc.inv_cons
    rw [hnil.inv_nil]
    obtain ⟨b,c,t,rfl,hbk,hBb,hcs,hheap,_⟩:=box_inv2 hr hb.box hv
    have hlt1 : 1 < c.length:=by rw [hcs.1];simp [bCells]
    have hc1 : Conc G c[1] (.sl (some tk) 1 (l.map byteC)):=hcs.2 1 _ _ (List.getElem?_eq_getElem hlt1) rfl
    obtain ⟨o0,o1⟩:=hr.obj tk _ hb.tail
    have hct : c.toArray[1]? = some c[1]:=by simp [hlt1]
    have hres : Conc G (.string ⟨l.toArray⟩) (str l):=.sc _
    by_cases hl : l = []
    · subst hl
      have key : Calls Tryd.prog 47 #[.pointer (some ⟨b,0,none⟩)] w fun e w'=>e = .returned (.string ⟨#[]⟩) ∧ Grown w w':=by
        have hdr : ∀ e w',(e = Ending.returned (.string ⟨#[]⟩) ∧ w' = w.drew) → (e = .returned (.string ⟨#[]⟩) ∧ Grown w w'):=fun e w' h=>⟨h.1,by rw [h.2];exact ⟨rfl,rfl,rfl,Nat.le_succ _,Nat.le_refl _,fun _ _=>rfl⟩⟩
        generalize c[1] = u at hc1 hct
        cases hc1 with
        | @sl b' o cap' _ _ _ us hk hcap him hc ht =>
          have h1:=ht tk rfl
          simp only [List.map_nil,List.length_nil] at h1 hct
          rcases o1 with ⟨_,h0⟩ | ⟨g,cap,cur,q1,q2,q3,q4,_⟩
          · rw [h0] at h1;cases h1
          · simp only [List.length_nil] at q1
            rw [q1] at h1
            simp only [Option.some.injEq,Value.slice.injEq,true_and,Addr.mk.injEq,and_true] at h1
            obtain ⟨⟨rfl,rfl⟩,rfl⟩:=h1
            by_cases h0 : cap = 0
            · subst h0;exact bstr2_calls b g _ cur _ w hheap hct q3
            · exact (bstr1_calls b g cap _ _ w hheap hct h0).mono hdr
        | slnil ht=>exact (bstr0_calls b _ _ w hheap hct).mono hdr
      refine key.mono ?_
      rintro e w' ⟨rfl,hgr⟩
      obtain ⟨imm',i1,i2⟩:=grown_imm hgr hr.imm
      obtain ⟨hle,hr'⟩:=hr.grown hgr i1 i2
      exact ⟨_,_,_,_,rfl,hle,hr'.dead tk,hres.mono hle,rfl,rfl⟩
    · have hl0 : l.length ≠ 0:=by simpa using hl
      rcases o1 with ⟨h0,_⟩ | ⟨g,cap,cur,q1,q2,q3,q4,q5,q6,q7⟩
      · exact absurd h0 hl0
      have e : c[1] = .slice (some ⟨g,0,none⟩) l.length cap ∧ ∀ j x,l[j]? = some x → G.imm g j = some (.int .u8 x.toNat):=by
        generalize c[1] = u at hc1
        generalize he : l.map byteC = els at hc1
        have hel : els.length = l.length:=by rw [← he,List.length_map]
        cases hc1 with
        | @sl b o cap' _ _ _ us hk hcap him hc ht =>
          have h1:=ht tk rfl
          rw [hel,q1] at h1
          simp only [Option.some.injEq,Value.slice.injEq,true_and,Addr.mk.injEq,and_true] at h1
          obtain ⟨⟨rfl,rfl⟩,rfl⟩:=h1
          refine ⟨by rw [hel],fun j x hx=>?_⟩
          have hj : j < l.length:=(List.getElem?_eq_some_iff.1 hx).1
          have hi:=him j 0 (by omega) (by omega)
          have hcc:=hc j (byteC x) 0 _ (by rw [← he,List.getElem?_map,hx];rfl) rfl
          rw [conc_sc hcc] at hi
          simpa using hi
        | slnil ht=>simp at hel;omega
      rw [e.1] at hct
      refine (bstr_calls b g cap _ cur _ l w hl hheap hct q3 q4 q5 (by omega) fun j x hx=>hr.imm _ _ _ (e.2 j x hx)).mono ?_
      rintro e' w' ⟨rfl,rfl⟩
      obtain ⟨d1,d2,d3,d4⟩:=drew_freeze_drawn w g l.length
      refine ⟨_,G,_,_,rfl,.refl G,?_,hres,rfl,rfl⟩
      refine hr.set (w':=w.drew.freeze ⟨g,0,none⟩ l.length) (b:=g) hb.tail (by simp only [ownBlk,q1,slBlock]) q2 d2 d3 d4 (by omega) (drew_freeze_size w g l.length) (fun b' hb'=>drew_freeze_heap w g l.length b' hb') (fun i v hv=>?_) trivial (fun c hc=>by cases hc)
      rw [drew_freeze_cell];exact hr.imm _ _ _ hv⟩
end Go.Proofs

namespace Go.Proofs
open Go.AL
open Go.Shelf Go.RowKit
def Tryd.lays173_ren : Go.Shelf.Ren:=⟨fun|173=>134|246=>147|283=>159|284=>160|285=>161|286=>162|129=>169|317=>168|318=>170|319=>171|320=>172|337=>174|338=>175|n=>n,fun|2=>2|3=>3|9=>9|4=>4|171=>189|0=>0|53=>183|37=>87|5=>5|173=>192|212=>200|51=>166|20=>20|213=>201|46=>147|232=>207|233=>208|n=>n,fun|17=>4|18=>5|19=>6|n=>n⟩
theorem Tryd.lays173 : Go.Proofs.LaysM.n173 Tryd.prog Tryd.lays173_ren:={
  mixed:=by kernel_rfl
  f129:=Tryd.func169.trans (congrArg some (by kernel_rfl))
  f173:=Tryd.func134.trans (congrArg some (by kernel_rfl))
  f246:=Tryd.func147.trans (congrArg some (by kernel_rfl))
  f283:=Tryd.func159.trans (congrArg some (by kernel_rfl))
  f284:=Tryd.func160.trans (congrArg some (by kernel_rfl))
  f285:=Tryd.func161.trans (congrArg some (by kernel_rfl))
  f286:=Tryd.func162.trans (congrArg some (by kernel_rfl))
  f317:=Tryd.func168.trans (congrArg some (by kernel_rfl))
  f318:=Tryd.func170.trans (congrArg some (by kernel_rfl))
  f319:=Tryd.func171.trans (congrArg some (by kernel_rfl))
  f320:=Tryd.func172.trans (congrArg some (by kernel_rfl))
  f337:=Tryd.func174.trans (congrArg some (by kernel_rfl))
  f338:=Tryd.func175.trans (congrArg some (by kernel_rfl))
  t0:=Tryd.underlying0
  a0:=Tryd.isAgg0
  z0:=Tryd.sizeOf0
  v0:=Tryd.zeroValue0
  t2:=Tryd.underlying2
  a2:=Tryd.isAgg2
  z2:=Tryd.sizeOf2
  v2:=Tryd.zeroValue2
  t3:=Tryd.underlying3
  a3:=Tryd.isAgg3
  z3:=Tryd.sizeOf3
  v3:=Tryd.zeroValue3
  t4:=Tryd.underlying4
  a4:=Tryd.isAgg4
  z4:=Tryd.sizeOf4
  v4:=Tryd.zeroValue4
  t5:=Tryd.underlying5
  a5:=Tryd.isAgg5
  z5:=Tryd.sizeOf5
  v5:=Tryd.zeroValue5
  t9:=Tryd.underlying9
  a9:=Tryd.isAgg9
  z9:=Tryd.sizeOf9
  v9:=Tryd.zeroValue9
  t20:=Tryd.underlying20
  a20:=Tryd.isAgg20
  z20:=Tryd.sizeOf20
  v20:=Tryd.zeroValue20
  t37:=Tryd.underlying87
  a37:=Tryd.isAgg87
  z37:=Tryd.sizeOf87
  v37:=Tryd.zeroValue87
  t46:=Tryd.underlying147
  a46:=Tryd.isAgg147
  z46:=Tryd.sizeOf147
  v46:=Tryd.zeroValue147
  t51:=Tryd.underlying166
  a51:=Tryd.isAgg166
  z51:=Tryd.sizeOf166
  v51:=Tryd.zeroValue166
  t53:=Tryd.underlying183
  a53:=Tryd.isAgg183
  z53:=Tryd.sizeOf183
  v53:=Tryd.zeroValue183
  t171:=Tryd.underlying189
  a171:=Tryd.isAgg189
  z171:=Tryd.sizeOf189
  v171:=Tryd.zeroValue189
  t173:=Tryd.underlying192
  a173:=Tryd.isAgg192
  z173:=Tryd.sizeOf192
  v173:=Tryd.zeroValue192
  t212:=Tryd.underlying200
  a212:=Tryd.isAgg200
  z212:=Tryd.sizeOf200
  v212:=Tryd.zeroValue200
  t213:=Tryd.underlying201
  a213:=Tryd.isAgg201
  z213:=Tryd.sizeOf201
  t232:=Tryd.underlying207
  a232:=Tryd.isAgg207
  z232:=Tryd.sizeOf207
  v232:=Tryd.zeroValue207
  t233:=Tryd.underlying208
  a233:=Tryd.isAgg208
  z233:=Tryd.sizeOf208
  v233:=Tryd.zeroValue208
  g17:=by kernel_rfl
  g18:=by kernel_rfl
  g19:=by kernel_rfl
  i0:=by kernel_rfl
  i2:=by kernel_rfl
  i3:=by kernel_rfl
  i4:=by kernel_rfl
  i5:=by kernel_rfl
  i9:=by kernel_rfl
  i20:=by kernel_rfl
  i37:=by kernel_rfl
  i46:=by kernel_rfl
  i51:=by kernel_rfl
  i53:=by kernel_rfl
  i171:=by kernel_rfl
  i173:=by kernel_rfl
  i212:=by kernel_rfl
  i232:=by kernel_rfl
  i233:=by kernel_rfl
  m17:=by kernel_rfl
  m18:=by kernel_rfl
  m19:=by kernel_rfl }
def Tryd.lays247_ren : Go.Shelf.Ren:=⟨fun|247=>145|287=>154|321=>163|322=>164|n=>n,fun|9=>9|3=>3|2=>2|75=>95|4=>4|167=>182|5=>5|53=>183|175=>184|46=>147|37=>87|0=>0|21=>21|80=>93|n=>n,fun|n=>n⟩
theorem Tryd.lays247 : Go.Proofs.LaysC.n247 Tryd.prog Tryd.lays247_ren:={
  mixed:=by kernel_rfl
  f247:=Tryd.func145.trans (congrArg some (by kernel_rfl))
  f287:=Tryd.func154.trans (congrArg some (by kernel_rfl))
  f321:=Tryd.func163.trans (congrArg some (by kernel_rfl))
  f322:=Tryd.func164.trans (congrArg some (by kernel_rfl))
  t0:=Tryd.underlying0
  a0:=Tryd.isAgg0
  z0:=Tryd.sizeOf0
  v0:=Tryd.zeroValue0
  t2:=Tryd.underlying2
  a2:=Tryd.isAgg2
  z2:=Tryd.sizeOf2
  v2:=Tryd.zeroValue2
  t3:=Tryd.underlying3
  a3:=Tryd.isAgg3
  z3:=Tryd.sizeOf3
  v3:=Tryd.zeroValue3
  t4:=Tryd.underlying4
  a4:=Tryd.isAgg4
  z4:=Tryd.sizeOf4
  v4:=Tryd.zeroValue4
  t5:=Tryd.underlying5
  a5:=Tryd.isAgg5
  z5:=Tryd.sizeOf5
  v5:=Tryd.zeroValue5
  t9:=Tryd.underlying9
  a9:=Tryd.isAgg9
  z9:=Tryd.sizeOf9
  v9:=Tryd.zeroValue9
  t21:=Tryd.underlying21
  a21:=Tryd.isAgg21
  z21:=Tryd.sizeOf21
  v21:=Tryd.zeroValue21
  t37:=Tryd.underlying87
  a37:=Tryd.isAgg87
  z37:=Tryd.sizeOf87
  v37:=Tryd.zeroValue87
  t46:=Tryd.underlying147
  a46:=Tryd.isAgg147
  z46:=Tryd.sizeOf147
  v46:=Tryd.zeroValue147
  t53:=Tryd.underlying183
  a53:=Tryd.isAgg183
  z53:=Tryd.sizeOf183
  v53:=Tryd.zeroValue183
  t75:=Tryd.underlying95
  a75:=Tryd.isAgg95
  z75:=Tryd.sizeOf95
  v75:=Tryd.zeroValue95
  t167:=Tryd.underlying182
  a167:=Tryd.isAgg182
  z167:=Tryd.sizeOf182
  v167:=Tryd.zeroValue182
  t175:=Tryd.underlying184
  a175:=Tryd.isAgg184
  z175:=Tryd.sizeOf184
  v175:=Tryd.zeroValue184
  t80:=Tryd.underlying93
  a80:=Tryd.isAgg93
  z80:=Tryd.sizeOf93
  v80:=Tryd.zeroValue93
  i0:=by kernel_rfl
  i2:=by kernel_rfl
  i3:=by kernel_rfl
  i4:=by kernel_rfl
  i5:=by kernel_rfl
  i9:=by kernel_rfl
  i21:=by kernel_rfl
  i37:=by kernel_rfl
  i46:=by kernel_rfl
  i53:=by kernel_rfl
  i75:=by kernel_rfl
  i80:=by kernel_rfl
  i167:=by kernel_rfl
  i175:=by kernel_rfl
  c0:=by kernel_rfl
  c2:=by kernel_rfl
  c3:=by kernel_rfl
  c4:=by kernel_rfl
  c5:=by kernel_rfl
  c9:=by kernel_rfl
  c21:=by kernel_rfl
  c37:=by kernel_rfl
  c46:=by kernel_rfl
  c53:=by kernel_rfl
  c75:=by kernel_rfl
  c80:=by kernel_rfl
  c167:=by kernel_rfl
  c175:=by kernel_rfl }
def PowOK [GlobF Tryd.prog] : Prop:=∃ t fz,GlobF.o Tryd.prog 4 = some (.cells (Lib.pow10Tab.map (Value.int .u64)).toArray t fz)
def ErrsOK [GlobF Tryd.prog] : Prop:=∃ t1 u1 t2 u2,GlobF.f Tryd.prog 2 0 = some (.iface t1 u1) ∧ GlobF.f Tryd.prog 3 0 = some (.iface t2 u2)
theorem grown_grow (w : World) (k : Nat) (os : Array Obj) : AL.Grown w (Go.Sort.grow (w.drewN k) os) :=
  ⟨rfl,rfl,rfl,Nat.le_add_right _ _,by show w.heap.size ≤ (w.heap ++ os).size;simp,fun b hb=>by show (w.heap ++ os)[b]? = _;exact Array.getElem?_append_left hb⟩
theorem fmt_pc [GlobF Tryd.prog] (hp : PowOK) (n : Int) (h0 : -9223372036854775808 ≤ n) (h1 : n ≤ 9223372036854775807) : PC Tryd.prog 134 [.sc (.int .i64 n),.sc (.int .i64 10)] (str (Lib.itoa n)):=by
  obtain ⟨t,fz,hg⟩:=hp
  refine PC.of_grown (us:=[.int .i64 n,.int .i64 10]) (enters_of Tryd.func134 (by kernel_rfl) rfl) fun w _ hgo=>?_
  have htab : Lib.TabIs Tryd.prog w "internal/strconv.uint64pow10" .u64 Lib.pow10Tab := by
    unfold Lib.TabIs World.var?
    rw [show Tryd.prog.globalNamed "internal/strconv.uint64pow10" = some 4 by kernel_rfl]
    simp only [Option.bind_some]
    rw [hgo _ _ hg]
  exact (Any.strconv_FormatInt_10 Tryd.lays173 n h0 h1 w htab).mono fun e w' ⟨h1,k,os,h2⟩=>⟨h1,h2 ▸ grown_grow w k os⟩
theorem grown_bytes {w w' : World} {T : TypeId} {s : ByteArray} (h : w' = w ∨ ∃ t,w' = Lib.bytesWorld w T t) : AL.Grown w w':=by
  rcases h with rfl | ⟨t,rfl⟩
  · exact ⟨rfl,rfl,rfl,Nat.le_refl _,Nat.le_refl _,fun _ _=>rfl⟩
  · have hf : ∀ (w0 : World) (a : Addr) (n : Nat),(w0.freeze a n).tape = w0.tape ∧ (w0.freeze a n).os = w0.os ∧ (w0.freeze a n).output = w0.output ∧ (w0.freeze a n).drawn = w0.drawn ∧ (w0.freeze a n).heap.size = w0.heap.size ∧ ∀ b,b ≠ a.block → (w0.freeze a n).heap[b]? = w0.heap[b]?:=fun w0 a n=>by
      unfold World.freeze
      split
      · exact ⟨rfl,rfl,rfl,rfl,rfl,fun _ _=>rfl⟩
      · refine ⟨rfl,rfl,rfl,rfl,by show (w0.heap.modify _ _).size = _;simp,fun b hb=>?_⟩
        show (w0.heap.modify a.block _)[b]? = _
        simp [Array.getElem?_modify,Ne.symm hb]
    unfold Lib.bytesWorld
    obtain ⟨h1,h2,h3,h4,h5,h6⟩:=hf (w.drew.alloc (.cells (Lib.bytesCells w T t) T)) ⟨w.heap.size,(Lib.bytesCells w T t).size,none⟩ 1
    refine ⟨h1,h2,h3,by rw [h4];exact Nat.le_succ _,by rw [h5];show w.heap.size ≤ (w.heap.push _).size;simp,fun b hb=>?_⟩
    rw [h6 b (by show b ≠ w.heap.size;omega)]
    exact Lib.alloc_old w.drew _ b hb
theorem iparse_ac [GlobF Tryd.prog] (s : List UInt8) (hs : s.length < 281474976710656) (h : List AObj) : AC Tryd.prog 145 [str s,.sc (.int .i64 10),.sc (.int .i64 64)] h (fun v h'=>h' = h ∧ ∃ a b,Value.tuple #[a,b] = Lib.intTuple 182 (Lib.intSat 64 s) (Lib.parseIntB 64 s) ∧ v = .tu [.sc a,.sc b]):=by
  refine AC.of_grown2 (us:=[.string ⟨s.toArray⟩,.int .i64 10,.int .i64 64]) (enters_of Tryd.func145 (by kernel_rfl) rfl) fun w _ _=>?_
  refine (Any.internal_strconv_ParseInt_10_all64 Tryd.lays247 ⟨s.toArray⟩ (by show s.toArray.size ≤ _;simp;omega) w).mono ?_
  rintro e w' ⟨rfl,hw⟩
  rcases hpi : Lib.parseIntB 64 s with n|_|_
  · exact ⟨.int .i64 n,.nilIface,rfl,by simp [Lib.intTuple],grown_bytes (s:=⟨s.toArray⟩) hw⟩
  · exact ⟨.int .i64 0,.iface 182 (.int .i64 2),rfl,by simp [Lib.intTuple];rfl,grown_bytes (s:=⟨s.toArray⟩) hw⟩
  · exact ⟨.int .i64 (Lib.intSat 64 s),.iface 182 (.int .i64 1),rfl,by simp [Lib.intTuple];rfl,grown_bytes (s:=⟨s.toArray⟩) hw⟩
end Go.Proofs

namespace Go.Proofs
open Go.AL
open Go.Shelf Go.RowKit
set_option maxHeartbeats 4000000 in
set_option maxRecDepth 100000 in
theorem clone_calls (s : ByteArray) (w : World) (hlim : s.size ≤ 281474976710656) :
    Calls Tryd.prog 165 #[.string s] w fun e w'=>e = .returned (.string s) ∧ AL.Grown w w':=by
  by_cases h0 : s.size = 0
  · have hs : s = ⟨#[]⟩:=by
      apply ByteArray.ext
      exact Array.eq_empty_of_size_eq_zero h0
    subst hs
    go_enter Tryd.func165,Tryd.ntmps165
    go_wp2
    go_ret
    exact ⟨rfl,rfl,rfl,rfl,Nat.le_refl _,Nat.le_refl _,fun _ _=>rfl⟩
  · obtain ⟨i0,hi,hz1,hz2,hz0⟩:=(inferInstance : Inf Tryd.prog 5 1 1 (.int .u8 0)).h
    have hinfo : (Tryd.prog.info? 5).map (·.size) = some 1:=by rw [hi];simp [hz1]
    have hco : Tryd.prog.cellsOf 5 = 1:=by simp [Program.cellsOf,hi,hz1]
    obtain ⟨M,hM⟩ : ∃ M,M = madeCells (Value.int .u8 0).cells (((s.size : Nat) : Int).toNat * i0.size):=⟨_,rfl⟩
    have hMs : M.size = s.size:=by rw [hM,size_madeCells,hz1];simp
    have hmk : ∀ W : World,(Instr.makeSlice 87 (.int .i64 (s.size : Int)) (.int .i64 (s.size : Int))).run Tryd.prog W = .ok (.slice (some ⟨W.heap.size,0,none⟩) s.size s.size) (W.alloc (.cells M 5)):=fun W=>by
      have h:=run_make (P:=Tryd.prog) W 87 5 i0 (.int .u8 0) Tryd.underlying87 hi hz0 .i64 .i64 (s.size : Int) (s.size : Int) (by omega) (by omega) (by rw [hz2];omega) (by omega)
      rw [← hM] at h
      simpa using h
    clear hM
    have hcp:=Lib.run_copy_row_string (P:=Tryd.prog) (w.alloc (.cells M 5)) 87 9 3 5 w.heap.size 0 s.size s.size s M 5 Tryd.underlying87 hinfo (heap_alloc_new w _) (Nat.le_refl _) (by omega)
    obtain ⟨Y,hY⟩ : ∃ Y,Y = (M.toList.take 0 ++ Lib.byteCells s.data.toList ++ M.toList.drop (0 + s.size)).toArray:=⟨_,rfl⟩
    rw [← hY] at hcp
    have hYl : Y.toList = Lib.byteCells s.data.toList:=by
      rw [hY,List.toList_toArray,List.take_zero,List.nil_append,List.drop_of_length_le (by rw [Array.length_toList];omega),List.append_nil]
    have hYs : Y.size = s.size:=by rw [← Array.length_toList,hYl,Lib.byteCells_length,← Lib.size_eq]
    have hgY : ((w.alloc (.cells M 5)).setRow w.heap.size Y).heap[w.heap.size]? = some (.cells Y 5 (0,0)):=setRow_heap _ _ M _ 5 (0,0) (heap_alloc_new w _)
    have hne : s.data.toList ≠ []:=fun e=>h0 (by rw [Lib.size_eq,e];rfl)
    have hUS:=Lib.run_unsafeString_row (P:=Tryd.prog) ((w.alloc (.cells M 5)).setRow w.heap.size Y) 137 3 9 5 Tryd.underlying137 hco w.heap.size Y.size (by unfold World.shape?;rw [hgY]) s.data.toList hne (by rw [← Lib.size_eq];omega) (by rw [← Lib.size_eq];omega)
      (fun j x hx=>Lib.cells_of_row hgY Y.size j _ (by rw [List.take_of_length_le (by rw [Array.length_toList];exact Nat.le_refl _),hYl];simp [Lib.byteCells,hx]))
    rw [← Lib.size_eq] at hUS
    clear hY
    have hfr : ∀ (w0 : World) (n : Nat),(w0.freeze ⟨w.heap.size,0,none⟩ n).tape = w0.tape ∧ (w0.freeze ⟨w.heap.size,0,none⟩ n).os = w0.os ∧ (w0.freeze ⟨w.heap.size,0,none⟩ n).output = w0.output ∧ (w0.freeze ⟨w.heap.size,0,none⟩ n).drawn = w0.drawn ∧ (w0.freeze ⟨w.heap.size,0,none⟩ n).heap.size = w0.heap.size ∧ ∀ b,b ≠ w.heap.size → (w0.freeze ⟨w.heap.size,0,none⟩ n).heap[b]? = w0.heap[b]?:=fun w0 n=>by
      unfold World.freeze
      split
      · exact ⟨rfl,rfl,rfl,rfl,rfl,fun _ _=>rfl⟩
      · refine ⟨rfl,rfl,rfl,rfl,by show (w0.heap.modify _ _).size = _;simp,fun b hb=>?_⟩
        show (w0.heap.modify w.heap.size _)[b]? = _
        simp [Array.getElem?_modify,Ne.symm hb]
    go_enter Tryd.func165,Tryd.ntmps165
    go_wp2
    go_ret
    obtain ⟨f1,f2,f3,f4,f5,f6⟩:=hfr ((w.alloc (.cells M 5)).setRow w.heap.size Y) s.size
    refine ⟨rfl,f1,f2,f3,by rw [f4];exact Nat.le_refl _,by rw [f5];simp,fun b hb=>?_⟩
    rw [f6 b (by omega),setRow_other _ _ _ _ (by omega)]
    exact Lib.alloc_old w _ b hb
theorem clone_pc [GlobF Tryd.prog] (s : List UInt8) (hs : s.length < 281474976710656) : PC Tryd.prog 165 [str s] (str s) :=
  PC.of_grown (us:=[.string ⟨s.toArray⟩]) (enters_of Tryd.func165 (by kernel_rfl) rfl) fun w _ _=>clone_calls ⟨s.toArray⟩ w (by show s.toArray.size ≤ _;simp;omega)
end Go.Proofs

namespace Go.Proofs
open Go.AL
attribute [local irreducible] Go.AL.W Go.AL.WL Go.AL.WD Go.AL.POp Go.AL.PPOp Go.AL.POpS Go.AL.PC Go.AL.AC Go.AL.YW Go.AL.Ret Go.AL.Le Go.AL.thn Go.AL.inBlk Go.AL.scp
instance : Ncf Tryd.prog 182:=⟨⟨_,Tryd.underlying182,fun _=>by nofun⟩⟩
instance : Ncf Tryd.prog 186:=⟨⟨_,Tryd.underlying186,fun _=>by nofun⟩⟩
instance : Cmi Tryd.prog 182 .i64:=⟨Tryd.underlying182,by kernel_rfl⟩
theorem synErr_pc [GlobF Tryd.prog] (he : ErrsOK) (fn s : List UInt8) (hs : s.length < 281474976710656) : ∃ u,PC Tryd.prog 155 [str fn,str s] u:=by
  obtain ⟨t1,v1,t2,v2,h1,h2⟩:=he
  refine ⟨.ep [str fn,str s,.sc (.iface t1 v1)],?_⟩
  refine PC.of_body Tryd.func155 Tryd.ntmps155 rfl rfl rfl ?_
  repeat' first
 | (apply p1 (hd:=rfl);case hop=>first|(apply D_assign;rfl))
 | refine W_seq ?_
 | refine W_region ?_
 | refine WL_nil ?_
 | refine tn ?_
 | refine W_ret ?_
 | (refine idR ?_;refine ret1 rfl rfl rfl ?_)
 | (refine idW ?_;refine W_draw0 rfl ?_)
 | (apply d1 (hd:=rfl);case hop=>first|(apply D_move;rfl)|(apply D_assign;rfl)|(apply D_pc (clone_pc s hs);rfl;exact .same rfl .nil)|exact D_loadG rfl h1|(apply D_box;rfl;rfl)|exact D_build rfl)
 | (refine WD_nil (by first|decide +kernel|kernel_rfl|rfl) ?_)
  all_goals exact Le.of_eq (y:=.ep [str fn,str s,.sc (.iface t1 v1)]) rfl
theorem rngErr_pc [GlobF Tryd.prog] (he : ErrsOK) (fn s : List UInt8) (hs : s.length < 281474976710656) : ∃ u,PC Tryd.prog 156 [str fn,str s] u:=by
  obtain ⟨t1,v1,t2,v2,h1,h2⟩:=he
  refine ⟨.ep [str fn,str s,.sc (.iface t2 v2)],?_⟩
  refine PC.of_body Tryd.func156 Tryd.ntmps156 rfl rfl rfl ?_
  repeat' first
 | (apply p1 (hd:=rfl);case hop=>first|(apply D_assign;rfl))
 | refine W_seq ?_
 | refine W_region ?_
 | refine WL_nil ?_
 | refine tn ?_
 | refine W_ret ?_
 | (refine idR ?_;refine ret1 rfl rfl rfl ?_)
 | (refine idW ?_;refine W_draw0 rfl ?_)
 | (apply d1 (hd:=rfl);case hop=>first|(apply D_move;rfl)|(apply D_assign;rfl)|(apply D_pc (clone_pc s hs);rfl;exact .same rfl .nil)|exact D_loadG rfl h2|(apply D_box;rfl;rfl)|exact D_build rfl)
 | (refine WD_nil (by first|decide +kernel|kernel_rfl|rfl) ?_)
  all_goals exact Le.of_eq (y:=.ep [str fn,str s,.sc (.iface t2 v2)]) rfl
set_option maxHeartbeats 4000000 in
theorem toErr_ac [GlobF Tryd.prog] (he : ErrsOK) (fn s : List UInt8) (hs : s.length < 281474976710656) (n : Int) (hn : n = 1 ∨ n = 2) (h : List AObj) :
    AC Tryd.prog 146 [str fn,str s,.sc (.int .i64 10),.sc (.int .i64 64),.sc (.iface 182 (.int .i64 n))] h (fun v h'=>h' = h ∧ ∃ u,(∃ te x,u = Value.iface te x) ∧ v = .sc u):=by
  obtain ⟨u1,hp1⟩:=synErr_pc he fn s hs
  obtain ⟨u2,hp2⟩:=rngErr_pc he fn s hs
  rcases hn with rfl|rfl
  · refine AC.of_body Tryd.func146 Tryd.ntmps146 rfl rfl rfl ?_
    repeat' first
 | (apply p1 (hd:=rfl);case hop=>first|(apply D_move;rfl)|(apply D_assign;rfl)|(apply D_pc hp2;rfl;exact .same rfl (.same rfl .nil))|exact D_mkI rfl|exact D_ifE rfl rfl)
 | refine W_seq ?_
 | refine W_region ?_
 | (refine idC ?_;first|refine c1 rfl ?_|refine c0 rfl ?_)
 | refine WL_nil ?_
 | refine tn ?_
 | refine tr ?_
 | refine br ?_
 | refine W_block ?_
 | refine W_ret ?_
 | (refine m_mkIP rfl ?_;rintro v hv)
    exact retK1 (.inl rfl) rfl rfl (ResO.tmp rfl) ⟨rfl,_,hv,rfl⟩
  · refine AC.of_body Tryd.func146 Tryd.ntmps146 rfl rfl rfl ?_
    repeat' first
 | (apply p1 (hd:=rfl);case hop=>first|(apply D_move;rfl)|(apply D_assign;rfl)|(apply D_pc hp1;rfl;exact .same rfl (.same rfl .nil))|exact D_mkI rfl|exact D_ifE rfl rfl)
 | refine W_seq ?_
 | refine W_region ?_
 | (refine idC ?_;refine c1 rfl ?_)
 | refine WL_nil ?_
 | refine tn ?_
 | refine tr ?_
 | refine br ?_
 | refine W_block ?_
 | refine W_ret ?_
 | (refine m_mkIP rfl ?_;rintro v hv)
    exact retK1 (.inl rfl) rfl rfl (ResO.tmp rfl) ⟨rfl,_,hv,rfl⟩
def pN (s : List UInt8) : Int:=match Lib.parseIntB 64 s with
  | .ok n=>n
  | .range=>Lib.intSat 64 s
  | _=>0
def pOK (s : List UInt8) : Bool:=match Lib.parseIntB 64 s with
  | .ok _=>true
  | _=>false
theorem parse_rng {s : List UInt8} {n : Int} (h : Lib.parseIntB 64 s = .ok n) : -9223372036854775808 ≤ n ∧ n ≤ 9223372036854775807:=by
  cases s with
  | nil=>simp [Lib.parseIntB] at h
  | cons c r =>
    simp only [Lib.parseIntB] at h
    split at h
    · cases h
    · cases h
    · split at h
      · cases h
      · rename_i h1
        split at h
        · cases h
        · rename_i h2
          cases h
          split
          · rename_i h3;simp [h3] at h2;omega
          · rename_i h3;simp [h3] at h1;omega
theorem sat_rng (s : List UInt8) : -9223372036854775808 ≤ Lib.intSat 64 s ∧ Lib.intSat 64 s ≤ 9223372036854775807:=by
  unfold Lib.intSat;split <;> decide
theorem pN_rng (s : List UInt8) : -9223372036854775808 ≤ pN s ∧ pN s ≤ 9223372036854775807:=by
  unfold pN
  split
  · rename_i n h;exact parse_rng h
  · exact sat_rng s
  · decide
set_option maxHeartbeats 4000000 in
theorem parseInt_ac [GlobF Tryd.prog] (he : ErrsOK) (s : List UInt8) (hs : s.length < 281474976710656) (h : List AObj) :
    AC Tryd.prog 133 [str s,.sc (.int .i64 10),.sc (.int .i64 64)] h (fun v h'=>h' = h ∧ ∃ u,v = .tu [.sc (.int .i64 (pN s)),.sc u] ∧ ((u = .nilIface ∧ pOK s = true) ∨ ((∃ te x,u = Value.iface te x) ∧ pOK s = false))):=by
  have hi:=iparse_ac s hs h
  rcases hpi : Lib.parseIntB 64 s with n|_|_
  · have e1 : pN s = n:=by unfold pN;rw [hpi]
    have e2 : pOK s = true:=by unfold pOK;rw [hpi]
    have hi2 : AC Tryd.prog 145 [str s,.sc (.int .i64 10),.sc (.int .i64 64)] h (fun v h'=>v = .tu [.sc (.int .i64 n),.sc .nilIface] ∧ h' = h):=hi.mono fun v h' ⟨a1,a,b,a2,a3⟩=>by
      rw [hpi] at a2;simp only [Lib.intTuple,Value.tuple.injEq,Array.mk.injEq,List.cons.injEq,and_true] at a2
      obtain ⟨rfl,rfl⟩:=a2;exact ⟨a3,a1⟩
    refine AC.of_body Tryd.func133 Tryd.ntmps133 rfl rfl rfl ?_
    repeat' first
 | (apply p1 (hd:=rfl);case hop=>first|(apply D_move;rfl)|(apply D_assign;rfl)|exact D_inI rfl (.inl ⟨rfl,rfl⟩)|(apply D_ext;rfl;rfl))
 | refine W_seq ?_
 | refine W_region ?_
 | (refine idC ?_;refine c0 rfl ?_)
 | refine WL_nil ?_
 | refine tn ?_
 | refine W_skip ?_
 | refine W_ret ?_
 | (refine m_call hi2 rfl rfl rfl ?_;rintro _ _ ⟨rfl,rfl⟩)
    exact retK (rs:=[_,_]) (.inl rfl) rfl trivial (.cons (ResO.tmp rfl) (.cons (ResO.tmp rfl) .nil)) ⟨rfl,_,by rw [e1];rfl,.inl ⟨rfl,e2⟩⟩
  · have e1 : pN s = 0:=by unfold pN;rw [hpi]
    have e2 : pOK s = false:=by unfold pOK;rw [hpi]
    have hi2 : AC Tryd.prog 145 [str s,.sc (.int .i64 10),.sc (.int .i64 64)] h (fun v h'=>v = .tu [.sc (.int .i64 0),.sc (.iface 182 (.int .i64 2))] ∧ h' = h):=hi.mono fun v h' ⟨a1,a,b,a2,a3⟩=>by
      rw [hpi] at a2;simp only [Lib.intTuple,Value.tuple.injEq,Array.mk.injEq,List.cons.injEq,and_true] at a2
      obtain ⟨rfl,rfl⟩:=a2;exact ⟨a3,a1⟩
    have ht:=toErr_ac he [80,97,114,115,101,73,110,116] s hs 2 (.inr rfl) h
    refine AC.of_body Tryd.func133 Tryd.ntmps133 rfl rfl rfl ?_
    repeat' first
 | (apply p1 (hd:=rfl);case hop=>first|(apply D_move;rfl)|(apply D_assign;rfl)|exact D_inI rfl (.inr ⟨⟨_,_,rfl⟩,rfl⟩)|(apply D_ext;rfl;rfl))
 | refine W_seq ?_
 | refine W_region ?_
 | (refine idC ?_;refine c1 rfl ?_)
 | refine WL_nil ?_
 | refine tn ?_
 | refine tr ?_
 | refine W_ret ?_
 | (refine m_call hi2 rfl rfl rfl ?_;rintro _ _ ⟨rfl,rfl⟩)
 | (refine m_call ht rfl rfl rfl ?_;rintro _ _ ⟨rfl,u,hu,rfl⟩)
    exact retK (rs:=[_,_]) (.inl rfl) rfl trivial (.cons (ResO.tmp rfl) (.cons (ResO.tmp rfl) .nil)) ⟨rfl,_,by rw [e1];rfl,.inr ⟨hu,e2⟩⟩
  · have e1 : pN s = Lib.intSat 64 s:=by unfold pN;rw [hpi]
    have e2 : pOK s = false:=by unfold pOK;rw [hpi]
    have hi2 : AC Tryd.prog 145 [str s,.sc (.int .i64 10),.sc (.int .i64 64)] h (fun v h'=>v = .tu [.sc (.int .i64 (Lib.intSat 64 s)),.sc (.iface 182 (.int .i64 1))] ∧ h' = h):=hi.mono fun v h' ⟨a1,a,b,a2,a3⟩=>by
      rw [hpi] at a2;simp only [Lib.intTuple,Value.tuple.injEq,Array.mk.injEq,List.cons.injEq,and_true] at a2
      obtain ⟨rfl,rfl⟩:=a2;exact ⟨a3,a1⟩
    have ht:=toErr_ac he [80,97,114,115,101,73,110,116] s hs 1 (.inl rfl) h
    refine AC.of_body Tryd.func133 Tryd.ntmps133 rfl rfl rfl ?_
    repeat' first
 | (apply p1 (hd:=rfl);case hop=>first|(apply D_move;rfl)|(apply D_assign;rfl)|exact D_inI rfl (.inr ⟨⟨_,_,rfl⟩,rfl⟩)|(apply D_ext;rfl;rfl))
 | refine W_seq ?_
 | refine W_region ?_
 | (refine idC ?_;refine c1 rfl ?_)
 | refine WL_nil ?_
 | refine tn ?_
 | refine tr ?_
 | refine W_ret ?_
 | (refine m_call hi2 rfl rfl rfl ?_;rintro _ _ ⟨rfl,rfl⟩)
 | (refine m_call ht rfl rfl rfl ?_;rintro _ _ ⟨rfl,u,hu,rfl⟩)
    exact retK (rs:=[_,_]) (.inl rfl) rfl trivial (.cons (ResO.tmp rfl) (.cons (ResO.tmp rfl) .nil)) ⟨rfl,_,by rw [e1];rfl,.inr ⟨hu,e2⟩⟩
def pB (s : List UInt8) : Bool:=pOK s && decide (Lib.itoa (pN s) = s)
set_option maxHeartbeats 4000000 in
theorem number_pc [GlobF Tryd.prog] (hp : PowOK) (he : ErrsOK) (s : List UInt8) (hs : s.length < 281474976710656) : PC Tryd.prog 113 [str s] (.tu [.sc (.int .i64 (pN s)),.sc (.bool (pB s))]):=by
  have hpi:=parseInt_ac he s hs []
  obtain ⟨r1,r2⟩:=pN_rng s
  refine PC.of_body Tryd.func113 Tryd.ntmps113 rfl rfl rfl ?_
  repeat' first
 | (apply p1 (hd:=rfl);case hop=>first|(apply D_move;rfl)|(apply D_assign;rfl)|exact D_ieI rfl (.inl ⟨hu,rfl⟩)|exact D_ieI rfl (.inr ⟨hu,rfl⟩)|(apply D_pc (fmt_pc hp (pN s) r1 r2);rfl;exact .same rfl (.same rfl .nil))|(apply D_pickT;rfl;rfl)|(apply D_pickF;rfl;rfl)|(apply D_str;rfl;rfl;rfl)|(apply D_ext;rfl;rfl))
 | refine W_seq ?_
 | refine W_region ?_
 | refine WL_nil ?_
 | (refine idG ?_;first|refine g0t rfl rfl rfl ?_|refine gr rfl rfl ?_)
 | refine tn ?_
 | refine W_ret ?_
 | (refine idR ?_;refine ret2 rfl rfl rfl rfl ?_ ?_)
 | refine Le.bool ?_
 | refine Le.int ?_
 | (refine m_call hpi rfl rfl rfl ?_;rintro _ _ ⟨rfl,u,rfl,hu⟩;rcases hu with ⟨hu,hb⟩ | ⟨hu,hb⟩)
  all_goals first|rfl|(unfold pB;rw [hb];rfl)|(unfold pB;rw [hb];simp [sEq])
end Go.Proofs
