/- The law StatsHolds, plain: what a curve says at an instant. -/
import Derived.Test.YtjojdiefnhbglaaGreatYS5
set_option linter.all false
namespace Go.Proofs
open Go.AL Go.Sort
attribute [local irreducible] Go.AL.W Go.AL.WL Go.AL.WD Go.AL.POp Go.AL.PPOp Go.AL.POpS Go.AL.PC Go.AL.AC Go.AL.YW Go.AL.Ret Go.AL.Le Go.AL.thn Go.AL.inBlk Go.AL.scp
def hldF (C : List Pt) (t : Int) : Int:=C.foldl (fun n p=>if p.at_ ≤ t then p.m else n) 0
theorem hldF_snoc (C : List Pt) (p : Pt) (t : Int) : hldF (C ++ [p]) t = if p.at_ ≤ t then p.m else hldF C t:=by
  unfold hldF;rw [List.foldl_append];rfl
set_option maxHeartbeats 4000000 in
theorem holds_pc [GlobF Tryz.prog] (C : List Pt) (t : Int) (hl : C.length < 4611686018427387904) : PC Tryz.prog 32 [slP C,.sc (.int .i64 t)] (.sc (.int .i64 (hldF C t))):=by
  refine PC.of_body Tryz.func32 Tryz.ntmps32 rfl rfl rfl ?_
  repeat' first
 | (apply p1 (hd:=rfl);case hop=>first|(apply D_move;rfl)|(apply D_assign;rfl)|(apply D_lenM;rfl))
 | refine W_seq ?_
 | refine W_region ?_
 | refine WL_nil ?_
 | refine tn ?_
 | (refine W_block ?_)
  refine W_loopR (X:=Nat) (fun i=>[(1,.sc (.int .i64 t)),(5,.sc (.int .i64 (hldF (C.take i) t))),(8,slP C),(9,.sc (.int .i64 (C.length : Int))),(10,.sc (.int .i64 (i : Int)))]) (fun _=>[])
    (fun i=>i ≤ C.length) (fun i=>C.length - i) 0 (Nat.zero_le _) ⟨rfl,rfl,rfl,rfl,rfl,trivial⟩ rfl ?_
  intro i hi
  by_cases hil : i < C.length
  · have hsn : hldF (C.take (i + 1)) t = if (C[i]'hil).at_ ≤ t then (C[i]'hil).m else hldF (C.take i) t:=by
      rw [List.take_succ_eq_append_getElem hil,hldF_snoc]
    repeat' first
 | (apply p1 (hd:=rfl);case hop=>first|(apply D_move;rfl)|(apply D_assign;rfl)|(apply D_load1;rfl)|(apply D_fld;rfl)|(apply D_int;rfl;rfl;rfl)|(apply D_loadW;rfl;rfl)|(apply D_idxAn;rfl;rfl;(first|omega|(simp;done))))
 | refine W_seq ?_
 | refine W_region ?_
 | (refine idC ?_;refine cs rfl (fun _=>?_) (fun _=>?_))
 | refine WL_nil ?_
 | refine tn ?_
 | refine bn ?_
 | refine te ?_
 | (refine idB ?_;refine bh rfl ?_)
 | refine W_skip ?_
 | refine W_block ?_
 | refine W_exit ?_
 | refine W_ret ?_
 | (refine idR ?_;refine ret1 rfl rfl rfl ?_)
 | (refine idA ?_;refine m_var rfl rfl rfl rfl rfl rfl rfl ?_)
 | (refine Le.int ?_)
    all_goals first
      | contradiction
      | (exfalso;omega)
      | (refine ⟨rfl,i + 1,by omega,by omega,[],renN ⟨⟨_,rfl,.pur⟩,⟨_,rfl,?_⟩,⟨_,rfl,.pur⟩,⟨_,rfl,.pur⟩,⟨_,rfl,by rw [wsucc i (by omega)];exact .pur⟩,trivial⟩⟩
         rw [hsn];first|(rw [if_pos (by assumption)];exact .pur)|(rw [if_neg (by omega)];exact .pur))
      | skip
  · have e : i = C.length:=by omega
    subst e
    rw [List.take_length]
    repeat' first
 | (apply p1 (hd:=rfl);case hop=>first|(apply D_move;rfl)|(apply D_assign;rfl)|(apply D_load1;rfl)|(apply D_fld;rfl)|(apply D_int;rfl;rfl;rfl)|(apply D_loadW;rfl;rfl)|(apply D_idxAn;rfl;rfl;(first|omega|(simp;done))))
 | refine W_seq ?_
 | refine W_region ?_
 | (refine idC ?_;refine cs rfl (fun _=>?_) (fun _=>?_))
 | refine WL_nil ?_
 | refine tn ?_
 | refine bn ?_
 | refine te ?_
 | (refine idB ?_;refine bh rfl ?_)
 | refine W_skip ?_
 | refine W_block ?_
 | refine W_exit ?_
 | refine W_ret ?_
 | (refine idR ?_;refine ret1 rfl rfl rfl ?_)
 | (refine idA ?_;refine m_var rfl rfl rfl rfl rfl rfl rfl ?_)
 | (refine Le.int ?_)
    all_goals first
      | contradiction
      | (exfalso;omega)
      | rfl
      | skip
end Go.Proofs
