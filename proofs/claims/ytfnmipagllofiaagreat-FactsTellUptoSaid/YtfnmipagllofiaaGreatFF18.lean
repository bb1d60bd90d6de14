/- Contracts of the document's functions on facts: the changes. -/
import Derived.Test.YtfnmipagllofiaaGreatFF21
namespace Go.Proofs
open Go.AL Go.Sort
attribute [local irreducible] Go.AL.W Go.AL.WL Go.AL.WD Go.AL.POp Go.AL.PPOp Go.AL.POpS Go.AL.PC Go.AL.AC Go.AL.YW Go.AL.Ret Go.AL.Le Go.AL.thn Go.AL.inBlk Go.AL.scp
set_option maxHeartbeats 16000000 in
theorem rchanges_pc [GlobF Tryz.prog] (old now : List Fac) (T : Int) (ho : allF old) (hn : allF now) (ro : rngF old) (rn : rngF now) (hT1 : 1 ≤ T) (hT2 : T ≤ 1099511627776) (hol : old.length < 1759218604500) (hnl : now.length < 1759218604500) (hbo : bndG old) (hbn : bndG now)
    (h1 : ∀ f, f ∈ now → f.sp.length + (findL old f).length < 4398046511104) (h2 : ∀ f, f ∈ old → f.sp.length + (findL now f).length < 4398046511104) (hO : (chgL old now T).length * 80 ≤ 140737488355328)
    (hsl : ∀ d, d ∈ chgL old now T → d.v.s.length < 9223372036854775808) :
    PC Tryz.prog 15 [sl6 old, sl6 now, .sc (.int .i64 T)] (.tu [sl9 (dsortL 1 (chgL old now T)), .sc (.int .i64 0)]) := by
  have a1 := rmay_pc old (by omega) hbo.f
  have a2 := rmay_pc now (by omega) hbn.f
  rw [← dP_T ho] at a1
  rw [← dP_T hn] at a2
  have hs := dsort1_pc 1 (chgL old now T) hO hsl
  have hlo : Value.bool (iLt T 1) = .bool false := by rw [(iLt_f _ _).mpr (by omega)]
  have hhi : Value.bool (iLt 1099511627776 T) = .bool false := by rw [(iLt_f _ _).mpr (by omega)]
  have hOl : (chgL old now T).length = (lessL now old T true).length + (lessL old now T false).length := by unfold chgL; rw [List.length_append]
  have l1 := rless0_ac now old T true hn ho rn ro hnl hol hbn hbo h1 (by omega)
  have l2 := rless1_ac (lessL now old T true).length old now T false ho hn ro rn hol hnl hbo hbn h2 (by omega)
  have hs : PC Tryz.prog 42 [.sc (.int .i64 1), .sl none 9 ((lessL now old T true).map dC ++ (lessL old now T false).map dC)] (sl9 (dsortL 1 (chgL old now T))) := by
    rw [← List.map_append]; exact hs
  generalize dsortL 1 (chgL old now T) = R at *
  generalize lessL now old T true = L1 at *
  generalize lessL old now T false = L2 at *
  refine PC.of_body Tryz.func15 Tryz.ntmps15 rfl rfl rfl ?_
  repeat' first
    | (refine m_app (d := 36) (els := L1.map dC) (els' := L2.map dC) rfl rfl rfl (by simp) rfl rfl (by simp only [List.length_map, List.length_nil, List.length_append]; omega) (by simp only [List.length_map, List.length_nil, List.length_append]; omega) rfl ?_)
    | (apply p1 (hd := rfl); case hop => first | (apply D_move; rfl) | (apply D_assign; rfl) | (apply D_pc a1; rfl; exact .same rfl .nil) | (apply D_pc a2; rfl; exact .same rfl .nil) | exact D_sc (D_int rfl rfl rfl) hlo | exact D_sc (D_int rfl rfl rfl) hhi | (apply D_pc hs; rfl; exact .same rfl (.tok rfl .nil)) | (apply D_pickT; rfl; rfl) | (apply D_pickF; rfl; rfl) | (apply D_not; rfl))
    | refine W_seq ?_
    | refine W_region ?_
    | (refine idC ?_; first | refine c1 rfl ?_ | refine c0 rfl ?_ | refine cs rfl (fun _ => ?_) (fun _ => ?_))
    | refine WL_nil ?_
    | (refine idG ?_; first | refine g0f rfl rfl rfl ?_ | refine gr rfl rfl ?_ | refine gs rfl rfl (fun _ => ?_) (fun _ => ?_))
    | refine tn ?_
    | refine tr ?_
    | refine W_skip ?_
    | refine W_ret ?_
    | (refine idR ?_; refine ret2 rfl rfl rfl rfl ?_ ?_)
    | refine Le.int ?_
    | (refine m_call (d := 30) l1 rfl rfl rfl ?_; rintro _ _ ⟨rfl, rfl⟩)
    | (refine m_call (d := 35) l2 rfl rfl rfl ?_; rintro _ _ ⟨rfl, rfl⟩)
    | fail
  all_goals first | contradiction | exact Le.of_eq rfl | rfl | (exfalso; omega) | skip
  all_goals trace_state
set_option maxHeartbeats 8000000 in
theorem rchangesN_pc [GlobF Tryz.prog] (old now : List Fac) (T : Int) (h : ¬ (allF old ∧ allF now)) (hol : old.length < 1759218604500) (hnl : now.length < 1759218604500) (hbo : bndG old) (hbn : bndG now) :
    PC Tryz.prog 15 [sl6 old, sl6 now, .sc (.int .i64 T)] (.tu [sl9 [], .sc (.int .i64 60)]) := by
  have a1 := rmay_pc old (by omega) hbo.f
  have a2 := rmay_pc now (by omega) hbn.f
  refine PC.of_body Tryz.func15 Tryz.ntmps15 rfl rfl rfl ?_
  cases x1 : dP (allF old) <;> cases x2 : dP (allF now) <;> rw [x1] at a1 <;> rw [x2] at a2
  case true.true => exact absurd ⟨dP_t.mp x1, dP_t.mp x2⟩ h
  all_goals
    repeat' first
      | (apply p1 (hd := rfl); case hop => first | (apply D_move; rfl) | (apply D_assign; rfl) | (apply D_pc a1; rfl; exact .same rfl .nil) | (apply D_pc a2; rfl; exact .same rfl .nil) | (apply D_pickT; rfl; rfl) | (apply D_pickF; rfl; rfl) | (apply D_int; rfl; rfl; rfl) | (apply D_not; rfl))
      | refine W_seq ?_
      | refine W_region ?_
      | (refine idC ?_; first | refine c1 rfl ?_ | refine cs rfl (fun _ => ?_) (fun _ => ?_))
      | refine WL_nil ?_
      | (refine idG ?_; first | refine g0f rfl rfl rfl ?_ | refine gr rfl rfl ?_ | refine gs rfl rfl (fun _ => ?_) (fun _ => ?_))
      | refine tn ?_
      | refine tr ?_
      | refine W_skip ?_
      | refine W_ret ?_
      | (refine idR ?_; refine ret2 rfl rfl rfl rfl ?_ ?_)
      | refine Le.int ?_
      | fail
  all_goals first | contradiction | exact Le.nil rfl | rfl | (exfalso; omega) | skip
  all_goals trace_state
set_option maxHeartbeats 8000000 in
theorem rchangesA_pc [GlobF Tryz.prog] (old now : List Fac) (T : Int) (ho : allF old) (hn : allF now) (hT : ¬ (1 ≤ T ∧ T ≤ 1099511627776)) (hol : old.length < 1759218604500) (hnl : now.length < 1759218604500) (hbo : bndG old) (hbn : bndG now) :
    PC Tryz.prog 15 [sl6 old, sl6 now, .sc (.int .i64 T)] (.tu [sl9 [], .sc (.int .i64 2)]) := by
  have a1 := rmay_pc old (by omega) hbo.f
  have a2 := rmay_pc now (by omega) hbn.f
  rw [← dP_T ho] at a1
  rw [← dP_T hn] at a2
  refine PC.of_body Tryz.func15 Tryz.ntmps15 rfl rfl rfl ?_
  repeat' first
    | (apply p1 (hd := rfl); case hop => first | (apply D_move; rfl) | (apply D_assign; rfl) | (apply D_pc a1; rfl; exact .same rfl .nil) | (apply D_pc a2; rfl; exact .same rfl .nil) | (apply D_pickT; rfl; rfl) | (apply D_pickF; rfl; rfl) | (apply D_int; rfl; rfl; rfl) | (apply D_not; rfl))
    | refine W_seq ?_
    | refine W_region ?_
    | (refine idC ?_; first | refine c1 rfl ?_ | refine cs rfl (fun _ => ?_) (fun _ => ?_))
    | refine WL_nil ?_
    | (refine idG ?_; first | refine g0f rfl rfl rfl ?_ | refine gr rfl rfl ?_ | refine gs rfl rfl (fun _ => ?_) (fun _ => ?_))
    | refine tn ?_
    | refine tr ?_
    | refine W_skip ?_
    | refine W_ret ?_
    | (refine idR ?_; refine ret2 rfl rfl rfl rfl ?_ ?_)
    | refine Le.int ?_
    | fail
  all_goals first | contradiction | exact Le.nil rfl | rfl | (exfalso; omega) | (exfalso; apply hT; omega) | skip
  all_goals trace_state
end Go.Proofs

namespace Go.Proofs
open Go.AL Go.Sort
attribute [local irreducible] Go.AL.W Go.AL.WL Go.AL.WD Go.AL.POp Go.AL.PPOp Go.AL.POpS Go.AL.PC Go.AL.AC Go.AL.YW Go.AL.Ret Go.AL.Le Go.AL.thn Go.AL.inBlk Go.AL.scp
end Go.Proofs

namespace Go.Proofs
open Go.AL Go.Sort
attribute [local irreducible] Go.AL.W Go.AL.WL Go.AL.WD Go.AL.POp Go.AL.PPOp Go.AL.POpS Go.AL.PC Go.AL.AC Go.AL.YW Go.AL.Ret Go.AL.Le Go.AL.thn Go.AL.inBlk Go.AL.scp
end Go.Proofs

namespace Go.Proofs
open Go.AL Go.Sort
attribute [local irreducible] Go.AL.W Go.AL.WL Go.AL.WD Go.AL.POp Go.AL.PPOp Go.AL.POpS Go.AL.PC Go.AL.AC Go.AL.YW Go.AL.Ret Go.AL.Le Go.AL.thn Go.AL.inBlk Go.AL.scp
end Go.Proofs
