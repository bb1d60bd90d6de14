/- Contracts: facts.Changes, whole. -/
import Derived.Test.YtfnmipagllofiaaGreatFF12
import Derived.Test.YtfnmipagllofiaaGreatFS5
import Derived.Test.YtfnmipagllofiaaGreatPSp2
import Derived.Test.YtfnmipagllofiaaGreatOps15
import Derived.Test.YtfnmipagllofiaaGreatOps26
namespace Go.Proofs
open Go.AL Go.Sort
attribute [local irreducible] Go.AL.W Go.AL.WL Go.AL.WD Go.AL.POp Go.AL.PPOp Go.AL.POpS Go.AL.PC Go.AL.AC Go.AL.YW Go.AL.Ret Go.AL.Le Go.AL.thn Go.AL.inBlk Go.AL.scp
set_option maxHeartbeats 16000000 in
theorem changes_pc [GlobF Tryz.prog] (old now : List Fac) (T : Int) (ho : allF old) (hn : allF now) (hT1 : 1 ≤ T) (hT2 : T ≤ 1099511627776) (hol : old.length < 1759218604500) (hnl : now.length < 1759218604500) (hbo : bndG old) (hbn : bndG now)
    (h1 : ∀ f, f ∈ now → f.sp.length + (findL old f).length + 1 < 8796093022208) (h2 : ∀ f, f ∈ old → f.sp.length + (findL now f).length + 1 < 8796093022208) (hO : (chgL old now T).length * 80 ≤ 140737488355328) :
    PC Tryz.prog 14 [sl6 old, sl6 now, .sc (.int .i64 T)] (.tu [sl9 (dsortL 1 (chgL old now T)), .sc (.int .i64 0)]) := by
  have a1 := fall_pc old (by omega) hbo.f
  have a2 := fall_pc now (by omega) hbn.f
  rw [← dP_T ho] at a1
  rw [← dP_T hn] at a2
  have hs := dsort_pc 1 (chgL old now T) (by omega)
  have hlo : Value.bool (iLt T 1) = .bool false := by rw [(iLt_f _ _).mpr (by omega)]
  have hhi : Value.bool (iLt 1099511627776 T) = .bool false := by rw [(iLt_f _ _).mpr (by omega)]
  refine PC.of_body Tryz.func14 Tryz.ntmps14 rfl rfl rfl ?_
  repeat' first
    | (apply p1 (hd := rfl); case hop => first | (apply D_move; rfl) | (apply D_assign; rfl) | (apply D_pc a1; rfl; exact .same rfl .nil) | (apply D_pc a2; rfl; exact .same rfl .nil) | exact D_sc (D_int rfl rfl rfl) hlo | exact D_sc (D_int rfl rfl rfl) hhi | (apply D_load1; rfl) | (apply D_pickT; rfl; rfl) | (apply D_pickF; rfl; rfl) | (apply D_lenM; rfl) | (apply D_not; rfl) | (apply D_box; rfl; rfl) | exact D_mkfn rfl)
    | refine W_seq ?_
    | refine W_region ?_
    | (refine idC ?_; first | refine c1 rfl ?_ | refine c0 rfl ?_ | refine cs rfl (fun _ => ?_) (fun _ => ?_))
    | refine WL_nil ?_
    | (refine idG ?_; first | refine g0f rfl rfl rfl ?_ | refine gr rfl rfl ?_ | refine gs rfl rfl (fun _ => ?_) (fun _ => ?_))
    | refine tn ?_
    | refine tr ?_
    | refine W_skip ?_
    | refine W_block ?_
    | refine W_ret ?_
    | (refine idR ?_; refine ret2 rfl rfl rfl rfl ?_ ?_)
    | (refine idA ?_; refine m_alloc rfl ?_)
    | refine Le.int ?_
    | fail
  all_goals first | contradiction | (exfalso; omega) | skip
  refine W_adoptC 0 0 9 52 rfl rfl ?_
  have hp1 : ∀ i, (lessL (now.take i) old T true).length ≤ (lessL now old T true).length := fun i => by
    have h : lessL (now.take i ++ now.drop i) old T true = lessL (now.take i) old T true ++ lessL (now.drop i) old T true := by unfold lessL; rw [List.flatMap_append]
    rw [List.take_append_drop] at h; rw [h, List.length_append]; omega
  have hp2 : ∀ i, (lessL (old.take i) now T false).length ≤ (lessL old now T false).length := fun i => by
    have h : lessL (old.take i ++ old.drop i) now T false = lessL (old.take i) now T false ++ lessL (old.drop i) now T false := by unfold lessL; rw [List.flatMap_append]
    rw [List.take_append_drop] at h; rw [h, List.length_append]; omega
  have hOl : (chgL old now T).length = (lessL now old T true).length + (lessL old now T false).length := by unfold chgL; rw [List.length_append]
  refine W_loopL (X := Nat) (fun i => [(0, sl6 old), (1, sl6 now), (5, .ep [.sc (.int .i64 T)]), (8, .bp 0 0), (9, .fn (.func 38) [] [.bp 0 0, .ep [.sc (.int .i64 T)]]), (33, sl6 now), (34, .sc (.int .i64 (now.length : Int))), (35, .sc (.int .i64 (i : Int)))]) (fun i => HC (lessL (now.take i) old T true))
    (fun i => i ≤ now.length) (fun i => now.length - i) 0 (Nat.zero_le _) ⟨rfl, rfl, rfl, rfl, rfl, rfl, rfl, rfl, trivial⟩ rfl ?_
  intro i hi
  by_cases hil : i < now.length
  · have hsp := fspans_pc old (now[i]'hil) hol hbo
    rw [← dP_T ho, if_pos rfl, if_pos rfl] at hsp
    have hsn := lessL_take now old T true hil
    have hle := hp1 (i + 1)
    rw [hsn, List.length_append, sayD_len] at hle
    have hca := change1_ac (lessL (now.take i) old T true) (now[i]'hil) (now[i]'hil).sp (findL old (now[i]'hil)) true T (may_of hn (List.getElem_mem _)).2.2 (find_set ho _) (h1 _ (List.getElem_mem _)) (by have := h1 _ (List.getElem_mem hil); omega) (by show (_ + (minL _ _).length) * 80 ≤ _; omega)
    generalize findL old (now[i]'hil) = W at *
    repeat' first
      | (apply p1 (hd := rfl); case hop => first | (apply D_move; rfl) | (apply D_assign; rfl) | (apply D_pc hsp; rfl; exact .same rfl (.same rfl (.same rfl (.same rfl .nil)))) | (apply D_load1; rfl) | (apply D_fld; rfl) | (apply D_int; rfl; rfl; rfl) | (apply D_lenM; rfl) | (apply D_ext; rfl; rfl) | (apply D_loadW; rfl; rfl) | (apply D_loadA; rfl; rfl) | (apply D_idxAn; rfl; rfl; (first | omega | (simp; done))))
      | refine W_seq ?_
      | refine W_region ?_
      | (refine idC ?_; refine cs rfl (fun _ => ?_) (fun _ => ?_))
      | refine WL_nil ?_
      | refine tn ?_
      | refine bn ?_
      | refine te ?_
      | (refine idB ?_; refine bh rfl ?_)
      | refine W_skip ?_
      | refine W_block ?_
      | refine W_exit ?_
      | (refine idA ?_; refine m_var rfl rfl rfl rfl rfl rfl rfl ?_)
      | (refine m_callC (d := 55) hca rfl rfl rfl rfl ?_; rintro _ _ ⟨rfl, rfl⟩)
      | fail
    all_goals first
      | (exfalso; omega)
      | (refine ⟨rfl, i + 1, by omega, by omega, ⟨rfl, rfl, rfl, rfl, rfl, rfl, rfl, ieq (wsucc i (by omega)), trivial⟩, ?_⟩
         first | exact congrArg HC hsn | exact (congrArg HC hsn).symm)
      | skip
    all_goals trace_state
  · have e : i = now.length := by omega
    subst e
    rw [List.take_length]
    repeat' first
      | (apply p1 (hd := rfl); case hop => first | (apply D_move; rfl) | (apply D_load1; rfl) | (apply D_fld; rfl) | (apply D_int; rfl; rfl; rfl) | (apply D_lenM; rfl) | (apply D_loadW; rfl; rfl) | (apply D_loadA; rfl; rfl) | (apply D_idxAn; rfl; rfl; (first | omega | (simp; done))))
      | refine W_seq ?_
      | refine W_region ?_
      | (refine idC ?_; refine cs rfl (fun _ => ?_) (fun _ => ?_))
      | refine WL_nil ?_
      | refine tn ?_
      | refine te ?_
      | (refine idB ?_; refine bh rfl ?_)
      | refine W_skip ?_
      | refine W_block ?_
      | refine W_exit ?_
      | (refine idA ?_; refine m_var rfl rfl rfl rfl rfl rfl rfl ?_)
      | fail
    all_goals first
      | (exfalso; omega)
      | skip
    refine W_loopL (X := Nat) (fun i => [(0, sl6 old), (1, sl6 now), (5, .ep [.sc (.int .i64 T)]), (8, .bp 0 0), (9, .fn (.func 38) [] [.bp 0 0, .ep [.sc (.int .i64 T)]]), (57, sl6 old), (58, .sc (.int .i64 (old.length : Int))), (59, .sc (.int .i64 (i : Int)))]) (fun i => HC (lessL now old T true ++ lessL (old.take i) now T false))
      (fun i => i ≤ old.length) (fun i => old.length - i) 0 (Nat.zero_le _) ⟨rfl, rfl, rfl, rfl, rfl, rfl, rfl, rfl, trivial⟩ (by simp [lessL]) ?_
    intro i hi
    by_cases hil : i < old.length
    · have hsp := fspans_pc now (old[i]'hil) hnl hbn
      rw [← dP_T hn, if_pos rfl, if_pos rfl] at hsp
      have hsn : lessL now old T true ++ lessL (old.take (i + 1)) now T false = (lessL now old T true ++ lessL (old.take i) now T false) ++ sayD (old[i]'hil) T false (minL (old[i]'hil).sp (findL now (old[i]'hil))) := by rw [lessL_take old now T false hil, List.append_assoc]
      have hle := hp2 (i + 1)
      rw [lessL_take old now T false hil, List.length_append, sayD_len] at hle
      have hca := change1_ac (lessL now old T true ++ lessL (old.take i) now T false) (old[i]'hil) (old[i]'hil).sp (findL now (old[i]'hil)) false T (may_of ho (List.getElem_mem _)).2.2 (find_set hn _) (h2 _ (List.getElem_mem _)) (by have := h2 _ (List.getElem_mem hil); omega) (by show (_ + (minL _ _).length) * 80 ≤ _; rw [List.length_append]; omega)
      generalize findL now (old[i]'hil) = W at *
      repeat' first
        | (apply p1 (hd := rfl); case hop => first | (apply D_move; rfl) | (apply D_assign; rfl) | (apply D_pc hsp; rfl; exact .same rfl (.same rfl (.same rfl (.same rfl .nil)))) | (apply D_load1; rfl) | (apply D_fld; rfl) | (apply D_int; rfl; rfl; rfl) | (apply D_ext; rfl; rfl) | (apply D_loadW; rfl; rfl) | (apply D_loadA; rfl; rfl) | (apply D_idxAn; rfl; rfl; (first | omega | (simp; done))))
        | refine W_seq ?_
        | refine W_region ?_
        | (refine idC ?_; refine cs rfl (fun _ => ?_) (fun _ => ?_))
        | refine WL_nil ?_
        | refine tn ?_
        | refine bn ?_
        | refine te ?_
        | (refine idB ?_; refine bh rfl ?_)
        | refine W_skip ?_
        | refine W_block ?_
        | refine W_exit ?_
        | (refine idLd ?_; refine p1L (D_loadB1 rfl rfl rfl) rfl ?_)
        | (refine idA ?_; refine m_var rfl rfl rfl rfl rfl rfl rfl ?_)
        | (refine m_callC (d := 79) hca rfl rfl rfl rfl ?_; rintro _ _ ⟨rfl, rfl⟩)
        | fail
      all_goals first
        | (exfalso; omega)
        | (refine ⟨rfl, i + 1, by omega, by omega, ⟨rfl, rfl, rfl, rfl, rfl, rfl, rfl, ieq (wsucc i (by omega)), trivial⟩, ?_⟩
           first | exact congrArg HC hsn | exact (congrArg HC hsn).symm)
        | skip
      all_goals trace_state
    · have e : i = old.length := by omega
      subst e
      rw [List.take_length]
      have hcg : lessL now old T true ++ lessL old now T false = chgL old now T := rfl
      rw [hcg]
      generalize chgL old now T = CH at *
      repeat' first
        | (apply p1 (hd := rfl); case hop => first | (apply D_move; rfl) | (apply D_assign; rfl) | (apply D_pc hs; rfl; exact .same rfl (.tok rfl .nil)) | (apply D_load1; rfl) | (apply D_fld; rfl) | (apply D_int; rfl; rfl; rfl) | (apply D_loadW; rfl; rfl) | (apply D_loadA; rfl; rfl) | (apply D_idxAn; rfl; rfl; (first | omega | (simp; done))))
        | refine W_seq ?_
        | refine W_region ?_
        | (refine idC ?_; refine cs rfl (fun _ => ?_) (fun _ => ?_))
        | refine WL_nil ?_
        | refine tn ?_
        | refine te ?_
        | (refine idB ?_; refine bh rfl ?_)
        | refine W_skip ?_
        | refine W_block ?_
        | refine W_exit ?_
        | refine W_ret ?_
        | (refine idR ?_; refine ret2 rfl rfl rfl rfl ?_ ?_)
        | (refine idLd ?_; refine p1L (D_loadB1 rfl rfl rfl) rfl ?_)
        | (refine idA ?_; refine m_var rfl rfl rfl rfl rfl rfl rfl ?_)
        | refine Le.int ?_
        | fail
      all_goals first
        | (exfalso; omega)
        | exact Le.of_eq rfl
        | rfl
        | skip
      all_goals trace_state
set_option maxHeartbeats 8000000 in
theorem changesA_pc [GlobF Tryz.prog] (old now : List Fac) (T : Int) (ho : allF old) (hn : allF now) (hT : ¬ (1 ≤ T ∧ T ≤ 1099511627776)) (hol : old.length < 1759218604500) (hnl : now.length < 1759218604500) (hbo : bndG old) (hbn : bndG now) :
    PC Tryz.prog 14 [sl6 old, sl6 now, .sc (.int .i64 T)] (.tu [sl9 [], .sc (.int .i64 2)]) := by
  have a1 := fall_pc old (by omega) hbo.f
  have a2 := fall_pc now (by omega) hbn.f
  rw [← dP_T ho] at a1
  rw [← dP_T hn] at a2
  refine PC.of_body Tryz.func14 Tryz.ntmps14 rfl rfl rfl ?_
  repeat' first
    | (apply p1 (hd := rfl); case hop => first | (apply D_move; rfl) | (apply D_assign; rfl) | (apply D_pc a1; rfl; exact .same rfl .nil) | (apply D_pc a2; rfl; exact .same rfl .nil) | (apply D_load1; rfl) | (apply D_pickT; rfl; rfl) | (apply D_pickF; rfl; rfl) | (apply D_int; rfl; rfl; rfl) | (apply D_lenM; rfl) | (apply D_not; rfl) | (apply D_box; rfl; rfl) | exact D_mkfn rfl)
    | refine W_seq ?_
    | refine W_region ?_
    | (refine idC ?_; first | refine c1 rfl ?_ | refine cs rfl (fun _ => ?_) (fun _ => ?_))
    | refine WL_nil ?_
    | (refine idG ?_; first | refine g0f rfl rfl rfl ?_ | refine gr rfl rfl ?_ | refine gs rfl rfl (fun _ => ?_) (fun _ => ?_))
    | refine tn ?_
    | refine tr ?_
    | refine W_skip ?_
    | refine W_block ?_
    | refine W_ret ?_
    | (refine idR ?_; refine ret2 rfl rfl rfl rfl ?_ ?_)
    | (refine idA ?_; refine m_alloc rfl ?_)
    | refine Le.int ?_
    | fail
  all_goals first | contradiction | exact Le.nil rfl | rfl | (exfalso; omega) | (exfalso; apply hT; omega) | skip
  all_goals trace_state
end Go.Proofs

namespace Go.Proofs
open Go.AL Go.Sort
attribute [local irreducible] Go.AL.W Go.AL.WL Go.AL.WD Go.AL.POp Go.AL.PPOp Go.AL.POpS Go.AL.PC Go.AL.AC Go.AL.YW Go.AL.Ret Go.AL.Le Go.AL.thn Go.AL.inBlk Go.AL.scp
end Go.Proofs

namespace Go.Proofs
open Go.AL Go.Sort
attribute [local irreducible] Go.AL.W Go.AL.WL Go.AL.WD Go.AL.POp Go.AL.PPOp Go.AL.POpS Go.AL.PC Go.AL.AC Go.AL.YW Go.AL.Ret Go.AL.Le Go.AL.thn Go.AL.inBlk Go.AL.scp
end Go.Proofs

namespace Go.Proofs
open Go.AL Go.Sort
attribute [local irreducible] Go.AL.W Go.AL.WL Go.AL.WD Go.AL.POp Go.AL.PPOp Go.AL.POpS Go.AL.PC Go.AL.AC Go.AL.YW Go.AL.Ret Go.AL.Le Go.AL.thn Go.AL.inBlk Go.AL.scp
end Go.Proofs
