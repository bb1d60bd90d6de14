/- Contracts: facts.Changes. -/
import Derived.Test.YtfnmipagllofiaaGreatFS9
import Derived.Test.YtfnmipagllofiaaGreatFF19
import Derived.Test.YtfnmipagllofiaaGreatFF21
import Derived.Test.YtfnmipagllofiaaGreatFF18
namespace Go.Proofs
open Go.AL Go.Sort
attribute [local irreducible] Go.AL.W Go.AL.WL Go.AL.WD Go.AL.POp Go.AL.PPOp Go.AL.POpS Go.AL.PC Go.AL.AC Go.AL.YW Go.AL.Ret Go.AL.Le Go.AL.thn Go.AL.inBlk Go.AL.scp
abbrev HC (o : List Dat) : List AObj := [.cells [.sl (some 1) 9 (o.map dC)], .tail o.length 9 52]
theorem hc_snoc (o : List Dat) (d : Dat) : HC (o ++ [d]) = [.cells [.sl (some 1) 9 (o.map dC ++ [dC d])], .tail ((o.map dC).length + 1) 9 52] := by simp [HC]
set_option maxHeartbeats 8000000 in
theorem change1_ac [GlobF Tryz.prog] (O : List Dat) (f : Fac) (a b : List Sp) (put : Bool) (T : Int) (ha : SetP a) (hb : SetP b) (hla : a.length + b.length + 1 < 8796093022208) (hlb : b.length < 8796093022208) (hO : (O.length + (meetL a (restL loT b)).length) * 80 ≤ 140737488355328) :
    AC Tryz.prog 38 [eF f, sl2 a, sl2 b, .sc (.bool put), .bp 0 0, .ep [.sc (.int .i64 T)]] (HC O)
      (fun v h' => v = .tu [] ∧ h' = HC (O ++ sayD f T put (meetL a (restL loT b)))) := by
  have hm := sminus_pc a b ha hb hla hlb
  generalize meetL a (restL loT b) = D at *
  refine AC.of_body Tryz.func38 Tryz.ntmps38 rfl rfl rfl ?_
  repeat' first
    | (apply p1 (hd := rfl); case hop => first | (apply D_move; rfl) | (apply D_assign; rfl) | (apply D_pc hm; rfl; exact .same rfl (.same rfl .nil)) | (apply D_lenM; rfl) | (apply D_ext; rfl; rfl) | (apply D_box; rfl; rfl))
    | refine W_seq ?_
    | refine W_region ?_
    | refine WL_nil ?_
    | refine tn ?_
    | refine W_block ?_
    | fail
  refine W_loopL (X := Nat) (fun i => [(3, .sc (.bool put)), (4, .bp 0 0), (5, .ep [.sc (.int .i64 T)]), (6, .ep (fC f)), (20, sl2 D), (21, .sc (.int .i64 (D.length : Int))), (22, .sc (.int .i64 (i : Int)))]) (fun i => HC (O ++ sayD f T put (D.take i)))
    (fun i => i ≤ D.length) (fun i => D.length - i) 0 (Nat.zero_le _) ⟨rfl, rfl, rfl, rfl, rfl, rfl, rfl, trivial⟩ (by simp [sayD]) ?_
  intro i hi
  have hlen : (O ++ sayD f T put (D.take i)).length ≤ O.length + i := by rw [List.length_append, sayD_len, List.length_take]; omega
  by_cases hil : i < D.length
  · have hsn : O ++ sayD f T put (D.take (i + 1)) = (O ++ sayD f T put (D.take i)) ++ [⟨f.e, f.a, f.v, T, put, (D[i]'hil).f, (D[i]'hil).t⟩] := by rw [sayD_take f T put hil, List.append_assoc]
    generalize O ++ sayD f T put (D.take i) = E at *
    repeat' first
      | (apply p1 (hd := rfl); case hop => first | (apply D_move; rfl) | (apply D_load1; rfl) | (apply D_fld; rfl) | (apply D_int; rfl; rfl; rfl) | (apply D_loadW; rfl; rfl) | (apply D_loadA; rfl; rfl) | (apply D_idxAn; rfl; rfl; (first | omega | (simp; done))) | (apply D_lit; rfl; rfl; rfl; rfl) | exact D_build rfl)
      | refine W_seq ?_
      | refine W_region ?_
      | (refine idC ?_; refine cs rfl (fun _ => ?_) (fun _ => ?_))
      | refine WL_nil ?_
      | refine tn ?_
      | refine bn ?_
      | refine te ?_
      | (refine idB ?_; refine bh rfl ?_)
      | refine W_skip ?_
      | refine W_block ?_
      | refine W_exit ?_
      | (refine idLd ?_; refine p1L (D_loadB1 rfl rfl rfl) rfl ?_)
      | (refine idA ?_; refine m_var rfl rfl rfl rfl rfl rfl rfl ?_)
      | (refine idS ?_; refine pS (S_store rfl rfl rfl rfl rfl rfl rfl) ?_)
      | (refine idAp ?_; refine m_appB rfl rfl rfl (by first | rfl | assumption | exact get_set (by assumption) | exact get_set (get_set (by assumption)) | exact get_set (get_set (get_set (by assumption))) | ((repeat first | assumption | exact get_last | (refine get_last2 ?_; focus (simp; done)) | apply get_set | apply get_app | (apply get_ne; focus omega)); done)) ?_ rfl rfl ?_ ?_ rfl ?_; (first | rfl | focus (simp only [List.length_map, List.length_append, List.length_cons, List.length_nil]; omega) | focus (simp; done) | focus (simp; omega)); (first | focus (simp only [List.length_map, List.length_append, List.length_cons, List.length_nil]; omega) | focus (simp; done) | focus (simp; omega)); (first | focus (simp only [List.length_map, List.length_append, List.length_cons, List.length_nil]; omega) | focus (simp; done) | focus (simp; omega)))
      | fail
    all_goals first
      | (exfalso; omega)
      | (refine ⟨rfl, i + 1, by omega, by omega, ⟨rfl, rfl, rfl, rfl, rfl, rfl, ieq (wsucc i (by omega)), trivial⟩, ?_⟩
         rw [hsn, hc_snoc]; rfl)
      | skip
    all_goals trace_state
  · have e : i = D.length := by omega
    subst e
    rw [List.take_length] at *
    repeat' first
      | (apply p1 (hd := rfl); case hop => first | (apply D_move; rfl) | (apply D_load1; rfl) | (apply D_fld; rfl) | (apply D_int; rfl; rfl; rfl) | (apply D_loadW; rfl; rfl) | (apply D_loadA; rfl; rfl) | (apply D_idxAn; rfl; rfl; (first | omega | (simp; done))) | (apply D_lit; rfl; rfl; rfl; rfl) | exact D_build rfl)
      | refine W_seq ?_
      | refine W_region ?_
      | (refine idC ?_; refine cs rfl (fun _ => ?_) (fun _ => ?_))
      | refine WL_nil ?_
      | refine tn ?_
      | refine bn ?_
      | refine te ?_
      | (refine idB ?_; refine bh rfl ?_)
      | refine W_skip ?_
      | refine W_block ?_
      | refine W_exit ?_
      | (refine idLd ?_; refine p1L (D_loadB1 rfl rfl rfl) rfl ?_)
      | (refine idA ?_; refine m_var rfl rfl rfl rfl rfl rfl rfl ?_)
      | (refine idS ?_; refine pS (S_store rfl rfl rfl rfl rfl rfl rfl) ?_)
      | (refine idAp ?_; refine m_appB rfl rfl rfl (by first | rfl | assumption | exact get_set (by assumption) | exact get_set (get_set (by assumption)) | exact get_set (get_set (get_set (by assumption))) | ((repeat first | assumption | exact get_last | (refine get_last2 ?_; focus (simp; done)) | apply get_set | apply get_app | (apply get_ne; focus omega)); done)) ?_ rfl rfl ?_ ?_ rfl ?_; (first | rfl | focus (simp only [List.length_map, List.length_append, List.length_cons, List.length_nil]; omega) | focus (simp; done) | focus (simp; omega)); (first | focus (simp only [List.length_map, List.length_append, List.length_cons, List.length_nil]; omega) | focus (simp; done) | focus (simp; omega)); (first | focus (simp only [List.length_map, List.length_append, List.length_cons, List.length_nil]; omega) | focus (simp; done) | focus (simp; omega)))
      | fail
    all_goals first
      | (exfalso; omega)
      | exact ret0 (.inr rfl) rfl rfl ⟨rfl, rfl⟩
      | exact ret0 (.inl rfl) rfl rfl ⟨rfl, rfl⟩
      | skip
    all_goals trace_state
end Go.Proofs

namespace Go.Proofs
open Go.AL Go.Sort
attribute [local irreducible] Go.AL.W Go.AL.WL Go.AL.WD Go.AL.POp Go.AL.PPOp Go.AL.POpS Go.AL.PC Go.AL.AC Go.AL.YW Go.AL.Ret Go.AL.Le Go.AL.thn Go.AL.inBlk Go.AL.scp
set_option maxHeartbeats 16000000 in
theorem changes_pc [GlobF Tryz.prog] (old now : List Fac) (T : Int) (ho : allF old) (hn : allF now) (hT1 : 1 ≤ T) (hT2 : T ≤ 1099511627776) (hol : old.length < 1759218604500) (hnl : now.length < 1759218604500) (hbo : bndG old) (hbn : bndG now)
    (h1 : ∀ f, f ∈ now → f.sp.length + (findL old f).length + 1 < 8796093022208) (h2 : ∀ f, f ∈ old → f.sp.length + (findL now f).length + 1 < 8796093022208) (hO : (chgL old now T).length * 80 ≤ 140737488355328) :
    PC Tryz.prog 14 [sl6 old, sl6 now, .sc (.int .i64 T)] (.tu [sl9 (dsortL 1 (chgL old now T)), .sc (.int .i64 0)]) := by
  have a1 := fall_pc old (by omega) hbo.f
  have a2 := fall_pc now (by omega) hbn.f
  rw [← dP_T ho] at a1
  rw [← dP_T hn] at a2
  have hs := dsort_pc 1 (chgL old now T) (by omega)
  have hlo : Value.bool (iLt T 1) = .bool false := by rw [(iLt_f _ _).mpr (by omega)]
  have hhi : Value.bool (iLt 1099511627776 T) = .bool false := by rw [(iLt_f _ _).mpr (by omega)]
  refine PC.of_body Tryz.func14 Tryz.ntmps14 rfl rfl rfl ?_
  repeat' first
    | (apply p1 (hd := rfl); case hop => first | (apply D_move; rfl) | (apply D_assign; rfl) | (apply D_pc a1; rfl; exact .same rfl .nil) | (apply D_pc a2; rfl; exact .same rfl .nil) | exact D_sc (D_int rfl rfl rfl) hlo | exact D_sc (D_int rfl rfl rfl) hhi | (apply D_load1; rfl) | (apply D_pickT; rfl; rfl) | (apply D_pickF; rfl; rfl) | (apply D_lenM; rfl) | (apply D_not; rfl) | (apply D_box; rfl; rfl) | exact D_mkfn rfl)
    | refine W_seq ?_
    | refine W_region ?_
    | (refine idC ?_; first | refine c1 rfl ?_ | refine c0 rfl ?_ | refine cs rfl (fun _ => ?_) (fun _ => ?_))
    | refine WL_nil ?_
    | (refine idG ?_; first | refine g0f rfl rfl rfl ?_ | refine gr rfl rfl ?_ | refine gs rfl rfl (fun _ => ?_) (fun _ => ?_))
    | refine tn ?_
    | refine tr ?_
    | refine W_skip ?_
    | refine W_block ?_
    | refine W_ret ?_
    | (refine idR ?_; refine ret2 rfl rfl rfl rfl ?_ ?_)
    | (refine idA ?_; refine m_alloc rfl ?_)
    | refine Le.int ?_
    | fail
  all_goals first | contradiction | (exfalso; omega) | skip
  refine W_adoptC 0 0 9 52 rfl rfl ?_
  have hp1 : ∀ i, (lessL (now.take i) old T true).length ≤ (lessL now old T true).length := fun i => by
    have h : lessL (now.take i ++ now.drop i) old T true = lessL (now.take i) old T true ++ lessL (now.drop i) old T true := by unfold lessL; rw [List.flatMap_append]
    rw [List.take_append_drop] at h; rw [h, List.length_append]; omega
  have hp2 : ∀ i, (lessL (old.take i) now T false).length ≤ (lessL old now T false).length := fun i => by
    have h : lessL (old.take i ++ old.drop i) now T false = lessL (old.take i) now T false ++ lessL (old.drop i) now T false := by unfold lessL; rw [List.flatMap_append]
    rw [List.take_append_drop] at h; rw [h, List.length_append]; omega
  have hOl : (chgL old now T).length = (lessL now old T true).length + (lessL old now T false).length := by unfold chgL; rw [List.length_append]
  refine W_loopL (X := Nat) (fun i => [(0, sl6 old), (1, sl6 now), (5, .ep [.sc (.int .i64 T)]), (8, .bp 0 0), (9, .fn (.func 38) [] [.bp 0 0, .ep [.sc (.int .i64 T)]]), (33, sl6 now), (34, .sc (.int .i64 (now.length : Int))), (35, .sc (.int .i64 (i : Int)))]) (fun i => HC (lessL (now.take i) old T true))
    (fun i => i ≤ now.length) (fun i => now.length - i) 0 (Nat.zero_le _) ⟨rfl, rfl, rfl, rfl, rfl, rfl, rfl, rfl, trivial⟩ rfl ?_
  intro i hi
  by_cases hil : i < now.length
  · have hsp := fspans_pc old (now[i]'hil) hol hbo
    rw [← dP_T ho, if_pos rfl, if_pos rfl] at hsp
    have hsn := lessL_take now old T true hil
    have hle := hp1 (i + 1)
    rw [hsn, List.length_append, sayD_len] at hle
    have hca := change1_ac (lessL (now.take i) old T true) (now[i]'hil) (now[i]'hil).sp (findL old (now[i]'hil)) true T (may_of hn (List.getElem_mem _)).2.2 (find_set ho _) (h1 _ (List.getElem_mem _)) (by have := h1 _ (List.getElem_mem hil); omega) (by show (_ + (minL _ _).length) * 80 ≤ _; omega)
    generalize findL old (now[i]'hil) = W at *
    repeat' first
      | (apply p1 (hd := rfl); case hop => first | (apply D_move; rfl) | (apply D_assign; rfl) | (apply D_pc hsp; rfl; exact .same rfl (.same rfl (.same rfl (.same rfl .nil)))) | (apply D_load1; rfl) | (apply D_fld; rfl) | (apply D_int; rfl; rfl; rfl) | (apply D_lenM; rfl) | (apply D_ext; rfl; rfl) | (apply D_loadW; rfl; rfl) | (apply D_loadA; rfl; rfl) | (apply D_idxAn; rfl; rfl; (first | omega | (simp; done))))
      | refine W_seq ?_
      | refine W_region ?_
      | (refine idC ?_; refine cs rfl (fun _ => ?_) (fun _ => ?_))
      | refine WL_nil ?_
      | refine tn ?_
      | refine bn ?_
      | refine te ?_
      | (refine idB ?_; refine bh rfl ?_)
      | refine W_skip ?_
      | refine W_block ?_
      | refine W_exit ?_
      | (refine idA ?_; refine m_var rfl rfl rfl rfl rfl rfl rfl ?_)
      | (refine m_callC (d := 55) hca rfl rfl rfl rfl ?_; rintro _ _ ⟨rfl, rfl⟩)
      | fail
    all_goals first
      | (exfalso; omega)
      | (refine ⟨rfl, i + 1, by omega, by omega, ⟨rfl, rfl, rfl, rfl, rfl, rfl, rfl, ieq (wsucc i (by omega)), trivial⟩, ?_⟩
         first | exact congrArg HC hsn | exact (congrArg HC hsn).symm)
      | skip
    all_goals trace_state
  · have e : i = now.length := by omega
    subst e
    rw [List.take_length]
    repeat' first
      | (apply p1 (hd := rfl); case hop => first | (apply D_move; rfl) | (apply D_load1; rfl) | (apply D_fld; rfl) | (apply D_int; rfl; rfl; rfl) | (apply D_lenM; rfl) | (apply D_loadW; rfl; rfl) | (apply D_loadA; rfl; rfl) | (apply D_idxAn; rfl; rfl; (first | omega | (simp; done))))
      | refine W_seq ?_
      | refine W_region ?_
      | (refine idC ?_; refine cs rfl (fun _ => ?_) (fun _ => ?_))
      | refine WL_nil ?_
      | refine tn ?_
      | refine te ?_
      | (refine idB ?_; refine bh rfl ?_)
      | refine W_skip ?_
      | refine W_block ?_
      | refine W_exit ?_
      | (refine idA ?_; refine m_var rfl rfl rfl rfl rfl rfl rfl ?_)
      | fail
    all_goals first
      | (exfalso; omega)
      | skip
    refine W_loopL (X := Nat) (fun i => [(0, sl6 old), (1, sl6 now), (5, .ep [.sc (.int .i64 T)]), (8, .bp 0 0), (9, .fn (.func 38) [] [.bp 0 0, .ep [.sc (.int .i64 T)]]), (57, sl6 old), (58, .sc (.int .i64 (old.length : Int))), (59, .sc (.int .i64 (i : Int)))]) (fun i => HC (lessL now old T true ++ lessL (old.take i) now T false))
      (fun i => i ≤ old.length) (fun i => old.length - i) 0 (Nat.zero_le _) ⟨rfl, rfl, rfl, rfl, rfl, rfl, rfl, rfl, trivial⟩ (by simp [lessL]) ?_
    intro i hi
    by_cases hil : i < old.length
    · have hsp := fspans_pc now (old[i]'hil) hnl hbn
      rw [← dP_T hn, if_pos rfl, if_pos rfl] at hsp
      have hsn : lessL now old T true ++ lessL (old.take (i + 1)) now T false = (lessL now old T true ++ lessL (old.take i) now T false) ++ sayD (old[i]'hil) T false (minL (old[i]'hil).sp (findL now (old[i]'hil))) := by rw [lessL_take old now T false hil, List.append_assoc]
      have hle := hp2 (i + 1)
      rw [lessL_take old now T false hil, List.length_append, sayD_len] at hle
      have hca := change1_ac (lessL now old T true ++ lessL (old.take i) now T false) (old[i]'hil) (old[i]'hil).sp (findL now (old[i]'hil)) false T (may_of ho (List.getElem_mem _)).2.2 (find_set hn _) (h2 _ (List.getElem_mem _)) (by have := h2 _ (List.getElem_mem hil); omega) (by show (_ + (minL _ _).length) * 80 ≤ _; rw [List.length_append]; omega)
      generalize findL now (old[i]'hil) = W at *
      repeat' first
        | (apply p1 (hd := rfl); case hop => first | (apply D_move; rfl) | (apply D_assign; rfl) | (apply D_pc hsp; rfl; exact .same rfl (.same rfl (.same rfl (.same rfl .nil)))) | (apply D_load1; rfl) | (apply D_fld; rfl) | (apply D_int; rfl; rfl; rfl) | (apply D_ext; rfl; rfl) | (apply D_loadW; rfl; rfl) | (apply D_loadA; rfl; rfl) | (apply D_idxAn; rfl; rfl; (first | omega | (simp; done))))
        | refine W_seq ?_
        | refine W_region ?_
        | (refine idC ?_; refine cs rfl (fun _ => ?_) (fun _ => ?_))
        | refine WL_nil ?_
        | refine tn ?_
        | refine bn ?_
        | refine te ?_
        | (refine idB ?_; refine bh rfl ?_)
        | refine W_skip ?_
        | refine W_block ?_
        | refine W_exit ?_
        | (refine idLd ?_; refine p1L (D_loadB1 rfl rfl rfl) rfl ?_)
        | (refine idA ?_; refine m_var rfl rfl rfl rfl rfl rfl rfl ?_)
        | (refine m_callC (d := 79) hca rfl rfl rfl rfl ?_; rintro _ _ ⟨rfl, rfl⟩)
        | fail
      all_goals first
        | (exfalso; omega)
        | (refine ⟨rfl, i + 1, by omega, by omega, ⟨rfl, rfl, rfl, rfl, rfl, rfl, rfl, ieq (wsucc i (by omega)), trivial⟩, ?_⟩
           first | exact congrArg HC hsn | exact (congrArg HC hsn).symm)
        | skip
      all_goals trace_state
    · have e : i = old.length := by omega
      subst e
      rw [List.take_length]
      have hcg : lessL now old T true ++ lessL old now T false = chgL old now T := rfl
      rw [hcg]
      generalize chgL old now T = CH at *
      repeat' first
        | (apply p1 (hd := rfl); case hop => first | (apply D_move; rfl) | (apply D_assign; rfl) | (apply D_pc hs; rfl; exact .same rfl (.tok rfl .nil)) | (apply D_load1; rfl) | (apply D_fld; rfl) | (apply D_int; rfl; rfl; rfl) | (apply D_loadW; rfl; rfl) | (apply D_loadA; rfl; rfl) | (apply D_idxAn; rfl; rfl; (first | omega | (simp; done))))
        | refine W_seq ?_
        | refine W_region ?_
        | (refine idC ?_; refine cs rfl (fun _ => ?_) (fun _ => ?_))
        | refine WL_nil ?_
        | refine tn ?_
        | refine te ?_
        | (refine idB ?_; refine bh rfl ?_)
        | refine W_skip ?_
        | refine W_block ?_
        | refine W_exit ?_
        | refine W_ret ?_
        | (refine idR ?_; refine ret2 rfl rfl rfl rfl ?_ ?_)
        | (refine idLd ?_; refine p1L (D_loadB1 rfl rfl rfl) rfl ?_)
        | (refine idA ?_; refine m_var rfl rfl rfl rfl rfl rfl rfl ?_)
        | refine Le.int ?_
        | fail
      all_goals first
        | (exfalso; omega)
        | exact Le.of_eq rfl
        | rfl
        | skip
      all_goals trace_state
set_option maxHeartbeats 8000000 in
theorem changesN_pc [GlobF Tryz.prog] (old now : List Fac) (T : Int) (h : ¬ (allF old ∧ allF now)) (hol : old.length < 1759218604500) (hnl : now.length < 1759218604500) (hbo : bndG old) (hbn : bndG now) :
    PC Tryz.prog 14 [sl6 old, sl6 now, .sc (.int .i64 T)] (.tu [sl9 [], .sc (.int .i64 60)]) := by
  have a1 := fall_pc old (by omega) hbo.f
  have a2 := fall_pc now (by omega) hbn.f
  refine PC.of_body Tryz.func14 Tryz.ntmps14 rfl rfl rfl ?_
  cases x1 : dP (allF old) <;> cases x2 : dP (allF now) <;> rw [x1] at a1 <;> rw [x2] at a2
  case true.true => exact absurd ⟨dP_t.mp x1, dP_t.mp x2⟩ h
  all_goals
    repeat' first
      | (apply p1 (hd := rfl); case hop => first | (apply D_move; rfl) | (apply D_assign; rfl) | (apply D_pc a1; rfl; exact .same rfl .nil) | (apply D_pc a2; rfl; exact .same rfl .nil) | (apply D_load1; rfl) | (apply D_pickT; rfl; rfl) | (apply D_pickF; rfl; rfl) | (apply D_int; rfl; rfl; rfl) | (apply D_lenM; rfl) | (apply D_not; rfl) | (apply D_box; rfl; rfl) | exact D_mkfn rfl)
      | refine W_seq ?_
      | refine W_region ?_
      | (refine idC ?_; first | refine c1 rfl ?_ | refine cs rfl (fun _ => ?_) (fun _ => ?_))
      | refine WL_nil ?_
      | (refine idG ?_; first | refine g0f rfl rfl rfl ?_ | refine gr rfl rfl ?_ | refine gs rfl rfl (fun _ => ?_) (fun _ => ?_))
      | refine tn ?_
      | refine tr ?_
      | refine W_skip ?_
      | refine W_block ?_
      | refine W_ret ?_
      | (refine idR ?_; refine ret2 rfl rfl rfl rfl ?_ ?_)
      | (refine idA ?_; refine m_alloc rfl ?_)
      | refine Le.int ?_
      | fail
  all_goals first | contradiction | exact Le.nil rfl | rfl | (exfalso; omega) | skip
  all_goals trace_state
set_option maxHeartbeats 8000000 in
theorem changesA_pc [GlobF Tryz.prog] (old now : List Fac) (T : Int) (ho : allF old) (hn : allF now) (hT : ¬ (1 ≤ T ∧ T ≤ 1099511627776)) (hol : old.length < 1759218604500) (hnl : now.length < 1759218604500) (hbo : bndG old) (hbn : bndG now) :
    PC Tryz.prog 14 [sl6 old, sl6 now, .sc (.int .i64 T)] (.tu [sl9 [], .sc (.int .i64 2)]) := by
  have a1 := fall_pc old (by omega) hbo.f
  have a2 := fall_pc now (by omega) hbn.f
  rw [← dP_T ho] at a1
  rw [← dP_T hn] at a2
  refine PC.of_body Tryz.func14 Tryz.ntmps14 rfl rfl rfl ?_
  repeat' first
    | (apply p1 (hd := rfl); case hop => first | (apply D_move; rfl) | (apply D_assign; rfl) | (apply D_pc a1; rfl; exact .same rfl .nil) | (apply D_pc a2; rfl; exact .same rfl .nil) | (apply D_load1; rfl) | (apply D_pickT; rfl; rfl) | (apply D_pickF; rfl; rfl) | (apply D_int; rfl; rfl; rfl) | (apply D_lenM; rfl) | (apply D_not; rfl) | (apply D_box; rfl; rfl) | exact D_mkfn rfl)
    | refine W_seq ?_
    | refine W_region ?_
    | (refine idC ?_; first | refine c1 rfl ?_ | refine cs rfl (fun _ => ?_) (fun _ => ?_))
    | refine WL_nil ?_
    | (refine idG ?_; first | refine g0f rfl rfl rfl ?_ | refine gr rfl rfl ?_ | refine gs rfl rfl (fun _ => ?_) (fun _ => ?_))
    | refine tn ?_
    | refine tr ?_
    | refine W_skip ?_
    | refine W_block ?_
    | refine W_ret ?_
    | (refine idR ?_; refine ret2 rfl rfl rfl rfl ?_ ?_)
    | (refine idA ?_; refine m_alloc rfl ?_)
    | refine Le.int ?_
    | fail
  all_goals first | contradiction | exact Le.nil rfl | rfl | (exfalso; omega) | (exfalso; apply hT; omega) | skip
  all_goals trace_state
end Go.Proofs

namespace Go.Proofs
open Go.AL Go.Sort
attribute [local irreducible] Go.AL.W Go.AL.WL Go.AL.WD Go.AL.POp Go.AL.PPOp Go.AL.POpS Go.AL.PC Go.AL.AC Go.AL.YW Go.AL.Ret Go.AL.Le Go.AL.thn Go.AL.inBlk Go.AL.scp
theorem lessL_len (b : List Fac) (T : Int) (put : Bool) (K : Nat) : ∀ (a : List Fac), (∀ f, f ∈ a → (minL f.sp (findL b f)).length ≤ K) → (lessL a b T put).length ≤ a.length * K
  | [], _ => Nat.zero_le _
  | f :: a, h => by
    have h1 := h f List.mem_cons_self
    have h2 := lessL_len b T put K a fun g hg => h g (List.mem_cons_of_mem _ hg)
    have e : lessL (f :: a) b T put = sayD f T put (minL f.sp (findL b f)) ++ lessL a b T put := by unfold lessL; rw [List.flatMap_cons]
    rw [e, List.length_append, sayD_len, List.length_cons, Nat.succ_mul]; omega
theorem wtF_sl {l : List Fac} (hw : (l.map wtF).sum ≤ 1048576) : l.length ≤ 1048576 ∧ bndG l := by
  have h1 := sum_len (f := wtF) 1 (l := l) fun a _ => by show 1 ≤ 1 + _ + _; omega
  refine ⟨by omega, fun d hd => ?_⟩
  have h2 : 1 + d.v.s.length + d.sp.length ≤ _ := sum_mem (f := wtF) hd
  omega
end Go.Proofs

namespace Go.Proofs
open Go.AL Go.Sort
attribute [local irreducible] Go.AL.W Go.AL.WL Go.AL.WD Go.AL.POp Go.AL.PPOp Go.AL.POpS Go.AL.PC Go.AL.AC Go.AL.YW Go.AL.Ret Go.AL.Le Go.AL.thn Go.AL.inBlk Go.AL.scp
theorem chg_sl {old now : List Fac} {T : Int} (ho : allF old) (hn : allF now) (ro : rngF old) (rn : rngF now) : ∀ d, d ∈ chgL old now T → d.v.s.length < 9223372036854775808 := fun d hd => by
  unfold chgL at hd
  have hm : dmayP ⟨d.e, d.a, d.v, 1, false, d.fr, d.to⟩ := by
    rcases List.mem_append.1 hd with h | h
    · exact (less_cov hn ho rn ro h).2.2.1
    · exact (less_cov ho hn ro rn h).2.2.1
  unfold dmayP at hm
  have hm : mayB d.v = true := hm.2.2.2.2.1
  unfold mayB at hm; rw [dP_t] at hm
  rcases hm with ⟨_, _, _, h⟩ | ⟨_, h⟩ | ⟨_, h, _⟩ | ⟨_, _, h⟩ | ⟨_, _, h⟩
  · rw [h]; decide
  · rw [h]; decide
  · rw [h]; decide
  · omega
  · unfold WordP at h; omega
noncomputable def chV (old now : List Fac) (T : Int) : List Dat := if dP (allF old ∧ allF now) && dP (1 ≤ T ∧ T ≤ 1099511627776) then dsortL 1 (chgL old now T) else []
noncomputable def chE (old now : List Fac) (T : Int) : Int := if dP (allF old ∧ allF now) then (if dP (1 ≤ T ∧ T ≤ 1099511627776) then 0 else 2) else 60
theorem both_changes [GlobF Tryz.prog] (old now : List Fac) (T : Int) (ro : rngF old) (rn : rngF now) (hol : old.length ≤ 150) (hnl : now.length ≤ 150) (hbo : bndG old) (hbn : bndG now) (hso : ∀ f, f ∈ old → f.sp.length ≤ 750) (hsn : ∀ f, f ∈ now → f.sp.length ≤ 750) :
    PC Tryz.prog 14 [sl6 old, sl6 now, .sc (.int .i64 T)] (.tu [sl9 (chV old now T), .sc (.int .i64 (chE old now T))]) ∧ PC Tryz.prog 15 [sl6 old, sl6 now, .sc (.int .i64 T)] (.tu [sl9 (chV old now T), .sc (.int .i64 (chE old now T))]) ∧ (chV old now T).length ≤ 450300 := by
  unfold chV chE
  by_cases h : allF old ∧ allF now
  · rw [← dP_T h]
    obtain ⟨ho, hn⟩ := h
    by_cases hT : 1 ≤ T ∧ T ≤ 1099511627776
    · rw [← dP_T hT]
      simp only [Bool.and_self, if_true]
      have k1 : ∀ f, f ∈ now → f.sp.length + (findL old f).length + 1 ≤ 1501 := fun f hf => by
        have h1 := hsn f hf
        have h2 := findL_len (n := 750) f hso
        omega
      have k2 : ∀ f, f ∈ old → f.sp.length + (findL now f).length + 1 ≤ 1501 := fun f hf => by
        have h1 := hso f hf
        have h2 := findL_len (n := 750) f hsn
        omega
      have hcl : (chgL old now T).length ≤ 450300 := by
        have h1 := lessL_len old T true 1501 now fun f hf => by have := min_len f.sp (findL old f); have := k1 f hf; omega
        have h2 := lessL_len now T false 1501 old fun f hf => by have := min_len f.sp (findL now f); have := k2 f hf; omega
        have h3 : now.length * 1501 ≤ 150 * 1501 := Nat.mul_le_mul_right _ hnl
        have h4 : old.length * 1501 ≤ 150 * 1501 := Nat.mul_le_mul_right _ hol
        unfold chgL; rw [List.length_append]; omega
      exact ⟨changes_pc old now T ho hn hT.1 hT.2 (by omega) (by omega) hbo hbn (fun f hf => by have := k1 f hf; omega) (fun f hf => by have := k2 f hf; omega) (by omega),
        rchanges_pc old now T ho hn ro rn hT.1 hT.2 (by omega) (by omega) hbo hbn (fun f hf => by have := k1 f hf; omega) (fun f hf => by have := k2 f hf; omega) (by omega) (chg_sl ho hn ro rn), Nat.le_trans (dsortL_len _ _) hcl⟩
    · rw [← dP_F hT]
      simp only [Bool.and_false, if_true, Bool.false_eq_true, if_false]
      exact ⟨changesA_pc old now T ho hn hT (by omega) (by omega) hbo hbn, rchangesA_pc old now T ho hn hT (by omega) (by omega) hbo hbn, Nat.zero_le _⟩
  · rw [← dP_F h]
    simp only [Bool.false_and, Bool.false_eq_true, if_false]
    exact ⟨changesN_pc old now T h (by omega) (by omega) hbo hbn, rchangesN_pc old now T h (by omega) (by omega) hbo hbn, Nat.zero_le _⟩
def pickF (now : List Fac) (n : Int) : Fac := if h : 0 ≤ n ∧ n < now.length then now[n.toNat]'(by omega) else ⟨0, 0, ⟨0, 0, []⟩, []⟩
set_option maxHeartbeats 64000000 in
theorem factsTell_pc [GlobF Tryz.prog] (old now : List Fac) (n at_ T : Int) (hwo : (old.map wtF).sum ≤ 1048576) (hwn : (now.map wtF).sum ≤ 1048576) (ro : rngF old) (rn : rngF now) :
    PC Tryz.prog 3 [sl6 old, sl6 now, .sc (.int .i64 n), .sc (.int .i64 at_), .sc (.int .i64 T)] (.sc (.bool true)) := by
  obtain ⟨hol, hbo⟩ := wtF_sl hwo
  obtain ⟨hnl, hbn⟩ := wtF_sl hwn
  have g1 := rgreat6_pc old hwo
  have g2 := rgreat6_pc now hwn
  have h00 : Value.bool (iLt 0 0) = .bool false := by rw [(iLt_f _ _).mpr (by omega)]
  have h01 : Value.bool (iLt 0 1) = .bool true := by rw [(iLt_t _ _).mpr (by omega)]
  refine PC.of_body Tryz.func3 Tryz.ntmps3 rfl rfl rfl ?_
  by_cases c1 : 3000 < gr6 old
  · rw [if_pos c1] at g1
    repeat' first
      | (apply p1 (hd := rfl); case hop => first | (apply D_move; rfl) | (apply D_assign; rfl) | (apply D_pc g1; rfl; exact .same rfl .nil) | exact D_sc (D_int rfl rfl rfl) h01 | (apply D_pickT; rfl; rfl))
      | refine W_seq ?_
      | refine W_region ?_
      | (refine idC ?_; refine cs rfl (fun _ => ?_) (fun _ => ?_))
      | refine WL_nil ?_
      | (refine idG ?_; refine g0f rfl rfl rfl ?_)
      | refine tn ?_
      | refine tr ?_
      | refine W_skip ?_
      | refine W_ret ?_
      | (refine idR ?_; refine ret1 rfl rfl rfl ?_)
      | refine Le.bool ?_
      | fail
    all_goals first | rfl | contradiction | (exfalso; omega) | skip
    all_goals trace_state
  rw [if_neg c1] at g1
  by_cases c2 : 3000 < gr6 now
  · rw [if_pos c2] at g2
    repeat' first
      | (apply p1 (hd := rfl); case hop => first | (apply D_move; rfl) | (apply D_assign; rfl) | (apply D_pc g1; rfl; exact .same rfl .nil) | (apply D_pc g2; rfl; exact .same rfl .nil) | exact D_sc (D_int rfl rfl rfl) h00 | exact D_sc (D_int rfl rfl rfl) h01 | (apply D_pickF; rfl; rfl))
      | refine W_seq ?_
      | refine W_region ?_
      | (refine idC ?_; refine cs rfl (fun _ => ?_) (fun _ => ?_))
      | refine WL_nil ?_
      | (refine idG ?_; refine gr rfl rfl ?_)
      | refine tn ?_
      | refine tr ?_
      | refine W_skip ?_
      | refine W_ret ?_
      | (refine idR ?_; refine ret1 rfl rfl rfl ?_)
      | refine Le.bool ?_
      | fail
    all_goals first | rfl | contradiction | (exfalso; omega) | skip
    all_goals trace_state
  rw [if_neg c2] at g2
  obtain ⟨o1, o2⟩ := gr6_few c1
  obtain ⟨n1, n2⟩ := gr6_few c2
  have q1 := rmay_pc old (by omega) hbo.f
  have q2 := fcheck_pc old (by omega) hbo.f
  have q3 := fat_pc old at_ (by omega) hbo
  have q4 := rat_pc old at_ (by omega) hbo.f
  obtain ⟨q5, q6, q7⟩ := both_changes old now T ro rn o1 n1 hbo hbn (fun f hf => (o2 f hf).1) (fun f hf => (n2 f hf).1)
  have x1 := fspans_pc old (pickF now n) (by omega) hbo
  have x2 := rspans_pc old (pickF now n) (by omega) hbo.f
  have hA : (if dP (allF old) then atL old at_ else []).length ≤ old.length ∧ ∀ f, f ∈ (if dP (allF old) then atL old at_ else []) → f.sp.length ≤ 750 := by
    split
    · exact ⟨List.length_filter_le _ _, fun f hf => (o2 f (List.mem_filter.1 hf).1).1⟩
    · exact ⟨Nat.zero_le _, fun f hf => by simp at hf⟩
  have s1 := fsame_pc (if dP (allF old) then atL old at_ else []) (if dP (allF old) then atL old at_ else []) (by omega) (fun f hf => by have := hA.2 f hf; omega)
  have s2 := dsame_pc (chV old now T) (chV old now T) (by omega)
  have hS : (if dP (allF old) then findL old (pickF now n) else []).length ≤ 750 := by
    split
    · exact findL_len _ (fun f hf => (o2 f hf).1)
    · exact Nat.zero_le _
  have s3 := ssame_pc (if dP (allF old) then findL old (pickF now n) else []) (if dP (allF old) then findL old (pickF now n) else []) (by omega)
  rw [← dP_T rfl] at s1 s3
  rw [decide_eq_true rfl] at s2
  generalize (if dP (allF old) then atL old at_ else []) = A at *
  generalize (if dP (allF old) then findL old (pickF now n) else []) = B at *
  generalize chV old now T = C at *
  generalize chE old now T = ec at *
  have hec : Value.bool (bNot (iEq ec ec)) = .bool false := by rw [(iEq_t _ _).mpr rfl]; simp [bNot]
  have b1 : Value.bool (bNot (bEq true true)) = .bool false := by rw [(bEq_t _ _).mpr rfl]; simp [bNot]
  have b2 : Value.bool (bNot (bEq false false)) = .bool false := by rw [(bEq_t _ _).mpr rfl]; simp [bNot]
  have hnt : Value.bool (bNot true) = .bool false := by simp [bNot]
  have hnf : Value.bool (bNot false) = .bool true := by simp [bNot]
  have z0 : Value.bool (iEq 0 0) = .bool true := by rw [(iEq_t _ _).mpr rfl]
  have z6 : Value.bool (iEq 60 0) = .bool false := by rw [(iEq_f _ _).mpr (by decide)]
  have z7 : Value.bool (iEq 60 60) = .bool true := by rw [(iEq_t _ _).mpr rfl]
  have m0 : Value.bool (bNot (iEq 0 0)) = .bool false := by rw [(iEq_t _ _).mpr rfl]; exact hnt
  have m7 : Value.bool (bNot (iEq 60 60)) = .bool false := by rw [(iEq_t _ _).mpr rfl]; exact hnt
  by_cases hp : 0 ≤ n ∧ n < now.length
  · have hpk : pickF now n = now[n.toNat]'(by omega) := by unfold pickF; rw [dif_pos hp]
    rw [hpk] at x1 x2
    have p1_ : Value.bool (iLe 0 n) = .bool true := by rw [(iLe_t _ _).mpr hp.1]
    have p2_ : Value.bool (iLt n now.length) = .bool true := by rw [(iLt_t _ _).mpr hp.2]
    cases hd : dP (allF old) <;> rw [hd] at q1 q2 q3 q4 x1 x2
    all_goals
      simp only [if_true, Bool.false_eq_true, if_false] at q2 q3 q4 x1 x2
      repeat' first
        | (refine m_alloc (t := 42) rfl ?_)
        | (apply p1 (hd := rfl); case hop => first | (apply D_move; rfl) | (apply D_assign; rfl) | (apply D_pc g1; rfl; exact .same rfl .nil) | (apply D_pc g2; rfl; exact .same rfl .nil) | exact D_sc (D_int rfl rfl rfl) h00 | (apply D_pc q1; rfl; exact .same rfl .nil) | (apply D_pc q2; rfl; exact .same rfl .nil) | (apply D_pc q3; rfl; exact .same rfl (.same rfl .nil)) | (apply D_pc q4; rfl; exact .same rfl (.same rfl .nil)) | (apply D_pc q5; rfl; exact .same rfl (.same rfl (.same rfl .nil))) | (apply D_pc q6; rfl; exact .same rfl (.same rfl (.same rfl .nil))) | (apply D_pc s1; rfl; exact .same rfl (.same rfl .nil)) | (apply D_pc s2; rfl; exact .same rfl (.same rfl .nil)) | (apply D_pc s3; rfl; exact .same rfl (.same rfl .nil)) | (apply D_pc x1; rfl; exact .same rfl (.same rfl (.same rfl (.same rfl .nil)))) | (apply D_pc x2; rfl; exact .same rfl (.same rfl (.same rfl (.same rfl .nil)))) | exact D_sc (D_int rfl rfl rfl) hec | exact D_sc (D_int rfl rfl rfl) z0 | exact D_sc (D_int rfl rfl rfl) z6 | exact D_sc (D_int rfl rfl rfl) z7 | exact D_sc (D_int rfl rfl rfl) m0 | exact D_sc (D_int rfl rfl rfl) m7 | exact D_sc (D_bne rfl rfl) b1 | exact D_sc (D_bne rfl rfl) b2 | exact D_sc (D_not rfl) hnt | exact D_sc (D_not rfl) hnf | exact D_sc (D_int rfl rfl rfl) p1_ | exact D_sc (D_int rfl rfl rfl) p2_ | (apply D_pickT; rfl; rfl) | (apply D_pickF; rfl; rfl) | (apply D_lenM; rfl) | (apply D_ext; rfl; rfl) | (apply D_loadW; rfl; rfl) | (apply D_idxA; rfl; rfl; omega; (first | omega | (simp; done) | (simp; omega))) | exact D_build rfl | exact D_fldB rfl)
        | refine W_seq ?_
        | refine W_region ?_
        | (refine idC ?_; first | refine c0 rfl ?_ | refine cs rfl (fun _ => ?_) (fun _ => ?_))
        | refine WL_nil ?_
        | (refine idG ?_; first | refine g0t rfl rfl rfl ?_ | refine gr rfl rfl ?_)
        | refine tn ?_
        | refine W_skip ?_
        | refine W_ret ?_
        | (refine idR ?_; refine ret1 rfl rfl rfl ?_)
        | (refine idLd ?_; first | refine p1L (D_loadB1 rfl rfl rfl) rfl ?_ | refine p1L (D_loadBA rfl rfl rfl) rfl ?_)
        | (refine idS ?_; refine pS (S_store rfl rfl rfl rfl rfl rfl rfl) ?_)
        | refine Le.bool ?_
        | fail
    all_goals first | rfl | contradiction | (exfalso; omega) | skip
    all_goals trace_state
  · have hpk : pickF now n = ⟨0, 0, ⟨0, 0, []⟩, []⟩ := by unfold pickF; rw [dif_neg hp]
    rw [hpk] at x1 x2
    cases hd : dP (allF old) <;> rw [hd] at q1 q2 q3 q4 x1 x2
    all_goals
      simp only [if_true, Bool.false_eq_true, if_false] at q2 q3 q4 x1 x2
      repeat' first
        | (refine m_alloc (t := 42) rfl ?_)
        | (apply p1 (hd := rfl); case hop => first | (apply D_move; rfl) | (apply D_assign; rfl) | (apply D_pc g1; rfl; exact .same rfl .nil) | (apply D_pc g2; rfl; exact .same rfl .nil) | exact D_sc (D_int rfl rfl rfl) h00 | (apply D_pc q1; rfl; exact .same rfl .nil) | (apply D_pc q2; rfl; exact .same rfl .nil) | (apply D_pc q3; rfl; exact .same rfl (.same rfl .nil)) | (apply D_pc q4; rfl; exact .same rfl (.same rfl .nil)) | (apply D_pc q5; rfl; exact .same rfl (.same rfl (.same rfl .nil))) | (apply D_pc q6; rfl; exact .same rfl (.same rfl (.same rfl .nil))) | (apply D_pc s1; rfl; exact .same rfl (.same rfl .nil)) | (apply D_pc s2; rfl; exact .same rfl (.same rfl .nil)) | (apply D_pc s3; rfl; exact .same rfl (.same rfl .nil)) | (apply D_pc x1; rfl; exact .same rfl (.same rfl (.same rfl (.same rfl .nil)))) | (apply D_pc x2; rfl; exact .same rfl (.same rfl (.same rfl (.same rfl .nil)))) | exact D_sc (D_int rfl rfl rfl) hec | exact D_sc (D_int rfl rfl rfl) z0 | exact D_sc (D_int rfl rfl rfl) z6 | exact D_sc (D_int rfl rfl rfl) z7 | exact D_sc (D_int rfl rfl rfl) m0 | exact D_sc (D_int rfl rfl rfl) m7 | exact D_sc (D_bne rfl rfl) b1 | exact D_sc (D_bne rfl rfl) b2 | exact D_sc (D_not rfl) hnt | exact D_sc (D_not rfl) hnf | (apply D_pickT; rfl; rfl) | (apply D_pickF; rfl; rfl) | (apply D_int; rfl; rfl; rfl) | (apply D_lenM; rfl) | (apply D_ext; rfl; rfl) | (apply D_loadW; rfl; rfl) | (apply D_idxA; rfl; rfl; omega; (first | omega | (simp; done) | (simp; omega))) | exact D_build rfl | exact D_fldB rfl)
        | refine W_seq ?_
        | refine W_region ?_
        | (refine idC ?_; first | refine c0 rfl ?_ | refine cs rfl (fun _ => ?_) (fun _ => ?_))
        | refine WL_nil ?_
        | (refine idG ?_; first | refine g0t rfl rfl rfl ?_ | refine gr rfl rfl ?_ | refine gs rfl rfl (fun _ => ?_) (fun _ => ?_))
        | refine tn ?_
        | refine W_skip ?_
        | refine W_ret ?_
        | (refine idR ?_; refine ret1 rfl rfl rfl ?_)
        | (refine idLd ?_; first | refine p1L (D_loadB1 rfl rfl rfl) rfl ?_ | refine p1L (D_loadBA rfl rfl rfl) rfl ?_)
        | (refine idS ?_; refine pS (S_store rfl rfl rfl rfl rfl rfl rfl) ?_)
        | refine Le.bool ?_
        | fail
    all_goals first | rfl | contradiction | (exfalso; omega) | (exfalso; apply hp; omega) | skip
    all_goals trace_state
end Go.Proofs
