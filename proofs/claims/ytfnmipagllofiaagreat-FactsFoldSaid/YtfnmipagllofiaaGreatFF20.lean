/- The statement FactsFold: what the code does. -/
import Derived.Test.YtfnmipagllofiaaGreatFF19
namespace Go.Proofs
open Go.AL Go.Sort
attribute [local irreducible] Go.AL.W Go.AL.WL Go.AL.WD Go.AL.POp Go.AL.PPOp Go.AL.POpS Go.AL.PC Go.AL.AC Go.AL.YW Go.AL.Ret Go.AL.Le Go.AL.thn Go.AL.inBlk Go.AL.scp
set_option maxHeartbeats 32000000 in
theorem factsFold_pc [GlobF Tryz.prog] (l : List Dat) (v : Vw) (hl : l.length * 80 ≤ 140737488355328) (hsl : ∀ d, d ∈ l → d.v.s.length < 9223372036854775808) (hrg : rgD l) :
    PC Tryz.prog 5 [sl9 l, eW v] (.sc (.bool true)) := by
  have hg := great_pc l (by omega)
  by_cases c1 : 4000 < grS 0 l
  · rw [if_pos c1] at hg
    refine PC.of_body Tryz.func5 Tryz.ntmps5 rfl rfl rfl ?_
    repeat' first
      | (apply p1 (hd := rfl); case hop => first | (apply D_move; rfl) | (apply D_assign; rfl) | (apply D_pc hg; rfl; exact .same rfl .nil) | (apply D_int; rfl; rfl; rfl) | (apply D_box; rfl; rfl) | (apply D_lit; rfl; rfl; rfl; rfl))
      | refine W_seq ?_
      | refine W_region ?_
      | (refine idC ?_; refine cs rfl (fun _ => ?_) (fun _ => ?_))
      | refine WL_nil ?_
      | refine tn ?_
      | refine tr ?_
      | refine W_skip ?_
      | refine W_ret ?_
      | (refine idR ?_; refine ret1 rfl rfl rfl ?_)
      | refine Le.bool ?_
      | fail
    all_goals first | rfl | contradiction | (exfalso; omega) | skip
    all_goals trace_state
  rw [if_neg c1] at hg
  have q1 := fold_pc l (by omega) hsl hrg
  have q2 := rfold_pc l (by omega) hsl hrg
  have q3 := vdat_pc l v (by omega)
  have q4 := rdatoms_pc l v hl hsl
  have q5 := vof_pc l v (by omega) hsl hrg
  have q6 := rof_pc l v hl hsl hrg
  obtain ⟨a1, a2⟩ := foldR_len l
  have s1 := fsame_pc ((foldR l).getD []) ((foldR l).getD []) (by omega) (fun f hf => by have := a2 f hf; omega)
  have hvl : (if dP (vwP v) then vdatL l v else []).length ≤ l.length := by
    split
    · exact vdat_len l v
    · exact Nat.zero_le _
  have s2 := dsame_pc (if dP (vwP v) then vdatL l v else []) (if dP (vwP v) then vdatL l v else []) (by omega)
  have hvf : (vofF l v).length ≤ l.length ∧ ∀ f, f ∈ vofF l v → f.sp.length ≤ 2 * l.length := by
    unfold vofF vofL
    split
    · obtain ⟨b1, b2⟩ := foldR_len (vdatL l v)
      have b3 := vdat_len l v
      cases hF : foldR (vdatL l v) with
      | none => exact ⟨Nat.zero_le _, fun f hf => by simp at hf⟩
      | some F =>
        rw [hF] at b1 b2
        have b1 : F.length ≤ (vdatL l v).length := b1
        have b2 : ∀ f, f ∈ F → f.sp.length ≤ 2 * (vdatL l v).length := b2
        show (if v.one then atL F v.at_ else F).length ≤ l.length ∧ ∀ f, f ∈ (if v.one then atL F v.at_ else F) → f.sp.length ≤ 2 * l.length
        split
        · have b4 : (atL F v.at_).length ≤ F.length := List.length_filter_le _ _
          exact ⟨by omega, fun f hf => by have := b2 f (List.mem_filter.1 hf).1; omega⟩
        · exact ⟨by omega, fun f hf => by have := b2 f hf; omega⟩
    · exact ⟨Nat.zero_le _, fun f hf => by simp at hf⟩
  have s3 := fsame_pc (vofF l v) (vofF l v) (by omega) (fun f hf => by have := hvf.2 f hf; omega)
  have s4 := dsame_pc l l (by omega)
  rw [← dP_T rfl] at s1 s3
  rw [decide_eq_true rfl] at s2 s4
  generalize (foldR l).getD [] = A at *
  generalize (if (foldR l).isSome then (0 : Int) else 60) = ea at *
  generalize (if dP (vwP v) then vdatL l v else []) = B at *
  generalize (if dP (vwP v) then (0 : Int) else 2) = eb at *
  generalize vofF l v = C at *
  generalize vofE l v = ec at *
  have hea : Value.bool (iEq ea ea) = .bool true := by rw [(iEq_t _ _).mpr rfl]
  have heb : Value.bool (iEq eb eb) = .bool true := by rw [(iEq_t _ _).mpr rfl]
  have hec : Value.bool (iEq ec ec) = .bool true := by rw [(iEq_t _ _).mpr rfl]
  have h00 : Value.bool (iLt 0 0) = .bool false := by rw [(iLt_f _ _).mpr (by omega)]
  refine PC.of_body Tryz.func5 Tryz.ntmps5 rfl rfl rfl ?_
  repeat' first
    | refine m_lit (d := 21) rfl rfl rfl rfl rfl rfl ?_
    | (apply p1 (hd := rfl); case hop => first | (apply D_move; rfl) | (apply D_assign; rfl) | (apply D_pc hg; rfl; exact .same rfl .nil) | exact D_sc (D_int rfl rfl rfl) h00 | (apply D_pc q1; rfl; exact .tok rfl .nil) | (apply D_pc q2; rfl; exact .same rfl .nil) | (apply D_pc q3; rfl; exact .tok rfl (.cons rfl (Le.of_eq rfl) .nil)) | (apply D_pc q4; rfl; exact .same rfl (.cons rfl (Le.of_eq rfl) .nil)) | (apply D_pc q5; rfl; exact .tok rfl (.cons rfl (Le.of_eq rfl) .nil)) | (apply D_pc q6; rfl; exact .same rfl (.cons rfl (Le.of_eq rfl) .nil)) | (apply D_pc s1; rfl; exact .same rfl (.same rfl .nil)) | (apply D_pc s2; rfl; exact .same rfl (.same rfl .nil)) | (apply D_pc s3; rfl; exact .same rfl (.same rfl .nil)) | (apply D_pc s4; rfl; exact .tok rfl (.same rfl .nil)) | exact D_sc (D_int rfl rfl rfl) hea | exact D_sc (D_int rfl rfl rfl) heb | exact D_sc (D_int rfl rfl rfl) hec | (apply D_pickT; rfl; rfl) | (apply D_ext; rfl; rfl) | (apply D_loadW; rfl; rfl) | (apply D_box; rfl; rfl))
    | refine W_seq ?_
    | refine W_region ?_
    | (refine idC ?_; refine c0 rfl ?_)
    | refine WL_nil ?_
    | (refine idG ?_; refine gr rfl rfl ?_)
    | refine tn ?_
    | refine W_skip ?_
    | refine W_ret ?_
    | (refine idR ?_; refine ret1 rfl rfl rfl ?_)
    | refine Le.bool ?_
    | (refine idAp ?_; refine m_app rfl rfl (by first | rfl | assumption | exact get_set (by assumption) | exact get_set (get_set (by assumption)) | exact get_set (get_set (get_set (by assumption))) | ((repeat first | assumption | exact get_last | (refine get_last2 ?_; focus (simp; done)) | apply get_set | apply get_app | (apply get_ne; focus omega)); done)) ?_ rfl rfl ?_ ?_ rfl ?_; (first | rfl | focus (simp only [List.length_map, List.length_append, List.length_cons, List.length_nil]; omega) | focus (simp; done) | focus (simp; omega)); (first | focus (simp only [List.length_map, List.length_append, List.length_cons, List.length_nil]; omega) | focus (simp; done) | focus (simp; omega)); (first | focus (simp only [List.length_map, List.length_append, List.length_cons, List.length_nil]; omega) | focus (simp; done) | focus (simp; omega)))
    | fail
  all_goals first | rfl | contradiction | (exfalso; omega) | skip
  all_goals trace_state
end Go.Proofs
