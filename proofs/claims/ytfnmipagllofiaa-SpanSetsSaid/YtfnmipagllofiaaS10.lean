/- The statement SpanSets. -/
import Derived.Test.YtfnmipagllofiaaS9
namespace Go.Proofs
open Go.AL Go.Sort
attribute [local irreducible] Go.AL.W Go.AL.WL Go.AL.WD Go.AL.POp Go.AL.PPOp Go.AL.POpS Go.AL.PC Go.AL.AC Go.AL.YW Go.AL.Ret Go.AL.Le Go.AL.thn Go.AL.inBlk Go.AL.scp

set_option maxHeartbeats 64000000 in
theorem spanSets_core [GlobF Try.prog] (a b : List Sp) (at_ : Int) (hla : a.length ≤ 60) (hlb : b.length ≤ 60) (M O N L : List Sp) (me e : Int) (sa ia cv : Bool) (hk : (sa = true ∧ me = 0 ∧ e = 0) ∨ (sa = true ∧ me = 0 ∧ e = 30) ∨ (sa = false ∧ me = 0 ∧ e = 30) ∨ (sa = false ∧ me = 30 ∧ e = 30))
    (f1 : PC Try.prog 14 [sl2 a] (.tu [sl2 M, .sc (.int .i64 me)])) (g1 : PC Try.prog 15 [sl2 a] (.tu [sl2 M, .sc (.int .i64 me)]))
    (f2 : PC Try.prog 10 [sl2 a, sl2 b] (.tu [sl2 O, .sc (.int .i64 e)])) (g2 : PC Try.prog 16 [sl2 a, sl2 b, .sc (.int .i64 0)] (.tu [sl2 O, .sc (.int .i64 e)]))
    (f3 : PC Try.prog 8 [sl2 a, sl2 b] (.tu [sl2 N, .sc (.int .i64 e)])) (g3 : PC Try.prog 16 [sl2 a, sl2 b, .sc (.int .i64 1)] (.tu [sl2 N, .sc (.int .i64 e)]))
    (f4 : PC Try.prog 9 [sl2 a, sl2 b] (.tu [sl2 L, .sc (.int .i64 e)])) (g4 : PC Try.prog 16 [sl2 a, sl2 b, .sc (.int .i64 2)] (.tu [sl2 L, .sc (.int .i64 e)]))
    (g5 : PC Try.prog 17 [sl2 a] (.sc (.bool sa))) (f5 : PC Try.prog 18 [sl2 a] (.sc (.int .i64 (if sa = true then 0 else 30))))
    (f6 : PC Try.prog 11 [sl2 a, .sc (.int .i64 at_)] (.sc (.bool (sa && ia)))) (g6 : PC Try.prog 19 [sl2 a, .sc (.int .i64 at_)] (.sc (.bool ia)))
    (f7 : PC Try.prog 13 [sl2 a, sl2 b] (.sc (.bool cv))) (g7 : PC Try.prog 20 [sl2 a, sl2 b] (.sc (.bool cv)))
    (s1 : PC Try.prog 12 [sl2 M, sl2 M] (.sc (.bool true))) (s2 : PC Try.prog 12 [sl2 O, sl2 O] (.sc (.bool true))) (s3 : PC Try.prog 12 [sl2 N, sl2 N] (.sc (.bool true)))
    (s4 : PC Try.prog 12 [sl2 L, sl2 L] (.sc (.bool true))) (s5 : PC Try.prog 12 [sl2 a, sl2 a] (.sc (.bool true))) (s6 : PC Try.prog 12 [sl2 b, sl2 b] (.sc (.bool true))) :
    PC Try.prog 5 [sl2 a, sl2 b, .sc (.int .i64 at_)] (.sc (.bool true)) := by
  have hnt : Value.bool (bNot true) = .bool false := by simp [bNot]
  have n0 : Value.bool (bNot (iEq 0 0)) = .bool false := by rw [(iEq_t _ _).mpr rfl]; exact hnt
  have n3 : Value.bool (bNot (iEq 30 30)) = .bool false := by rw [(iEq_t _ _).mpr rfl]; exact hnt
  have e0 : Value.bool (iEq 0 0) = .bool true := by rw [(iEq_t _ _).mpr rfl]
  have e3 : Value.bool (iEq 30 30) = .bool true := by rw [(iEq_t _ _).mpr rfl]
  have e1 : Value.bool (iEq 30 0) = .bool false := by rw [(iEq_f _ _).mpr (by decide)]
  have b1 : Value.bool (bEq true true) = .bool true := by rw [(bEq_t _ _).mpr rfl]
  have b2 : Value.bool (bEq false false) = .bool true := by rw [(bEq_t _ _).mpr rfl]
  have la : Value.bool (iLt 60 (a.length : Int)) = .bool false := by rw [(iLt_f _ _).mpr (by omega)]
  have lb : Value.bool (iLt 60 (b.length : Int)) = .bool false := by rw [(iLt_f _ _).mpr (by omega)]
  refine PC.of_body Try.func5 Try.ntmps5 rfl rfl rfl ?_
  rcases hk with ⟨rfl, rfl, rfl⟩ | ⟨rfl, rfl, rfl⟩ | ⟨rfl, rfl, rfl⟩ | ⟨rfl, rfl, rfl⟩ <;> cases ia <;> cases cv <;> simp only [if_true, Bool.false_eq_true, if_false, Bool.true_and, Bool.false_and] at f5 f6
  all_goals
    repeat' first
      | refine m_lit (d := 35) rfl rfl rfl rfl rfl rfl ?_
      | refine m_lit (d := 38) rfl rfl rfl rfl rfl rfl ?_
      | (apply p1 (hd := rfl); case hop => first | (apply D_move; rfl) | (apply D_assign; rfl) | exact D_sc (D_int rfl rfl rfl) la | exact D_sc (D_int rfl rfl rfl) lb | exact D_sc (D_int rfl rfl rfl) n0 | exact D_sc (D_int rfl rfl rfl) n3 | exact D_sc (D_int rfl rfl rfl) e0 | exact D_sc (D_int rfl rfl rfl) e3 | exact D_sc (D_int rfl rfl rfl) e1 | exact D_sc (D_not rfl) hnt | exact D_sc (D_beq rfl rfl) b1 | exact D_sc (D_beq rfl rfl) b2 | (apply D_pc f1; rfl; exact .tok rfl .nil) | (apply D_pc g1; rfl; exact .same rfl .nil) | (apply D_pc f2; rfl; exact .tok rfl (.tok rfl .nil)) | (apply D_pc g2; rfl; exact .same rfl (.same rfl (.same rfl .nil))) | (apply D_pc f3; rfl; exact .tok rfl (.tok rfl .nil)) | (apply D_pc g3; rfl; exact .same rfl (.same rfl (.same rfl .nil))) | (apply D_pc f4; rfl; exact .tok rfl (.tok rfl .nil)) | (apply D_pc g4; rfl; exact .same rfl (.same rfl (.same rfl .nil))) | (apply D_pc f5; rfl; exact .tok rfl .nil) | (apply D_pc g5; rfl; exact .same rfl .nil) | (apply D_pc f6; rfl; exact .tok rfl (.same rfl .nil)) | (apply D_pc g6; rfl; exact .same rfl (.same rfl .nil)) | (apply D_pc f7; rfl; exact .tok rfl (.tok rfl .nil)) | (apply D_pc g7; rfl; exact .same rfl (.same rfl .nil)) | (apply D_pc s1; rfl; exact .same rfl (.same rfl .nil)) | (apply D_pc s2; rfl; exact .same rfl (.same rfl .nil)) | (apply D_pc s3; rfl; exact .same rfl (.same rfl .nil)) | (apply D_pc s4; rfl; exact .same rfl (.same rfl .nil)) | (apply D_pc s5; rfl; exact .tok rfl (.same rfl .nil)) | (apply D_pc s6; rfl; exact .tok rfl (.same rfl .nil)) | (apply D_pickT; rfl; rfl) | (apply D_pickF; rfl; rfl) | (apply D_int; rfl; rfl; rfl) | (apply D_lenM; rfl) | (apply D_len_sl; rfl) | (apply D_ext; rfl; rfl) | (apply D_not; rfl) | (apply D_len_nil; rfl) | (apply D_beq; rfl; rfl) | (apply D_bne; rfl; rfl) | (apply D_lit; rfl; rfl; rfl; rfl) | (apply D_lenR; rfl))
      | refine W_seq ?_
      | refine W_region ?_
      | (refine idC ?_; first | refine c1 rfl ?_ | refine c0 rfl ?_ | refine cs rfl (fun _ => ?_) (fun _ => ?_))
      | refine WL_nil ?_
      | (refine idG ?_; first | refine g0t rfl rfl rfl ?_ | refine g0f rfl rfl rfl ?_ | refine g0u rfl rfl rfl ?_ | refine gr rfl rfl ?_ | refine gs rfl rfl (fun _ => ?_) (fun _ => ?_) | refine grn rfl rfl ?_)
      | refine tn ?_
      | refine tr ?_
      | refine br ?_
      | refine bn ?_
      | refine te ?_
      | (refine idB ?_; first | refine bh rfl ?_ | refine bm rfl ?_)
      | refine W_skip ?_
      | refine W_block ?_
      | refine W_exit ?_
      | refine W_ret ?_
      | refine W_label ?_
      | refine W_scope ?_
      | refine sn ?_
      | refine sr ?_
      | refine se ?_
      | (refine idR ?_; first | refine ret1 rfl rfl rfl ?_ | refine rL1 rfl (by first | exact trivial | exact ⟨rfl, trivial⟩) (by first | exact ResO.tmp rfl | exact ResO.cellBA rfl rfl rfl | exact ResO.cellB1 rfl rfl rfl | exact ResO.cellEA rfl rfl | exact ResO.cellE1 rfl) ?_)
      | refine Le.bool ?_
      | refine Le.int ?_
      | refine Le.str ?_
      | (refine idAp ?_; refine m_app rfl rfl (by first | rfl | assumption | exact get_set (by assumption) | exact get_set (get_set (by assumption)) | exact get_set (get_set (get_set (by assumption))) | ((repeat first | assumption | exact get_last | (refine get_last2 ?_; focus (simp; done)) | apply get_set | apply get_app | (apply get_ne; focus omega)); done)) ?_ rfl rfl ?_ ?_ rfl ?_; (first | rfl | focus (simp only [List.length_map, List.length_append, List.length_cons, List.length_nil]; omega) | focus (simp; done) | focus (simp; omega)); (first | focus (simp only [List.length_map, List.length_append, List.length_cons, List.length_nil]; omega) | focus (simp; done) | focus (simp; omega)); (first | focus (simp only [List.length_map, List.length_append, List.length_cons, List.length_nil]; omega) | focus (simp; done) | focus (simp; omega)))
      | (refine idAp ?_; refine m_appB rfl rfl rfl (by first | rfl | assumption | exact get_set (by assumption) | exact get_set (get_set (by assumption)) | exact get_set (get_set (get_set (by assumption))) | ((repeat first | assumption | exact get_last | (refine get_last2 ?_; focus (simp; done)) | apply get_set | apply get_app | (apply get_ne; focus omega)); done)) ?_ rfl rfl ?_ ?_ rfl ?_; (first | rfl | focus (simp only [List.length_map, List.length_append, List.length_cons, List.length_nil]; omega) | focus (simp; done) | focus (simp; omega)); (first | focus (simp only [List.length_map, List.length_append, List.length_cons, List.length_nil]; omega) | focus (simp; done) | focus (simp; omega)); (first | focus (simp only [List.length_map, List.length_append, List.length_cons, List.length_nil]; omega) | focus (simp; done) | focus (simp; omega)))
  all_goals first | rfl | contradiction | (exfalso; omega) | skip
  all_goals trace_state
end Go.Proofs
