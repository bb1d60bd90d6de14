/- The statement SpanSets, whole. -/
import Derived.Test.YtfnmipagllofiaaS10
namespace Go.Proofs
open Go.AL Go.Sort
attribute [local irreducible] Go.AL.W Go.AL.WL Go.AL.WD Go.AL.POp Go.AL.PPOp Go.AL.POpS Go.AL.PC Go.AL.AC Go.AL.YW Go.AL.Ret Go.AL.Le Go.AL.thn Go.AL.inBlk Go.AL.scp

set_option maxHeartbeats 64000000 in
theorem spanSets_pc [GlobF Try.prog] (a b : List Sp) (at_ : Int) (ra : rngS a) (rb : rngS b) (hla : a.length < 9223372036854775808) (hlb : b.length < 9223372036854775808) :
    PC Try.prog 5 [sl2 a, sl2 b, .sc (.int .i64 at_)] (.sc (.bool true)) := by
  by_cases hg : a.length ≤ 60 ∧ b.length ≤ 60
  · obtain ⟨ga, gb⟩ := hg
    have sm : ∀ l : List Sp, l.length < 4611686018427387904 → PC Try.prog 12 [sl2 l, sl2 l] (.sc (.bool true)) := fun l h => by
      have := ssame_pc l l h
      rwa [← dP_T rfl] at this
    have f1 := make_pc a (by omega)
    have g1 := rmake_pc a (by omega)
    have g5 := rset_pc a (by omega)
    have f5 := scheck_pc a (by omega)
    have f6 := has_pc a (by omega) at_
    rw [show dP (SetP a ∧ inS a at_) = (dP (SetP a) && dP (inS a at_)) from by rw [Bool.eq_iff_iff, Bool.and_eq_true, dP_t, dP_t, dP_t]] at f6
    have g6 := rin_pc a at_ (by omega)
    have f7 := scovers_pc a b (by omega) (by omega)
    have g7 := rcovers_pc a b ra rb (by omega)
    have lM : (if dP (neS a) = true then canS a else []).length ≤ a.length := by
      split
      · exact canS_len a
      · simp
    have s1 := sm _ (Nat.lt_of_le_of_lt lM (by omega))
    by_cases hs : SetP a ∧ SetP b
    · have ha := hs.1
      have f2 := sor_pc a b hs.1 hs.2 (by omega) (by omega)
      have g2 := rtwo_pc 0 (.inl rfl) a b hs.1 hs.2 (by omega)
      rw [ofL_or hs.1 hs.2] at g2
      have f3 := sand_pc a b hs.1 hs.2 (by omega) (by omega)
      have g3 := rtwo_pc 1 (.inr (.inl rfl)) a b hs.1 hs.2 (by omega)
      rw [ofL_and hs.1 hs.2] at g3
      have f4 := sminus_pc a b hs.1 hs.2 (by omega) (by omega)
      have g4 := rtwo_pc 2 (.inr (.inr rfl)) a b hs.1 hs.2 (by omega)
      rw [ofL_min hs.1 hs.2 (fun x hx => rng_in ra hx) rb] at g4
      have l1 := meet_len _ a b (Nat.le_refl _)
      have l2 : (meetL a (restL loT b)).length ≤ a.length + b.length + 1 := min_len a b
      have l3 := canS_len (a ++ b)
      rw [List.length_append] at l3
      refine spanSets_core a b at_ ga gb _ _ _ _ _ _ _ _ _ ?_ f1 g1 f2 g2 f3 g3 f4 g4 g5 f5 f6 g6 f7 g7 s1 (sm _ (by omega)) (sm _ (by omega)) (sm _ (by omega)) (sm _ (by omega)) (sm _ (by omega))
      exact .inl ⟨(dP_T ha).symm, by rw [← dP_T ha.1]; rfl, rfl⟩
    · have f2 := sorN_pc a b hs (by omega) (by omega)
      have g2 := rtwoN_pc 0 a b hs (by omega) (by omega)
      have f3 := sandN_pc a b hs (by omega) (by omega)
      have g3 := rtwoN_pc 1 a b hs (by omega) (by omega)
      have f4 := sminusN_pc a b hs (by omega) (by omega)
      have g4 := rtwoN_pc 2 a b hs (by omega) (by omega)
      refine spanSets_core a b at_ ga gb _ _ _ _ _ _ _ _ _ ?_ f1 g1 f2 g2 f3 g3 f4 g4 g5 f5 f6 g6 f7 g7 s1 (sm _ (by simp)) (sm _ (by simp)) (sm _ (by simp)) (sm _ (by omega)) (sm _ (by omega))
      by_cases ha : SetP a
      · exact .inr (.inl ⟨(dP_T ha).symm, by rw [← dP_T ha.1]; rfl, rfl⟩)
      · by_cases hn : neS a
        · exact .inr (.inr (.inl ⟨(dP_F ha).symm, by rw [← dP_T hn]; rfl, rfl⟩))
        · exact .inr (.inr (.inr ⟨(dP_F ha).symm, by rw [← dP_F hn]; rfl, rfl⟩))
  · refine PC.of_body Try.func5 Try.ntmps5 rfl rfl rfl ?_
    repeat' first
      | (exfalso; exact hg ⟨Int.ofNat_le.1 (by assumption), Int.ofNat_le.1 (by assumption)⟩)
      | (apply p1 (hd := rfl); case hop => first | (apply D_move; rfl) | (apply D_assign; rfl) | (apply D_pickT; rfl; rfl) | (apply D_pickF; rfl; rfl) | (apply D_int; rfl; rfl; rfl) | (apply D_lenM; rfl) | (apply D_len_sl; rfl) | (apply D_ext; rfl; rfl) | (apply D_not; rfl) | (apply D_len_nil; rfl) | (apply D_beq; rfl; rfl) | (apply D_bne; rfl; rfl) | (apply D_lit; rfl; rfl; rfl; rfl) | (apply D_lenR; rfl))
      | refine W_seq ?_
      | refine W_region ?_
      | (refine idC ?_; first | refine c1 rfl ?_ | refine c0 rfl ?_ | refine cs rfl (fun _ => ?_) (fun _ => ?_))
      | refine WL_nil ?_
      | (refine idG ?_; first | refine g0t rfl rfl rfl ?_ | refine g0f rfl rfl rfl ?_ | refine g0u rfl rfl rfl ?_ | refine gr rfl rfl ?_ | refine gs rfl rfl (fun _ => ?_) (fun _ => ?_) | refine grn rfl rfl ?_)
      | refine tn ?_
      | refine tr ?_
      | refine br ?_
      | refine bn ?_
      | refine te ?_
      | (refine idB ?_; first | refine bh rfl ?_ | refine bm rfl ?_)
      | refine W_skip ?_
      | refine W_block ?_
      | refine W_exit ?_
      | refine W_ret ?_
      | refine W_label ?_
      | refine W_scope ?_
      | refine sn ?_
      | refine sr ?_
      | refine se ?_
      | (refine idR ?_; first | refine ret1 rfl rfl rfl ?_ | refine rL1 rfl (by first | exact trivial | exact ⟨rfl, trivial⟩) (by first | exact ResO.tmp rfl | exact ResO.cellBA rfl rfl rfl | exact ResO.cellB1 rfl rfl rfl | exact ResO.cellEA rfl rfl | exact ResO.cellE1 rfl) ?_)
      | refine Le.bool ?_
      | refine Le.int ?_
      | refine Le.str ?_
      | (refine idAp ?_; refine m_app rfl rfl (by first | rfl | assumption | exact get_set (by assumption) | exact get_set (get_set (by assumption)) | exact get_set (get_set (get_set (by assumption))) | ((repeat first | assumption | exact get_last | (refine get_last2 ?_; focus (simp; done)) | apply get_set | apply get_app | (apply get_ne; focus omega)); done)) ?_ rfl rfl ?_ ?_ rfl ?_; (first | rfl | focus (simp only [List.length_map, List.length_append, List.length_cons, List.length_nil]; omega) | focus (simp; done) | focus (simp; omega)); (first | focus (simp only [List.length_map, List.length_append, List.length_cons, List.length_nil]; omega) | focus (simp; done) | focus (simp; omega)); (first | focus (simp only [List.length_map, List.length_append, List.length_cons, List.length_nil]; omega) | focus (simp; done) | focus (simp; omega)))
      | (refine idAp ?_; refine m_appB rfl rfl rfl (by first | rfl | assumption | exact get_set (by assumption) | exact get_set (get_set (by assumption)) | exact get_set (get_set (get_set (by assumption))) | ((repeat first | assumption | exact get_last | (refine get_last2 ?_; focus (simp; done)) | apply get_set | apply get_app | (apply get_ne; focus omega)); done)) ?_ rfl rfl ?_ ?_ rfl ?_; (first | rfl | focus (simp only [List.length_map, List.length_append, List.length_cons, List.length_nil]; omega) | focus (simp; done) | focus (simp; omega)); (first | focus (simp only [List.length_map, List.length_append, List.length_cons, List.length_nil]; omega) | focus (simp; done) | focus (simp; omega)); (first | focus (simp only [List.length_map, List.length_append, List.length_cons, List.length_nil]; omega) | focus (simp; done) | focus (simp; omega)))
    all_goals first | rfl | contradiction | (exfalso; omega) | skip
    all_goals trace_state
end Go.Proofs
