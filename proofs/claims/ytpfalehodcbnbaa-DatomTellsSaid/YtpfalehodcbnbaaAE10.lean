/- Contracts of datoms' functions: the reference's keys read. -/
import Derived.Test.YtpfalehodcbnbaaAE9
import Derived.Test.YtpfalehodcbnbaaOps11
import Derived.Test.YtpfalehodcbnbaaPL4
namespace Go.Proofs
open Go.AL
attribute [local irreducible] Go.AL.W Go.AL.WL Go.AL.WD Go.AL.POp Go.AL.PPOp Go.AL.POpS Go.AL.PC Go.AL.AC Go.AL.YW Go.AL.Ret Go.AL.Le Go.AL.thn Go.AL.inBlk Go.AL.scp

set_option maxHeartbeats 1000000 in
theorem entity_pc [GlobF Try.prog] (n : Int) : PC Try.prog 61 [.sc (.int .i64 n)] (.sc (.bool (dP (0 ≤ n ∧ n < 9007199254740992)))) := by
  refine PC.of_body Try.func61 Try.ntmps61 rfl rfl rfl ?_
  repeat' first
    | (apply p1 (hd := rfl); case hop => first | (apply D_move; rfl) | (apply D_assign; rfl) | (apply D_pickT; rfl; rfl) | (apply D_pickF; rfl; rfl) | (apply D_int; rfl; rfl; rfl))
    | refine W_seq ?_
    | refine W_region ?_
    | refine WL_nil ?_
    | (refine idG ?_; first | refine g0t rfl rfl rfl ?_ | refine g0f rfl rfl rfl ?_ | refine g0u rfl rfl rfl ?_ | refine gr rfl rfl ?_ | refine gs rfl rfl (fun _ => ?_) (fun _ => ?_) | refine grn rfl rfl ?_)
    | refine tn ?_
    | refine tr ?_
    | refine br ?_
    | refine bn ?_
    | refine te ?_
    | (refine idB ?_; first | refine bh rfl ?_ | refine bm rfl ?_)
    | refine W_skip ?_
    | refine W_block ?_
    | refine W_exit ?_
    | refine W_ret ?_
    | refine W_label ?_
    | refine W_scope ?_
    | refine sn ?_
    | refine sr ?_
    | refine se ?_
    | (refine idR ?_; first | refine ret1 rfl rfl rfl ?_ | refine rL1 rfl (by first | exact trivial | exact ⟨rfl, trivial⟩) (by first | exact ResO.tmp rfl | exact ResO.cellBA rfl rfl rfl | exact ResO.cellB1 rfl rfl rfl | exact ResO.cellEA rfl rfl | exact ResO.cellE1 rfl) ?_)
    | refine Le.bool ?_
    | refine Le.int ?_
    | refine Le.str ?_
  all_goals (refine dP_eq ?_; first | (rw [iLt_t]; omega) | (simp; omega))
set_option maxHeartbeats 4000000 in
theorem dmay1_pc [GlobF Try.prog] (d : Dat) (hl : d.v.s.length < 9223372036854775808) : PC Try.prog 28 [eD d] (.sc (.bool (dP (dmayP d)))) := by
  refine PC.of_body Try.func28 Try.ntmps28 rfl rfl rfl ?_
  repeat' first
    | (apply p1 (hd := rfl); case hop => first | (apply D_move; rfl) | (apply D_assign; rfl) | (apply D_pc (may1_pc d.v hl); rfl; exact .same rfl .nil) | (apply D_pc (entity_pc d.e); rfl; exact .same rfl .nil) | (apply D_pc (entity_pc d.a); rfl; exact .same rfl .nil) | (apply D_load1; rfl) | (apply D_fld; rfl) | (apply D_pickT; rfl; rfl) | (apply D_pickF; rfl; rfl) | (apply D_int; rfl; rfl; rfl) | (apply D_loadW; rfl; rfl) | (apply D_loadA; rfl; rfl) | (apply D_box; rfl; rfl) | exact D_fldB rfl)
    | refine W_seq ?_
    | refine W_region ?_
    | refine WL_nil ?_
    | (refine idG ?_; first | refine g0t rfl rfl rfl ?_ | refine g0f rfl rfl rfl ?_ | refine g0u rfl rfl rfl ?_ | refine gr rfl rfl ?_ | refine gs rfl rfl (fun _ => ?_) (fun _ => ?_) | refine grn rfl rfl ?_)
    | refine tn ?_
    | refine tr ?_
    | refine br ?_
    | refine bn ?_
    | refine te ?_
    | (refine idB ?_; first | refine bh rfl ?_ | refine bm rfl ?_)
    | refine W_skip ?_
    | refine W_block ?_
    | refine W_exit ?_
    | refine W_ret ?_
    | refine W_label ?_
    | refine W_scope ?_
    | refine sn ?_
    | refine sr ?_
    | refine se ?_
    | (refine idR ?_; first | refine ret1 rfl rfl rfl ?_ | refine rL1 rfl (by first | exact trivial | exact ⟨rfl, trivial⟩) (by first | exact ResO.tmp rfl | exact ResO.cellBA rfl rfl rfl | exact ResO.cellB1 rfl rfl rfl | exact ResO.cellEA rfl rfl | exact ResO.cellE1 rfl) ?_)
    | (refine idLd ?_; first | refine p1L (D_loadB1 rfl rfl rfl) rfl ?_ | refine p1L (D_loadBA rfl rfl rfl) rfl ?_ | refine p1L (D_loadB1 rfl (by (repeat first | assumption | exact get_last | (refine get_last2 ?_; focus (simp; done)) | apply get_set | apply get_app | (apply get_ne; focus omega) | (apply get_ne; focus (simp only [List.length_set, List.length_append, List.length_cons, List.length_nil]; omega))); done) (by rfl)) rfl ?_ | refine p1L (D_loadBA rfl (by (repeat first | assumption | exact get_last | (refine get_last2 ?_; focus (simp; done)) | apply get_set | apply get_app | (apply get_ne; focus omega) | (apply get_ne; focus (simp only [List.length_set, List.length_append, List.length_cons, List.length_nil]; omega))); done) (by rfl)) rfl ?_)
    | refine Le.bool ?_
    | refine Le.int ?_
    | refine Le.str ?_
  all_goals
    have hm : mayB d.v = true ↔ MayP d.v := by simp only [mayB, dP_t]
    refine dP_eq ?_
    unfold dmayP
    rw [hm]
  all_goals first
    | (simp_all [iLt_t]; done)
    | (simp_all [iLt_t]; omega)
    | (simp only [iLt_t]; simp_all; omega)
set_option maxHeartbeats 1000000 in
theorem dcheck_pc [GlobF Try.prog] (d : Dat) (hl : d.v.s.length < 9223372036854775808) : PC Try.prog 29 [eD d] (.sc (.int .i64 (if dP (dmayP d) then 0 else 40))) := by
  refine PC.of_body Try.func29 Try.ntmps29 rfl rfl rfl ?_
  repeat' first
    | (apply p1 (hd := rfl); case hop => first | (apply D_assign; rfl) | (apply D_pc (dmay_pc d hl); rfl; exact .same rfl .nil) | (apply D_load1; rfl) | (apply D_not; rfl) | (apply D_loadW; rfl; rfl) | (apply D_loadA; rfl; rfl) | (apply D_box; rfl; rfl))
    | refine W_seq ?_
    | refine W_region ?_
    | (refine idC ?_; first | refine c1 rfl ?_ | refine c0 rfl ?_ | refine cs rfl (fun _ => ?_) (fun _ => ?_))
    | refine WL_nil ?_
    | refine tn ?_
    | refine tr ?_
    | refine br ?_
    | refine bn ?_
    | refine te ?_
    | (refine idB ?_; first | refine bh rfl ?_ | refine bm rfl ?_)
    | refine W_skip ?_
    | refine W_block ?_
    | refine W_exit ?_
    | refine W_ret ?_
    | refine W_label ?_
    | refine W_scope ?_
    | refine sn ?_
    | refine sr ?_
    | refine se ?_
    | (refine idR ?_; first | refine ret1 rfl rfl rfl ?_ | refine rL1 rfl (by first | exact trivial | exact ⟨rfl, trivial⟩) (by first | exact ResO.tmp rfl | exact ResO.cellBA rfl rfl rfl | exact ResO.cellB1 rfl rfl rfl | exact ResO.cellEA rfl rfl | exact ResO.cellE1 rfl) ?_)
    | (refine idLd ?_; first | refine p1L (D_loadB1 rfl rfl rfl) rfl ?_ | refine p1L (D_loadBA rfl rfl rfl) rfl ?_ | refine p1L (D_loadB1 rfl (by (repeat first | assumption | exact get_last | (refine get_last2 ?_; focus (simp; done)) | apply get_set | apply get_app | (apply get_ne; focus omega) | (apply get_ne; focus (simp only [List.length_set, List.length_append, List.length_cons, List.length_nil]; omega))); done) (by rfl)) rfl ?_ | refine p1L (D_loadBA rfl (by (repeat first | assumption | exact get_last | (refine get_last2 ?_; focus (simp; done)) | apply get_set | apply get_app | (apply get_ne; focus omega) | (apply get_ne; focus (simp only [List.length_set, List.length_append, List.length_cons, List.length_nil]; omega))); done) (by rfl)) rfl ?_)
    | refine Le.bool ?_
    | refine Le.int ?_
    | refine Le.str ?_
  all_goals
    simp [dP_t, *]
set_option maxHeartbeats 4000000 in
theorem dkey1_pc [GlobF Try.prog] (o : Int) (d : Dat) (hl : d.v.s.length < 9223372036854775808) : PC Try.prog 30 [.sc (.int .i64 o), eD d] (.tu [.sl none 1 ((dkeyB o d).map byteC), .sc (.int .i64 (dkeyE o d))]) := by
  refine PC.of_body Try.func30 Try.ntmps30 rfl rfl rfl ?_
  repeat' first
    | (apply p1 (hd := rfl); case hop => first | (apply D_move; rfl) | (apply D_assign; rfl) | (apply D_pc (dmay1_pc d hl); rfl; exact .same rfl .nil) | (apply D_pc (has1_pc o d); rfl; exact .same rfl (.same rfl .nil)) | (apply D_pc (parts1_pc o d); rfl; exact .same rfl (.same rfl .nil)) | (apply D_pc (key1_pc (part7 o d) (by rw [part7_len]; decide) (part7_all hl (fun n => (by decide : (0 : Nat) < 9223372036854775808)))); rfl; exact .same rfl .nil) | (apply D_load1; rfl) | (apply D_pickT; rfl; rfl) | (apply D_pickF; rfl; rfl) | (apply D_int; rfl; rfl; rfl) | (apply D_ext; rfl; rfl) | (apply D_not; rfl) | (apply D_loadW; rfl; rfl) | (apply D_loadA; rfl; rfl) | (apply D_box; rfl; rfl))
    | refine W_seq ?_
    | refine W_region ?_
    | (refine idC ?_; first | refine c1 rfl ?_ | refine c0 rfl ?_ | refine cs rfl (fun _ => ?_) (fun _ => ?_))
    | refine WL_nil ?_
    | (refine idG ?_; first | refine g0t rfl rfl rfl ?_ | refine g0f rfl rfl rfl ?_ | refine g0u rfl rfl rfl ?_ | refine gr rfl rfl ?_ | refine gs rfl rfl (fun _ => ?_) (fun _ => ?_) | refine grn rfl rfl ?_)
    | refine tn ?_
    | refine tr ?_
    | refine br ?_
    | refine bn ?_
    | refine te ?_
    | (refine idB ?_; first | refine bh rfl ?_ | refine bm rfl ?_)
    | refine W_skip ?_
    | refine W_block ?_
    | refine W_exit ?_
    | refine W_ret ?_
    | refine W_label ?_
    | refine W_scope ?_
    | refine sn ?_
    | refine sr ?_
    | refine se ?_
    | (refine idR ?_; first | refine ret2 rfl rfl rfl rfl ?_ ?_ | refine rL2 rfl (by first | exact trivial | exact ⟨rfl, trivial⟩) (by first | exact ResO.tmp rfl | exact ResO.cellBA rfl rfl rfl | exact ResO.cellB1 rfl rfl rfl | exact ResO.cellEA rfl rfl | exact ResO.cellE1 rfl) (by first | exact ResO.tmp rfl | exact ResO.cellBA rfl rfl rfl | exact ResO.cellB1 rfl rfl rfl | exact ResO.cellEA rfl rfl | exact ResO.cellE1 rfl) ?_ ?_)
    | (refine idLd ?_; first | refine p1L (D_loadB1 rfl rfl rfl) rfl ?_ | refine p1L (D_loadBA rfl rfl rfl) rfl ?_ | refine p1L (D_loadB1 rfl (by (repeat first | assumption | exact get_last | (refine get_last2 ?_; focus (simp; done)) | apply get_set | apply get_app | (apply get_ne; focus omega) | (apply get_ne; focus (simp only [List.length_set, List.length_append, List.length_cons, List.length_nil]; omega))); done) (by rfl)) rfl ?_ | refine p1L (D_loadBA rfl (by (repeat first | assumption | exact get_last | (refine get_last2 ?_; focus (simp; done)) | apply get_set | apply get_app | (apply get_ne; focus omega) | (apply get_ne; focus (simp only [List.length_set, List.length_append, List.length_cons, List.length_nil]; omega))); done) (by rfl)) rfl ?_)
    | refine Le.bool ?_
    | refine Le.int ?_
    | refine Le.str ?_
  all_goals first
    | (have ho : 1 ≤ o ∧ o ≤ 4 := by omega
       have hm : dmayP d := by assumption
       have hh : hasP o d := by assumption
       have := part7_P (o := o) hm.2.2.2.2.1
       first
         | (rw [show dkeyB o d = keyB (part7 o d) by simp only [dkeyB, keyB, if_pos this]; simp [*]]; exact Le.of_eq rfl)
         | (simp only [dkeyE, keyE, if_pos this]; simp [*]))
    | (have ho : ¬ (1 ≤ o ∧ o ≤ 4) := by omega
       first
         | (rw [show dkeyB o d = [] by rw [dkeyB, if_neg ho]]; exact Le.nil rfl)
         | (rw [dkeyE, if_neg ho]))
    | (have ho : 1 ≤ o ∧ o ≤ 4 := by omega
       have hn : ¬ (dmayP d ∧ hasP o d) := by
         rintro ⟨h1, h2⟩
         first | exact absurd h1 (by assumption) | exact absurd h2 (by assumption)
       first
         | (rw [show dkeyB o d = [] by rw [dkeyB, if_pos ho, if_neg hn]]; exact Le.nil rfl)
         | (rw [dkeyE, if_pos ho, if_neg hn]))
set_option maxHeartbeats 4000000 in
theorem dcmp1_pc [GlobF Try.prog] (o : Int) (a b : Dat) (ha : a.v.s.length < 9223372036854775808) : PC Try.prog 32 [.sc (.int .i64 o), eD a, eD b] (.sc (.int .i64 (if 1 ≤ o ∧ o ≤ 4 then cmpPs (part7 o a) (part7 o b) else 0))) := by
  refine PC.of_body Try.func32 Try.ntmps32 rfl rfl rfl ?_
  repeat' first
    | (apply p1 (hd := rfl); case hop => first | (apply D_move; rfl) | (apply D_assign; rfl) | (apply D_pc (parts1_pc o a); rfl; exact .same rfl (.same rfl .nil)) | (apply D_pc (parts1_pc o b); rfl; exact .same rfl (.same rfl .nil)) | (apply D_pc (cmp2_pc (part7 o a) (part7 o b) (by rw [part7_len]; decide) (part7_all ha (fun n => (by decide : (0 : Nat) < 9223372036854775808)))); rfl; exact .same rfl (.same rfl .nil)) | (apply D_load1; rfl) | (apply D_pickT; rfl; rfl) | (apply D_pickF; rfl; rfl) | (apply D_int; rfl; rfl; rfl) | (apply D_loadW; rfl; rfl) | (apply D_loadA; rfl; rfl) | (apply D_box; rfl; rfl))
    | refine W_seq ?_
    | refine W_region ?_
    | (refine idC ?_; first | refine c1 rfl ?_ | refine c0 rfl ?_ | refine cs rfl (fun _ => ?_) (fun _ => ?_))
    | refine WL_nil ?_
    | (refine idG ?_; first | refine g0t rfl rfl rfl ?_ | refine g0f rfl rfl rfl ?_ | refine g0u rfl rfl rfl ?_ | refine gr rfl rfl ?_ | refine gs rfl rfl (fun _ => ?_) (fun _ => ?_) | refine grn rfl rfl ?_)
    | refine tn ?_
    | refine tr ?_
    | refine br ?_
    | refine bn ?_
    | refine te ?_
    | (refine idB ?_; first | refine bh rfl ?_ | refine bm rfl ?_)
    | refine W_skip ?_
    | refine W_block ?_
    | refine W_exit ?_
    | refine W_ret ?_
    | refine W_label ?_
    | refine W_scope ?_
    | refine sn ?_
    | refine sr ?_
    | refine se ?_
    | (refine idR ?_; first | refine ret1 rfl rfl rfl ?_ | refine rL1 rfl (by first | exact trivial | exact ⟨rfl, trivial⟩) (by first | exact ResO.tmp rfl | exact ResO.cellBA rfl rfl rfl | exact ResO.cellB1 rfl rfl rfl | exact ResO.cellEA rfl rfl | exact ResO.cellE1 rfl) ?_)
    | (refine idLd ?_; first | refine p1L (D_loadB1 rfl rfl rfl) rfl ?_ | refine p1L (D_loadBA rfl rfl rfl) rfl ?_ | refine p1L (D_loadB1 rfl (by (repeat first | assumption | exact get_last | (refine get_last2 ?_; focus (simp; done)) | apply get_set | apply get_app | (apply get_ne; focus omega) | (apply get_ne; focus (simp only [List.length_set, List.length_append, List.length_cons, List.length_nil]; omega))); done) (by rfl)) rfl ?_ | refine p1L (D_loadBA rfl (by (repeat first | assumption | exact get_last | (refine get_last2 ?_; focus (simp; done)) | apply get_set | apply get_app | (apply get_ne; focus omega) | (apply get_ne; focus (simp only [List.length_set, List.length_append, List.length_cons, List.length_nil]; omega))); done) (by rfl)) rfl ?_)
    | refine Le.bool ?_
    | refine Le.int ?_
    | refine Le.str ?_
  all_goals first
    | (rw [if_neg (by omega)])
    | (rw [if_pos (by omega)])

/-! Parts read by the reference. -/
theorem valB_pos (v : Val) : 0 < (valB v).length := by simp [valB]
theorem one_good {b : List UInt8} (h : (rdVal b false).2.2 = false) : 0 < oneN b ∧ oneN b ≤ b.length ∧ b.drop (oneN b) = (rdVal b false).2.1 ∧ oneV b = (rdVal b false).1 := by
  obtain ⟨h1, h2, h3⟩ := valB_rdVal h
  have e1 : oneN b = b.length - (rdVal b false).2.1.length := by simp [oneN, h]
  have e2 : oneV b = (rdVal b false).1 := by simp [oneV, h]
  have hl := congrArg List.length h1
  rw [List.length_append] at hl
  have hp := valB_pos (rdVal b false).1
  refine ⟨by omega, by omega, ?_, e2⟩
  have e3 : oneN b = (valB (rdVal b false).1).length := by omega
  rw [e3]
  generalize (rdVal b false).1 = v at *
  generalize (rdVal b false).2.1 = r at *
  rw [← h1, List.drop_left]
theorem rdAll_step (k : Bool) (ks : List Bool) (b : List UInt8) : (k = true → (oneN b = 0 → (rdAll (k :: ks) (b, false)).2.2 = true) ∧ (oneN b ≠ 0 → rdAll (k :: ks) (b, false) = (prtV (oneV b) :: (rdAll ks (b.drop (oneN b), false)).1, (rdAll ks (b.drop (oneN b), false)).2))) ∧
    (k = false → (b.length < 8 → (rdAll (k :: ks) (b, false)).2.2 = true) ∧ (8 ≤ b.length → rdAll (k :: ks) (b, false) = (prtN (numV (b.take 8)) :: (rdAll ks (b.drop 8, false)).1, (rdAll ks (b.drop 8, false)).2))) := by
  constructor
  · rintro rfl
    have e : rdPart true (b, false) = (prtV (rdVal b false).1, (rdVal b false).2) := rfl
    cases hx : (rdVal b false).2.2 with
    | true =>
      have h0 : oneN b = 0 := (one_bad hx).2
      refine ⟨fun _ => ?_, fun h => absurd h0 h⟩
      simp only [rdAll, e, hx, if_true]
    | false =>
      obtain ⟨h1, h2, h3, h4⟩ := one_good hx
      refine ⟨fun h => by omega, fun _ => ?_⟩
      have es : (rdVal b false).2 = ((rdVal b false).2.1, false) := Prod.ext rfl hx
      simp only [rdAll, e, hx, Bool.false_eq_true, if_false]
      rw [es, ← h3, h4]
  · rintro rfl
    have e : rdPart false (b, false) = (prtN (numV (takeV b false 8)), takeB b false 8, takeX b false 8) := rfl
    constructor
    · intro hl
      have q1 : takeX b false 8 = true := by simp [takeX]; omega
      simp only [rdAll, e, q1, if_true]
    · intro hl
      have q1 : takeX b false 8 = false := by simp [takeX]; omega
      have q2 : takeV b false 8 = b.take 8 := by unfold takeV; rw [if_neg (by rw [q1]; exact Bool.false_ne_true)]
      have q3 : takeB b false 8 = b.drop 8 := by unfold takeB; rw [if_neg (by rw [q1]; exact Bool.false_ne_true)]
      simp only [rdAll, e, q1, q2, q3, Bool.false_eq_true, if_false]

attribute [local irreducible] rdAll oneV oneN numV in
set_option maxHeartbeats 8000000 in
theorem read1_pc [GlobF Try.prog] (b : List UInt8) (ks : List Bool) (hl : b.length < 549755813888) (hks : ks.length < 1048576) :
    PC Try.prog 62 [.sl none 1 (b.map byteC), .sl none 1 (ks.map boC)] (.tu [.sl none 5 ((rdL ks b).map pC), .sc (.int .i64 (rdE ks b))]) := by
  refine PC.of_body Try.func62 Try.ntmps62 rfl rfl rfl ?_
  repeat' first
    | (apply p1 (hd := rfl); case hop => first | (apply D_move; rfl) | (apply D_assign; rfl) | (apply D_load1; rfl) | (apply D_int; rfl; rfl; rfl) | (apply D_lenM; rfl) | (apply D_len_sl; rfl) | (apply D_ext; rfl; rfl) | (apply D_loadW; rfl; rfl) | (apply D_loadA; rfl; rfl) | (apply D_len_nil; rfl) | (apply D_idxAn; rfl; rfl; (first | omega | (simp; done))) | (apply D_idxA; rfl; rfl; omega; (first | omega | (simp; done) | (simp; omega))) | (apply D_idxA0; rfl; rfl; omega; (first | omega | (simp; done) | (simp; omega))) | (apply D_lit; rfl; rfl; rfl; rfl) | exact D_build rfl | exact D_buildA rfl | (apply D_slVM; rfl; rfl; rfl; all_goals first | omega | ((repeat rw [w64 _ (by omega) (by omega)]); omega) | decide) | (apply D_slVhM; rfl; rfl; all_goals first | omega | ((repeat rw [w64 _ (by omega) (by omega)]); omega) | decide) | (apply D_slVlM; rfl; rfl; all_goals first | omega | ((repeat rw [w64 _ (by omega) (by omega)]); omega) | decide) | (apply D_slV; rfl; rfl; rfl; all_goals first | omega | ((repeat rw [w64 _ (by omega) (by omega)]); omega) | decide) | (apply D_slVh; rfl; rfl; all_goals first | omega | ((repeat rw [w64 _ (by omega) (by omega)]); omega) | decide) | (apply D_slVl; rfl; rfl; all_goals first | omega | ((repeat rw [w64 _ (by omega) (by omega)]); omega) | decide) | (apply D_lenR; rfl) | (apply D_ixRn; rfl; rfl; (first | omega | (simp; done))) | (apply D_ixR; rfl; rfl; all_goals first | omega | ((repeat rw [w64 _ (by omega) (by omega)]); omega) | decide) | (apply D_slRl; rfl; rfl; all_goals first | omega | ((repeat rw [w64 _ (by omega) (by omega)]); omega) | decide) | (apply D_slRh; rfl; rfl; all_goals first | omega | ((repeat rw [w64 _ (by omega) (by omega)]); omega) | decide))
    | refine W_seq ?_
    | refine W_region ?_
    | (refine idC ?_; first | refine c1 rfl ?_ | refine c0 rfl ?_ | refine cs rfl (fun _ => ?_) (fun _ => ?_))
    | refine WL_nil ?_
    | refine tn ?_
    | refine tr ?_
    | refine br ?_
    | refine bn ?_
    | refine te ?_
    | (refine idB ?_; first | refine bh rfl ?_ | refine bm rfl ?_)
    | refine W_skip ?_
    | refine W_block ?_
    | refine W_exit ?_
    | refine W_ret ?_
    | refine W_label ?_
    | refine W_scope ?_
    | refine sn ?_
    | refine sr ?_
    | refine se ?_
    | (refine idR ?_; first | refine ret2 rfl rfl rfl rfl ?_ ?_ | refine rL2 rfl (by first | exact trivial | exact ⟨rfl, trivial⟩) (by first | exact ResO.tmp rfl | exact ResO.cellBA rfl rfl rfl | exact ResO.cellB1 rfl rfl rfl | exact ResO.cellEA rfl rfl | exact ResO.cellE1 rfl) (by first | exact ResO.tmp rfl | exact ResO.cellBA rfl rfl rfl | exact ResO.cellB1 rfl rfl rfl | exact ResO.cellEA rfl rfl | exact ResO.cellE1 rfl) ?_ ?_)
    | (refine idLd ?_; first | refine p1L (D_loadB1 rfl rfl rfl) rfl ?_ | refine p1L (D_loadBA rfl rfl rfl) rfl ?_ | refine p1L (D_loadB1 rfl (by (repeat first | assumption | exact get_last | (refine get_last2 ?_; focus (simp; done)) | apply get_set | apply get_app | (apply get_ne; focus omega) | (apply get_ne; focus (simp only [List.length_set, List.length_append, List.length_cons, List.length_nil]; omega))); done) (by rfl)) rfl ?_ | refine p1L (D_loadBA rfl (by (repeat first | assumption | exact get_last | (refine get_last2 ?_; focus (simp; done)) | apply get_set | apply get_app | (apply get_ne; focus omega) | (apply get_ne; focus (simp only [List.length_set, List.length_append, List.length_cons, List.length_nil]; omega))); done) (by rfl)) rfl ?_)
    | (refine idA ?_; first | refine m_var rfl rfl rfl rfl rfl rfl rfl ?_ | refine m_alloc rfl ?_)
    | (refine idS ?_; first | refine pS (S_store rfl rfl rfl rfl rfl rfl rfl) ?_ | refine pS (S_store rfl rfl rfl (by (repeat first | assumption | exact get_last | (refine get_last2 ?_; focus (simp; done)) | apply get_set | apply get_app | (apply get_ne; focus omega) | (apply get_ne; focus (simp only [List.length_set, List.length_append, List.length_cons, List.length_nil]; omega))); done) (by rfl) (by rfl) (by rfl)) ?_)
    | refine Le.bool ?_
    | refine Le.int ?_
    | refine Le.str ?_
    | (refine idAp ?_; refine m_app rfl rfl (by first | rfl | assumption | exact get_set (by assumption) | exact get_set (get_set (by assumption)) | exact get_set (get_set (get_set (by assumption))) | ((repeat first | assumption | exact get_last | (refine get_last2 ?_; focus (simp; done)) | apply get_set | apply get_app | (apply get_ne; focus omega)); done)) ?_ rfl rfl ?_ ?_ rfl ?_; (first | rfl | focus (simp only [List.length_map, List.length_append, List.length_cons, List.length_nil]; omega) | focus (simp; done) | focus (simp; omega)); (first | focus (simp only [List.length_map, List.length_append, List.length_cons, List.length_nil]; omega) | focus (simp; done) | focus (simp; omega)); (first | focus (simp only [List.length_map, List.length_append, List.length_cons, List.length_nil]; omega) | focus (simp; done) | focus (simp; omega)))
    | (refine idAp ?_; refine m_appB rfl rfl rfl (by first | rfl | assumption | exact get_set (by assumption) | exact get_set (get_set (by assumption)) | exact get_set (get_set (get_set (by assumption))) | ((repeat first | assumption | exact get_last | (refine get_last2 ?_; focus (simp; done)) | apply get_set | apply get_app | (apply get_ne; focus omega)); done)) ?_ rfl rfl ?_ ?_ rfl ?_; (first | rfl | focus (simp only [List.length_map, List.length_append, List.length_cons, List.length_nil]; omega) | focus (simp; done) | focus (simp; omega)); (first | focus (simp only [List.length_map, List.length_append, List.length_cons, List.length_nil]; omega) | focus (simp; done) | focus (simp; omega)); (first | focus (simp only [List.length_map, List.length_append, List.length_cons, List.length_nil]; omega) | focus (simp; done) | focus (simp; omega)))
  refine W_adopt 6 5 37 rfl ?_
  refine W_loopL (X := Nat × Nat × List Prt) (fun x => [(0, .sl none 1 (b.map byteC)), (1, .sl none 1 (ks.map boC)), (6, .sl (some 0) 5 (x.2.2.map pC)), (7, .sc (.int .i64 (x.2.1 : Int))), (8, .sc (.int .i64 (x.1 : Int)))]) (fun x => [.tail x.2.2.length 5 37])
    (fun x => x.1 ≤ ks.length ∧ x.2.1 ≤ b.length ∧ x.2.2.length = x.1 ∧ rdAll ks (b, false) = (x.2.2 ++ (rdAll (ks.drop x.1) (b.drop x.2.1, false)).1, (rdAll (ks.drop x.1) (b.drop x.2.1, false)).2)) (fun x => ks.length - x.1) (0, 0, []) ⟨Nat.zero_le _, Nat.zero_le _, rfl, by simp⟩ ⟨rfl, rfl, rfl, rfl, rfl, trivial⟩ rfl ?_
  rintro ⟨i, n, out⟩ ⟨h1, h2, h3, h4⟩
  dsimp only at h1 h2 h3 h4 ⊢
  have hdl : (b.drop n).length = b.length - n := List.length_drop
  have h5 : ∀ hi : i < ks.length, ks.drop i = ks[i] :: ks.drop (i + 1) := fun hi => List.drop_eq_getElem_cons hi
  have hw8 : IntKind.i64.wrap ((b.length : Int) - n) = ((b.length - n : Nat) : Int) := by rw [w64 _ (by omega) (by omega)]; omega
  repeat' first
    | (apply p1 (hd := rfl); case hop => first | (apply D_move; rfl) | (apply D_assign; rfl) | (apply D_pc (one_pc (b.drop n) (by omega)); rfl; exact .same rfl .nil) | (apply D_pc (number2_pc (b.drop n) (by simp only [hw8] at *; omega)); rfl; exact .same rfl .nil) | (apply D_load1; rfl) | (apply D_int; rfl; rfl; rfl) | (apply D_lenM; rfl) | (apply D_len_sl; rfl) | (apply D_ext; rfl; rfl) | (apply D_loadW; rfl; rfl) | (apply D_loadA; rfl; rfl) | (apply D_len_nil; rfl) | (apply D_idxAn; rfl; rfl; (first | omega | (simp; done))) | (apply D_idxA; rfl; rfl; omega; (first | omega | (simp; done) | (simp; omega))) | (apply D_idxA0; rfl; rfl; omega; (first | omega | (simp; done) | (simp; omega))) | (apply D_lit; rfl; rfl; rfl; rfl) | exact D_build rfl | exact D_buildA rfl | (apply D_slVM; rfl; rfl; rfl; all_goals first | omega | ((repeat rw [w64 _ (by omega) (by omega)]); omega) | decide) | (apply D_slVhM; rfl; rfl; all_goals first | omega | ((repeat rw [w64 _ (by omega) (by omega)]); omega) | decide) | (apply D_slVlM; rfl; rfl; all_goals first | omega | ((repeat rw [w64 _ (by omega) (by omega)]); omega) | decide) | (apply D_slV; rfl; rfl; rfl; all_goals first | omega | ((repeat rw [w64 _ (by omega) (by omega)]); omega) | decide) | (apply D_slVh; rfl; rfl; all_goals first | omega | ((repeat rw [w64 _ (by omega) (by omega)]); omega) | decide) | (apply D_slVl; rfl; rfl; all_goals first | omega | ((repeat rw [w64 _ (by omega) (by omega)]); omega) | decide) | (apply D_lenR; rfl) | (apply D_ixRn; rfl; rfl; (first | omega | (simp; done))) | (apply D_ixR; rfl; rfl; all_goals first | omega | ((repeat rw [w64 _ (by omega) (by omega)]); omega) | decide) | (apply D_slRl; rfl; rfl; all_goals first | omega | ((repeat rw [w64 _ (by omega) (by omega)]); omega) | decide) | (apply D_slRh; rfl; rfl; all_goals first | omega | ((repeat rw [w64 _ (by omega) (by omega)]); omega) | decide))
    | refine W_seq ?_
    | refine W_region ?_
    | (refine idC ?_; first | refine c1 rfl ?_ | refine c0 rfl ?_ | refine cs rfl (fun _ => ?_) (fun _ => ?_))
    | refine WL_nil ?_
    | refine tn ?_
    | refine tr ?_
    | refine br ?_
    | refine bn ?_
    | refine te ?_
    | (refine idB ?_; first | refine bh rfl ?_ | refine bm rfl ?_)
    | refine W_skip ?_
    | refine W_block ?_
    | refine W_exit ?_
    | refine W_ret ?_
    | refine W_label ?_
    | refine W_scope ?_
    | refine sn ?_
    | refine sr ?_
    | refine se ?_
    | (refine idR ?_; first | refine ret2 rfl rfl rfl rfl ?_ ?_ | refine rL2 rfl (by first | exact trivial | exact ⟨rfl, trivial⟩) (by first | exact ResO.tmp rfl | exact ResO.cellBA rfl rfl rfl | exact ResO.cellB1 rfl rfl rfl | exact ResO.cellEA rfl rfl | exact ResO.cellE1 rfl) (by first | exact ResO.tmp rfl | exact ResO.cellBA rfl rfl rfl | exact ResO.cellB1 rfl rfl rfl | exact ResO.cellEA rfl rfl | exact ResO.cellE1 rfl) ?_ ?_)
    | (refine idLd ?_; first | refine p1L (D_loadB1 rfl rfl rfl) rfl ?_ | refine p1L (D_loadBA rfl rfl rfl) rfl ?_ | refine p1L (D_loadB1 rfl (by (repeat first | assumption | exact get_last | (refine get_last2 ?_; focus (simp; done)) | apply get_set | apply get_app | (apply get_ne; focus omega) | (apply get_ne; focus (simp only [List.length_set, List.length_append, List.length_cons, List.length_nil]; omega))); done) (by rfl)) rfl ?_ | refine p1L (D_loadBA rfl (by (repeat first | assumption | exact get_last | (refine get_last2 ?_; focus (simp; done)) | apply get_set | apply get_app | (apply get_ne; focus omega) | (apply get_ne; focus (simp only [List.length_set, List.length_append, List.length_cons, List.length_nil]; omega))); done) (by rfl)) rfl ?_)
    | (refine idA ?_; first | refine m_var rfl rfl rfl rfl rfl rfl rfl ?_ | refine m_alloc rfl ?_)
    | (refine idS ?_; first | refine pS (S_store rfl rfl rfl rfl rfl rfl rfl) ?_ | refine pS (S_store rfl rfl rfl (by (repeat first | assumption | exact get_last | (refine get_last2 ?_; focus (simp; done)) | apply get_set | apply get_app | (apply get_ne; focus omega) | (apply get_ne; focus (simp only [List.length_set, List.length_append, List.length_cons, List.length_nil]; omega))); done) (by rfl) (by rfl) (by rfl)) ?_)
    | refine Le.bool ?_
    | refine Le.int ?_
    | refine Le.str ?_
    | (refine idAp ?_; refine m_app rfl rfl (by first | rfl | assumption | exact get_set (by assumption) | exact get_set (get_set (by assumption)) | exact get_set (get_set (get_set (by assumption))) | ((repeat first | assumption | exact get_last | (refine get_last2 ?_; focus (simp; done)) | apply get_set | apply get_app | (apply get_ne; focus omega)); done)) ?_ rfl rfl ?_ ?_ rfl ?_; (first | rfl | focus (simp only [List.length_map, List.length_append, List.length_cons, List.length_nil]; omega) | focus (simp; done) | focus (simp; omega)); (first | focus (simp only [List.length_map, List.length_append, List.length_cons, List.length_nil]; omega) | focus (simp; done) | focus (simp; omega)); (first | focus (simp only [List.length_map, List.length_append, List.length_cons, List.length_nil]; omega) | focus (simp; done) | focus (simp; omega)))
    | (refine idAp ?_; refine m_appB rfl rfl rfl (by first | rfl | assumption | exact get_set (by assumption) | exact get_set (get_set (by assumption)) | exact get_set (get_set (get_set (by assumption))) | ((repeat first | assumption | exact get_last | (refine get_last2 ?_; focus (simp; done)) | apply get_set | apply get_app | (apply get_ne; focus omega)); done)) ?_ rfl rfl ?_ ?_ rfl ?_; (first | rfl | focus (simp only [List.length_map, List.length_append, List.length_cons, List.length_nil]; omega) | focus (simp; done) | focus (simp; omega)); (first | focus (simp only [List.length_map, List.length_append, List.length_cons, List.length_nil]; omega) | focus (simp; done) | focus (simp; omega)); (first | focus (simp only [List.length_map, List.length_append, List.length_cons, List.length_nil]; omega) | focus (simp; done) | focus (simp; omega)))
  all_goals first
    | (have hk : ks[i] = true := by assumption
       have h0 : (oneN (b.drop n) : Int) = 0 := by assumption
       have hi : i < ks.length := by omega
       have hs := ((rdAll_step ks[i] (ks.drop (i + 1)) (b.drop n)).1 hk).1 (by omega)
       rw [← h5 hi] at hs
       have hn : ¬ rdOK ks b := fun h => by have := h.1; rw [h4] at this; simp only at this; rw [hs] at this; cases this
       first
         | (rw [rdL, if_neg hn]; exact Le.nil rfl)
         | (rw [rdE, if_neg hn]))
    | (have hk : ks[i] = true := by assumption
       have h0 : (oneN (b.drop n) : Int) ≠ 0 := by assumption
       have hi : i < ks.length := by omega
       have hs := ((rdAll_step ks[i] (ks.drop (i + 1)) (b.drop n)).1 hk).2 (by omega)
       rw [← h5 hi] at hs
       have hle : oneN (b.drop n) ≤ b.length - n := by
         unfold oneN; split
         · omega
         · omega
       have hw : IntKind.i64.wrap ((n : Int) + oneN (b.drop n)) = ((n + oneN (b.drop n) : Nat) : Int) := by rw [w64 _ (by omega) (by omega)]; omega
       refine ⟨rfl, (i + 1, n + oneN (b.drop n), out ++ [prtV (oneV (b.drop n))]), ⟨by omega, by dsimp only; omega, by simp [h3], ?_⟩, by dsimp only; omega, ⟨rfl, rfl, sleq (by rw [List.map_append]; rfl), ieq hw, ieq (wsucc i (by omega)), trivial⟩, by simp⟩
       dsimp only
       rw [h4, hs, List.drop_drop]
       simp)
    | (have hk : ks[i] = false := by assumption
       have h0 : IntKind.i64.wrap ((b.length : Int) - n) < 8 := by assumption
       rw [hw8] at h0
       have hi : i < ks.length := by omega
       have hs := ((rdAll_step ks[i] (ks.drop (i + 1)) (b.drop n)).2 hk).1 (by omega)
       rw [← h5 hi] at hs
       have hn : ¬ rdOK ks b := fun h => by have := h.1; rw [h4] at this; simp only at this; rw [hs] at this; cases this
       first
         | (rw [rdL, if_neg hn]; exact Le.nil rfl)
         | (rw [rdE, if_neg hn]))
    | (have hk : ks[i] = false := by assumption
       have h0 : (8 : Int) ≤ IntKind.i64.wrap ((b.length : Int) - n) := by assumption
       rw [hw8] at h0
       have hi : i < ks.length := by omega
       have hs := ((rdAll_step ks[i] (ks.drop (i + 1)) (b.drop n)).2 hk).2 (by omega)
       rw [← h5 hi] at hs
       have hw : IntKind.i64.wrap ((n : Int) + 8) = ((n + 8 : Nat) : Int) := by rw [w64 _ (by omega) (by omega)]; omega
       refine ⟨rfl, (i + 1, n + 8, out ++ [prtN (numV ((b.drop n).take 8))]), ⟨by omega, by dsimp only; omega, by simp [h3], ?_⟩, by dsimp only; omega, ⟨rfl, rfl, sleq (by rw [List.map_append]; rfl), ieq hw, ieq (wsucc i (by omega)), trivial⟩, by simp⟩
       dsimp only
       rw [h4, hs, List.drop_drop]
       simp)
    | (have hi : i = ks.length := by omega
       subst hi
       have h0 : (n : Int) < b.length := by assumption
       rw [List.drop_of_length_le (Nat.le_refl _)] at h4
       have hn : ¬ rdOK ks b := fun h => by have := h.2; rw [h4] at this; simp only [rdAll, List.length_drop] at this; omega
       first
         | (rw [rdL, if_neg hn]; exact Le.nil rfl)
         | (rw [rdE, if_neg hn]))
    | (have hi : i = ks.length := by omega
       subst hi
       have h0 : (b.length : Int) ≤ n := by assumption
       rw [List.drop_of_length_le (Nat.le_refl _)] at h4
       have hn : rdOK ks b := by rw [rdOK, h4]; simp only [rdAll, List.length_drop]; exact ⟨trivial, by omega⟩
       first
         | (rw [rdL, if_pos hn, h4]; exact Le.tokq (by simp [rdAll]))
         | (rw [rdE, if_pos hn]))

/-! The reference's keys read. -/
attribute [local irreducible] rdL rdE dkeyB dkeyE drdD drdE in
set_option maxHeartbeats 16000000 in
theorem dread1_pc [GlobF Try.prog] (o : Int) (b : List UInt8) (hl : b.length < 549755813888) :
    PC Try.prog 31 [.sc (.int .i64 o), .sl none 1 (b.map byteC)] (.tu [eD (drdD o b), .sc (.int .i64 (drdE o b))]) := by
  refine PC.of_body Try.func31 Try.ntmps31 rfl rfl rfl ?_
  repeat' first
    | (refine m_mkR (n := 7) rfl rfl rfl (by decide) (by decide) rfl ?_)
    | (apply p1 (hd := rfl); case hop => first | (apply D_move; rfl) | (apply D_assign; rfl) | (apply D_pc (shape_pc o); rfl; exact .same rfl .nil) | (apply D_load1; rfl) | (apply D_fld; rfl) | (apply D_pickT; rfl; rfl) | (apply D_pickF; rfl; rfl) | (apply D_int; rfl; rfl; rfl) | (apply D_str; rfl; rfl; rfl) | (apply D_ext; rfl; rfl) | (apply D_loadW; rfl; rfl) | (apply D_loadA; rfl; rfl) | (apply D_b2s; rfl) | (apply D_idxAn; rfl; rfl; (first | omega | (simp; done))) | (apply D_idxSn; rfl; rfl; (first | omega | (simp; done))) | (apply D_idxA; rfl; rfl; omega; (first | omega | (simp; done) | (simp; omega))) | (apply D_idxA0; rfl; rfl; omega; (first | omega | (simp; done) | (simp; omega))) | (apply D_idxS; rfl; rfl; omega; (first | omega | (simp; done) | (simp; omega))) | exact D_build rfl | exact D_buildA rfl | exact D_fldB rfl | (apply D_ixRn; rfl; rfl; (first | omega | (simp; done))) | (apply D_ixR; rfl; rfl; all_goals first | omega | ((repeat rw [w64 _ (by omega) (by omega)]); omega) | decide) | (apply D_mkB; rfl; rfl; all_goals first | omega | ((repeat rw [w64 _ (by omega) (by omega)]); omega) | decide) | (apply D_mk1; rfl; rfl; rfl; all_goals first | omega | ((repeat rw [w64 _ (by omega) (by omega)]); omega) | decide))
    | refine W_seq ?_
    | refine W_region ?_
    | (refine idC ?_; first | refine c1 rfl ?_ | refine c0 rfl ?_ | refine cs rfl (fun _ => ?_) (fun _ => ?_))
    | refine WL_nil ?_
    | (refine idG ?_; first | refine g0t rfl rfl rfl ?_ | refine g0f rfl rfl rfl ?_ | refine g0u rfl rfl rfl ?_ | refine gr rfl rfl ?_ | refine gs rfl rfl (fun _ => ?_) (fun _ => ?_) | refine grn rfl rfl ?_)
    | refine tn ?_
    | refine tr ?_
    | refine br ?_
    | refine bn ?_
    | refine te ?_
    | (refine idB ?_; first | refine bh rfl ?_ | refine bm rfl ?_)
    | refine W_skip ?_
    | refine W_block ?_
    | refine W_exit ?_
    | refine W_ret ?_
    | refine W_label ?_
    | refine W_scope ?_
    | refine sn ?_
    | refine sr ?_
    | refine se ?_
    | (refine idR ?_; first | refine ret2 rfl rfl rfl rfl ?_ ?_ | refine rL2 rfl (by first | exact trivial | exact ⟨rfl, trivial⟩) (by first | exact ResO.tmp rfl | exact ResO.cellBA rfl rfl rfl | exact ResO.cellB1 rfl rfl rfl | exact ResO.cellEA rfl rfl | exact ResO.cellE1 rfl) (by first | exact ResO.tmp rfl | exact ResO.cellBA rfl rfl rfl | exact ResO.cellB1 rfl rfl rfl | exact ResO.cellEA rfl rfl | exact ResO.cellE1 rfl) ?_ ?_)
    | (refine idLd ?_; first | refine p1L (D_loadB1 rfl rfl rfl) rfl ?_ | refine p1L (D_loadBA rfl rfl rfl) rfl ?_ | refine p1L (D_loadB1 rfl (by (repeat first | assumption | exact get_last | (refine get_last2 ?_; focus (simp; done)) | apply get_set | apply get_app | (apply get_ne; focus omega) | (apply get_ne; focus (simp only [List.length_set, List.length_append, List.length_cons, List.length_nil]; omega))); done) (by rfl)) rfl ?_ | refine p1L (D_loadBA rfl (by (repeat first | assumption | exact get_last | (refine get_last2 ?_; focus (simp; done)) | apply get_set | apply get_app | (apply get_ne; focus omega) | (apply get_ne; focus (simp only [List.length_set, List.length_append, List.length_cons, List.length_nil]; omega))); done) (by rfl)) rfl ?_)
    | (refine idA ?_; first | refine m_alloc rfl ?_)
    | (refine idS ?_; first | refine pS (S_store rfl rfl rfl rfl rfl rfl rfl) ?_ | refine pS (S_store rfl rfl rfl (by (repeat first | assumption | exact get_last | (refine get_last2 ?_; focus (simp; done)) | apply get_set | apply get_app | (apply get_ne; focus omega) | (apply get_ne; focus (simp only [List.length_set, List.length_append, List.length_cons, List.length_nil]; omega))); done) (by rfl) (by rfl) (by rfl)) ?_)
    | refine Le.bool ?_
    | refine Le.int ?_
    | refine Le.str ?_
    | (refine idW ?_; first | refine W_draw0 rfl ?_ | refine W_draw1 rfl ?_ | refine W_draw2 rfl ?_ | refine W_draw3 rfl ?_)
    | (apply d1 (hd := rfl); case hop => first | (apply D_move; rfl) | (apply D_assign; rfl) | (apply D_pc (shape_pc o); rfl; exact .same rfl .nil) | (apply D_load1; rfl) | (apply D_fld; rfl) | (apply D_pickT; rfl; rfl) | (apply D_pickF; rfl; rfl) | (apply D_int; rfl; rfl; rfl) | (apply D_str; rfl; rfl; rfl) | (apply D_ext; rfl; rfl) | (apply D_loadW; rfl; rfl) | (apply D_loadA; rfl; rfl) | (apply D_b2s; rfl) | (apply D_idxAn; rfl; rfl; (first | omega | (simp; done))) | (apply D_idxSn; rfl; rfl; (first | omega | (simp; done))) | (apply D_idxA; rfl; rfl; omega; (first | omega | (simp; done) | (simp; omega))) | (apply D_idxA0; rfl; rfl; omega; (first | omega | (simp; done) | (simp; omega))) | (apply D_idxS; rfl; rfl; omega; (first | omega | (simp; done) | (simp; omega))) | exact D_build rfl | exact D_buildA rfl | exact D_fldB rfl | (apply D_ixRn; rfl; rfl; (first | omega | (simp; done))) | (apply D_ixR; rfl; rfl; all_goals first | omega | ((repeat rw [w64 _ (by omega) (by omega)]); omega) | decide) | (apply D_mkB; rfl; rfl; all_goals first | omega | ((repeat rw [w64 _ (by omega) (by omega)]); omega) | decide) | (apply D_mk1; rfl; rfl; rfl; all_goals first | omega | ((repeat rw [w64 _ (by omega) (by omega)]); omega) | decide))
    | (refine idDg ?_; first | refine dg0t rfl rfl rfl ?_ | refine dg0f rfl rfl rfl ?_ | refine dg0u rfl rfl rfl ?_ | refine dgr rfl rfl ?_ | refine dgs rfl rfl (fun _ => ?_) (fun _ => ?_))
    | (refine idDn ?_; first | refine dL _ (fun hp' hs => D_loadB1 rfl (hs.trans rfl) rfl) rfl ?_ | refine dL _ (fun hp' hs => D_loadBA rfl (hs.trans rfl) rfl) rfl ?_ | refine dS (S_store rfl rfl rfl rfl rfl rfl rfl) rfl ?_ | refine dV (S_alloc 0 rfl) rfl rfl ?_ | refine dV (S_alloc 1 rfl) rfl rfl ?_ | refine dV (S_alloc 2 rfl) rfl rfl ?_ | refine dV (S_alloc 3 rfl) rfl rfl ?_ | refine dV (S_alloc 4 rfl) rfl rfl ?_ | refine dV (S_alloc 5 rfl) rfl rfl ?_ | refine dV (S_alloc 6 rfl) rfl rfl ?_ | refine dV (S_alloc 7 rfl) rfl rfl ?_)
    | refine WD_nil (by decide +kernel) ?_
  all_goals first
    | (have hn : ¬ (1 ≤ o ∧ o ≤ 4) := by omega
       first
         | (rw [show drdD o b = dat0 by rw [drdD, if_neg fun h => hn h.1]]; exact Le.of_eq rfl)
         | (rw [drdE, if_neg hn]))
    | skip
  have hc : o = 1 ∨ o = 2 ∨ o = 3 ∨ o = 4 := by omega
  rcases hc with rfl | rfl | rfl | rfl
  · rw [show shapeS 1 = [101, 97, 118] from rfl]
    refine W_rounds 4 ?_
    repeat' first
      | (refine cs rfl ?_ (fun _ => ?_); focus (intro h; exfalso; revert h; decide))
      | (refine cs rfl (fun _ => ?_) ?_; focus (intro h; exfalso; revert h; decide))
      | (apply p1 (hd := rfl); case hop => first | (apply D_move; rfl) | (apply D_assign; rfl) | exact D_eqD rfl rfl | exact D_ltD rfl rfl | (apply D_idxS; rfl; rfl; all_goals exact of_decide_eq_true rfl) | (apply D_ixR; rfl; rfl; all_goals exact of_decide_eq_true rfl) | (apply D_idxA; rfl; rfl; all_goals exact of_decide_eq_true rfl) | (apply D_load1; rfl) | (apply D_fld; rfl) | (apply D_pickT; rfl; rfl) | (apply D_pickF; rfl; rfl) | (apply D_int; rfl; rfl; rfl) | (apply D_str; rfl; rfl; rfl) | (apply D_ext; rfl; rfl) | (apply D_loadW; rfl; rfl) | (apply D_loadA; rfl; rfl) | (apply D_b2s; rfl) | (apply D_idxAn; rfl; rfl; (first | omega | (simp; done))) | (apply D_idxSn; rfl; rfl; (first | omega | (simp; done))) | (apply D_idxA; rfl; rfl; omega; (first | omega | (simp; done) | (simp; omega))) | (apply D_idxA0; rfl; rfl; omega; (first | omega | (simp; done) | (simp; omega))) | (apply D_idxS; rfl; rfl; omega; (first | omega | (simp; done) | (simp; omega))) | exact D_build rfl | exact D_buildA rfl | exact D_fldB rfl | (apply D_ixRn; rfl; rfl; (first | omega | (simp; done))) | (apply D_ixR; rfl; rfl; all_goals first | omega | ((repeat rw [w64 _ (by omega) (by omega)]); omega) | decide) | (apply D_mkB; rfl; rfl; all_goals first | omega | ((repeat rw [w64 _ (by omega) (by omega)]); omega) | decide) | (apply D_mk1; rfl; rfl; rfl; all_goals first | omega | ((repeat rw [w64 _ (by omega) (by omega)]); omega) | decide))
      | refine W_seq ?_
      | refine W_region ?_
      | (refine idC ?_; first | refine c1 rfl ?_ | refine c0 rfl ?_ | refine cs rfl (fun _ => ?_) (fun _ => ?_))
      | refine WL_nil ?_
      | (refine idG ?_; first | refine g0t rfl rfl rfl ?_ | refine g0f rfl rfl rfl ?_ | refine g0u rfl rfl rfl ?_ | refine gr rfl rfl ?_ | refine gs rfl rfl (fun _ => ?_) (fun _ => ?_) | refine grn rfl rfl ?_)
      | refine tn ?_
      | refine tr ?_
      | refine br ?_
      | refine bn ?_
      | refine te ?_
      | (refine idB ?_; first | refine bh rfl ?_ | refine bm rfl ?_)
      | refine W_skip ?_
      | refine W_block ?_
      | refine W_exit ?_
      | refine W_ret ?_
      | refine W_label ?_
      | refine W_scope ?_
      | refine sn ?_
      | refine sr ?_
      | refine se ?_
      | (refine idLd ?_; first | refine p1L (D_loadB1 rfl rfl rfl) rfl ?_ | refine p1L (D_loadBA rfl rfl rfl) rfl ?_ | refine p1L (D_loadB1 rfl (by (repeat first | assumption | exact get_last | (refine get_last2 ?_; focus (simp; done)) | apply get_set | apply get_app | (apply get_ne; focus omega) | (apply get_ne; focus (simp only [List.length_set, List.length_append, List.length_cons, List.length_nil]; omega))); done) (by rfl)) rfl ?_ | refine p1L (D_loadBA rfl (by (repeat first | assumption | exact get_last | (refine get_last2 ?_; focus (simp; done)) | apply get_set | apply get_app | (apply get_ne; focus omega) | (apply get_ne; focus (simp only [List.length_set, List.length_append, List.length_cons, List.length_nil]; omega))); done) (by rfl)) rfl ?_)
      | (refine idA ?_; first | refine m_alloc rfl ?_)
      | (refine idS ?_; first | refine pS (S_store rfl rfl rfl rfl rfl rfl rfl) ?_ | refine pS (S_store rfl rfl rfl (by (repeat first | assumption | exact get_last | (refine get_last2 ?_; focus (simp; done)) | apply get_set | apply get_app | (apply get_ne; focus omega) | (apply get_ne; focus (simp only [List.length_set, List.length_append, List.length_cons, List.length_nil]; omega))); done) (by rfl) (by rfl) (by rfl)) ?_)
      | refine Le.bool ?_
      | refine Le.int ?_
      | refine Le.str ?_
      | refine wr_succ ?_
      | (refine idW ?_; first | refine W_draw0 rfl ?_ | refine W_draw1 rfl ?_ | refine W_draw2 rfl ?_ | refine W_draw3 rfl ?_)
      | (apply d1 (hd := rfl); case hop => first | (apply D_move; rfl) | (apply D_assign; rfl) | exact D_eqD rfl rfl | exact D_ltD rfl rfl | (apply D_idxS; rfl; rfl; all_goals exact of_decide_eq_true rfl) | (apply D_ixR; rfl; rfl; all_goals exact of_decide_eq_true rfl) | (apply D_idxA; rfl; rfl; all_goals exact of_decide_eq_true rfl) | (apply D_load1; rfl) | (apply D_fld; rfl) | (apply D_pickT; rfl; rfl) | (apply D_pickF; rfl; rfl) | (apply D_int; rfl; rfl; rfl) | (apply D_str; rfl; rfl; rfl) | (apply D_ext; rfl; rfl) | (apply D_loadW; rfl; rfl) | (apply D_loadA; rfl; rfl) | (apply D_b2s; rfl) | (apply D_idxAn; rfl; rfl; (first | omega | (simp; done))) | (apply D_idxSn; rfl; rfl; (first | omega | (simp; done))) | (apply D_idxA; rfl; rfl; omega; (first | omega | (simp; done) | (simp; omega))) | (apply D_idxA0; rfl; rfl; omega; (first | omega | (simp; done) | (simp; omega))) | (apply D_idxS; rfl; rfl; omega; (first | omega | (simp; done) | (simp; omega))) | exact D_build rfl | exact D_buildA rfl | exact D_fldB rfl | (apply D_ixRn; rfl; rfl; (first | omega | (simp; done))) | (apply D_ixR; rfl; rfl; all_goals first | omega | ((repeat rw [w64 _ (by omega) (by omega)]); omega) | decide) | (apply D_mkB; rfl; rfl; all_goals first | omega | ((repeat rw [w64 _ (by omega) (by omega)]); omega) | decide) | (apply D_mk1; rfl; rfl; rfl; all_goals first | omega | ((repeat rw [w64 _ (by omega) (by omega)]); omega) | decide))
      | (refine idDg ?_; first | refine dg0t rfl rfl rfl ?_ | refine dg0f rfl rfl rfl ?_ | refine dg0u rfl rfl rfl ?_ | refine dgr rfl rfl ?_ | refine dgs rfl rfl (fun _ => ?_) (fun _ => ?_))
      | (refine idDn ?_; first | refine dL _ (fun hp' hs => D_loadB1 rfl (hs.trans rfl) rfl) rfl ?_ | refine dL _ (fun hp' hs => D_loadBA rfl (hs.trans rfl) rfl) rfl ?_ | refine dS (S_store rfl rfl rfl rfl rfl rfl rfl) rfl ?_ | refine dV (S_alloc 0 rfl) rfl rfl ?_ | refine dV (S_alloc 1 rfl) rfl rfl ?_ | refine dV (S_alloc 2 rfl) rfl rfl ?_ | refine dV (S_alloc 3 rfl) rfl rfl ?_ | refine dV (S_alloc 4 rfl) rfl rfl ?_ | refine dV (S_alloc 5 rfl) rfl rfl ?_ | refine dV (S_alloc 6 rfl) rfl rfl ?_ | refine dV (S_alloc 7 rfl) rfl rfl ?_)
      | refine WD_nil (by decide +kernel) ?_
    refine WL_freezeR 1 1 (els := (kindsO 1).map boC) (sp := []) rfl (fun e he => by obtain ⟨a, _, rfl⟩ := List.mem_map.1 he; rfl) ?_
    repeat' first
      | (apply p1 (hd := rfl); case hop => first | (apply D_move; rfl) | (apply D_assign; rfl) | (apply D_pc (read1_pc b (kindsO 1) hl (by decide)); rfl; exact .same rfl (.same rfl .nil)) | (apply D_load1; rfl) | (apply D_fld; rfl) | (apply D_pickT; rfl; rfl) | (apply D_pickF; rfl; rfl) | (apply D_int; rfl; rfl; rfl) | (apply D_str; rfl; rfl; rfl) | (apply D_ext; rfl; rfl) | (apply D_loadW; rfl; rfl) | (apply D_loadA; rfl; rfl) | (apply D_b2s; rfl) | (apply D_idxAn; rfl; rfl; (first | omega | (simp; done))) | (apply D_idxSn; rfl; rfl; (first | omega | (simp; done))) | (apply D_idxA; rfl; rfl; omega; (first | omega | (simp; done) | (simp; omega))) | (apply D_idxA0; rfl; rfl; omega; (first | omega | (simp; done) | (simp; omega))) | (apply D_idxS; rfl; rfl; omega; (first | omega | (simp; done) | (simp; omega))) | exact D_build rfl | exact D_buildA rfl | exact D_fldB rfl | (apply D_ixRn; rfl; rfl; (first | omega | (simp; done))) | (apply D_ixR; rfl; rfl; all_goals first | omega | ((repeat rw [w64 _ (by omega) (by omega)]); omega) | decide) | (apply D_mkB; rfl; rfl; all_goals first | omega | ((repeat rw [w64 _ (by omega) (by omega)]); omega) | decide) | (apply D_mk1; rfl; rfl; rfl; all_goals first | omega | ((repeat rw [w64 _ (by omega) (by omega)]); omega) | decide))
      | refine W_seq ?_
      | refine W_region ?_
      | (refine idC ?_; first | refine c1 rfl ?_ | refine c0 rfl ?_ | refine cs rfl (fun _ => ?_) (fun _ => ?_))
      | refine WL_nil ?_
      | (refine idG ?_; first | refine g0t rfl rfl rfl ?_ | refine g0f rfl rfl rfl ?_ | refine g0u rfl rfl rfl ?_ | refine gr rfl rfl ?_ | refine gs rfl rfl (fun _ => ?_) (fun _ => ?_) | refine grn rfl rfl ?_)
      | refine tn ?_
      | refine tr ?_
      | refine br ?_
      | refine bn ?_
      | refine te ?_
      | (refine idB ?_; first | refine bh rfl ?_ | refine bm rfl ?_)
      | refine W_skip ?_
      | refine W_block ?_
      | refine W_exit ?_
      | refine W_ret ?_
      | refine W_label ?_
      | refine W_scope ?_
      | refine sn ?_
      | refine sr ?_
      | refine se ?_
      | (refine idR ?_; first | refine ret2 rfl rfl rfl rfl ?_ ?_ | refine rL2 rfl (by first | exact trivial | exact ⟨rfl, trivial⟩) (by first | exact ResO.tmp rfl | exact ResO.cellBA rfl rfl rfl | exact ResO.cellB1 rfl rfl rfl | exact ResO.cellEA rfl rfl | exact ResO.cellE1 rfl) (by first | exact ResO.tmp rfl | exact ResO.cellBA rfl rfl rfl | exact ResO.cellB1 rfl rfl rfl | exact ResO.cellEA rfl rfl | exact ResO.cellE1 rfl) ?_ ?_)
      | (refine idLd ?_; first | refine p1L (D_loadB1 rfl rfl rfl) rfl ?_ | refine p1L (D_loadBA rfl rfl rfl) rfl ?_ | refine p1L (D_loadB1 rfl (by (repeat first | assumption | exact get_last | (refine get_last2 ?_; focus (simp; done)) | apply get_set | apply get_app | (apply get_ne; focus omega) | (apply get_ne; focus (simp only [List.length_set, List.length_append, List.length_cons, List.length_nil]; omega))); done) (by rfl)) rfl ?_ | refine p1L (D_loadBA rfl (by (repeat first | assumption | exact get_last | (refine get_last2 ?_; focus (simp; done)) | apply get_set | apply get_app | (apply get_ne; focus omega) | (apply get_ne; focus (simp only [List.length_set, List.length_append, List.length_cons, List.length_nil]; omega))); done) (by rfl)) rfl ?_)
      | (refine idA ?_; first | refine m_alloc rfl ?_)
      | (refine idS ?_; first | refine pS (S_store rfl rfl rfl rfl rfl rfl rfl) ?_ | refine pS (S_store rfl rfl rfl (by (repeat first | assumption | exact get_last | (refine get_last2 ?_; focus (simp; done)) | apply get_set | apply get_app | (apply get_ne; focus omega) | (apply get_ne; focus (simp only [List.length_set, List.length_append, List.length_cons, List.length_nil]; omega))); done) (by rfl) (by rfl) (by rfl)) ?_)
      | refine Le.bool ?_
      | refine Le.int ?_
      | refine Le.str ?_
      | (refine idW ?_; first | refine W_draw0 rfl ?_ | refine W_draw1 rfl ?_ | refine W_draw2 rfl ?_ | refine W_draw3 rfl ?_)
      | (apply d1 (hd := rfl); case hop => first | (apply D_move; rfl) | (apply D_assign; rfl) | (apply D_pc (read1_pc b (kindsO 1) hl (by decide)); rfl; exact .same rfl (.same rfl .nil)) | (apply D_load1; rfl) | (apply D_fld; rfl) | (apply D_pickT; rfl; rfl) | (apply D_pickF; rfl; rfl) | (apply D_int; rfl; rfl; rfl) | (apply D_str; rfl; rfl; rfl) | (apply D_ext; rfl; rfl) | (apply D_loadW; rfl; rfl) | (apply D_loadA; rfl; rfl) | (apply D_b2s; rfl) | (apply D_idxAn; rfl; rfl; (first | omega | (simp; done))) | (apply D_idxSn; rfl; rfl; (first | omega | (simp; done))) | (apply D_idxA; rfl; rfl; omega; (first | omega | (simp; done) | (simp; omega))) | (apply D_idxA0; rfl; rfl; omega; (first | omega | (simp; done) | (simp; omega))) | (apply D_idxS; rfl; rfl; omega; (first | omega | (simp; done) | (simp; omega))) | exact D_build rfl | exact D_buildA rfl | exact D_fldB rfl | (apply D_ixRn; rfl; rfl; (first | omega | (simp; done))) | (apply D_ixR; rfl; rfl; all_goals first | omega | ((repeat rw [w64 _ (by omega) (by omega)]); omega) | decide) | (apply D_mkB; rfl; rfl; all_goals first | omega | ((repeat rw [w64 _ (by omega) (by omega)]); omega) | decide) | (apply D_mk1; rfl; rfl; rfl; all_goals first | omega | ((repeat rw [w64 _ (by omega) (by omega)]); omega) | decide))
      | (refine idDg ?_; first | refine dg0t rfl rfl rfl ?_ | refine dg0f rfl rfl rfl ?_ | refine dg0u rfl rfl rfl ?_ | refine dgr rfl rfl ?_ | refine dgs rfl rfl (fun _ => ?_) (fun _ => ?_))
      | (refine idDn ?_; first | refine dL _ (fun hp' hs => D_loadB1 rfl (hs.trans rfl) rfl) rfl ?_ | refine dL _ (fun hp' hs => D_loadBA rfl (hs.trans rfl) rfl) rfl ?_ | refine dS (S_store rfl rfl rfl rfl rfl rfl rfl) rfl ?_ | refine dV (S_alloc 0 rfl) rfl rfl ?_ | refine dV (S_alloc 1 rfl) rfl rfl ?_ | refine dV (S_alloc 2 rfl) rfl rfl ?_ | refine dV (S_alloc 3 rfl) rfl rfl ?_ | refine dV (S_alloc 4 rfl) rfl rfl ?_ | refine dV (S_alloc 5 rfl) rfl rfl ?_ | refine dV (S_alloc 6 rfl) rfl rfl ?_ | refine dV (S_alloc 7 rfl) rfl rfl ?_)
      | refine WD_nil (by decide +kernel) ?_
    · rename_i h2
      have hn : ¬ drdP 1 b := fun h => h2 (by rw [rdE, if_pos h.2.1])
      rw [show drdD 1 b = dat0 by rw [drdD, if_neg hn]]; exact Le.of_eq rfl
    · rename_i h2
      have hn : ¬ drdP 1 b := fun h => h2 (by rw [rdE, if_pos h.2.1])
      rw [drdE, if_pos (by decide), if_neg hn]
    rename_i h2
    have hok : rdOK (kindsO 1) b := by
      rw [rdE] at h2; split at h2
      · assumption
      · cases h2
    have hL : rdL (kindsO 1) b = (rdAll (kindsO 1) (b, false)).1 := by rw [rdL, if_pos hok]
    have hL7 : (rdL (kindsO 1) b).length = 7 := by rw [hL, rdAll_full _ _ hok.1]; simp [kindsO, part7_len]
    have hv : ∀ p, p ∈ rdL (kindsO 1) b → p.v.s.length < 9223372036854775808 := fun p hp => by
      rw [hL] at hp; have := rdAll_s _ _ p hp; simp only at this; omega
    have hi := drd_iff (o := 1) (by decide) hok
    have hD : drdP 1 b → drdD 1 b = datOf 1 (rdL (kindsO 1) b) := fun h => by rw [drdD, if_pos h]
    have hD0 : ¬ drdP 1 b → drdD 1 b = dat0 := fun h => by rw [drdD, if_neg h]
    have hE : drdP 1 b → 0 = drdE 1 b := fun h => by rw [drdE, if_pos (by decide), if_pos h]
    have hE0 : ¬ drdP 1 b → 40 = drdE 1 b := fun h => by rw [drdE, if_pos (by decide), if_neg h]
    generalize rdL (kindsO 1) b = L at *
    obtain ⟨q0, q1, q2, q3, q4, q5, q6, rfl⟩ := seven hL7
    have hdt : datOf 1 [q0, q1, q2, q3, q4, q5, q6] = ⟨q0.n, q1.n, q2.v, q3.n, iEq q4.n 0, q5.n, q6.n⟩ := rfl
    rw [hdt] at hi hD
    have hvv : (q2).v.s.length < 9223372036854775808 := hv q2 (by simp)
    clear hL hv hok h2
    repeat' first
      | (apply p1 (hd := rfl); case hop => first | (apply D_move; rfl) | (apply D_assign; rfl) | (apply D_idxAn; rfl; rfl; exact of_decide_eq_true rfl) | (apply D_load1; rfl) | (apply D_fld; rfl) | (apply D_pickT; rfl; rfl) | (apply D_pickF; rfl; rfl) | (apply D_int; rfl; rfl; rfl) | (apply D_str; rfl; rfl; rfl) | (apply D_ext; rfl; rfl) | (apply D_loadW; rfl; rfl) | (apply D_loadA; rfl; rfl) | (apply D_b2s; rfl) | (apply D_idxAn; rfl; rfl; (first | omega | (simp; done))) | (apply D_idxSn; rfl; rfl; (first | omega | (simp; done))) | (apply D_idxA; rfl; rfl; omega; (first | omega | (simp; done) | (simp; omega))) | (apply D_idxA0; rfl; rfl; omega; (first | omega | (simp; done) | (simp; omega))) | (apply D_idxS; rfl; rfl; omega; (first | omega | (simp; done) | (simp; omega))) | exact D_build rfl | exact D_buildA rfl | exact D_fldB rfl | (apply D_ixRn; rfl; rfl; (first | omega | (simp; done))) | (apply D_ixR; rfl; rfl; all_goals first | omega | ((repeat rw [w64 _ (by omega) (by omega)]); omega) | decide) | (apply D_mkB; rfl; rfl; all_goals first | omega | ((repeat rw [w64 _ (by omega) (by omega)]); omega) | decide) | (apply D_mk1; rfl; rfl; rfl; all_goals first | omega | ((repeat rw [w64 _ (by omega) (by omega)]); omega) | decide))
      | refine W_seq ?_
      | refine W_region ?_
      | (refine idC ?_; first | refine c1 rfl ?_ | refine c0 rfl ?_ | refine cs rfl (fun _ => ?_) (fun _ => ?_))
      | refine WL_nil ?_
      | (refine idG ?_; first | refine g0t rfl rfl rfl ?_ | refine g0f rfl rfl rfl ?_ | refine g0u rfl rfl rfl ?_ | refine gr rfl rfl ?_ | refine gs rfl rfl (fun _ => ?_) (fun _ => ?_) | refine grn rfl rfl ?_)
      | refine tn ?_
      | refine tr ?_
      | refine br ?_
      | refine bn ?_
      | refine te ?_
      | (refine idB ?_; first | refine bh rfl ?_ | refine bm rfl ?_)
      | refine W_skip ?_
      | refine W_block ?_
      | refine W_exit ?_
      | refine W_ret ?_
      | refine W_label ?_
      | refine W_scope ?_
      | refine sn ?_
      | refine sr ?_
      | refine se ?_
      | (refine idR ?_; first | refine ret2 rfl rfl rfl rfl ?_ ?_ | refine rL2 rfl (by first | exact trivial | exact ⟨rfl, trivial⟩) (by first | exact ResO.tmp rfl | exact ResO.cellBA rfl rfl rfl | exact ResO.cellB1 rfl rfl rfl | exact ResO.cellEA rfl rfl | exact ResO.cellE1 rfl) (by first | exact ResO.tmp rfl | exact ResO.cellBA rfl rfl rfl | exact ResO.cellB1 rfl rfl rfl | exact ResO.cellEA rfl rfl | exact ResO.cellE1 rfl) ?_ ?_)
      | (refine idLd ?_; first | refine p1L (D_loadB1 rfl rfl rfl) rfl ?_ | refine p1L (D_loadBA rfl rfl rfl) rfl ?_ | refine p1L (D_loadB1 rfl (by (repeat first | assumption | exact get_last | (refine get_last2 ?_; focus (simp; done)) | apply get_set | apply get_app | (apply get_ne; focus omega) | (apply get_ne; focus (simp only [List.length_set, List.length_append, List.length_cons, List.length_nil]; omega))); done) (by rfl)) rfl ?_ | refine p1L (D_loadBA rfl (by (repeat first | assumption | exact get_last | (refine get_last2 ?_; focus (simp; done)) | apply get_set | apply get_app | (apply get_ne; focus omega) | (apply get_ne; focus (simp only [List.length_set, List.length_append, List.length_cons, List.length_nil]; omega))); done) (by rfl)) rfl ?_)
      | (refine idA ?_; first | refine m_alloc rfl ?_)
      | (refine idS ?_; first | refine pS (S_store rfl rfl rfl rfl rfl rfl rfl) ?_ | refine pS (S_store rfl rfl rfl (by (repeat first | assumption | exact get_last | (refine get_last2 ?_; focus (simp; done)) | apply get_set | apply get_app | (apply get_ne; focus omega) | (apply get_ne; focus (simp only [List.length_set, List.length_append, List.length_cons, List.length_nil]; omega))); done) (by rfl) (by rfl) (by rfl)) ?_)
      | refine Le.bool ?_
      | refine Le.int ?_
      | refine Le.str ?_
      | (refine idW ?_; first | refine W_draw0 rfl ?_ | refine W_draw1 rfl ?_ | refine W_draw2 rfl ?_ | refine W_draw3 rfl ?_)
      | (apply d1 (hd := rfl); case hop => first | (apply D_move; rfl) | (apply D_assign; rfl) | (apply D_idxAn; rfl; rfl; exact of_decide_eq_true rfl) | (apply D_load1; rfl) | (apply D_fld; rfl) | (apply D_pickT; rfl; rfl) | (apply D_pickF; rfl; rfl) | (apply D_int; rfl; rfl; rfl) | (apply D_str; rfl; rfl; rfl) | (apply D_ext; rfl; rfl) | (apply D_loadW; rfl; rfl) | (apply D_loadA; rfl; rfl) | (apply D_b2s; rfl) | (apply D_idxAn; rfl; rfl; (first | omega | (simp; done))) | (apply D_idxSn; rfl; rfl; (first | omega | (simp; done))) | (apply D_idxA; rfl; rfl; omega; (first | omega | (simp; done) | (simp; omega))) | (apply D_idxA0; rfl; rfl; omega; (first | omega | (simp; done) | (simp; omega))) | (apply D_idxS; rfl; rfl; omega; (first | omega | (simp; done) | (simp; omega))) | exact D_build rfl | exact D_buildA rfl | exact D_fldB rfl | (apply D_ixRn; rfl; rfl; (first | omega | (simp; done))) | (apply D_ixR; rfl; rfl; all_goals first | omega | ((repeat rw [w64 _ (by omega) (by omega)]); omega) | decide) | (apply D_mkB; rfl; rfl; all_goals first | omega | ((repeat rw [w64 _ (by omega) (by omega)]); omega) | decide) | (apply D_mk1; rfl; rfl; rfl; all_goals first | omega | ((repeat rw [w64 _ (by omega) (by omega)]); omega) | decide))
      | (refine idDg ?_; first | refine dg0t rfl rfl rfl ?_ | refine dg0f rfl rfl rfl ?_ | refine dg0u rfl rfl rfl ?_ | refine dgr rfl rfl ?_ | refine dgs rfl rfl (fun _ => ?_) (fun _ => ?_))
      | (refine idDn ?_; first | refine dL _ (fun hp' hs => D_loadB1 rfl (hs.trans rfl) rfl) rfl ?_ | refine dL _ (fun hp' hs => D_loadBA rfl (hs.trans rfl) rfl) rfl ?_ | refine dS (S_store rfl rfl rfl rfl rfl rfl rfl) rfl ?_ | refine dV (S_alloc 0 rfl) rfl rfl ?_ | refine dV (S_alloc 1 rfl) rfl rfl ?_ | refine dV (S_alloc 2 rfl) rfl rfl ?_ | refine dV (S_alloc 3 rfl) rfl rfl ?_ | refine dV (S_alloc 4 rfl) rfl rfl ?_ | refine dV (S_alloc 5 rfl) rfl rfl ?_ | refine dV (S_alloc 6 rfl) rfl rfl ?_ | refine dV (S_alloc 7 rfl) rfl rfl ?_)
      | refine WD_nil (by decide +kernel) ?_
    refine W_rounds 4 ?_
    repeat' first
      | (refine cs rfl ?_ (fun _ => ?_); focus (intro h; exfalso; revert h; decide))
      | (refine cs rfl (fun _ => ?_) ?_; focus (intro h; exfalso; revert h; decide))
      | (apply p1 (hd := rfl); case hop => first | (apply D_move; rfl) | (apply D_assign; rfl) | exact D_eqD rfl rfl | exact D_ltD rfl rfl | (apply D_idxS; rfl; rfl; all_goals exact of_decide_eq_true rfl) | (apply D_ixR; rfl; rfl; all_goals exact of_decide_eq_true rfl) | (apply D_idxA; rfl; rfl; all_goals exact of_decide_eq_true rfl) | (apply D_pc (dkey1_pc 1 ⟨q0.n, q1.n, q2.v, q3.n, iEq q4.n 0, q5.n, q6.n⟩ hvv); rfl; exact .same rfl (.same rfl .nil)) | (apply D_load1; rfl) | (apply D_fld; rfl) | (apply D_pickT; rfl; rfl) | (apply D_pickF; rfl; rfl) | (apply D_int; rfl; rfl; rfl) | (apply D_str; rfl; rfl; rfl) | (apply D_ext; rfl; rfl) | (apply D_loadW; rfl; rfl) | (apply D_loadA; rfl; rfl) | (apply D_b2s; rfl) | (apply D_idxAn; rfl; rfl; (first | omega | (simp; done))) | (apply D_idxSn; rfl; rfl; (first | omega | (simp; done))) | (apply D_idxA; rfl; rfl; omega; (first | omega | (simp; done) | (simp; omega))) | (apply D_idxA0; rfl; rfl; omega; (first | omega | (simp; done) | (simp; omega))) | (apply D_idxS; rfl; rfl; omega; (first | omega | (simp; done) | (simp; omega))) | exact D_build rfl | exact D_buildA rfl | exact D_fldB rfl | (apply D_ixRn; rfl; rfl; (first | omega | (simp; done))) | (apply D_ixR; rfl; rfl; all_goals first | omega | ((repeat rw [w64 _ (by omega) (by omega)]); omega) | decide) | (apply D_mkB; rfl; rfl; all_goals first | omega | ((repeat rw [w64 _ (by omega) (by omega)]); omega) | decide) | (apply D_mk1; rfl; rfl; rfl; all_goals first | omega | ((repeat rw [w64 _ (by omega) (by omega)]); omega) | decide))
      | refine W_seq ?_
      | refine W_region ?_
      | (refine idC ?_; first | refine c1 rfl ?_ | refine c0 rfl ?_ | refine cs rfl (fun _ => ?_) (fun _ => ?_))
      | refine WL_nil ?_
      | (refine idG ?_; first | refine g0t rfl rfl rfl ?_ | refine g0f rfl rfl rfl ?_ | refine g0u rfl rfl rfl ?_ | refine gr rfl rfl ?_ | refine gs rfl rfl (fun _ => ?_) (fun _ => ?_) | refine grn rfl rfl ?_)
      | refine tn ?_
      | refine tr ?_
      | refine br ?_
      | refine bn ?_
      | refine te ?_
      | (refine idB ?_; first | refine bh rfl ?_ | refine bm rfl ?_)
      | refine W_skip ?_
      | refine W_block ?_
      | refine W_exit ?_
      | refine W_ret ?_
      | refine W_label ?_
      | refine W_scope ?_
      | refine sn ?_
      | refine sr ?_
      | refine se ?_
      | (refine idR ?_; first | refine ret2 rfl rfl rfl rfl ?_ ?_ | refine rL2 rfl (by first | exact trivial | exact ⟨rfl, trivial⟩) (by first | exact ResO.tmp rfl | exact ResO.cellBA rfl rfl rfl | exact ResO.cellB1 rfl rfl rfl | exact ResO.cellEA rfl rfl | exact ResO.cellE1 rfl) (by first | exact ResO.tmp rfl | exact ResO.cellBA rfl rfl rfl | exact ResO.cellB1 rfl rfl rfl | exact ResO.cellEA rfl rfl | exact ResO.cellE1 rfl) ?_ ?_)
      | (refine idLd ?_; first | refine p1L (D_loadB1 rfl rfl rfl) rfl ?_ | refine p1L (D_loadBA rfl rfl rfl) rfl ?_ | refine p1L (D_loadB1 rfl (by (repeat first | assumption | exact get_last | (refine get_last2 ?_; focus (simp; done)) | apply get_set | apply get_app | (apply get_ne; focus omega) | (apply get_ne; focus (simp only [List.length_set, List.length_append, List.length_cons, List.length_nil]; omega))); done) (by rfl)) rfl ?_ | refine p1L (D_loadBA rfl (by (repeat first | assumption | exact get_last | (refine get_last2 ?_; focus (simp; done)) | apply get_set | apply get_app | (apply get_ne; focus omega) | (apply get_ne; focus (simp only [List.length_set, List.length_append, List.length_cons, List.length_nil]; omega))); done) (by rfl)) rfl ?_)
      | (refine idA ?_; first | refine m_alloc rfl ?_)
      | (refine idS ?_; first | refine pS (S_store rfl rfl rfl rfl rfl rfl rfl) ?_ | refine pS (S_store rfl rfl rfl (by (repeat first | assumption | exact get_last | (refine get_last2 ?_; focus (simp; done)) | apply get_set | apply get_app | (apply get_ne; focus omega) | (apply get_ne; focus (simp only [List.length_set, List.length_append, List.length_cons, List.length_nil]; omega))); done) (by rfl) (by rfl) (by rfl)) ?_)
      | refine Le.bool ?_
      | refine Le.int ?_
      | refine Le.str ?_
      | refine wr_succ ?_
      | (refine idW ?_; first | refine W_draw0 rfl ?_ | refine W_draw1 rfl ?_ | refine W_draw2 rfl ?_ | refine W_draw3 rfl ?_)
      | (apply d1 (hd := rfl); case hop => first | (apply D_move; rfl) | (apply D_assign; rfl) | exact D_eqD rfl rfl | exact D_ltD rfl rfl | (apply D_idxS; rfl; rfl; all_goals exact of_decide_eq_true rfl) | (apply D_ixR; rfl; rfl; all_goals exact of_decide_eq_true rfl) | (apply D_idxA; rfl; rfl; all_goals exact of_decide_eq_true rfl) | (apply D_pc (dkey1_pc 1 ⟨q0.n, q1.n, q2.v, q3.n, iEq q4.n 0, q5.n, q6.n⟩ hvv); rfl; exact .same rfl (.same rfl .nil)) | (apply D_load1; rfl) | (apply D_fld; rfl) | (apply D_pickT; rfl; rfl) | (apply D_pickF; rfl; rfl) | (apply D_int; rfl; rfl; rfl) | (apply D_str; rfl; rfl; rfl) | (apply D_ext; rfl; rfl) | (apply D_loadW; rfl; rfl) | (apply D_loadA; rfl; rfl) | (apply D_b2s; rfl) | (apply D_idxAn; rfl; rfl; (first | omega | (simp; done))) | (apply D_idxSn; rfl; rfl; (first | omega | (simp; done))) | (apply D_idxA; rfl; rfl; omega; (first | omega | (simp; done) | (simp; omega))) | (apply D_idxA0; rfl; rfl; omega; (first | omega | (simp; done) | (simp; omega))) | (apply D_idxS; rfl; rfl; omega; (first | omega | (simp; done) | (simp; omega))) | exact D_build rfl | exact D_buildA rfl | exact D_fldB rfl | (apply D_ixRn; rfl; rfl; (first | omega | (simp; done))) | (apply D_ixR; rfl; rfl; all_goals first | omega | ((repeat rw [w64 _ (by omega) (by omega)]); omega) | decide) | (apply D_mkB; rfl; rfl; all_goals first | omega | ((repeat rw [w64 _ (by omega) (by omega)]); omega) | decide) | (apply D_mk1; rfl; rfl; rfl; all_goals first | omega | ((repeat rw [w64 _ (by omega) (by omega)]); omega) | decide))
      | (refine idDg ?_; first | refine dg0t rfl rfl rfl ?_ | refine dg0f rfl rfl rfl ?_ | refine dg0u rfl rfl rfl ?_ | refine dgr rfl rfl ?_ | refine dgs rfl rfl (fun _ => ?_) (fun _ => ?_))
      | (refine idDn ?_; first | refine dL _ (fun hp' hs => D_loadB1 rfl (hs.trans rfl) rfl) rfl ?_ | refine dL _ (fun hp' hs => D_loadBA rfl (hs.trans rfl) rfl) rfl ?_ | refine dS (S_store rfl rfl rfl rfl rfl rfl rfl) rfl ?_ | refine dV (S_alloc 0 rfl) rfl rfl ?_ | refine dV (S_alloc 1 rfl) rfl rfl ?_ | refine dV (S_alloc 2 rfl) rfl rfl ?_ | refine dV (S_alloc 3 rfl) rfl rfl ?_ | refine dV (S_alloc 4 rfl) rfl rfl ?_ | refine dV (S_alloc 5 rfl) rfl rfl ?_ | refine dV (S_alloc 6 rfl) rfl rfl ?_ | refine dV (S_alloc 7 rfl) rfl rfl ?_)
      | refine WD_nil (by decide +kernel) ?_
    all_goals first
      | (have hx : dkeyE 1 ⟨q0.n, q1.n, q2.v, q3.n, iEq q4.n 0, q5.n, q6.n⟩ ≠ 0 := by assumption
         have hn : ¬ drdP 1 b := fun h => hx (hi.1 h).1
         first
           | exact hE0 hn
           | (rw [hD0 hn]; exact Le.of_eq rfl))
      | (have hx : dkeyB 1 ⟨q0.n, q1.n, q2.v, q3.n, iEq q4.n 0, q5.n, q6.n⟩ ≠ b := by assumption
         have hn : ¬ drdP 1 b := fun h => hx (hi.1 h).2
         first
           | exact hE0 hn
           | (rw [hD0 hn]; exact Le.of_eq rfl))
      | (have hp : drdP 1 b := hi.2 ⟨by assumption, by assumption⟩
         first
           | exact hE hp
           | (rw [hD hp]; exact Le.of_eq rfl))
  · rw [show shapeS 2 = [97, 101, 118] from rfl]
    refine W_rounds 4 ?_
    repeat' first
      | (refine cs rfl ?_ (fun _ => ?_); focus (intro h; exfalso; revert h; decide))
      | (refine cs rfl (fun _ => ?_) ?_; focus (intro h; exfalso; revert h; decide))
      | (apply p1 (hd := rfl); case hop => first | (apply D_move; rfl) | (apply D_assign; rfl) | exact D_eqD rfl rfl | exact D_ltD rfl rfl | (apply D_idxS; rfl; rfl; all_goals exact of_decide_eq_true rfl) | (apply D_ixR; rfl; rfl; all_goals exact of_decide_eq_true rfl) | (apply D_idxA; rfl; rfl; all_goals exact of_decide_eq_true rfl) | (apply D_load1; rfl) | (apply D_fld; rfl) | (apply D_pickT; rfl; rfl) | (apply D_pickF; rfl; rfl) | (apply D_int; rfl; rfl; rfl) | (apply D_str; rfl; rfl; rfl) | (apply D_ext; rfl; rfl) | (apply D_loadW; rfl; rfl) | (apply D_loadA; rfl; rfl) | (apply D_b2s; rfl) | (apply D_idxAn; rfl; rfl; (first | omega | (simp; done))) | (apply D_idxSn; rfl; rfl; (first | omega | (simp; done))) | (apply D_idxA; rfl; rfl; omega; (first | omega | (simp; done) | (simp; omega))) | (apply D_idxA0; rfl; rfl; omega; (first | omega | (simp; done) | (simp; omega))) | (apply D_idxS; rfl; rfl; omega; (first | omega | (simp; done) | (simp; omega))) | exact D_build rfl | exact D_buildA rfl | exact D_fldB rfl | (apply D_ixRn; rfl; rfl; (first | omega | (simp; done))) | (apply D_ixR; rfl; rfl; all_goals first | omega | ((repeat rw [w64 _ (by omega) (by omega)]); omega) | decide) | (apply D_mkB; rfl; rfl; all_goals first | omega | ((repeat rw [w64 _ (by omega) (by omega)]); omega) | decide) | (apply D_mk1; rfl; rfl; rfl; all_goals first | omega | ((repeat rw [w64 _ (by omega) (by omega)]); omega) | decide))
      | refine W_seq ?_
      | refine W_region ?_
      | (refine idC ?_; first | refine c1 rfl ?_ | refine c0 rfl ?_ | refine cs rfl (fun _ => ?_) (fun _ => ?_))
      | refine WL_nil ?_
      | (refine idG ?_; first | refine g0t rfl rfl rfl ?_ | refine g0f rfl rfl rfl ?_ | refine g0u rfl rfl rfl ?_ | refine gr rfl rfl ?_ | refine gs rfl rfl (fun _ => ?_) (fun _ => ?_) | refine grn rfl rfl ?_)
      | refine tn ?_
      | refine tr ?_
      | refine br ?_
      | refine bn ?_
      | refine te ?_
      | (refine idB ?_; first | refine bh rfl ?_ | refine bm rfl ?_)
      | refine W_skip ?_
      | refine W_block ?_
      | refine W_exit ?_
      | refine W_ret ?_
      | refine W_label ?_
      | refine W_scope ?_
      | refine sn ?_
      | refine sr ?_
      | refine se ?_
      | (refine idLd ?_; first | refine p1L (D_loadB1 rfl rfl rfl) rfl ?_ | refine p1L (D_loadBA rfl rfl rfl) rfl ?_ | refine p1L (D_loadB1 rfl (by (repeat first | assumption | exact get_last | (refine get_last2 ?_; focus (simp; done)) | apply get_set | apply get_app | (apply get_ne; focus omega) | (apply get_ne; focus (simp only [List.length_set, List.length_append, List.length_cons, List.length_nil]; omega))); done) (by rfl)) rfl ?_ | refine p1L (D_loadBA rfl (by (repeat first | assumption | exact get_last | (refine get_last2 ?_; focus (simp; done)) | apply get_set | apply get_app | (apply get_ne; focus omega) | (apply get_ne; focus (simp only [List.length_set, List.length_append, List.length_cons, List.length_nil]; omega))); done) (by rfl)) rfl ?_)
      | (refine idA ?_; first | refine m_alloc rfl ?_)
      | (refine idS ?_; first | refine pS (S_store rfl rfl rfl rfl rfl rfl rfl) ?_ | refine pS (S_store rfl rfl rfl (by (repeat first | assumption | exact get_last | (refine get_last2 ?_; focus (simp; done)) | apply get_set | apply get_app | (apply get_ne; focus omega) | (apply get_ne; focus (simp only [List.length_set, List.length_append, List.length_cons, List.length_nil]; omega))); done) (by rfl) (by rfl) (by rfl)) ?_)
      | refine Le.bool ?_
      | refine Le.int ?_
      | refine Le.str ?_
      | refine wr_succ ?_
      | (refine idW ?_; first | refine W_draw0 rfl ?_ | refine W_draw1 rfl ?_ | refine W_draw2 rfl ?_ | refine W_draw3 rfl ?_)
      | (apply d1 (hd := rfl); case hop => first | (apply D_move; rfl) | (apply D_assign; rfl) | exact D_eqD rfl rfl | exact D_ltD rfl rfl | (apply D_idxS; rfl; rfl; all_goals exact of_decide_eq_true rfl) | (apply D_ixR; rfl; rfl; all_goals exact of_decide_eq_true rfl) | (apply D_idxA; rfl; rfl; all_goals exact of_decide_eq_true rfl) | (apply D_load1; rfl) | (apply D_fld; rfl) | (apply D_pickT; rfl; rfl) | (apply D_pickF; rfl; rfl) | (apply D_int; rfl; rfl; rfl) | (apply D_str; rfl; rfl; rfl) | (apply D_ext; rfl; rfl) | (apply D_loadW; rfl; rfl) | (apply D_loadA; rfl; rfl) | (apply D_b2s; rfl) | (apply D_idxAn; rfl; rfl; (first | omega | (simp; done))) | (apply D_idxSn; rfl; rfl; (first | omega | (simp; done))) | (apply D_idxA; rfl; rfl; omega; (first | omega | (simp; done) | (simp; omega))) | (apply D_idxA0; rfl; rfl; omega; (first | omega | (simp; done) | (simp; omega))) | (apply D_idxS; rfl; rfl; omega; (first | omega | (simp; done) | (simp; omega))) | exact D_build rfl | exact D_buildA rfl | exact D_fldB rfl | (apply D_ixRn; rfl; rfl; (first | omega | (simp; done))) | (apply D_ixR; rfl; rfl; all_goals first | omega | ((repeat rw [w64 _ (by omega) (by omega)]); omega) | decide) | (apply D_mkB; rfl; rfl; all_goals first | omega | ((repeat rw [w64 _ (by omega) (by omega)]); omega) | decide) | (apply D_mk1; rfl; rfl; rfl; all_goals first | omega | ((repeat rw [w64 _ (by omega) (by omega)]); omega) | decide))
      | (refine idDg ?_; first | refine dg0t rfl rfl rfl ?_ | refine dg0f rfl rfl rfl ?_ | refine dg0u rfl rfl rfl ?_ | refine dgr rfl rfl ?_ | refine dgs rfl rfl (fun _ => ?_) (fun _ => ?_))
      | (refine idDn ?_; first | refine dL _ (fun hp' hs => D_loadB1 rfl (hs.trans rfl) rfl) rfl ?_ | refine dL _ (fun hp' hs => D_loadBA rfl (hs.trans rfl) rfl) rfl ?_ | refine dS (S_store rfl rfl rfl rfl rfl rfl rfl) rfl ?_ | refine dV (S_alloc 0 rfl) rfl rfl ?_ | refine dV (S_alloc 1 rfl) rfl rfl ?_ | refine dV (S_alloc 2 rfl) rfl rfl ?_ | refine dV (S_alloc 3 rfl) rfl rfl ?_ | refine dV (S_alloc 4 rfl) rfl rfl ?_ | refine dV (S_alloc 5 rfl) rfl rfl ?_ | refine dV (S_alloc 6 rfl) rfl rfl ?_ | refine dV (S_alloc 7 rfl) rfl rfl ?_)
      | refine WD_nil (by decide +kernel) ?_
    refine WL_freezeR 1 1 (els := (kindsO 2).map boC) (sp := []) rfl (fun e he => by obtain ⟨a, _, rfl⟩ := List.mem_map.1 he; rfl) ?_
    repeat' first
      | (apply p1 (hd := rfl); case hop => first | (apply D_move; rfl) | (apply D_assign; rfl) | (apply D_pc (read1_pc b (kindsO 2) hl (by decide)); rfl; exact .same rfl (.same rfl .nil)) | (apply D_load1; rfl) | (apply D_fld; rfl) | (apply D_pickT; rfl; rfl) | (apply D_pickF; rfl; rfl) | (apply D_int; rfl; rfl; rfl) | (apply D_str; rfl; rfl; rfl) | (apply D_ext; rfl; rfl) | (apply D_loadW; rfl; rfl) | (apply D_loadA; rfl; rfl) | (apply D_b2s; rfl) | (apply D_idxAn; rfl; rfl; (first | omega | (simp; done))) | (apply D_idxSn; rfl; rfl; (first | omega | (simp; done))) | (apply D_idxA; rfl; rfl; omega; (first | omega | (simp; done) | (simp; omega))) | (apply D_idxA0; rfl; rfl; omega; (first | omega | (simp; done) | (simp; omega))) | (apply D_idxS; rfl; rfl; omega; (first | omega | (simp; done) | (simp; omega))) | exact D_build rfl | exact D_buildA rfl | exact D_fldB rfl | (apply D_ixRn; rfl; rfl; (first | omega | (simp; done))) | (apply D_ixR; rfl; rfl; all_goals first | omega | ((repeat rw [w64 _ (by omega) (by omega)]); omega) | decide) | (apply D_mkB; rfl; rfl; all_goals first | omega | ((repeat rw [w64 _ (by omega) (by omega)]); omega) | decide) | (apply D_mk1; rfl; rfl; rfl; all_goals first | omega | ((repeat rw [w64 _ (by omega) (by omega)]); omega) | decide))
      | refine W_seq ?_
      | refine W_region ?_
      | (refine idC ?_; first | refine c1 rfl ?_ | refine c0 rfl ?_ | refine cs rfl (fun _ => ?_) (fun _ => ?_))
      | refine WL_nil ?_
      | (refine idG ?_; first | refine g0t rfl rfl rfl ?_ | refine g0f rfl rfl rfl ?_ | refine g0u rfl rfl rfl ?_ | refine gr rfl rfl ?_ | refine gs rfl rfl (fun _ => ?_) (fun _ => ?_) | refine grn rfl rfl ?_)
      | refine tn ?_
      | refine tr ?_
      | refine br ?_
      | refine bn ?_
      | refine te ?_
      | (refine idB ?_; first | refine bh rfl ?_ | refine bm rfl ?_)
      | refine W_skip ?_
      | refine W_block ?_
      | refine W_exit ?_
      | refine W_ret ?_
      | refine W_label ?_
      | refine W_scope ?_
      | refine sn ?_
      | refine sr ?_
      | refine se ?_
      | (refine idR ?_; first | refine ret2 rfl rfl rfl rfl ?_ ?_ | refine rL2 rfl (by first | exact trivial | exact ⟨rfl, trivial⟩) (by first | exact ResO.tmp rfl | exact ResO.cellBA rfl rfl rfl | exact ResO.cellB1 rfl rfl rfl | exact ResO.cellEA rfl rfl | exact ResO.cellE1 rfl) (by first | exact ResO.tmp rfl | exact ResO.cellBA rfl rfl rfl | exact ResO.cellB1 rfl rfl rfl | exact ResO.cellEA rfl rfl | exact ResO.cellE1 rfl) ?_ ?_)
      | (refine idLd ?_; first | refine p1L (D_loadB1 rfl rfl rfl) rfl ?_ | refine p1L (D_loadBA rfl rfl rfl) rfl ?_ | refine p1L (D_loadB1 rfl (by (repeat first | assumption | exact get_last | (refine get_last2 ?_; focus (simp; done)) | apply get_set | apply get_app | (apply get_ne; focus omega) | (apply get_ne; focus (simp only [List.length_set, List.length_append, List.length_cons, List.length_nil]; omega))); done) (by rfl)) rfl ?_ | refine p1L (D_loadBA rfl (by (repeat first | assumption | exact get_last | (refine get_last2 ?_; focus (simp; done)) | apply get_set | apply get_app | (apply get_ne; focus omega) | (apply get_ne; focus (simp only [List.length_set, List.length_append, List.length_cons, List.length_nil]; omega))); done) (by rfl)) rfl ?_)
      | (refine idA ?_; first | refine m_alloc rfl ?_)
      | (refine idS ?_; first | refine pS (S_store rfl rfl rfl rfl rfl rfl rfl) ?_ | refine pS (S_store rfl rfl rfl (by (repeat first | assumption | exact get_last | (refine get_last2 ?_; focus (simp; done)) | apply get_set | apply get_app | (apply get_ne; focus omega) | (apply get_ne; focus (simp only [List.length_set, List.length_append, List.length_cons, List.length_nil]; omega))); done) (by rfl) (by rfl) (by rfl)) ?_)
      | refine Le.bool ?_
      | refine Le.int ?_
      | refine Le.str ?_
      | (refine idW ?_; first | refine W_draw0 rfl ?_ | refine W_draw1 rfl ?_ | refine W_draw2 rfl ?_ | refine W_draw3 rfl ?_)
      | (apply d1 (hd := rfl); case hop => first | (apply D_move; rfl) | (apply D_assign; rfl) | (apply D_pc (read1_pc b (kindsO 2) hl (by decide)); rfl; exact .same rfl (.same rfl .nil)) | (apply D_load1; rfl) | (apply D_fld; rfl) | (apply D_pickT; rfl; rfl) | (apply D_pickF; rfl; rfl) | (apply D_int; rfl; rfl; rfl) | (apply D_str; rfl; rfl; rfl) | (apply D_ext; rfl; rfl) | (apply D_loadW; rfl; rfl) | (apply D_loadA; rfl; rfl) | (apply D_b2s; rfl) | (apply D_idxAn; rfl; rfl; (first | omega | (simp; done))) | (apply D_idxSn; rfl; rfl; (first | omega | (simp; done))) | (apply D_idxA; rfl; rfl; omega; (first | omega | (simp; done) | (simp; omega))) | (apply D_idxA0; rfl; rfl; omega; (first | omega | (simp; done) | (simp; omega))) | (apply D_idxS; rfl; rfl; omega; (first | omega | (simp; done) | (simp; omega))) | exact D_build rfl | exact D_buildA rfl | exact D_fldB rfl | (apply D_ixRn; rfl; rfl; (first | omega | (simp; done))) | (apply D_ixR; rfl; rfl; all_goals first | omega | ((repeat rw [w64 _ (by omega) (by omega)]); omega) | decide) | (apply D_mkB; rfl; rfl; all_goals first | omega | ((repeat rw [w64 _ (by omega) (by omega)]); omega) | decide) | (apply D_mk1; rfl; rfl; rfl; all_goals first | omega | ((repeat rw [w64 _ (by omega) (by omega)]); omega) | decide))
      | (refine idDg ?_; first | refine dg0t rfl rfl rfl ?_ | refine dg0f rfl rfl rfl ?_ | refine dg0u rfl rfl rfl ?_ | refine dgr rfl rfl ?_ | refine dgs rfl rfl (fun _ => ?_) (fun _ => ?_))
      | (refine idDn ?_; first | refine dL _ (fun hp' hs => D_loadB1 rfl (hs.trans rfl) rfl) rfl ?_ | refine dL _ (fun hp' hs => D_loadBA rfl (hs.trans rfl) rfl) rfl ?_ | refine dS (S_store rfl rfl rfl rfl rfl rfl rfl) rfl ?_ | refine dV (S_alloc 0 rfl) rfl rfl ?_ | refine dV (S_alloc 1 rfl) rfl rfl ?_ | refine dV (S_alloc 2 rfl) rfl rfl ?_ | refine dV (S_alloc 3 rfl) rfl rfl ?_ | refine dV (S_alloc 4 rfl) rfl rfl ?_ | refine dV (S_alloc 5 rfl) rfl rfl ?_ | refine dV (S_alloc 6 rfl) rfl rfl ?_ | refine dV (S_alloc 7 rfl) rfl rfl ?_)
      | refine WD_nil (by decide +kernel) ?_
    · rename_i h2
      have hn : ¬ drdP 2 b := fun h => h2 (by rw [rdE, if_pos h.2.1])
      rw [show drdD 2 b = dat0 by rw [drdD, if_neg hn]]; exact Le.of_eq rfl
    · rename_i h2
      have hn : ¬ drdP 2 b := fun h => h2 (by rw [rdE, if_pos h.2.1])
      rw [drdE, if_pos (by decide), if_neg hn]
    rename_i h2
    have hok : rdOK (kindsO 2) b := by
      rw [rdE] at h2; split at h2
      · assumption
      · cases h2
    have hL : rdL (kindsO 2) b = (rdAll (kindsO 2) (b, false)).1 := by rw [rdL, if_pos hok]
    have hL7 : (rdL (kindsO 2) b).length = 7 := by rw [hL, rdAll_full _ _ hok.1]; simp [kindsO, part7_len]
    have hv : ∀ p, p ∈ rdL (kindsO 2) b → p.v.s.length < 9223372036854775808 := fun p hp => by
      rw [hL] at hp; have := rdAll_s _ _ p hp; simp only at this; omega
    have hi := drd_iff (o := 2) (by decide) hok
    have hD : drdP 2 b → drdD 2 b = datOf 2 (rdL (kindsO 2) b) := fun h => by rw [drdD, if_pos h]
    have hD0 : ¬ drdP 2 b → drdD 2 b = dat0 := fun h => by rw [drdD, if_neg h]
    have hE : drdP 2 b → 0 = drdE 2 b := fun h => by rw [drdE, if_pos (by decide), if_pos h]
    have hE0 : ¬ drdP 2 b → 40 = drdE 2 b := fun h => by rw [drdE, if_pos (by decide), if_neg h]
    generalize rdL (kindsO 2) b = L at *
    obtain ⟨q0, q1, q2, q3, q4, q5, q6, rfl⟩ := seven hL7
    have hdt : datOf 2 [q0, q1, q2, q3, q4, q5, q6] = ⟨q1.n, q0.n, q2.v, q3.n, iEq q4.n 0, q5.n, q6.n⟩ := rfl
    rw [hdt] at hi hD
    have hvv : (q2).v.s.length < 9223372036854775808 := hv q2 (by simp)
    clear hL hv hok h2
    repeat' first
      | (apply p1 (hd := rfl); case hop => first | (apply D_move; rfl) | (apply D_assign; rfl) | (apply D_idxAn; rfl; rfl; exact of_decide_eq_true rfl) | (apply D_load1; rfl) | (apply D_fld; rfl) | (apply D_pickT; rfl; rfl) | (apply D_pickF; rfl; rfl) | (apply D_int; rfl; rfl; rfl) | (apply D_str; rfl; rfl; rfl) | (apply D_ext; rfl; rfl) | (apply D_loadW; rfl; rfl) | (apply D_loadA; rfl; rfl) | (apply D_b2s; rfl) | (apply D_idxAn; rfl; rfl; (first | omega | (simp; done))) | (apply D_idxSn; rfl; rfl; (first | omega | (simp; done))) | (apply D_idxA; rfl; rfl; omega; (first | omega | (simp; done) | (simp; omega))) | (apply D_idxA0; rfl; rfl; omega; (first | omega | (simp; done) | (simp; omega))) | (apply D_idxS; rfl; rfl; omega; (first | omega | (simp; done) | (simp; omega))) | exact D_build rfl | exact D_buildA rfl | exact D_fldB rfl | (apply D_ixRn; rfl; rfl; (first | omega | (simp; done))) | (apply D_ixR; rfl; rfl; all_goals first | omega | ((repeat rw [w64 _ (by omega) (by omega)]); omega) | decide) | (apply D_mkB; rfl; rfl; all_goals first | omega | ((repeat rw [w64 _ (by omega) (by omega)]); omega) | decide) | (apply D_mk1; rfl; rfl; rfl; all_goals first | omega | ((repeat rw [w64 _ (by omega) (by omega)]); omega) | decide))
      | refine W_seq ?_
      | refine W_region ?_
      | (refine idC ?_; first | refine c1 rfl ?_ | refine c0 rfl ?_ | refine cs rfl (fun _ => ?_) (fun _ => ?_))
      | refine WL_nil ?_
      | (refine idG ?_; first | refine g0t rfl rfl rfl ?_ | refine g0f rfl rfl rfl ?_ | refine g0u rfl rfl rfl ?_ | refine gr rfl rfl ?_ | refine gs rfl rfl (fun _ => ?_) (fun _ => ?_) | refine grn rfl rfl ?_)
      | refine tn ?_
      | refine tr ?_
      | refine br ?_
      | refine bn ?_
      | refine te ?_
      | (refine idB ?_; first | refine bh rfl ?_ | refine bm rfl ?_)
      | refine W_skip ?_
      | refine W_block ?_
      | refine W_exit ?_
      | refine W_ret ?_
      | refine W_label ?_
      | refine W_scope ?_
      | refine sn ?_
      | refine sr ?_
      | refine se ?_
      | (refine idR ?_; first | refine ret2 rfl rfl rfl rfl ?_ ?_ | refine rL2 rfl (by first | exact trivial | exact ⟨rfl, trivial⟩) (by first | exact ResO.tmp rfl | exact ResO.cellBA rfl rfl rfl | exact ResO.cellB1 rfl rfl rfl | exact ResO.cellEA rfl rfl | exact ResO.cellE1 rfl) (by first | exact ResO.tmp rfl | exact ResO.cellBA rfl rfl rfl | exact ResO.cellB1 rfl rfl rfl | exact ResO.cellEA rfl rfl | exact ResO.cellE1 rfl) ?_ ?_)
      | (refine idLd ?_; first | refine p1L (D_loadB1 rfl rfl rfl) rfl ?_ | refine p1L (D_loadBA rfl rfl rfl) rfl ?_ | refine p1L (D_loadB1 rfl (by (repeat first | assumption | exact get_last | (refine get_last2 ?_; focus (simp; done)) | apply get_set | apply get_app | (apply get_ne; focus omega) | (apply get_ne; focus (simp only [List.length_set, List.length_append, List.length_cons, List.length_nil]; omega))); done) (by rfl)) rfl ?_ | refine p1L (D_loadBA rfl (by (repeat first | assumption | exact get_last | (refine get_last2 ?_; focus (simp; done)) | apply get_set | apply get_app | (apply get_ne; focus omega) | (apply get_ne; focus (simp only [List.length_set, List.length_append, List.length_cons, List.length_nil]; omega))); done) (by rfl)) rfl ?_)
      | (refine idA ?_; first | refine m_alloc rfl ?_)
      | (refine idS ?_; first | refine pS (S_store rfl rfl rfl rfl rfl rfl rfl) ?_ | refine pS (S_store rfl rfl rfl (by (repeat first | assumption | exact get_last | (refine get_last2 ?_; focus (simp; done)) | apply get_set | apply get_app | (apply get_ne; focus omega) | (apply get_ne; focus (simp only [List.length_set, List.length_append, List.length_cons, List.length_nil]; omega))); done) (by rfl) (by rfl) (by rfl)) ?_)
      | refine Le.bool ?_
      | refine Le.int ?_
      | refine Le.str ?_
      | (refine idW ?_; first | refine W_draw0 rfl ?_ | refine W_draw1 rfl ?_ | refine W_draw2 rfl ?_ | refine W_draw3 rfl ?_)
      | (apply d1 (hd := rfl); case hop => first | (apply D_move; rfl) | (apply D_assign; rfl) | (apply D_idxAn; rfl; rfl; exact of_decide_eq_true rfl) | (apply D_load1; rfl) | (apply D_fld; rfl) | (apply D_pickT; rfl; rfl) | (apply D_pickF; rfl; rfl) | (apply D_int; rfl; rfl; rfl) | (apply D_str; rfl; rfl; rfl) | (apply D_ext; rfl; rfl) | (apply D_loadW; rfl; rfl) | (apply D_loadA; rfl; rfl) | (apply D_b2s; rfl) | (apply D_idxAn; rfl; rfl; (first | omega | (simp; done))) | (apply D_idxSn; rfl; rfl; (first | omega | (simp; done))) | (apply D_idxA; rfl; rfl; omega; (first | omega | (simp; done) | (simp; omega))) | (apply D_idxA0; rfl; rfl; omega; (first | omega | (simp; done) | (simp; omega))) | (apply D_idxS; rfl; rfl; omega; (first | omega | (simp; done) | (simp; omega))) | exact D_build rfl | exact D_buildA rfl | exact D_fldB rfl | (apply D_ixRn; rfl; rfl; (first | omega | (simp; done))) | (apply D_ixR; rfl; rfl; all_goals first | omega | ((repeat rw [w64 _ (by omega) (by omega)]); omega) | decide) | (apply D_mkB; rfl; rfl; all_goals first | omega | ((repeat rw [w64 _ (by omega) (by omega)]); omega) | decide) | (apply D_mk1; rfl; rfl; rfl; all_goals first | omega | ((repeat rw [w64 _ (by omega) (by omega)]); omega) | decide))
      | (refine idDg ?_; first | refine dg0t rfl rfl rfl ?_ | refine dg0f rfl rfl rfl ?_ | refine dg0u rfl rfl rfl ?_ | refine dgr rfl rfl ?_ | refine dgs rfl rfl (fun _ => ?_) (fun _ => ?_))
      | (refine idDn ?_; first | refine dL _ (fun hp' hs => D_loadB1 rfl (hs.trans rfl) rfl) rfl ?_ | refine dL _ (fun hp' hs => D_loadBA rfl (hs.trans rfl) rfl) rfl ?_ | refine dS (S_store rfl rfl rfl rfl rfl rfl rfl) rfl ?_ | refine dV (S_alloc 0 rfl) rfl rfl ?_ | refine dV (S_alloc 1 rfl) rfl rfl ?_ | refine dV (S_alloc 2 rfl) rfl rfl ?_ | refine dV (S_alloc 3 rfl) rfl rfl ?_ | refine dV (S_alloc 4 rfl) rfl rfl ?_ | refine dV (S_alloc 5 rfl) rfl rfl ?_ | refine dV (S_alloc 6 rfl) rfl rfl ?_ | refine dV (S_alloc 7 rfl) rfl rfl ?_)
      | refine WD_nil (by decide +kernel) ?_
    refine W_rounds 4 ?_
    repeat' first
      | (refine cs rfl ?_ (fun _ => ?_); focus (intro h; exfalso; revert h; decide))
      | (refine cs rfl (fun _ => ?_) ?_; focus (intro h; exfalso; revert h; decide))
      | (apply p1 (hd := rfl); case hop => first | (apply D_move; rfl) | (apply D_assign; rfl) | exact D_eqD rfl rfl | exact D_ltD rfl rfl | (apply D_idxS; rfl; rfl; all_goals exact of_decide_eq_true rfl) | (apply D_ixR; rfl; rfl; all_goals exact of_decide_eq_true rfl) | (apply D_idxA; rfl; rfl; all_goals exact of_decide_eq_true rfl) | (apply D_pc (dkey1_pc 2 ⟨q1.n, q0.n, q2.v, q3.n, iEq q4.n 0, q5.n, q6.n⟩ hvv); rfl; exact .same rfl (.same rfl .nil)) | (apply D_load1; rfl) | (apply D_fld; rfl) | (apply D_pickT; rfl; rfl) | (apply D_pickF; rfl; rfl) | (apply D_int; rfl; rfl; rfl) | (apply D_str; rfl; rfl; rfl) | (apply D_ext; rfl; rfl) | (apply D_loadW; rfl; rfl) | (apply D_loadA; rfl; rfl) | (apply D_b2s; rfl) | (apply D_idxAn; rfl; rfl; (first | omega | (simp; done))) | (apply D_idxSn; rfl; rfl; (first | omega | (simp; done))) | (apply D_idxA; rfl; rfl; omega; (first | omega | (simp; done) | (simp; omega))) | (apply D_idxA0; rfl; rfl; omega; (first | omega | (simp; done) | (simp; omega))) | (apply D_idxS; rfl; rfl; omega; (first | omega | (simp; done) | (simp; omega))) | exact D_build rfl | exact D_buildA rfl | exact D_fldB rfl | (apply D_ixRn; rfl; rfl; (first | omega | (simp; done))) | (apply D_ixR; rfl; rfl; all_goals first | omega | ((repeat rw [w64 _ (by omega) (by omega)]); omega) | decide) | (apply D_mkB; rfl; rfl; all_goals first | omega | ((repeat rw [w64 _ (by omega) (by omega)]); omega) | decide) | (apply D_mk1; rfl; rfl; rfl; all_goals first | omega | ((repeat rw [w64 _ (by omega) (by omega)]); omega) | decide))
      | refine W_seq ?_
      | refine W_region ?_
      | (refine idC ?_; first | refine c1 rfl ?_ | refine c0 rfl ?_ | refine cs rfl (fun _ => ?_) (fun _ => ?_))
      | refine WL_nil ?_
      | (refine idG ?_; first | refine g0t rfl rfl rfl ?_ | refine g0f rfl rfl rfl ?_ | refine g0u rfl rfl rfl ?_ | refine gr rfl rfl ?_ | refine gs rfl rfl (fun _ => ?_) (fun _ => ?_) | refine grn rfl rfl ?_)
      | refine tn ?_
      | refine tr ?_
      | refine br ?_
      | refine bn ?_
      | refine te ?_
      | (refine idB ?_; first | refine bh rfl ?_ | refine bm rfl ?_)
      | refine W_skip ?_
      | refine W_block ?_
      | refine W_exit ?_
      | refine W_ret ?_
      | refine W_label ?_
      | refine W_scope ?_
      | refine sn ?_
      | refine sr ?_
      | refine se ?_
      | (refine idR ?_; first | refine ret2 rfl rfl rfl rfl ?_ ?_ | refine rL2 rfl (by first | exact trivial | exact ⟨rfl, trivial⟩) (by first | exact ResO.tmp rfl | exact ResO.cellBA rfl rfl rfl | exact ResO.cellB1 rfl rfl rfl | exact ResO.cellEA rfl rfl | exact ResO.cellE1 rfl) (by first | exact ResO.tmp rfl | exact ResO.cellBA rfl rfl rfl | exact ResO.cellB1 rfl rfl rfl | exact ResO.cellEA rfl rfl | exact ResO.cellE1 rfl) ?_ ?_)
      | (refine idLd ?_; first | refine p1L (D_loadB1 rfl rfl rfl) rfl ?_ | refine p1L (D_loadBA rfl rfl rfl) rfl ?_ | refine p1L (D_loadB1 rfl (by (repeat first | assumption | exact get_last | (refine get_last2 ?_; focus (simp; done)) | apply get_set | apply get_app | (apply get_ne; focus omega) | (apply get_ne; focus (simp only [List.length_set, List.length_append, List.length_cons, List.length_nil]; omega))); done) (by rfl)) rfl ?_ | refine p1L (D_loadBA rfl (by (repeat first | assumption | exact get_last | (refine get_last2 ?_; focus (simp; done)) | apply get_set | apply get_app | (apply get_ne; focus omega) | (apply get_ne; focus (simp only [List.length_set, List.length_append, List.length_cons, List.length_nil]; omega))); done) (by rfl)) rfl ?_)
      | (refine idA ?_; first | refine m_alloc rfl ?_)
      | (refine idS ?_; first | refine pS (S_store rfl rfl rfl rfl rfl rfl rfl) ?_ | refine pS (S_store rfl rfl rfl (by (repeat first | assumption | exact get_last | (refine get_last2 ?_; focus (simp; done)) | apply get_set | apply get_app | (apply get_ne; focus omega) | (apply get_ne; focus (simp only [List.length_set, List.length_append, List.length_cons, List.length_nil]; omega))); done) (by rfl) (by rfl) (by rfl)) ?_)
      | refine Le.bool ?_
      | refine Le.int ?_
      | refine Le.str ?_
      | refine wr_succ ?_
      | (refine idW ?_; first | refine W_draw0 rfl ?_ | refine W_draw1 rfl ?_ | refine W_draw2 rfl ?_ | refine W_draw3 rfl ?_)
      | (apply d1 (hd := rfl); case hop => first | (apply D_move; rfl) | (apply D_assign; rfl) | exact D_eqD rfl rfl | exact D_ltD rfl rfl | (apply D_idxS; rfl; rfl; all_goals exact of_decide_eq_true rfl) | (apply D_ixR; rfl; rfl; all_goals exact of_decide_eq_true rfl) | (apply D_idxA; rfl; rfl; all_goals exact of_decide_eq_true rfl) | (apply D_pc (dkey1_pc 2 ⟨q1.n, q0.n, q2.v, q3.n, iEq q4.n 0, q5.n, q6.n⟩ hvv); rfl; exact .same rfl (.same rfl .nil)) | (apply D_load1; rfl) | (apply D_fld; rfl) | (apply D_pickT; rfl; rfl) | (apply D_pickF; rfl; rfl) | (apply D_int; rfl; rfl; rfl) | (apply D_str; rfl; rfl; rfl) | (apply D_ext; rfl; rfl) | (apply D_loadW; rfl; rfl) | (apply D_loadA; rfl; rfl) | (apply D_b2s; rfl) | (apply D_idxAn; rfl; rfl; (first | omega | (simp; done))) | (apply D_idxSn; rfl; rfl; (first | omega | (simp; done))) | (apply D_idxA; rfl; rfl; omega; (first | omega | (simp; done) | (simp; omega))) | (apply D_idxA0; rfl; rfl; omega; (first | omega | (simp; done) | (simp; omega))) | (apply D_idxS; rfl; rfl; omega; (first | omega | (simp; done) | (simp; omega))) | exact D_build rfl | exact D_buildA rfl | exact D_fldB rfl | (apply D_ixRn; rfl; rfl; (first | omega | (simp; done))) | (apply D_ixR; rfl; rfl; all_goals first | omega | ((repeat rw [w64 _ (by omega) (by omega)]); omega) | decide) | (apply D_mkB; rfl; rfl; all_goals first | omega | ((repeat rw [w64 _ (by omega) (by omega)]); omega) | decide) | (apply D_mk1; rfl; rfl; rfl; all_goals first | omega | ((repeat rw [w64 _ (by omega) (by omega)]); omega) | decide))
      | (refine idDg ?_; first | refine dg0t rfl rfl rfl ?_ | refine dg0f rfl rfl rfl ?_ | refine dg0u rfl rfl rfl ?_ | refine dgr rfl rfl ?_ | refine dgs rfl rfl (fun _ => ?_) (fun _ => ?_))
      | (refine idDn ?_; first | refine dL _ (fun hp' hs => D_loadB1 rfl (hs.trans rfl) rfl) rfl ?_ | refine dL _ (fun hp' hs => D_loadBA rfl (hs.trans rfl) rfl) rfl ?_ | refine dS (S_store rfl rfl rfl rfl rfl rfl rfl) rfl ?_ | refine dV (S_alloc 0 rfl) rfl rfl ?_ | refine dV (S_alloc 1 rfl) rfl rfl ?_ | refine dV (S_alloc 2 rfl) rfl rfl ?_ | refine dV (S_alloc 3 rfl) rfl rfl ?_ | refine dV (S_alloc 4 rfl) rfl rfl ?_ | refine dV (S_alloc 5 rfl) rfl rfl ?_ | refine dV (S_alloc 6 rfl) rfl rfl ?_ | refine dV (S_alloc 7 rfl) rfl rfl ?_)
      | refine WD_nil (by decide +kernel) ?_
    all_goals first
      | (have hx : dkeyE 2 ⟨q1.n, q0.n, q2.v, q3.n, iEq q4.n 0, q5.n, q6.n⟩ ≠ 0 := by assumption
         have hn : ¬ drdP 2 b := fun h => hx (hi.1 h).1
         first
           | exact hE0 hn
           | (rw [hD0 hn]; exact Le.of_eq rfl))
      | (have hx : dkeyB 2 ⟨q1.n, q0.n, q2.v, q3.n, iEq q4.n 0, q5.n, q6.n⟩ ≠ b := by assumption
         have hn : ¬ drdP 2 b := fun h => hx (hi.1 h).2
         first
           | exact hE0 hn
           | (rw [hD0 hn]; exact Le.of_eq rfl))
      | (have hp : drdP 2 b := hi.2 ⟨by assumption, by assumption⟩
         first
           | exact hE hp
           | (rw [hD hp]; exact Le.of_eq rfl))
  · rw [show shapeS 3 = [97, 118, 101] from rfl]
    refine W_rounds 4 ?_
    repeat' first
      | (refine cs rfl ?_ (fun _ => ?_); focus (intro h; exfalso; revert h; decide))
      | (refine cs rfl (fun _ => ?_) ?_; focus (intro h; exfalso; revert h; decide))
      | (apply p1 (hd := rfl); case hop => first | (apply D_move; rfl) | (apply D_assign; rfl) | exact D_eqD rfl rfl | exact D_ltD rfl rfl | (apply D_idxS; rfl; rfl; all_goals exact of_decide_eq_true rfl) | (apply D_ixR; rfl; rfl; all_goals exact of_decide_eq_true rfl) | (apply D_idxA; rfl; rfl; all_goals exact of_decide_eq_true rfl) | (apply D_load1; rfl) | (apply D_fld; rfl) | (apply D_pickT; rfl; rfl) | (apply D_pickF; rfl; rfl) | (apply D_int; rfl; rfl; rfl) | (apply D_str; rfl; rfl; rfl) | (apply D_ext; rfl; rfl) | (apply D_loadW; rfl; rfl) | (apply D_loadA; rfl; rfl) | (apply D_b2s; rfl) | (apply D_idxAn; rfl; rfl; (first | omega | (simp; done))) | (apply D_idxSn; rfl; rfl; (first | omega | (simp; done))) | (apply D_idxA; rfl; rfl; omega; (first | omega | (simp; done) | (simp; omega))) | (apply D_idxA0; rfl; rfl; omega; (first | omega | (simp; done) | (simp; omega))) | (apply D_idxS; rfl; rfl; omega; (first | omega | (simp; done) | (simp; omega))) | exact D_build rfl | exact D_buildA rfl | exact D_fldB rfl | (apply D_ixRn; rfl; rfl; (first | omega | (simp; done))) | (apply D_ixR; rfl; rfl; all_goals first | omega | ((repeat rw [w64 _ (by omega) (by omega)]); omega) | decide) | (apply D_mkB; rfl; rfl; all_goals first | omega | ((repeat rw [w64 _ (by omega) (by omega)]); omega) | decide) | (apply D_mk1; rfl; rfl; rfl; all_goals first | omega | ((repeat rw [w64 _ (by omega) (by omega)]); omega) | decide))
      | refine W_seq ?_
      | refine W_region ?_
      | (refine idC ?_; first | refine c1 rfl ?_ | refine c0 rfl ?_ | refine cs rfl (fun _ => ?_) (fun _ => ?_))
      | refine WL_nil ?_
      | (refine idG ?_; first | refine g0t rfl rfl rfl ?_ | refine g0f rfl rfl rfl ?_ | refine g0u rfl rfl rfl ?_ | refine gr rfl rfl ?_ | refine gs rfl rfl (fun _ => ?_) (fun _ => ?_) | refine grn rfl rfl ?_)
      | refine tn ?_
      | refine tr ?_
      | refine br ?_
      | refine bn ?_
      | refine te ?_
      | (refine idB ?_; first | refine bh rfl ?_ | refine bm rfl ?_)
      | refine W_skip ?_
      | refine W_block ?_
      | refine W_exit ?_
      | refine W_ret ?_
      | refine W_label ?_
      | refine W_scope ?_
      | refine sn ?_
      | refine sr ?_
      | refine se ?_
      | (refine idLd ?_; first | refine p1L (D_loadB1 rfl rfl rfl) rfl ?_ | refine p1L (D_loadBA rfl rfl rfl) rfl ?_ | refine p1L (D_loadB1 rfl (by (repeat first | assumption | exact get_last | (refine get_last2 ?_; focus (simp; done)) | apply get_set | apply get_app | (apply get_ne; focus omega) | (apply get_ne; focus (simp only [List.length_set, List.length_append, List.length_cons, List.length_nil]; omega))); done) (by rfl)) rfl ?_ | refine p1L (D_loadBA rfl (by (repeat first | assumption | exact get_last | (refine get_last2 ?_; focus (simp; done)) | apply get_set | apply get_app | (apply get_ne; focus omega) | (apply get_ne; focus (simp only [List.length_set, List.length_append, List.length_cons, List.length_nil]; omega))); done) (by rfl)) rfl ?_)
      | (refine idA ?_; first | refine m_alloc rfl ?_)
      | (refine idS ?_; first | refine pS (S_store rfl rfl rfl rfl rfl rfl rfl) ?_ | refine pS (S_store rfl rfl rfl (by (repeat first | assumption | exact get_last | (refine get_last2 ?_; focus (simp; done)) | apply get_set | apply get_app | (apply get_ne; focus omega) | (apply get_ne; focus (simp only [List.length_set, List.length_append, List.length_cons, List.length_nil]; omega))); done) (by rfl) (by rfl) (by rfl)) ?_)
      | refine Le.bool ?_
      | refine Le.int ?_
      | refine Le.str ?_
      | refine wr_succ ?_
      | (refine idW ?_; first | refine W_draw0 rfl ?_ | refine W_draw1 rfl ?_ | refine W_draw2 rfl ?_ | refine W_draw3 rfl ?_)
      | (apply d1 (hd := rfl); case hop => first | (apply D_move; rfl) | (apply D_assign; rfl) | exact D_eqD rfl rfl | exact D_ltD rfl rfl | (apply D_idxS; rfl; rfl; all_goals exact of_decide_eq_true rfl) | (apply D_ixR; rfl; rfl; all_goals exact of_decide_eq_true rfl) | (apply D_idxA; rfl; rfl; all_goals exact of_decide_eq_true rfl) | (apply D_load1; rfl) | (apply D_fld; rfl) | (apply D_pickT; rfl; rfl) | (apply D_pickF; rfl; rfl) | (apply D_int; rfl; rfl; rfl) | (apply D_str; rfl; rfl; rfl) | (apply D_ext; rfl; rfl) | (apply D_loadW; rfl; rfl) | (apply D_loadA; rfl; rfl) | (apply D_b2s; rfl) | (apply D_idxAn; rfl; rfl; (first | omega | (simp; done))) | (apply D_idxSn; rfl; rfl; (first | omega | (simp; done))) | (apply D_idxA; rfl; rfl; omega; (first | omega | (simp; done) | (simp; omega))) | (apply D_idxA0; rfl; rfl; omega; (first | omega | (simp; done) | (simp; omega))) | (apply D_idxS; rfl; rfl; omega; (first | omega | (simp; done) | (simp; omega))) | exact D_build rfl | exact D_buildA rfl | exact D_fldB rfl | (apply D_ixRn; rfl; rfl; (first | omega | (simp; done))) | (apply D_ixR; rfl; rfl; all_goals first | omega | ((repeat rw [w64 _ (by omega) (by omega)]); omega) | decide) | (apply D_mkB; rfl; rfl; all_goals first | omega | ((repeat rw [w64 _ (by omega) (by omega)]); omega) | decide) | (apply D_mk1; rfl; rfl; rfl; all_goals first | omega | ((repeat rw [w64 _ (by omega) (by omega)]); omega) | decide))
      | (refine idDg ?_; first | refine dg0t rfl rfl rfl ?_ | refine dg0f rfl rfl rfl ?_ | refine dg0u rfl rfl rfl ?_ | refine dgr rfl rfl ?_ | refine dgs rfl rfl (fun _ => ?_) (fun _ => ?_))
      | (refine idDn ?_; first | refine dL _ (fun hp' hs => D_loadB1 rfl (hs.trans rfl) rfl) rfl ?_ | refine dL _ (fun hp' hs => D_loadBA rfl (hs.trans rfl) rfl) rfl ?_ | refine dS (S_store rfl rfl rfl rfl rfl rfl rfl) rfl ?_ | refine dV (S_alloc 0 rfl) rfl rfl ?_ | refine dV (S_alloc 1 rfl) rfl rfl ?_ | refine dV (S_alloc 2 rfl) rfl rfl ?_ | refine dV (S_alloc 3 rfl) rfl rfl ?_ | refine dV (S_alloc 4 rfl) rfl rfl ?_ | refine dV (S_alloc 5 rfl) rfl rfl ?_ | refine dV (S_alloc 6 rfl) rfl rfl ?_ | refine dV (S_alloc 7 rfl) rfl rfl ?_)
      | refine WD_nil (by decide +kernel) ?_
    refine WL_freezeR 1 1 (els := (kindsO 3).map boC) (sp := []) rfl (fun e he => by obtain ⟨a, _, rfl⟩ := List.mem_map.1 he; rfl) ?_
    repeat' first
      | (apply p1 (hd := rfl); case hop => first | (apply D_move; rfl) | (apply D_assign; rfl) | (apply D_pc (read1_pc b (kindsO 3) hl (by decide)); rfl; exact .same rfl (.same rfl .nil)) | (apply D_load1; rfl) | (apply D_fld; rfl) | (apply D_pickT; rfl; rfl) | (apply D_pickF; rfl; rfl) | (apply D_int; rfl; rfl; rfl) | (apply D_str; rfl; rfl; rfl) | (apply D_ext; rfl; rfl) | (apply D_loadW; rfl; rfl) | (apply D_loadA; rfl; rfl) | (apply D_b2s; rfl) | (apply D_idxAn; rfl; rfl; (first | omega | (simp; done))) | (apply D_idxSn; rfl; rfl; (first | omega | (simp; done))) | (apply D_idxA; rfl; rfl; omega; (first | omega | (simp; done) | (simp; omega))) | (apply D_idxA0; rfl; rfl; omega; (first | omega | (simp; done) | (simp; omega))) | (apply D_idxS; rfl; rfl; omega; (first | omega | (simp; done) | (simp; omega))) | exact D_build rfl | exact D_buildA rfl | exact D_fldB rfl | (apply D_ixRn; rfl; rfl; (first | omega | (simp; done))) | (apply D_ixR; rfl; rfl; all_goals first | omega | ((repeat rw [w64 _ (by omega) (by omega)]); omega) | decide) | (apply D_mkB; rfl; rfl; all_goals first | omega | ((repeat rw [w64 _ (by omega) (by omega)]); omega) | decide) | (apply D_mk1; rfl; rfl; rfl; all_goals first | omega | ((repeat rw [w64 _ (by omega) (by omega)]); omega) | decide))
      | refine W_seq ?_
      | refine W_region ?_
      | (refine idC ?_; first | refine c1 rfl ?_ | refine c0 rfl ?_ | refine cs rfl (fun _ => ?_) (fun _ => ?_))
      | refine WL_nil ?_
      | (refine idG ?_; first | refine g0t rfl rfl rfl ?_ | refine g0f rfl rfl rfl ?_ | refine g0u rfl rfl rfl ?_ | refine gr rfl rfl ?_ | refine gs rfl rfl (fun _ => ?_) (fun _ => ?_) | refine grn rfl rfl ?_)
      | refine tn ?_
      | refine tr ?_
      | refine br ?_
      | refine bn ?_
      | refine te ?_
      | (refine idB ?_; first | refine bh rfl ?_ | refine bm rfl ?_)
      | refine W_skip ?_
      | refine W_block ?_
      | refine W_exit ?_
      | refine W_ret ?_
      | refine W_label ?_
      | refine W_scope ?_
      | refine sn ?_
      | refine sr ?_
      | refine se ?_
      | (refine idR ?_; first | refine ret2 rfl rfl rfl rfl ?_ ?_ | refine rL2 rfl (by first | exact trivial | exact ⟨rfl, trivial⟩) (by first | exact ResO.tmp rfl | exact ResO.cellBA rfl rfl rfl | exact ResO.cellB1 rfl rfl rfl | exact ResO.cellEA rfl rfl | exact ResO.cellE1 rfl) (by first | exact ResO.tmp rfl | exact ResO.cellBA rfl rfl rfl | exact ResO.cellB1 rfl rfl rfl | exact ResO.cellEA rfl rfl | exact ResO.cellE1 rfl) ?_ ?_)
      | (refine idLd ?_; first | refine p1L (D_loadB1 rfl rfl rfl) rfl ?_ | refine p1L (D_loadBA rfl rfl rfl) rfl ?_ | refine p1L (D_loadB1 rfl (by (repeat first | assumption | exact get_last | (refine get_last2 ?_; focus (simp; done)) | apply get_set | apply get_app | (apply get_ne; focus omega) | (apply get_ne; focus (simp only [List.length_set, List.length_append, List.length_cons, List.length_nil]; omega))); done) (by rfl)) rfl ?_ | refine p1L (D_loadBA rfl (by (repeat first | assumption | exact get_last | (refine get_last2 ?_; focus (simp; done)) | apply get_set | apply get_app | (apply get_ne; focus omega) | (apply get_ne; focus (simp only [List.length_set, List.length_append, List.length_cons, List.length_nil]; omega))); done) (by rfl)) rfl ?_)
      | (refine idA ?_; first | refine m_alloc rfl ?_)
      | (refine idS ?_; first | refine pS (S_store rfl rfl rfl rfl rfl rfl rfl) ?_ | refine pS (S_store rfl rfl rfl (by (repeat first | assumption | exact get_last | (refine get_last2 ?_; focus (simp; done)) | apply get_set | apply get_app | (apply get_ne; focus omega) | (apply get_ne; focus (simp only [List.length_set, List.length_append, List.length_cons, List.length_nil]; omega))); done) (by rfl) (by rfl) (by rfl)) ?_)
      | refine Le.bool ?_
      | refine Le.int ?_
      | refine Le.str ?_
      | (refine idW ?_; first | refine W_draw0 rfl ?_ | refine W_draw1 rfl ?_ | refine W_draw2 rfl ?_ | refine W_draw3 rfl ?_)
      | (apply d1 (hd := rfl); case hop => first | (apply D_move; rfl) | (apply D_assign; rfl) | (apply D_pc (read1_pc b (kindsO 3) hl (by decide)); rfl; exact .same rfl (.same rfl .nil)) | (apply D_load1; rfl) | (apply D_fld; rfl) | (apply D_pickT; rfl; rfl) | (apply D_pickF; rfl; rfl) | (apply D_int; rfl; rfl; rfl) | (apply D_str; rfl; rfl; rfl) | (apply D_ext; rfl; rfl) | (apply D_loadW; rfl; rfl) | (apply D_loadA; rfl; rfl) | (apply D_b2s; rfl) | (apply D_idxAn; rfl; rfl; (first | omega | (simp; done))) | (apply D_idxSn; rfl; rfl; (first | omega | (simp; done))) | (apply D_idxA; rfl; rfl; omega; (first | omega | (simp; done) | (simp; omega))) | (apply D_idxA0; rfl; rfl; omega; (first | omega | (simp; done) | (simp; omega))) | (apply D_idxS; rfl; rfl; omega; (first | omega | (simp; done) | (simp; omega))) | exact D_build rfl | exact D_buildA rfl | exact D_fldB rfl | (apply D_ixRn; rfl; rfl; (first | omega | (simp; done))) | (apply D_ixR; rfl; rfl; all_goals first | omega | ((repeat rw [w64 _ (by omega) (by omega)]); omega) | decide) | (apply D_mkB; rfl; rfl; all_goals first | omega | ((repeat rw [w64 _ (by omega) (by omega)]); omega) | decide) | (apply D_mk1; rfl; rfl; rfl; all_goals first | omega | ((repeat rw [w64 _ (by omega) (by omega)]); omega) | decide))
      | (refine idDg ?_; first | refine dg0t rfl rfl rfl ?_ | refine dg0f rfl rfl rfl ?_ | refine dg0u rfl rfl rfl ?_ | refine dgr rfl rfl ?_ | refine dgs rfl rfl (fun _ => ?_) (fun _ => ?_))
      | (refine idDn ?_; first | refine dL _ (fun hp' hs => D_loadB1 rfl (hs.trans rfl) rfl) rfl ?_ | refine dL _ (fun hp' hs => D_loadBA rfl (hs.trans rfl) rfl) rfl ?_ | refine dS (S_store rfl rfl rfl rfl rfl rfl rfl) rfl ?_ | refine dV (S_alloc 0 rfl) rfl rfl ?_ | refine dV (S_alloc 1 rfl) rfl rfl ?_ | refine dV (S_alloc 2 rfl) rfl rfl ?_ | refine dV (S_alloc 3 rfl) rfl rfl ?_ | refine dV (S_alloc 4 rfl) rfl rfl ?_ | refine dV (S_alloc 5 rfl) rfl rfl ?_ | refine dV (S_alloc 6 rfl) rfl rfl ?_ | refine dV (S_alloc 7 rfl) rfl rfl ?_)
      | refine WD_nil (by decide +kernel) ?_
    · rename_i h2
      have hn : ¬ drdP 3 b := fun h => h2 (by rw [rdE, if_pos h.2.1])
      rw [show drdD 3 b = dat0 by rw [drdD, if_neg hn]]; exact Le.of_eq rfl
    · rename_i h2
      have hn : ¬ drdP 3 b := fun h => h2 (by rw [rdE, if_pos h.2.1])
      rw [drdE, if_pos (by decide), if_neg hn]
    rename_i h2
    have hok : rdOK (kindsO 3) b := by
      rw [rdE] at h2; split at h2
      · assumption
      · cases h2
    have hL : rdL (kindsO 3) b = (rdAll (kindsO 3) (b, false)).1 := by rw [rdL, if_pos hok]
    have hL7 : (rdL (kindsO 3) b).length = 7 := by rw [hL, rdAll_full _ _ hok.1]; simp [kindsO, part7_len]
    have hv : ∀ p, p ∈ rdL (kindsO 3) b → p.v.s.length < 9223372036854775808 := fun p hp => by
      rw [hL] at hp; have := rdAll_s _ _ p hp; simp only at this; omega
    have hi := drd_iff (o := 3) (by decide) hok
    have hD : drdP 3 b → drdD 3 b = datOf 3 (rdL (kindsO 3) b) := fun h => by rw [drdD, if_pos h]
    have hD0 : ¬ drdP 3 b → drdD 3 b = dat0 := fun h => by rw [drdD, if_neg h]
    have hE : drdP 3 b → 0 = drdE 3 b := fun h => by rw [drdE, if_pos (by decide), if_pos h]
    have hE0 : ¬ drdP 3 b → 40 = drdE 3 b := fun h => by rw [drdE, if_pos (by decide), if_neg h]
    generalize rdL (kindsO 3) b = L at *
    obtain ⟨q0, q1, q2, q3, q4, q5, q6, rfl⟩ := seven hL7
    have hdt : datOf 3 [q0, q1, q2, q3, q4, q5, q6] = ⟨q2.n, q0.n, q1.v, q3.n, iEq q4.n 0, q5.n, q6.n⟩ := rfl
    rw [hdt] at hi hD
    have hvv : (q1).v.s.length < 9223372036854775808 := hv q1 (by simp)
    clear hL hv hok h2
    repeat' first
      | (apply p1 (hd := rfl); case hop => first | (apply D_move; rfl) | (apply D_assign; rfl) | (apply D_idxAn; rfl; rfl; exact of_decide_eq_true rfl) | (apply D_load1; rfl) | (apply D_fld; rfl) | (apply D_pickT; rfl; rfl) | (apply D_pickF; rfl; rfl) | (apply D_int; rfl; rfl; rfl) | (apply D_str; rfl; rfl; rfl) | (apply D_ext; rfl; rfl) | (apply D_loadW; rfl; rfl) | (apply D_loadA; rfl; rfl) | (apply D_b2s; rfl) | (apply D_idxAn; rfl; rfl; (first | omega | (simp; done))) | (apply D_idxSn; rfl; rfl; (first | omega | (simp; done))) | (apply D_idxA; rfl; rfl; omega; (first | omega | (simp; done) | (simp; omega))) | (apply D_idxA0; rfl; rfl; omega; (first | omega | (simp; done) | (simp; omega))) | (apply D_idxS; rfl; rfl; omega; (first | omega | (simp; done) | (simp; omega))) | exact D_build rfl | exact D_buildA rfl | exact D_fldB rfl | (apply D_ixRn; rfl; rfl; (first | omega | (simp; done))) | (apply D_ixR; rfl; rfl; all_goals first | omega | ((repeat rw [w64 _ (by omega) (by omega)]); omega) | decide) | (apply D_mkB; rfl; rfl; all_goals first | omega | ((repeat rw [w64 _ (by omega) (by omega)]); omega) | decide) | (apply D_mk1; rfl; rfl; rfl; all_goals first | omega | ((repeat rw [w64 _ (by omega) (by omega)]); omega) | decide))
      | refine W_seq ?_
      | refine W_region ?_
      | (refine idC ?_; first | refine c1 rfl ?_ | refine c0 rfl ?_ | refine cs rfl (fun _ => ?_) (fun _ => ?_))
      | refine WL_nil ?_
      | (refine idG ?_; first | refine g0t rfl rfl rfl ?_ | refine g0f rfl rfl rfl ?_ | refine g0u rfl rfl rfl ?_ | refine gr rfl rfl ?_ | refine gs rfl rfl (fun _ => ?_) (fun _ => ?_) | refine grn rfl rfl ?_)
      | refine tn ?_
      | refine tr ?_
      | refine br ?_
      | refine bn ?_
      | refine te ?_
      | (refine idB ?_; first | refine bh rfl ?_ | refine bm rfl ?_)
      | refine W_skip ?_
      | refine W_block ?_
      | refine W_exit ?_
      | refine W_ret ?_
      | refine W_label ?_
      | refine W_scope ?_
      | refine sn ?_
      | refine sr ?_
      | refine se ?_
      | (refine idR ?_; first | refine ret2 rfl rfl rfl rfl ?_ ?_ | refine rL2 rfl (by first | exact trivial | exact ⟨rfl, trivial⟩) (by first | exact ResO.tmp rfl | exact ResO.cellBA rfl rfl rfl | exact ResO.cellB1 rfl rfl rfl | exact ResO.cellEA rfl rfl | exact ResO.cellE1 rfl) (by first | exact ResO.tmp rfl | exact ResO.cellBA rfl rfl rfl | exact ResO.cellB1 rfl rfl rfl | exact ResO.cellEA rfl rfl | exact ResO.cellE1 rfl) ?_ ?_)
      | (refine idLd ?_; first | refine p1L (D_loadB1 rfl rfl rfl) rfl ?_ | refine p1L (D_loadBA rfl rfl rfl) rfl ?_ | refine p1L (D_loadB1 rfl (by (repeat first | assumption | exact get_last | (refine get_last2 ?_; focus (simp; done)) | apply get_set | apply get_app | (apply get_ne; focus omega) | (apply get_ne; focus (simp only [List.length_set, List.length_append, List.length_cons, List.length_nil]; omega))); done) (by rfl)) rfl ?_ | refine p1L (D_loadBA rfl (by (repeat first | assumption | exact get_last | (refine get_last2 ?_; focus (simp; done)) | apply get_set | apply get_app | (apply get_ne; focus omega) | (apply get_ne; focus (simp only [List.length_set, List.length_append, List.length_cons, List.length_nil]; omega))); done) (by rfl)) rfl ?_)
      | (refine idA ?_; first | refine m_alloc rfl ?_)
      | (refine idS ?_; first | refine pS (S_store rfl rfl rfl rfl rfl rfl rfl) ?_ | refine pS (S_store rfl rfl rfl (by (repeat first | assumption | exact get_last | (refine get_last2 ?_; focus (simp; done)) | apply get_set | apply get_app | (apply get_ne; focus omega) | (apply get_ne; focus (simp only [List.length_set, List.length_append, List.length_cons, List.length_nil]; omega))); done) (by rfl) (by rfl) (by rfl)) ?_)
      | refine Le.bool ?_
      | refine Le.int ?_
      | refine Le.str ?_
      | (refine idW ?_; first | refine W_draw0 rfl ?_ | refine W_draw1 rfl ?_ | refine W_draw2 rfl ?_ | refine W_draw3 rfl ?_)
      | (apply d1 (hd := rfl); case hop => first | (apply D_move; rfl) | (apply D_assign; rfl) | (apply D_idxAn; rfl; rfl; exact of_decide_eq_true rfl) | (apply D_load1; rfl) | (apply D_fld; rfl) | (apply D_pickT; rfl; rfl) | (apply D_pickF; rfl; rfl) | (apply D_int; rfl; rfl; rfl) | (apply D_str; rfl; rfl; rfl) | (apply D_ext; rfl; rfl) | (apply D_loadW; rfl; rfl) | (apply D_loadA; rfl; rfl) | (apply D_b2s; rfl) | (apply D_idxAn; rfl; rfl; (first | omega | (simp; done))) | (apply D_idxSn; rfl; rfl; (first | omega | (simp; done))) | (apply D_idxA; rfl; rfl; omega; (first | omega | (simp; done) | (simp; omega))) | (apply D_idxA0; rfl; rfl; omega; (first | omega | (simp; done) | (simp; omega))) | (apply D_idxS; rfl; rfl; omega; (first | omega | (simp; done) | (simp; omega))) | exact D_build rfl | exact D_buildA rfl | exact D_fldB rfl | (apply D_ixRn; rfl; rfl; (first | omega | (simp; done))) | (apply D_ixR; rfl; rfl; all_goals first | omega | ((repeat rw [w64 _ (by omega) (by omega)]); omega) | decide) | (apply D_mkB; rfl; rfl; all_goals first | omega | ((repeat rw [w64 _ (by omega) (by omega)]); omega) | decide) | (apply D_mk1; rfl; rfl; rfl; all_goals first | omega | ((repeat rw [w64 _ (by omega) (by omega)]); omega) | decide))
      | (refine idDg ?_; first | refine dg0t rfl rfl rfl ?_ | refine dg0f rfl rfl rfl ?_ | refine dg0u rfl rfl rfl ?_ | refine dgr rfl rfl ?_ | refine dgs rfl rfl (fun _ => ?_) (fun _ => ?_))
      | (refine idDn ?_; first | refine dL _ (fun hp' hs => D_loadB1 rfl (hs.trans rfl) rfl) rfl ?_ | refine dL _ (fun hp' hs => D_loadBA rfl (hs.trans rfl) rfl) rfl ?_ | refine dS (S_store rfl rfl rfl rfl rfl rfl rfl) rfl ?_ | refine dV (S_alloc 0 rfl) rfl rfl ?_ | refine dV (S_alloc 1 rfl) rfl rfl ?_ | refine dV (S_alloc 2 rfl) rfl rfl ?_ | refine dV (S_alloc 3 rfl) rfl rfl ?_ | refine dV (S_alloc 4 rfl) rfl rfl ?_ | refine dV (S_alloc 5 rfl) rfl rfl ?_ | refine dV (S_alloc 6 rfl) rfl rfl ?_ | refine dV (S_alloc 7 rfl) rfl rfl ?_)
      | refine WD_nil (by decide +kernel) ?_
    refine W_rounds 4 ?_
    repeat' first
      | (refine cs rfl ?_ (fun _ => ?_); focus (intro h; exfalso; revert h; decide))
      | (refine cs rfl (fun _ => ?_) ?_; focus (intro h; exfalso; revert h; decide))
      | (apply p1 (hd := rfl); case hop => first | (apply D_move; rfl) | (apply D_assign; rfl) | exact D_eqD rfl rfl | exact D_ltD rfl rfl | (apply D_idxS; rfl; rfl; all_goals exact of_decide_eq_true rfl) | (apply D_ixR; rfl; rfl; all_goals exact of_decide_eq_true rfl) | (apply D_idxA; rfl; rfl; all_goals exact of_decide_eq_true rfl) | (apply D_pc (dkey1_pc 3 ⟨q2.n, q0.n, q1.v, q3.n, iEq q4.n 0, q5.n, q6.n⟩ hvv); rfl; exact .same rfl (.same rfl .nil)) | (apply D_load1; rfl) | (apply D_fld; rfl) | (apply D_pickT; rfl; rfl) | (apply D_pickF; rfl; rfl) | (apply D_int; rfl; rfl; rfl) | (apply D_str; rfl; rfl; rfl) | (apply D_ext; rfl; rfl) | (apply D_loadW; rfl; rfl) | (apply D_loadA; rfl; rfl) | (apply D_b2s; rfl) | (apply D_idxAn; rfl; rfl; (first | omega | (simp; done))) | (apply D_idxSn; rfl; rfl; (first | omega | (simp; done))) | (apply D_idxA; rfl; rfl; omega; (first | omega | (simp; done) | (simp; omega))) | (apply D_idxA0; rfl; rfl; omega; (first | omega | (simp; done) | (simp; omega))) | (apply D_idxS; rfl; rfl; omega; (first | omega | (simp; done) | (simp; omega))) | exact D_build rfl | exact D_buildA rfl | exact D_fldB rfl | (apply D_ixRn; rfl; rfl; (first | omega | (simp; done))) | (apply D_ixR; rfl; rfl; all_goals first | omega | ((repeat rw [w64 _ (by omega) (by omega)]); omega) | decide) | (apply D_mkB; rfl; rfl; all_goals first | omega | ((repeat rw [w64 _ (by omega) (by omega)]); omega) | decide) | (apply D_mk1; rfl; rfl; rfl; all_goals first | omega | ((repeat rw [w64 _ (by omega) (by omega)]); omega) | decide))
      | refine W_seq ?_
      | refine W_region ?_
      | (refine idC ?_; first | refine c1 rfl ?_ | refine c0 rfl ?_ | refine cs rfl (fun _ => ?_) (fun _ => ?_))
      | refine WL_nil ?_
      | (refine idG ?_; first | refine g0t rfl rfl rfl ?_ | refine g0f rfl rfl rfl ?_ | refine g0u rfl rfl rfl ?_ | refine gr rfl rfl ?_ | refine gs rfl rfl (fun _ => ?_) (fun _ => ?_) | refine grn rfl rfl ?_)
      | refine tn ?_
      | refine tr ?_
      | refine br ?_
      | refine bn ?_
      | refine te ?_
      | (refine idB ?_; first | refine bh rfl ?_ | refine bm rfl ?_)
      | refine W_skip ?_
      | refine W_block ?_
      | refine W_exit ?_
      | refine W_ret ?_
      | refine W_label ?_
      | refine W_scope ?_
      | refine sn ?_
      | refine sr ?_
      | refine se ?_
      | (refine idR ?_; first | refine ret2 rfl rfl rfl rfl ?_ ?_ | refine rL2 rfl (by first | exact trivial | exact ⟨rfl, trivial⟩) (by first | exact ResO.tmp rfl | exact ResO.cellBA rfl rfl rfl | exact ResO.cellB1 rfl rfl rfl | exact ResO.cellEA rfl rfl | exact ResO.cellE1 rfl) (by first | exact ResO.tmp rfl | exact ResO.cellBA rfl rfl rfl | exact ResO.cellB1 rfl rfl rfl | exact ResO.cellEA rfl rfl | exact ResO.cellE1 rfl) ?_ ?_)
      | (refine idLd ?_; first | refine p1L (D_loadB1 rfl rfl rfl) rfl ?_ | refine p1L (D_loadBA rfl rfl rfl) rfl ?_ | refine p1L (D_loadB1 rfl (by (repeat first | assumption | exact get_last | (refine get_last2 ?_; focus (simp; done)) | apply get_set | apply get_app | (apply get_ne; focus omega) | (apply get_ne; focus (simp only [List.length_set, List.length_append, List.length_cons, List.length_nil]; omega))); done) (by rfl)) rfl ?_ | refine p1L (D_loadBA rfl (by (repeat first | assumption | exact get_last | (refine get_last2 ?_; focus (simp; done)) | apply get_set | apply get_app | (apply get_ne; focus omega) | (apply get_ne; focus (simp only [List.length_set, List.length_append, List.length_cons, List.length_nil]; omega))); done) (by rfl)) rfl ?_)
      | (refine idA ?_; first | refine m_alloc rfl ?_)
      | (refine idS ?_; first | refine pS (S_store rfl rfl rfl rfl rfl rfl rfl) ?_ | refine pS (S_store rfl rfl rfl (by (repeat first | assumption | exact get_last | (refine get_last2 ?_; focus (simp; done)) | apply get_set | apply get_app | (apply get_ne; focus omega) | (apply get_ne; focus (simp only [List.length_set, List.length_append, List.length_cons, List.length_nil]; omega))); done) (by rfl) (by rfl) (by rfl)) ?_)
      | refine Le.bool ?_
      | refine Le.int ?_
      | refine Le.str ?_
      | refine wr_succ ?_
      | (refine idW ?_; first | refine W_draw0 rfl ?_ | refine W_draw1 rfl ?_ | refine W_draw2 rfl ?_ | refine W_draw3 rfl ?_)
      | (apply d1 (hd := rfl); case hop => first | (apply D_move; rfl) | (apply D_assign; rfl) | exact D_eqD rfl rfl | exact D_ltD rfl rfl | (apply D_idxS; rfl; rfl; all_goals exact of_decide_eq_true rfl) | (apply D_ixR; rfl; rfl; all_goals exact of_decide_eq_true rfl) | (apply D_idxA; rfl; rfl; all_goals exact of_decide_eq_true rfl) | (apply D_pc (dkey1_pc 3 ⟨q2.n, q0.n, q1.v, q3.n, iEq q4.n 0, q5.n, q6.n⟩ hvv); rfl; exact .same rfl (.same rfl .nil)) | (apply D_load1; rfl) | (apply D_fld; rfl) | (apply D_pickT; rfl; rfl) | (apply D_pickF; rfl; rfl) | (apply D_int; rfl; rfl; rfl) | (apply D_str; rfl; rfl; rfl) | (apply D_ext; rfl; rfl) | (apply D_loadW; rfl; rfl) | (apply D_loadA; rfl; rfl) | (apply D_b2s; rfl) | (apply D_idxAn; rfl; rfl; (first | omega | (simp; done))) | (apply D_idxSn; rfl; rfl; (first | omega | (simp; done))) | (apply D_idxA; rfl; rfl; omega; (first | omega | (simp; done) | (simp; omega))) | (apply D_idxA0; rfl; rfl; omega; (first | omega | (simp; done) | (simp; omega))) | (apply D_idxS; rfl; rfl; omega; (first | omega | (simp; done) | (simp; omega))) | exact D_build rfl | exact D_buildA rfl | exact D_fldB rfl | (apply D_ixRn; rfl; rfl; (first | omega | (simp; done))) | (apply D_ixR; rfl; rfl; all_goals first | omega | ((repeat rw [w64 _ (by omega) (by omega)]); omega) | decide) | (apply D_mkB; rfl; rfl; all_goals first | omega | ((repeat rw [w64 _ (by omega) (by omega)]); omega) | decide) | (apply D_mk1; rfl; rfl; rfl; all_goals first | omega | ((repeat rw [w64 _ (by omega) (by omega)]); omega) | decide))
      | (refine idDg ?_; first | refine dg0t rfl rfl rfl ?_ | refine dg0f rfl rfl rfl ?_ | refine dg0u rfl rfl rfl ?_ | refine dgr rfl rfl ?_ | refine dgs rfl rfl (fun _ => ?_) (fun _ => ?_))
      | (refine idDn ?_; first | refine dL _ (fun hp' hs => D_loadB1 rfl (hs.trans rfl) rfl) rfl ?_ | refine dL _ (fun hp' hs => D_loadBA rfl (hs.trans rfl) rfl) rfl ?_ | refine dS (S_store rfl rfl rfl rfl rfl rfl rfl) rfl ?_ | refine dV (S_alloc 0 rfl) rfl rfl ?_ | refine dV (S_alloc 1 rfl) rfl rfl ?_ | refine dV (S_alloc 2 rfl) rfl rfl ?_ | refine dV (S_alloc 3 rfl) rfl rfl ?_ | refine dV (S_alloc 4 rfl) rfl rfl ?_ | refine dV (S_alloc 5 rfl) rfl rfl ?_ | refine dV (S_alloc 6 rfl) rfl rfl ?_ | refine dV (S_alloc 7 rfl) rfl rfl ?_)
      | refine WD_nil (by decide +kernel) ?_
    all_goals first
      | (have hx : dkeyE 3 ⟨q2.n, q0.n, q1.v, q3.n, iEq q4.n 0, q5.n, q6.n⟩ ≠ 0 := by assumption
         have hn : ¬ drdP 3 b := fun h => hx (hi.1 h).1
         first
           | exact hE0 hn
           | (rw [hD0 hn]; exact Le.of_eq rfl))
      | (have hx : dkeyB 3 ⟨q2.n, q0.n, q1.v, q3.n, iEq q4.n 0, q5.n, q6.n⟩ ≠ b := by assumption
         have hn : ¬ drdP 3 b := fun h => hx (hi.1 h).2
         first
           | exact hE0 hn
           | (rw [hD0 hn]; exact Le.of_eq rfl))
      | (have hp : drdP 3 b := hi.2 ⟨by assumption, by assumption⟩
         first
           | exact hE hp
           | (rw [hD hp]; exact Le.of_eq rfl))
  · rw [show shapeS 4 = [118, 97, 101] from rfl]
    refine W_rounds 4 ?_
    repeat' first
      | (refine cs rfl ?_ (fun _ => ?_); focus (intro h; exfalso; revert h; decide))
      | (refine cs rfl (fun _ => ?_) ?_; focus (intro h; exfalso; revert h; decide))
      | (apply p1 (hd := rfl); case hop => first | (apply D_move; rfl) | (apply D_assign; rfl) | exact D_eqD rfl rfl | exact D_ltD rfl rfl | (apply D_idxS; rfl; rfl; all_goals exact of_decide_eq_true rfl) | (apply D_ixR; rfl; rfl; all_goals exact of_decide_eq_true rfl) | (apply D_idxA; rfl; rfl; all_goals exact of_decide_eq_true rfl) | (apply D_load1; rfl) | (apply D_fld; rfl) | (apply D_pickT; rfl; rfl) | (apply D_pickF; rfl; rfl) | (apply D_int; rfl; rfl; rfl) | (apply D_str; rfl; rfl; rfl) | (apply D_ext; rfl; rfl) | (apply D_loadW; rfl; rfl) | (apply D_loadA; rfl; rfl) | (apply D_b2s; rfl) | (apply D_idxAn; rfl; rfl; (first | omega | (simp; done))) | (apply D_idxSn; rfl; rfl; (first | omega | (simp; done))) | (apply D_idxA; rfl; rfl; omega; (first | omega | (simp; done) | (simp; omega))) | (apply D_idxA0; rfl; rfl; omega; (first | omega | (simp; done) | (simp; omega))) | (apply D_idxS; rfl; rfl; omega; (first | omega | (simp; done) | (simp; omega))) | exact D_build rfl | exact D_buildA rfl | exact D_fldB rfl | (apply D_ixRn; rfl; rfl; (first | omega | (simp; done))) | (apply D_ixR; rfl; rfl; all_goals first | omega | ((repeat rw [w64 _ (by omega) (by omega)]); omega) | decide) | (apply D_mkB; rfl; rfl; all_goals first | omega | ((repeat rw [w64 _ (by omega) (by omega)]); omega) | decide) | (apply D_mk1; rfl; rfl; rfl; all_goals first | omega | ((repeat rw [w64 _ (by omega) (by omega)]); omega) | decide))
      | refine W_seq ?_
      | refine W_region ?_
      | (refine idC ?_; first | refine c1 rfl ?_ | refine c0 rfl ?_ | refine cs rfl (fun _ => ?_) (fun _ => ?_))
      | refine WL_nil ?_
      | (refine idG ?_; first | refine g0t rfl rfl rfl ?_ | refine g0f rfl rfl rfl ?_ | refine g0u rfl rfl rfl ?_ | refine gr rfl rfl ?_ | refine gs rfl rfl (fun _ => ?_) (fun _ => ?_) | refine grn rfl rfl ?_)
      | refine tn ?_
      | refine tr ?_
      | refine br ?_
      | refine bn ?_
      | refine te ?_
      | (refine idB ?_; first | refine bh rfl ?_ | refine bm rfl ?_)
      | refine W_skip ?_
      | refine W_block ?_
      | refine W_exit ?_
      | refine W_ret ?_
      | refine W_label ?_
      | refine W_scope ?_
      | refine sn ?_
      | refine sr ?_
      | refine se ?_
      | (refine idLd ?_; first | refine p1L (D_loadB1 rfl rfl rfl) rfl ?_ | refine p1L (D_loadBA rfl rfl rfl) rfl ?_ | refine p1L (D_loadB1 rfl (by (repeat first | assumption | exact get_last | (refine get_last2 ?_; focus (simp; done)) | apply get_set | apply get_app | (apply get_ne; focus omega) | (apply get_ne; focus (simp only [List.length_set, List.length_append, List.length_cons, List.length_nil]; omega))); done) (by rfl)) rfl ?_ | refine p1L (D_loadBA rfl (by (repeat first | assumption | exact get_last | (refine get_last2 ?_; focus (simp; done)) | apply get_set | apply get_app | (apply get_ne; focus omega) | (apply get_ne; focus (simp only [List.length_set, List.length_append, List.length_cons, List.length_nil]; omega))); done) (by rfl)) rfl ?_)
      | (refine idA ?_; first | refine m_alloc rfl ?_)
      | (refine idS ?_; first | refine pS (S_store rfl rfl rfl rfl rfl rfl rfl) ?_ | refine pS (S_store rfl rfl rfl (by (repeat first | assumption | exact get_last | (refine get_last2 ?_; focus (simp; done)) | apply get_set | apply get_app | (apply get_ne; focus omega) | (apply get_ne; focus (simp only [List.length_set, List.length_append, List.length_cons, List.length_nil]; omega))); done) (by rfl) (by rfl) (by rfl)) ?_)
      | refine Le.bool ?_
      | refine Le.int ?_
      | refine Le.str ?_
      | refine wr_succ ?_
      | (refine idW ?_; first | refine W_draw0 rfl ?_ | refine W_draw1 rfl ?_ | refine W_draw2 rfl ?_ | refine W_draw3 rfl ?_)
      | (apply d1 (hd := rfl); case hop => first | (apply D_move; rfl) | (apply D_assign; rfl) | exact D_eqD rfl rfl | exact D_ltD rfl rfl | (apply D_idxS; rfl; rfl; all_goals exact of_decide_eq_true rfl) | (apply D_ixR; rfl; rfl; all_goals exact of_decide_eq_true rfl) | (apply D_idxA; rfl; rfl; all_goals exact of_decide_eq_true rfl) | (apply D_load1; rfl) | (apply D_fld; rfl) | (apply D_pickT; rfl; rfl) | (apply D_pickF; rfl; rfl) | (apply D_int; rfl; rfl; rfl) | (apply D_str; rfl; rfl; rfl) | (apply D_ext; rfl; rfl) | (apply D_loadW; rfl; rfl) | (apply D_loadA; rfl; rfl) | (apply D_b2s; rfl) | (apply D_idxAn; rfl; rfl; (first | omega | (simp; done))) | (apply D_idxSn; rfl; rfl; (first | omega | (simp; done))) | (apply D_idxA; rfl; rfl; omega; (first | omega | (simp; done) | (simp; omega))) | (apply D_idxA0; rfl; rfl; omega; (first | omega | (simp; done) | (simp; omega))) | (apply D_idxS; rfl; rfl; omega; (first | omega | (simp; done) | (simp; omega))) | exact D_build rfl | exact D_buildA rfl | exact D_fldB rfl | (apply D_ixRn; rfl; rfl; (first | omega | (simp; done))) | (apply D_ixR; rfl; rfl; all_goals first | omega | ((repeat rw [w64 _ (by omega) (by omega)]); omega) | decide) | (apply D_mkB; rfl; rfl; all_goals first | omega | ((repeat rw [w64 _ (by omega) (by omega)]); omega) | decide) | (apply D_mk1; rfl; rfl; rfl; all_goals first | omega | ((repeat rw [w64 _ (by omega) (by omega)]); omega) | decide))
      | (refine idDg ?_; first | refine dg0t rfl rfl rfl ?_ | refine dg0f rfl rfl rfl ?_ | refine dg0u rfl rfl rfl ?_ | refine dgr rfl rfl ?_ | refine dgs rfl rfl (fun _ => ?_) (fun _ => ?_))
      | (refine idDn ?_; first | refine dL _ (fun hp' hs => D_loadB1 rfl (hs.trans rfl) rfl) rfl ?_ | refine dL _ (fun hp' hs => D_loadBA rfl (hs.trans rfl) rfl) rfl ?_ | refine dS (S_store rfl rfl rfl rfl rfl rfl rfl) rfl ?_ | refine dV (S_alloc 0 rfl) rfl rfl ?_ | refine dV (S_alloc 1 rfl) rfl rfl ?_ | refine dV (S_alloc 2 rfl) rfl rfl ?_ | refine dV (S_alloc 3 rfl) rfl rfl ?_ | refine dV (S_alloc 4 rfl) rfl rfl ?_ | refine dV (S_alloc 5 rfl) rfl rfl ?_ | refine dV (S_alloc 6 rfl) rfl rfl ?_ | refine dV (S_alloc 7 rfl) rfl rfl ?_)
      | refine WD_nil (by decide +kernel) ?_
    refine WL_freezeR 1 1 (els := (kindsO 4).map boC) (sp := []) rfl (fun e he => by obtain ⟨a, _, rfl⟩ := List.mem_map.1 he; rfl) ?_
    repeat' first
      | (apply p1 (hd := rfl); case hop => first | (apply D_move; rfl) | (apply D_assign; rfl) | (apply D_pc (read1_pc b (kindsO 4) hl (by decide)); rfl; exact .same rfl (.same rfl .nil)) | (apply D_load1; rfl) | (apply D_fld; rfl) | (apply D_pickT; rfl; rfl) | (apply D_pickF; rfl; rfl) | (apply D_int; rfl; rfl; rfl) | (apply D_str; rfl; rfl; rfl) | (apply D_ext; rfl; rfl) | (apply D_loadW; rfl; rfl) | (apply D_loadA; rfl; rfl) | (apply D_b2s; rfl) | (apply D_idxAn; rfl; rfl; (first | omega | (simp; done))) | (apply D_idxSn; rfl; rfl; (first | omega | (simp; done))) | (apply D_idxA; rfl; rfl; omega; (first | omega | (simp; done) | (simp; omega))) | (apply D_idxA0; rfl; rfl; omega; (first | omega | (simp; done) | (simp; omega))) | (apply D_idxS; rfl; rfl; omega; (first | omega | (simp; done) | (simp; omega))) | exact D_build rfl | exact D_buildA rfl | exact D_fldB rfl | (apply D_ixRn; rfl; rfl; (first | omega | (simp; done))) | (apply D_ixR; rfl; rfl; all_goals first | omega | ((repeat rw [w64 _ (by omega) (by omega)]); omega) | decide) | (apply D_mkB; rfl; rfl; all_goals first | omega | ((repeat rw [w64 _ (by omega) (by omega)]); omega) | decide) | (apply D_mk1; rfl; rfl; rfl; all_goals first | omega | ((repeat rw [w64 _ (by omega) (by omega)]); omega) | decide))
      | refine W_seq ?_
      | refine W_region ?_
      | (refine idC ?_; first | refine c1 rfl ?_ | refine c0 rfl ?_ | refine cs rfl (fun _ => ?_) (fun _ => ?_))
      | refine WL_nil ?_
      | (refine idG ?_; first | refine g0t rfl rfl rfl ?_ | refine g0f rfl rfl rfl ?_ | refine g0u rfl rfl rfl ?_ | refine gr rfl rfl ?_ | refine gs rfl rfl (fun _ => ?_) (fun _ => ?_) | refine grn rfl rfl ?_)
      | refine tn ?_
      | refine tr ?_
      | refine br ?_
      | refine bn ?_
      | refine te ?_
      | (refine idB ?_; first | refine bh rfl ?_ | refine bm rfl ?_)
      | refine W_skip ?_
      | refine W_block ?_
      | refine W_exit ?_
      | refine W_ret ?_
      | refine W_label ?_
      | refine W_scope ?_
      | refine sn ?_
      | refine sr ?_
      | refine se ?_
      | (refine idR ?_; first | refine ret2 rfl rfl rfl rfl ?_ ?_ | refine rL2 rfl (by first | exact trivial | exact ⟨rfl, trivial⟩) (by first | exact ResO.tmp rfl | exact ResO.cellBA rfl rfl rfl | exact ResO.cellB1 rfl rfl rfl | exact ResO.cellEA rfl rfl | exact ResO.cellE1 rfl) (by first | exact ResO.tmp rfl | exact ResO.cellBA rfl rfl rfl | exact ResO.cellB1 rfl rfl rfl | exact ResO.cellEA rfl rfl | exact ResO.cellE1 rfl) ?_ ?_)
      | (refine idLd ?_; first | refine p1L (D_loadB1 rfl rfl rfl) rfl ?_ | refine p1L (D_loadBA rfl rfl rfl) rfl ?_ | refine p1L (D_loadB1 rfl (by (repeat first | assumption | exact get_last | (refine get_last2 ?_; focus (simp; done)) | apply get_set | apply get_app | (apply get_ne; focus omega) | (apply get_ne; focus (simp only [List.length_set, List.length_append, List.length_cons, List.length_nil]; omega))); done) (by rfl)) rfl ?_ | refine p1L (D_loadBA rfl (by (repeat first | assumption | exact get_last | (refine get_last2 ?_; focus (simp; done)) | apply get_set | apply get_app | (apply get_ne; focus omega) | (apply get_ne; focus (simp only [List.length_set, List.length_append, List.length_cons, List.length_nil]; omega))); done) (by rfl)) rfl ?_)
      | (refine idA ?_; first | refine m_alloc rfl ?_)
      | (refine idS ?_; first | refine pS (S_store rfl rfl rfl rfl rfl rfl rfl) ?_ | refine pS (S_store rfl rfl rfl (by (repeat first | assumption | exact get_last | (refine get_last2 ?_; focus (simp; done)) | apply get_set | apply get_app | (apply get_ne; focus omega) | (apply get_ne; focus (simp only [List.length_set, List.length_append, List.length_cons, List.length_nil]; omega))); done) (by rfl) (by rfl) (by rfl)) ?_)
      | refine Le.bool ?_
      | refine Le.int ?_
      | refine Le.str ?_
      | (refine idW ?_; first | refine W_draw0 rfl ?_ | refine W_draw1 rfl ?_ | refine W_draw2 rfl ?_ | refine W_draw3 rfl ?_)
      | (apply d1 (hd := rfl); case hop => first | (apply D_move; rfl) | (apply D_assign; rfl) | (apply D_pc (read1_pc b (kindsO 4) hl (by decide)); rfl; exact .same rfl (.same rfl .nil)) | (apply D_load1; rfl) | (apply D_fld; rfl) | (apply D_pickT; rfl; rfl) | (apply D_pickF; rfl; rfl) | (apply D_int; rfl; rfl; rfl) | (apply D_str; rfl; rfl; rfl) | (apply D_ext; rfl; rfl) | (apply D_loadW; rfl; rfl) | (apply D_loadA; rfl; rfl) | (apply D_b2s; rfl) | (apply D_idxAn; rfl; rfl; (first | omega | (simp; done))) | (apply D_idxSn; rfl; rfl; (first | omega | (simp; done))) | (apply D_idxA; rfl; rfl; omega; (first | omega | (simp; done) | (simp; omega))) | (apply D_idxA0; rfl; rfl; omega; (first | omega | (simp; done) | (simp; omega))) | (apply D_idxS; rfl; rfl; omega; (first | omega | (simp; done) | (simp; omega))) | exact D_build rfl | exact D_buildA rfl | exact D_fldB rfl | (apply D_ixRn; rfl; rfl; (first | omega | (simp; done))) | (apply D_ixR; rfl; rfl; all_goals first | omega | ((repeat rw [w64 _ (by omega) (by omega)]); omega) | decide) | (apply D_mkB; rfl; rfl; all_goals first | omega | ((repeat rw [w64 _ (by omega) (by omega)]); omega) | decide) | (apply D_mk1; rfl; rfl; rfl; all_goals first | omega | ((repeat rw [w64 _ (by omega) (by omega)]); omega) | decide))
      | (refine idDg ?_; first | refine dg0t rfl rfl rfl ?_ | refine dg0f rfl rfl rfl ?_ | refine dg0u rfl rfl rfl ?_ | refine dgr rfl rfl ?_ | refine dgs rfl rfl (fun _ => ?_) (fun _ => ?_))
      | (refine idDn ?_; first | refine dL _ (fun hp' hs => D_loadB1 rfl (hs.trans rfl) rfl) rfl ?_ | refine dL _ (fun hp' hs => D_loadBA rfl (hs.trans rfl) rfl) rfl ?_ | refine dS (S_store rfl rfl rfl rfl rfl rfl rfl) rfl ?_ | refine dV (S_alloc 0 rfl) rfl rfl ?_ | refine dV (S_alloc 1 rfl) rfl rfl ?_ | refine dV (S_alloc 2 rfl) rfl rfl ?_ | refine dV (S_alloc 3 rfl) rfl rfl ?_ | refine dV (S_alloc 4 rfl) rfl rfl ?_ | refine dV (S_alloc 5 rfl) rfl rfl ?_ | refine dV (S_alloc 6 rfl) rfl rfl ?_ | refine dV (S_alloc 7 rfl) rfl rfl ?_)
      | refine WD_nil (by decide +kernel) ?_
    · rename_i h2
      have hn : ¬ drdP 4 b := fun h => h2 (by rw [rdE, if_pos h.2.1])
      rw [show drdD 4 b = dat0 by rw [drdD, if_neg hn]]; exact Le.of_eq rfl
    · rename_i h2
      have hn : ¬ drdP 4 b := fun h => h2 (by rw [rdE, if_pos h.2.1])
      rw [drdE, if_pos (by decide), if_neg hn]
    rename_i h2
    have hok : rdOK (kindsO 4) b := by
      rw [rdE] at h2; split at h2
      · assumption
      · cases h2
    have hL : rdL (kindsO 4) b = (rdAll (kindsO 4) (b, false)).1 := by rw [rdL, if_pos hok]
    have hL7 : (rdL (kindsO 4) b).length = 7 := by rw [hL, rdAll_full _ _ hok.1]; simp [kindsO, part7_len]
    have hv : ∀ p, p ∈ rdL (kindsO 4) b → p.v.s.length < 9223372036854775808 := fun p hp => by
      rw [hL] at hp; have := rdAll_s _ _ p hp; simp only at this; omega
    have hi := drd_iff (o := 4) (by decide) hok
    have hD : drdP 4 b → drdD 4 b = datOf 4 (rdL (kindsO 4) b) := fun h => by rw [drdD, if_pos h]
    have hD0 : ¬ drdP 4 b → drdD 4 b = dat0 := fun h => by rw [drdD, if_neg h]
    have hE : drdP 4 b → 0 = drdE 4 b := fun h => by rw [drdE, if_pos (by decide), if_pos h]
    have hE0 : ¬ drdP 4 b → 40 = drdE 4 b := fun h => by rw [drdE, if_pos (by decide), if_neg h]
    generalize rdL (kindsO 4) b = L at *
    obtain ⟨q0, q1, q2, q3, q4, q5, q6, rfl⟩ := seven hL7
    have hdt : datOf 4 [q0, q1, q2, q3, q4, q5, q6] = ⟨q2.n, q1.n, q0.v, q3.n, iEq q4.n 0, q5.n, q6.n⟩ := rfl
    rw [hdt] at hi hD
    have hvv : (q0).v.s.length < 9223372036854775808 := hv q0 (by simp)
    clear hL hv hok h2
    repeat' first
      | (apply p1 (hd := rfl); case hop => first | (apply D_move; rfl) | (apply D_assign; rfl) | (apply D_idxAn; rfl; rfl; exact of_decide_eq_true rfl) | (apply D_load1; rfl) | (apply D_fld; rfl) | (apply D_pickT; rfl; rfl) | (apply D_pickF; rfl; rfl) | (apply D_int; rfl; rfl; rfl) | (apply D_str; rfl; rfl; rfl) | (apply D_ext; rfl; rfl) | (apply D_loadW; rfl; rfl) | (apply D_loadA; rfl; rfl) | (apply D_b2s; rfl) | (apply D_idxAn; rfl; rfl; (first | omega | (simp; done))) | (apply D_idxSn; rfl; rfl; (first | omega | (simp; done))) | (apply D_idxA; rfl; rfl; omega; (first | omega | (simp; done) | (simp; omega))) | (apply D_idxA0; rfl; rfl; omega; (first | omega | (simp; done) | (simp; omega))) | (apply D_idxS; rfl; rfl; omega; (first | omega | (simp; done) | (simp; omega))) | exact D_build rfl | exact D_buildA rfl | exact D_fldB rfl | (apply D_ixRn; rfl; rfl; (first | omega | (simp; done))) | (apply D_ixR; rfl; rfl; all_goals first | omega | ((repeat rw [w64 _ (by omega) (by omega)]); omega) | decide) | (apply D_mkB; rfl; rfl; all_goals first | omega | ((repeat rw [w64 _ (by omega) (by omega)]); omega) | decide) | (apply D_mk1; rfl; rfl; rfl; all_goals first | omega | ((repeat rw [w64 _ (by omega) (by omega)]); omega) | decide))
      | refine W_seq ?_
      | refine W_region ?_
      | (refine idC ?_; first | refine c1 rfl ?_ | refine c0 rfl ?_ | refine cs rfl (fun _ => ?_) (fun _ => ?_))
      | refine WL_nil ?_
      | (refine idG ?_; first | refine g0t rfl rfl rfl ?_ | refine g0f rfl rfl rfl ?_ | refine g0u rfl rfl rfl ?_ | refine gr rfl rfl ?_ | refine gs rfl rfl (fun _ => ?_) (fun _ => ?_) | refine grn rfl rfl ?_)
      | refine tn ?_
      | refine tr ?_
      | refine br ?_
      | refine bn ?_
      | refine te ?_
      | (refine idB ?_; first | refine bh rfl ?_ | refine bm rfl ?_)
      | refine W_skip ?_
      | refine W_block ?_
      | refine W_exit ?_
      | refine W_ret ?_
      | refine W_label ?_
      | refine W_scope ?_
      | refine sn ?_
      | refine sr ?_
      | refine se ?_
      | (refine idR ?_; first | refine ret2 rfl rfl rfl rfl ?_ ?_ | refine rL2 rfl (by first | exact trivial | exact ⟨rfl, trivial⟩) (by first | exact ResO.tmp rfl | exact ResO.cellBA rfl rfl rfl | exact ResO.cellB1 rfl rfl rfl | exact ResO.cellEA rfl rfl | exact ResO.cellE1 rfl) (by first | exact ResO.tmp rfl | exact ResO.cellBA rfl rfl rfl | exact ResO.cellB1 rfl rfl rfl | exact ResO.cellEA rfl rfl | exact ResO.cellE1 rfl) ?_ ?_)
      | (refine idLd ?_; first | refine p1L (D_loadB1 rfl rfl rfl) rfl ?_ | refine p1L (D_loadBA rfl rfl rfl) rfl ?_ | refine p1L (D_loadB1 rfl (by (repeat first | assumption | exact get_last | (refine get_last2 ?_; focus (simp; done)) | apply get_set | apply get_app | (apply get_ne; focus omega) | (apply get_ne; focus (simp only [List.length_set, List.length_append, List.length_cons, List.length_nil]; omega))); done) (by rfl)) rfl ?_ | refine p1L (D_loadBA rfl (by (repeat first | assumption | exact get_last | (refine get_last2 ?_; focus (simp; done)) | apply get_set | apply get_app | (apply get_ne; focus omega) | (apply get_ne; focus (simp only [List.length_set, List.length_append, List.length_cons, List.length_nil]; omega))); done) (by rfl)) rfl ?_)
      | (refine idA ?_; first | refine m_alloc rfl ?_)
      | (refine idS ?_; first | refine pS (S_store rfl rfl rfl rfl rfl rfl rfl) ?_ | refine pS (S_store rfl rfl rfl (by (repeat first | assumption | exact get_last | (refine get_last2 ?_; focus (simp; done)) | apply get_set | apply get_app | (apply get_ne; focus omega) | (apply get_ne; focus (simp only [List.length_set, List.length_append, List.length_cons, List.length_nil]; omega))); done) (by rfl) (by rfl) (by rfl)) ?_)
      | refine Le.bool ?_
      | refine Le.int ?_
      | refine Le.str ?_
      | (refine idW ?_; first | refine W_draw0 rfl ?_ | refine W_draw1 rfl ?_ | refine W_draw2 rfl ?_ | refine W_draw3 rfl ?_)
      | (apply d1 (hd := rfl); case hop => first | (apply D_move; rfl) | (apply D_assign; rfl) | (apply D_idxAn; rfl; rfl; exact of_decide_eq_true rfl) | (apply D_load1; rfl) | (apply D_fld; rfl) | (apply D_pickT; rfl; rfl) | (apply D_pickF; rfl; rfl) | (apply D_int; rfl; rfl; rfl) | (apply D_str; rfl; rfl; rfl) | (apply D_ext; rfl; rfl) | (apply D_loadW; rfl; rfl) | (apply D_loadA; rfl; rfl) | (apply D_b2s; rfl) | (apply D_idxAn; rfl; rfl; (first | omega | (simp; done))) | (apply D_idxSn; rfl; rfl; (first | omega | (simp; done))) | (apply D_idxA; rfl; rfl; omega; (first | omega | (simp; done) | (simp; omega))) | (apply D_idxA0; rfl; rfl; omega; (first | omega | (simp; done) | (simp; omega))) | (apply D_idxS; rfl; rfl; omega; (first | omega | (simp; done) | (simp; omega))) | exact D_build rfl | exact D_buildA rfl | exact D_fldB rfl | (apply D_ixRn; rfl; rfl; (first | omega | (simp; done))) | (apply D_ixR; rfl; rfl; all_goals first | omega | ((repeat rw [w64 _ (by omega) (by omega)]); omega) | decide) | (apply D_mkB; rfl; rfl; all_goals first | omega | ((repeat rw [w64 _ (by omega) (by omega)]); omega) | decide) | (apply D_mk1; rfl; rfl; rfl; all_goals first | omega | ((repeat rw [w64 _ (by omega) (by omega)]); omega) | decide))
      | (refine idDg ?_; first | refine dg0t rfl rfl rfl ?_ | refine dg0f rfl rfl rfl ?_ | refine dg0u rfl rfl rfl ?_ | refine dgr rfl rfl ?_ | refine dgs rfl rfl (fun _ => ?_) (fun _ => ?_))
      | (refine idDn ?_; first | refine dL _ (fun hp' hs => D_loadB1 rfl (hs.trans rfl) rfl) rfl ?_ | refine dL _ (fun hp' hs => D_loadBA rfl (hs.trans rfl) rfl) rfl ?_ | refine dS (S_store rfl rfl rfl rfl rfl rfl rfl) rfl ?_ | refine dV (S_alloc 0 rfl) rfl rfl ?_ | refine dV (S_alloc 1 rfl) rfl rfl ?_ | refine dV (S_alloc 2 rfl) rfl rfl ?_ | refine dV (S_alloc 3 rfl) rfl rfl ?_ | refine dV (S_alloc 4 rfl) rfl rfl ?_ | refine dV (S_alloc 5 rfl) rfl rfl ?_ | refine dV (S_alloc 6 rfl) rfl rfl ?_ | refine dV (S_alloc 7 rfl) rfl rfl ?_)
      | refine WD_nil (by decide +kernel) ?_
    refine W_rounds 4 ?_
    repeat' first
      | (refine cs rfl ?_ (fun _ => ?_); focus (intro h; exfalso; revert h; decide))
      | (refine cs rfl (fun _ => ?_) ?_; focus (intro h; exfalso; revert h; decide))
      | (apply p1 (hd := rfl); case hop => first | (apply D_move; rfl) | (apply D_assign; rfl) | exact D_eqD rfl rfl | exact D_ltD rfl rfl | (apply D_idxS; rfl; rfl; all_goals exact of_decide_eq_true rfl) | (apply D_ixR; rfl; rfl; all_goals exact of_decide_eq_true rfl) | (apply D_idxA; rfl; rfl; all_goals exact of_decide_eq_true rfl) | (apply D_pc (dkey1_pc 4 ⟨q2.n, q1.n, q0.v, q3.n, iEq q4.n 0, q5.n, q6.n⟩ hvv); rfl; exact .same rfl (.same rfl .nil)) | (apply D_load1; rfl) | (apply D_fld; rfl) | (apply D_pickT; rfl; rfl) | (apply D_pickF; rfl; rfl) | (apply D_int; rfl; rfl; rfl) | (apply D_str; rfl; rfl; rfl) | (apply D_ext; rfl; rfl) | (apply D_loadW; rfl; rfl) | (apply D_loadA; rfl; rfl) | (apply D_b2s; rfl) | (apply D_idxAn; rfl; rfl; (first | omega | (simp; done))) | (apply D_idxSn; rfl; rfl; (first | omega | (simp; done))) | (apply D_idxA; rfl; rfl; omega; (first | omega | (simp; done) | (simp; omega))) | (apply D_idxA0; rfl; rfl; omega; (first | omega | (simp; done) | (simp; omega))) | (apply D_idxS; rfl; rfl; omega; (first | omega | (simp; done) | (simp; omega))) | exact D_build rfl | exact D_buildA rfl | exact D_fldB rfl | (apply D_ixRn; rfl; rfl; (first | omega | (simp; done))) | (apply D_ixR; rfl; rfl; all_goals first | omega | ((repeat rw [w64 _ (by omega) (by omega)]); omega) | decide) | (apply D_mkB; rfl; rfl; all_goals first | omega | ((repeat rw [w64 _ (by omega) (by omega)]); omega) | decide) | (apply D_mk1; rfl; rfl; rfl; all_goals first | omega | ((repeat rw [w64 _ (by omega) (by omega)]); omega) | decide))
      | refine W_seq ?_
      | refine W_region ?_
      | (refine idC ?_; first | refine c1 rfl ?_ | refine c0 rfl ?_ | refine cs rfl (fun _ => ?_) (fun _ => ?_))
      | refine WL_nil ?_
      | (refine idG ?_; first | refine g0t rfl rfl rfl ?_ | refine g0f rfl rfl rfl ?_ | refine g0u rfl rfl rfl ?_ | refine gr rfl rfl ?_ | refine gs rfl rfl (fun _ => ?_) (fun _ => ?_) | refine grn rfl rfl ?_)
      | refine tn ?_
      | refine tr ?_
      | refine br ?_
      | refine bn ?_
      | refine te ?_
      | (refine idB ?_; first | refine bh rfl ?_ | refine bm rfl ?_)
      | refine W_skip ?_
      | refine W_block ?_
      | refine W_exit ?_
      | refine W_ret ?_
      | refine W_label ?_
      | refine W_scope ?_
      | refine sn ?_
      | refine sr ?_
      | refine se ?_
      | (refine idR ?_; first | refine ret2 rfl rfl rfl rfl ?_ ?_ | refine rL2 rfl (by first | exact trivial | exact ⟨rfl, trivial⟩) (by first | exact ResO.tmp rfl | exact ResO.cellBA rfl rfl rfl | exact ResO.cellB1 rfl rfl rfl | exact ResO.cellEA rfl rfl | exact ResO.cellE1 rfl) (by first | exact ResO.tmp rfl | exact ResO.cellBA rfl rfl rfl | exact ResO.cellB1 rfl rfl rfl | exact ResO.cellEA rfl rfl | exact ResO.cellE1 rfl) ?_ ?_)
      | (refine idLd ?_; first | refine p1L (D_loadB1 rfl rfl rfl) rfl ?_ | refine p1L (D_loadBA rfl rfl rfl) rfl ?_ | refine p1L (D_loadB1 rfl (by (repeat first | assumption | exact get_last | (refine get_last2 ?_; focus (simp; done)) | apply get_set | apply get_app | (apply get_ne; focus omega) | (apply get_ne; focus (simp only [List.length_set, List.length_append, List.length_cons, List.length_nil]; omega))); done) (by rfl)) rfl ?_ | refine p1L (D_loadBA rfl (by (repeat first | assumption | exact get_last | (refine get_last2 ?_; focus (simp; done)) | apply get_set | apply get_app | (apply get_ne; focus omega) | (apply get_ne; focus (simp only [List.length_set, List.length_append, List.length_cons, List.length_nil]; omega))); done) (by rfl)) rfl ?_)
      | (refine idA ?_; first | refine m_alloc rfl ?_)
      | (refine idS ?_; first | refine pS (S_store rfl rfl rfl rfl rfl rfl rfl) ?_ | refine pS (S_store rfl rfl rfl (by (repeat first | assumption | exact get_last | (refine get_last2 ?_; focus (simp; done)) | apply get_set | apply get_app | (apply get_ne; focus omega) | (apply get_ne; focus (simp only [List.length_set, List.length_append, List.length_cons, List.length_nil]; omega))); done) (by rfl) (by rfl) (by rfl)) ?_)
      | refine Le.bool ?_
      | refine Le.int ?_
      | refine Le.str ?_
      | refine wr_succ ?_
      | (refine idW ?_; first | refine W_draw0 rfl ?_ | refine W_draw1 rfl ?_ | refine W_draw2 rfl ?_ | refine W_draw3 rfl ?_)
      | (apply d1 (hd := rfl); case hop => first | (apply D_move; rfl) | (apply D_assign; rfl) | exact D_eqD rfl rfl | exact D_ltD rfl rfl | (apply D_idxS; rfl; rfl; all_goals exact of_decide_eq_true rfl) | (apply D_ixR; rfl; rfl; all_goals exact of_decide_eq_true rfl) | (apply D_idxA; rfl; rfl; all_goals exact of_decide_eq_true rfl) | (apply D_pc (dkey1_pc 4 ⟨q2.n, q1.n, q0.v, q3.n, iEq q4.n 0, q5.n, q6.n⟩ hvv); rfl; exact .same rfl (.same rfl .nil)) | (apply D_load1; rfl) | (apply D_fld; rfl) | (apply D_pickT; rfl; rfl) | (apply D_pickF; rfl; rfl) | (apply D_int; rfl; rfl; rfl) | (apply D_str; rfl; rfl; rfl) | (apply D_ext; rfl; rfl) | (apply D_loadW; rfl; rfl) | (apply D_loadA; rfl; rfl) | (apply D_b2s; rfl) | (apply D_idxAn; rfl; rfl; (first | omega | (simp; done))) | (apply D_idxSn; rfl; rfl; (first | omega | (simp; done))) | (apply D_idxA; rfl; rfl; omega; (first | omega | (simp; done) | (simp; omega))) | (apply D_idxA0; rfl; rfl; omega; (first | omega | (simp; done) | (simp; omega))) | (apply D_idxS; rfl; rfl; omega; (first | omega | (simp; done) | (simp; omega))) | exact D_build rfl | exact D_buildA rfl | exact D_fldB rfl | (apply D_ixRn; rfl; rfl; (first | omega | (simp; done))) | (apply D_ixR; rfl; rfl; all_goals first | omega | ((repeat rw [w64 _ (by omega) (by omega)]); omega) | decide) | (apply D_mkB; rfl; rfl; all_goals first | omega | ((repeat rw [w64 _ (by omega) (by omega)]); omega) | decide) | (apply D_mk1; rfl; rfl; rfl; all_goals first | omega | ((repeat rw [w64 _ (by omega) (by omega)]); omega) | decide))
      | (refine idDg ?_; first | refine dg0t rfl rfl rfl ?_ | refine dg0f rfl rfl rfl ?_ | refine dg0u rfl rfl rfl ?_ | refine dgr rfl rfl ?_ | refine dgs rfl rfl (fun _ => ?_) (fun _ => ?_))
      | (refine idDn ?_; first | refine dL _ (fun hp' hs => D_loadB1 rfl (hs.trans rfl) rfl) rfl ?_ | refine dL _ (fun hp' hs => D_loadBA rfl (hs.trans rfl) rfl) rfl ?_ | refine dS (S_store rfl rfl rfl rfl rfl rfl rfl) rfl ?_ | refine dV (S_alloc 0 rfl) rfl rfl ?_ | refine dV (S_alloc 1 rfl) rfl rfl ?_ | refine dV (S_alloc 2 rfl) rfl rfl ?_ | refine dV (S_alloc 3 rfl) rfl rfl ?_ | refine dV (S_alloc 4 rfl) rfl rfl ?_ | refine dV (S_alloc 5 rfl) rfl rfl ?_ | refine dV (S_alloc 6 rfl) rfl rfl ?_ | refine dV (S_alloc 7 rfl) rfl rfl ?_)
      | refine WD_nil (by decide +kernel) ?_
    all_goals first
      | (have hx : dkeyE 4 ⟨q2.n, q1.n, q0.v, q3.n, iEq q4.n 0, q5.n, q6.n⟩ ≠ 0 := by assumption
         have hn : ¬ drdP 4 b := fun h => hx (hi.1 h).1
         first
           | exact hE0 hn
           | (rw [hD0 hn]; exact Le.of_eq rfl))
      | (have hx : dkeyB 4 ⟨q2.n, q1.n, q0.v, q3.n, iEq q4.n 0, q5.n, q6.n⟩ ≠ b := by assumption
         have hn : ¬ drdP 4 b := fun h => hx (hi.1 h).2
         first
           | exact hE0 hn
           | (rw [hD0 hn]; exact Le.of_eq rfl))
      | (have hp : drdP 4 b := hi.2 ⟨by assumption, by assumption⟩
         first
           | exact hE hp
           | (rw [hD hp]; exact Le.of_eq rfl))

end Go.Proofs
