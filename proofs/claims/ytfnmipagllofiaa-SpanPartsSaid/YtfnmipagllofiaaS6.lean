/- Contracts of the statements SpanHas, SpanParts, whole. -/
import Derived.Test.YtfnmipagllofiaaS5
namespace Go.Proofs
open Go.AL
attribute [local irreducible] Go.AL.W Go.AL.WL Go.AL.WD Go.AL.POp Go.AL.PPOp Go.AL.POpS Go.AL.PC Go.AL.AC Go.AL.YW Go.AL.Ret Go.AL.Le Go.AL.thn Go.AL.inBlk Go.AL.scp

set_option maxHeartbeats 16000000 in
theorem spanHas_pc [GlobF Try.prog] (a b : List Sp) (at_ : Int) (ra : rngS a) (rb : rngS b) (hla : a.length < 9223372036854775808) (hlb : b.length < 9223372036854775808) :
    PC Try.prog 3 [sl2 a, sl2 b, .sc (.int .i64 at_)] (.sc (.bool true)) := by
  by_cases hg : a.length ≤ 60 ∧ b.length ≤ 60
  · by_cases hs : SetP a ∧ SetP b
    · exact spanHas_core a b at_ hs.1 hs.2 ra rb hg.1 hg.2 (dP (inS a at_)) (dP (inS b at_)) _ _ _ (by rw [dP_t]) (by rw [dP_t]) rfl rfl rfl
    · have o1 := sandN_pc a b hs (by omega) (by omega)
      have o2 := sminusN_pc a b hs (by omega) (by omega)
      have o3 := sorN_pc a b hs (by omega) (by omega)
      refine PC.of_body Try.func3 Try.ntmps3 rfl rfl rfl ?_
      repeat' first
        | (apply p1 (hd := rfl); case hop => first | (apply D_move; rfl) | (apply D_assign; rfl) | (apply D_pc salive_pc; rfl; exact .nil) | (apply D_pc o1; rfl; exact .same rfl (.same rfl .nil)) | (apply D_pc o2; rfl; exact .same rfl (.same rfl .nil)) | (apply D_pc o3; rfl; exact .same rfl (.same rfl .nil)) | (apply D_pickT; rfl; rfl) | (apply D_pickF; rfl; rfl) | (apply D_int; rfl; rfl; rfl) | (apply D_lenM; rfl) | (apply D_len_sl; rfl) | (apply D_ext; rfl; rfl) | (apply D_not; rfl) | (apply D_len_nil; rfl) | (apply D_beq; rfl; rfl) | (apply D_bne; rfl; rfl) | (apply D_lenR; rfl))
        | refine W_seq ?_
        | refine W_region ?_
        | (refine idC ?_; first | refine c1 rfl ?_ | refine c0 rfl ?_ | refine cs rfl (fun _ => ?_) (fun _ => ?_))
        | refine WL_nil ?_
        | (refine idG ?_; first | refine g0t rfl rfl rfl ?_ | refine g0f rfl rfl rfl ?_ | refine g0u rfl rfl rfl ?_ | refine gr rfl rfl ?_ | refine gs rfl rfl (fun _ => ?_) (fun _ => ?_) | refine grn rfl rfl ?_)
        | refine tn ?_
        | refine tr ?_
        | refine br ?_
        | refine bn ?_
        | refine te ?_
        | (refine idB ?_; first | refine bh rfl ?_ | refine bm rfl ?_)
        | refine W_skip ?_
        | refine W_block ?_
        | refine W_exit ?_
        | refine W_ret ?_
        | refine W_label ?_
        | refine W_scope ?_
        | refine sn ?_
        | refine sr ?_
        | refine se ?_
        | (refine idR ?_; first | refine ret1 rfl rfl rfl ?_ | refine rL1 rfl (by first | exact trivial | exact ⟨rfl, trivial⟩) (by first | exact ResO.tmp rfl | exact ResO.cellBA rfl rfl rfl | exact ResO.cellB1 rfl rfl rfl | exact ResO.cellEA rfl rfl | exact ResO.cellE1 rfl) ?_)
        | refine Le.bool ?_
        | refine Le.int ?_
        | refine Le.str ?_
      all_goals first | rfl | contradiction | (rw [iEq_t]; done) | (exfalso; omega) | skip
      all_goals trace_state
  · refine PC.of_body Try.func3 Try.ntmps3 rfl rfl rfl ?_
    repeat' first
      | (exfalso; exact hg ⟨Int.ofNat_le.1 (by assumption), Int.ofNat_le.1 (by assumption)⟩)
      | (apply p1 (hd := rfl); case hop => first | (apply D_move; rfl) | (apply D_assign; rfl) | (apply D_pc salive_pc; rfl; exact .nil) | (apply D_pickT; rfl; rfl) | (apply D_pickF; rfl; rfl) | (apply D_int; rfl; rfl; rfl) | (apply D_lenM; rfl) | (apply D_len_sl; rfl) | (apply D_ext; rfl; rfl) | (apply D_not; rfl) | (apply D_len_nil; rfl) | (apply D_beq; rfl; rfl) | (apply D_bne; rfl; rfl) | (apply D_lenR; rfl))
      | refine W_seq ?_
      | refine W_region ?_
      | (refine idC ?_; first | refine c1 rfl ?_ | refine c0 rfl ?_ | refine cs rfl (fun _ => ?_) (fun _ => ?_))
      | refine WL_nil ?_
      | (refine idG ?_; first | refine g0t rfl rfl rfl ?_ | refine g0f rfl rfl rfl ?_ | refine g0u rfl rfl rfl ?_ | refine gr rfl rfl ?_ | refine gs rfl rfl (fun _ => ?_) (fun _ => ?_) | refine grn rfl rfl ?_)
      | refine tn ?_
      | refine tr ?_
      | refine br ?_
      | refine bn ?_
      | refine te ?_
      | (refine idB ?_; first | refine bh rfl ?_ | refine bm rfl ?_)
      | refine W_skip ?_
      | refine W_block ?_
      | refine W_exit ?_
      | refine W_ret ?_
      | refine W_label ?_
      | refine W_scope ?_
      | refine sn ?_
      | refine sr ?_
      | refine se ?_
      | (refine idR ?_; first | refine ret1 rfl rfl rfl ?_ | refine rL1 rfl (by first | exact trivial | exact ⟨rfl, trivial⟩) (by first | exact ResO.tmp rfl | exact ResO.cellBA rfl rfl rfl | exact ResO.cellB1 rfl rfl rfl | exact ResO.cellEA rfl rfl | exact ResO.cellE1 rfl) ?_)
      | refine Le.bool ?_
      | refine Le.int ?_
      | refine Le.str ?_
    all_goals first | rfl | contradiction | (exfalso; omega) | skip
    all_goals trace_state

/-! SpanParts. -/
set_option maxHeartbeats 32000000 in
theorem spanParts_core [GlobF Try.prog] (a b : List Sp) (ha : SetP a) (hb : SetP b) (ra : rngS a) (rb : rngS b) (hla : a.length ≤ 60) (hlb : b.length ≤ 60) :
    PC Try.prog 4 [sl2 a, sl2 b] (.sc (.bool true)) := by
  have o1 := sand_pc a b ha hb (by omega) (by omega)
  have o2 := sminus_pc a b ha hb (by omega) (by omega)
  have o3 := sor_pc a b ha hb (by omega) (by omega)
  have qa : ∀ x, inS a x → loT ≤ x ∧ x < hiT := fun x h => rng_in ra h
  have qb : ∀ x, inS b x → loT ≤ x ∧ x < hiT := fun x h => rng_in rb h
  obtain ⟨n1, n2⟩ := and_ok ha hb
  obtain ⟨m1, m2⟩ := min_ok ha hb qa rb
  obtain ⟨u1, u2⟩ := or_ok ha hb
  have l1 := meet_len _ a b (Nat.le_refl _)
  have l2 := min_len a b
  have l3 := canS_len (a ++ b)
  rw [List.length_append] at l3
  have qu : ∀ x, inS (canS (a ++ b)) x → loT ≤ x ∧ x < hiT := fun x h => by
    rcases (u2 x).1 h with h | h
    · exact qa x h
    · exact qb x h
  have qn : ∀ x, inS (meetL a b) x → loT ≤ x ∧ x < hiT := fun x h => qa x ((n2 x).1 h).1
  have p1 : canS (meetL a b ++ minL a b) = a := by
    obtain ⟨k1, k2⟩ := or_ok n1 m1
    refine set_ext k1 ha fun x => ?_
    rw [k2, n2, m2]
    exact ⟨fun h => h.elim (·.1) (·.1), fun h => (Classical.em (inS b x)).elim (fun g => .inl ⟨h, g⟩) (fun g => .inr ⟨h, g⟩)⟩
  have p2 : meetL (meetL a b) (minL a b) = [] := by
    obtain ⟨k1, k2⟩ := and_ok n1 m1
    refine set_empty k1 fun x h => ?_
    have h := (k2 x).1 h
    exact ((m2 x).1 h.2).2 ((n2 x).1 h.1).2
  have p3 : canS (b ++ minL a b) = canS (a ++ b) := by
    obtain ⟨k1, k2⟩ := or_ok hb m1
    refine set_ext k1 u1 fun x => ?_
    rw [k2, m2, u2]
    exact ⟨fun h => h.elim .inr (fun g => .inl g.1), fun h => (Classical.em (inS b x)).elim .inl (fun g => .inr ⟨h.elim id (fun e => absurd e g), g⟩)⟩
  have c1 : covP (canS (a ++ b)) a := ⟨ha, u1, by
    obtain ⟨k1, k2⟩ := min_ok ha u1 qa (rng_of u1 qu)
    exact set_empty k1 fun x h => ((k2 x).1 h).2 ((u2 x).2 (.inl ((k2 x).1 h).1))⟩
  have c2 : covP a (meetL a b) := ⟨n1, ha, by
    obtain ⟨k1, k2⟩ := min_ok n1 ha qn ra
    exact set_empty k1 fun x h => ((k2 x).1 h).2 ((n2 x).1 ((k2 x).1 h).1).1⟩
  have r1 := sor_pc (meetL a b) (minL a b) n1 m1 (by omega) (by omega)
  rw [p1] at r1
  have r2 := sand_pc (meetL a b) (minL a b) n1 m1 (by omega) (by omega)
  rw [p2] at r2
  have r3 := sor_pc b (minL a b) hb m1 (by omega) (by omega)
  rw [p3] at r3
  have r4 := ssame_pc a a (by omega)
  rw [← dP_T rfl] at r4
  have r5 := ssame_pc (canS (a ++ b)) (canS (a ++ b)) (by omega)
  rw [← dP_T rfl] at r5
  have r6 := scovers_pc (canS (a ++ b)) a (by omega) (by omega)
  rw [← dP_T c1] at r6
  have r7 := scovers_pc a (meetL a b) (by omega) (by omega)
  rw [← dP_T c2] at r7
  clear n2 m2 u2 qa qb qu qn p1 p2 p3 c1 c2
  refine PC.of_body Try.func4 Try.ntmps4 rfl rfl rfl ?_
  repeat' first
    | (apply p1 (hd := rfl); case hop => first | (apply D_move; rfl) | (apply D_assign; rfl) | (apply D_pc salive_pc; rfl; exact .nil) | (apply D_pc o1; rfl; exact .same rfl (.same rfl .nil)) | (apply D_pc o2; rfl; exact .same rfl (.same rfl .nil)) | (apply D_pc o3; rfl; exact .same rfl (.same rfl .nil)) | (apply D_pc r1; rfl; exact .same rfl (.same rfl .nil)) | (apply D_pc r2; rfl; exact .same rfl (.same rfl .nil)) | (apply D_pc r3; rfl; exact .same rfl (.same rfl .nil)) | (apply D_pc r4; rfl; exact .same rfl (.same rfl .nil)) | (apply D_pc r5; rfl; exact .same rfl (.same rfl .nil)) | (apply D_pc r6; rfl; exact .same rfl (.same rfl .nil)) | (apply D_pc r7; rfl; exact .same rfl (.same rfl .nil)) | (apply D_pickT; rfl; rfl) | (apply D_pickF; rfl; rfl) | (apply D_int; rfl; rfl; rfl) | (apply D_lenM; rfl) | (apply D_len_sl; rfl) | (apply D_ext; rfl; rfl) | (apply D_not; rfl) | (apply D_len_nil; rfl) | (apply D_lenR; rfl))
    | refine W_seq ?_
    | refine W_region ?_
    | (refine idC ?_; first | refine c1 rfl ?_ | refine c0 rfl ?_ | refine cs rfl (fun _ => ?_) (fun _ => ?_))
    | refine WL_nil ?_
    | (refine idG ?_; first | refine g0t rfl rfl rfl ?_ | refine g0f rfl rfl rfl ?_ | refine g0u rfl rfl rfl ?_ | refine gr rfl rfl ?_ | refine gs rfl rfl (fun _ => ?_) (fun _ => ?_) | refine grn rfl rfl ?_)
    | refine tn ?_
    | refine tr ?_
    | refine br ?_
    | refine bn ?_
    | refine te ?_
    | (refine idB ?_; first | refine bh rfl ?_ | refine bm rfl ?_)
    | refine W_skip ?_
    | refine W_block ?_
    | refine W_exit ?_
    | refine W_ret ?_
    | refine W_label ?_
    | refine W_scope ?_
    | refine sn ?_
    | refine sr ?_
    | refine se ?_
    | (refine idR ?_; first | refine ret1 rfl rfl rfl ?_ | refine rL1 rfl (by first | exact trivial | exact ⟨rfl, trivial⟩) (by first | exact ResO.tmp rfl | exact ResO.cellBA rfl rfl rfl | exact ResO.cellB1 rfl rfl rfl | exact ResO.cellEA rfl rfl | exact ResO.cellE1 rfl) ?_)
    | refine Le.bool ?_
    | refine Le.int ?_
    | refine Le.str ?_
  all_goals first
    | rfl
    | contradiction
    | (exfalso; rename_i k1; exact k1 rfl)
    | (exfalso; omega)
    | skip
  all_goals trace_state
set_option maxHeartbeats 16000000 in
theorem spanParts_pc [GlobF Try.prog] (a b : List Sp) (ra : rngS a) (rb : rngS b) (hla : a.length < 9223372036854775808) (hlb : b.length < 9223372036854775808) :
    PC Try.prog 4 [sl2 a, sl2 b] (.sc (.bool true)) := by
  by_cases hg : a.length ≤ 60 ∧ b.length ≤ 60
  · by_cases hs : SetP a ∧ SetP b
    · exact spanParts_core a b hs.1 hs.2 ra rb hg.1 hg.2
    · have o1 := sandN_pc a b hs (by omega) (by omega)
      have o2 := sminusN_pc a b hs (by omega) (by omega)
      have o3 := sorN_pc a b hs (by omega) (by omega)
      refine PC.of_body Try.func4 Try.ntmps4 rfl rfl rfl ?_
      repeat' first
        | (apply p1 (hd := rfl); case hop => first | (apply D_move; rfl) | (apply D_assign; rfl) | (apply D_pc salive_pc; rfl; exact .nil) | (apply D_pc o1; rfl; exact .same rfl (.same rfl .nil)) | (apply D_pc o2; rfl; exact .same rfl (.same rfl .nil)) | (apply D_pc o3; rfl; exact .same rfl (.same rfl .nil)) | (apply D_pickT; rfl; rfl) | (apply D_pickF; rfl; rfl) | (apply D_int; rfl; rfl; rfl) | (apply D_lenM; rfl) | (apply D_len_sl; rfl) | (apply D_ext; rfl; rfl) | (apply D_not; rfl) | (apply D_len_nil; rfl) | (apply D_lenR; rfl))
        | refine W_seq ?_
        | refine W_region ?_
        | (refine idC ?_; first | refine c1 rfl ?_ | refine c0 rfl ?_ | refine cs rfl (fun _ => ?_) (fun _ => ?_))
        | refine WL_nil ?_
        | (refine idG ?_; first | refine g0t rfl rfl rfl ?_ | refine g0f rfl rfl rfl ?_ | refine g0u rfl rfl rfl ?_ | refine gr rfl rfl ?_ | refine gs rfl rfl (fun _ => ?_) (fun _ => ?_) | refine grn rfl rfl ?_)
        | refine tn ?_
        | refine tr ?_
        | refine br ?_
        | refine bn ?_
        | refine te ?_
        | (refine idB ?_; first | refine bh rfl ?_ | refine bm rfl ?_)
        | refine W_skip ?_
        | refine W_block ?_
        | refine W_exit ?_
        | refine W_ret ?_
        | refine W_label ?_
        | refine W_scope ?_
        | refine sn ?_
        | refine sr ?_
        | refine se ?_
        | (refine idR ?_; first | refine ret1 rfl rfl rfl ?_ | refine rL1 rfl (by first | exact trivial | exact ⟨rfl, trivial⟩) (by first | exact ResO.tmp rfl | exact ResO.cellBA rfl rfl rfl | exact ResO.cellB1 rfl rfl rfl | exact ResO.cellEA rfl rfl | exact ResO.cellE1 rfl) ?_)
        | refine Le.bool ?_
        | refine Le.int ?_
        | refine Le.str ?_
      all_goals first | rfl | contradiction | (rw [iEq_t]; done) | (exfalso; omega) | skip
      all_goals trace_state
  · refine PC.of_body Try.func4 Try.ntmps4 rfl rfl rfl ?_
    repeat' first
      | (exfalso; exact hg ⟨Int.ofNat_le.1 (by assumption), Int.ofNat_le.1 (by assumption)⟩)
      | (apply p1 (hd := rfl); case hop => first | (apply D_move; rfl) | (apply D_assign; rfl) | (apply D_pc salive_pc; rfl; exact .nil) | (apply D_pickT; rfl; rfl) | (apply D_pickF; rfl; rfl) | (apply D_int; rfl; rfl; rfl) | (apply D_lenM; rfl) | (apply D_len_sl; rfl) | (apply D_ext; rfl; rfl) | (apply D_not; rfl) | (apply D_len_nil; rfl) | (apply D_lenR; rfl))
      | refine W_seq ?_
      | refine W_region ?_
      | (refine idC ?_; first | refine c1 rfl ?_ | refine c0 rfl ?_ | refine cs rfl (fun _ => ?_) (fun _ => ?_))
      | refine WL_nil ?_
      | (refine idG ?_; first | refine g0t rfl rfl rfl ?_ | refine g0f rfl rfl rfl ?_ | refine g0u rfl rfl rfl ?_ | refine gr rfl rfl ?_ | refine gs rfl rfl (fun _ => ?_) (fun _ => ?_) | refine grn rfl rfl ?_)
      | refine tn ?_
      | refine tr ?_
      | refine br ?_
      | refine bn ?_
      | refine te ?_
      | (refine idB ?_; first | refine bh rfl ?_ | refine bm rfl ?_)
      | refine W_skip ?_
      | refine W_block ?_
      | refine W_exit ?_
      | refine W_ret ?_
      | refine W_label ?_
      | refine W_scope ?_
      | refine sn ?_
      | refine sr ?_
      | refine se ?_
      | (refine idR ?_; first | refine ret1 rfl rfl rfl ?_ | refine rL1 rfl (by first | exact trivial | exact ⟨rfl, trivial⟩) (by first | exact ResO.tmp rfl | exact ResO.cellBA rfl rfl rfl | exact ResO.cellB1 rfl rfl rfl | exact ResO.cellEA rfl rfl | exact ResO.cellE1 rfl) ?_)
      | refine Le.bool ?_
      | refine Le.int ?_
      | refine Le.str ?_
    all_goals first | rfl | contradiction | (exfalso; omega) | skip
    all_goals trace_state
end Go.Proofs
