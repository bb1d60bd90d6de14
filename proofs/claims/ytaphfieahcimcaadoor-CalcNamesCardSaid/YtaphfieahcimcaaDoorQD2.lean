/- Contracts of calc's functions: functions of two numbers. -/
import Derived.Test.YtaphfieahcimcaaDoorQD1
namespace Go.Proofs
open Go.AL
attribute [local irreducible] Go.AL.W Go.AL.WL Go.AL.WD Go.AL.POp Go.AL.PPOp Go.AL.POpS Go.AL.PC Go.AL.AC Go.AL.YW Go.AL.Ret Go.AL.Le Go.AL.thn Go.AL.inBlk Go.AL.scp

def inR (z : Int) : Prop := -9223372036854775808 ≤ z ∧ z ≤ 9223372036854775807
theorem wrap_c (z : Int) : inR (IntKind.i64.wrap z) ∧ ∃ k : Int, IntKind.i64.wrap z = z + k * 18446744073709551616 := by
  refine ⟨by unfold inR; simp [IntKind.wrap, IntKind.signed, IntKind.bits]; omega, ?_⟩
  simp only [IntKind.wrap, IntKind.signed, IntKind.bits]
  refine ⟨-((z + 9223372036854775808) / 18446744073709551616), ?_⟩
  simp
  omega
theorem wrap_i {z : Int} (h : inR z) : IntKind.i64.wrap z = z := w64 z h.1 (by have := h.2; omega)
def sgnP (x y z : Int) : Prop := (x < 0 ↔ y < 0) ∧ ¬ (z < 0 ↔ x < 0)
set_option maxHeartbeats 4000000 in
theorem signs_pc [GlobF Tryd.prog] (x y z : Int) : PC Tryd.prog 65 [.sc (.int .i64 x), .sc (.int .i64 y), .sc (.int .i64 z)] (.sc (.bool (dP (sgnP x y z)))) := by
  refine PC.of_body Tryd.func65 Tryd.ntmps65 rfl rfl rfl ?_
  repeat' first
    | (apply p1 (hd := rfl); case hop => first | (apply D_move; rfl) | (apply D_assign; rfl) | (apply D_pickT; rfl; rfl) | (apply D_pickF; rfl; rfl) | (apply D_int; rfl; rfl; rfl) | (apply D_beq; rfl; rfl) | (apply D_bne; rfl; rfl))
    | refine W_seq ?_
    | refine W_region ?_
    | refine WL_nil ?_
    | (refine idG ?_; first | refine g0t rfl rfl rfl ?_ | refine g0f rfl rfl rfl ?_ | refine g0u rfl rfl rfl ?_ | refine gr rfl rfl ?_ | refine gs rfl rfl (fun _ => ?_) (fun _ => ?_) | refine grn rfl rfl ?_)
    | refine tn ?_
    | refine tr ?_
    | refine br ?_
    | refine bn ?_
    | refine te ?_
    | (refine idB ?_; first | refine bh rfl ?_ | refine bm rfl ?_)
    | refine W_skip ?_
    | refine W_block ?_
    | refine W_exit ?_
    | refine W_ret ?_
    | refine W_label ?_
    | refine W_scope ?_
    | refine sn ?_
    | refine sr ?_
    | refine se ?_
    | (refine idR ?_; first | refine ret1 rfl rfl rfl ?_ | refine rL1 rfl (by first | exact trivial | exact ⟨rfl, trivial⟩) (by first | exact ResO.tmp rfl | exact ResO.cellBA rfl rfl rfl | exact ResO.cellB1 rfl rfl rfl | exact ResO.cellEA rfl rfl | exact ResO.cellE1 rfl) ?_)
    | refine Le.bool ?_
    | refine Le.int ?_
    | refine Le.str ?_
  · rename_i h
    refine dP_eq ?_
    unfold sgnP
    by_cases hx : x < 0 <;> by_cases hy : y < 0 <;> by_cases hz : z < 0 <;> simp [iLt, bNot, bEq, hx, hy, hz] at h ⊢ <;> omega
  · rename_i h
    refine dP_F ?_
    unfold sgnP
    by_cases hx : x < 0 <;> by_cases hy : y < 0 <;> simp [iLt, hx, hy] at h ⊢ <;> omega
theorem sgn_add {a b : Int} (ha : inR a) (hb : inR b) : ¬ sgnP a b (IntKind.i64.wrap (a + b)) ↔ inR (a + b) := by
  obtain ⟨h1, k, hk⟩ := wrap_c (a + b)
  unfold sgnP inR at *
  omega
theorem sgn_sub {a b : Int} (ha : inR a) (hb : inR b) : ¬ sgnP a (-1 - b) (IntKind.i64.wrap (a - b)) ↔ inR (a - b) := by
  obtain ⟨h1, k, hk⟩ := wrap_c (a - b)
  unfold sgnP inR at *
  omega
theorem mul_ok {a b : Int} (ha : inR a) (hb : inR b) (h0 : a ≠ 0) : (IntKind.i64.wrap ((IntKind.i64.wrap (a * b)).tdiv a) = b ∧ (a ≠ -1 ∨ b ≠ -9223372036854775808)) ↔ inR (a * b) := by
  constructor
  · rintro ⟨h1, h2⟩
    obtain ⟨hn, k, hk⟩ := wrap_c (a * b)
    generalize IntKind.i64.wrap (a * b) = n at *
    have hd : n.tdiv a = b := by
      by_cases hb2 : inR (n.tdiv a)
      · rw [wrap_i hb2] at h1; exact h1
      · exfalso
        have hle : (n.tdiv a).natAbs ≤ n.natAbs := by rw [Int.natAbs_tdiv]; exact Nat.div_le_self _ _
        have e : n.tdiv a = 9223372036854775808 := by unfold inR at *; omega
        rw [e] at h1
        have h3 : b = -9223372036854775808 := by rw [← h1]; decide
        have h4 : n = -9223372036854775808 := by unfold inR at *; omega
        have h5 : a = -1 := by
          rw [h4] at e
          have h6 := congrArg Int.natAbs e
          rw [Int.natAbs_tdiv] at h6
          have h7 : (a.natAbs : Nat) = 1 := by
            have : (9223372036854775808 : Nat) / a.natAbs = 9223372036854775808 := h6
            rcases Nat.lt_or_ge 1 a.natAbs with h8 | h8
            · have := Nat.div_lt_self (by decide : 0 < 9223372036854775808) h8
              omega
            · omega
          rcases Int.natAbs_eq a with h8 | h8
          · rw [h7] at h8
            rw [show a = 1 from h8] at e; exfalso; revert e; decide
          · rw [h7] at h8; exact h8
        rcases h2 with h2 | h2
        · exact h2 h5
        · exact h2 h3
    have hm := Int.mul_tdiv_add_tmod n a
    rw [hd] at hm
    have hlt : (n.tmod a).natAbs < a.natAbs := by rw [Int.natAbs_tmod]; exact Nat.mod_lt _ (by omega)
    have hal : a.natAbs ≤ 9223372036854775808 := by unfold inR at ha; omega
    have hkz : k = 0 := by omega
    have e : n = a * b := by rw [hkz] at hk; omega
    rw [← e]; exact hn
  · intro h
    rw [wrap_i h, Int.mul_tdiv_cancel_left _ h0, wrap_i hb]
    refine ⟨rfl, ?_⟩
    by_cases h1 : a = -1
    · right; intro h2; subst h1; subst h2; unfold inR at h; omega
    · exact .inl h1
def badP (a b : Int) : Prop := b = 0 ∨ (a = -9223372036854775808 ∧ b = -1)
open Classical in
noncomputable def recN (s : List UInt8) (a b : Int) : Int := if s = [43] then IntKind.i64.wrap (a + b) else if s = [45] then IntKind.i64.wrap (a - b) else if s = [42] then IntKind.i64.wrap (a * b)
  else if badP a b then 0 else if s = [47] then a.tdiv b else a.tmod b
def recP (s : List UInt8) (a b : Int) : Prop := if s = [43] then inR (a + b) else if s = [45] then inR (a - b) else if s = [42] then inR (a * b) else ¬ badP a b
theorem div_in {a b : Int} (ha : inR a) (h : ¬ badP a b) : inR (a.tdiv b) := by
  have hle : (a.tdiv b).natAbs ≤ a.natAbs := by rw [Int.natAbs_tdiv]; exact Nat.div_le_self _ _
  by_cases h1 : a = -9223372036854775808
  · subst h1
    have hb1 : b ≠ -1 := fun e => h (.inr ⟨rfl, e⟩)
    have hb0 : b ≠ 0 := fun e => h (.inl e)
    by_cases hb2 : 0 < b
    · have h3 : (-9223372036854775808 : Int).tdiv b ≤ 0 := by
        rw [show (-9223372036854775808 : Int) = -(9223372036854775808) by rfl, Int.neg_tdiv]
        have := Int.tdiv_nonneg (a := 9223372036854775808) (b := b) (by decide) (by omega)
        omega
      unfold inR; omega
    · have h4 : 2 ≤ b.natAbs := by omega
      have h5 : ((-9223372036854775808 : Int).tdiv b).natAbs < 9223372036854775808 := by
        rw [Int.natAbs_tdiv]
        exact Nat.div_lt_self (by decide) h4
      unfold inR; omega
  · unfold inR at *; omega
theorem recP_d {s : List UInt8} {a b : Int} (h1 : s ≠ [43]) (h2 : s ≠ [45]) (h3 : s ≠ [42]) : recP s a b = ¬ badP a b := by unfold recP; rw [if_neg h1, if_neg h2, if_neg h3]
open Classical in
theorem recN_d {s : List UInt8} {a b : Int} (h1 : s ≠ [43]) (h2 : s ≠ [45]) (h3 : s ≠ [42]) : recN s a b = if badP a b then 0 else if s = [47] then a.tdiv b else a.tmod b := by unfold recN; rw [if_neg h1, if_neg h2, if_neg h3]
set_option maxHeartbeats 16000000 in
theorem reckon_pc [GlobF Tryd.prog] (s : List UInt8) (a b : Int) (ha : inR a) (hb : inR b) : PC Tryd.prog 44 [str s, .sc (.int .i64 a), .sc (.int .i64 b)] (.tu [.sc (.int .i64 (recN s a b)), .sc (.bool (dP (recP s a b)))]) := by
  refine PC.of_body Tryd.func44 Tryd.ntmps44 rfl rfl rfl ?_
  repeat' first
    | (apply p1 (hd := rfl); case hop => first | (apply D_move; rfl) | (apply D_assign; rfl) | exact D_sc (D_xorU rfl) (congrArg _ (not64 b hb.1 hb.2)) | (apply D_pc (signs_pc _ _ _); rfl; exact .same rfl (.same rfl (.same rfl .nil))) | (apply D_pickT; rfl; rfl) | (apply D_pickF; rfl; rfl) | (apply D_int; rfl; rfl; rfl) | (apply D_str; rfl; rfl; rfl) | (apply D_not; rfl) | exact D_xcmp rfl rfl rfl | exact D_xidx rfl rfl rfl | (apply D_quo; rfl; rfl; first | omega | ((repeat rw [w64 _ (by omega) (by omega)]); omega) | decide) | (apply D_rem; rfl; rfl; first | omega | ((repeat rw [w64 _ (by omega) (by omega)]); omega) | decide))
    | refine W_seq ?_
    | refine W_region ?_
    | (refine idC ?_; first | refine c1 rfl ?_ | refine c0 rfl ?_ | refine cs rfl (fun _ => ?_) (fun _ => ?_))
    | refine WL_nil ?_
    | (refine idG ?_; first | refine g0t rfl rfl rfl ?_ | refine g0f rfl rfl rfl ?_ | refine g0u rfl rfl rfl ?_ | refine gr rfl rfl ?_ | refine gs rfl rfl (fun _ => ?_) (fun _ => ?_) | refine grn rfl rfl ?_)
    | refine tn ?_
    | refine tr ?_
    | refine br ?_
    | refine bn ?_
    | refine te ?_
    | (refine idB ?_; first | refine bh rfl ?_ | refine bm rfl ?_)
    | refine W_skip ?_
    | refine W_block ?_
    | refine W_exit ?_
    | refine W_ret ?_
    | refine W_label ?_
    | refine W_scope ?_
    | refine sn ?_
    | refine sr ?_
    | refine se ?_
    | (refine idR ?_; first | refine ret2 rfl rfl rfl rfl ?_ ?_ | refine rL2 rfl (by first | exact trivial | exact ⟨rfl, trivial⟩) (by first | exact ResO.tmp rfl | exact ResO.cellBA rfl rfl rfl | exact ResO.cellB1 rfl rfl rfl | exact ResO.cellEA rfl rfl | exact ResO.cellE1 rfl) (by first | exact ResO.tmp rfl | exact ResO.cellBA rfl rfl rfl | exact ResO.cellB1 rfl rfl rfl | exact ResO.cellEA rfl rfl | exact ResO.cellE1 rfl) ?_ ?_)
    | refine Le.bool ?_
    | refine Le.int ?_
    | refine Le.str ?_
  all_goals first
    | (simp [recN, badP, *]; done)
    | (refine dP_T ?_; subst_vars; simp [recP, inR]; done)
    | (refine dP_eq ?_; rw [bNot_t, dP_f, sgn_add ha hb]; simp [recP, *]; done)
    | (refine dP_eq ?_; rw [bNot_t, dP_f, sgn_sub ha hb]; simp [recP, *]; done)
    | (refine dP_T ?_; rw [show recP s a b = inR (a * b) by simp [recP, *], ← mul_ok ha hb (by assumption)]; refine ⟨by assumption, ?_⟩; first | exact .inl (by assumption) | exact .inr (by assumption))
    | (refine dP_F ?_; rw [show recP s a b = inR (a * b) by simp [recP, *], ← mul_ok ha hb (by assumption)]; simp_all; done)
    | (refine dP_eq ?_; rw [bNot_t, iEq_f, show recP s a b = inR (a * b) by simp [recP, *], ← mul_ok ha hb (by assumption)]; simp_all; done)
    | exact dP_F (by rw [recP_d (by assumption) (by assumption) (by assumption)]; exact fun h => h (.inl (by assumption)))
    | exact dP_F (by rw [recP_d (by assumption) (by assumption) (by assumption)]; exact fun h => h (.inr ⟨by assumption, by assumption⟩))
    | exact dP_T (by rw [recP_d (by assumption) (by assumption) (by assumption)]; unfold badP; omega)
    | (rw [recN_d (by assumption) (by assumption) (by assumption), if_neg (by unfold badP; omega), if_pos (by assumption), wrap_i (div_in ha (by unfold badP; omega))]; done)
    | (rw [recN_d (by assumption) (by assumption) (by assumption), if_neg (by unfold badP; omega), if_neg (by assumption)]; done)
    | (rw [recN_d (by assumption) (by assumption) (by assumption), if_pos (by unfold badP; omega)]; done)
    | skip
  all_goals trace_state
end Go.Proofs
