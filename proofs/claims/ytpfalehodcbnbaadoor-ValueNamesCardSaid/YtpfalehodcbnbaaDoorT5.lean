/- Contracts of the reference's texts of values. -/
import Derived.Test.YtpfalehodcbnbaaDoorT4
namespace Go.Proofs
open Go.AL
attribute [local irreducible] Go.AL.W Go.AL.WL Go.AL.WD Go.AL.POp Go.AL.PPOp Go.AL.POpS Go.AL.PC Go.AL.AC Go.AL.YW Go.AL.Ret Go.AL.Le Go.AL.thn Go.AL.inBlk Go.AL.scp

theorem D_eqv {P : Program} [GlobF P] {ρ : Operand → Option AV} {o : Oper} {v v' : AV} (h : PPOp P o ρ v) (e : v = v') : PPOp P o ρ v' := e ▸ h
theorem rem10 (m : Nat) : ((m : Int)).tmod 10 = ((m % 10 : Nat) : Int) := by rw [Int.tmod_eq_emod_of_nonneg (by omega)]; omega
theorem quo10 (m : Nat) (hm : m < 9223372036854775808) : IntKind.i64.wrap ((m : Int).tdiv 10) = ((m / 10 : Nat) : Int) := by
  rw [Int.tdiv_eq_ediv_of_nonneg (by omega), w64 _ (by omega) (by omega)]; omega
theorem dgb (m : Nat) : IntKind.u8.wrap (IntKind.i64.wrap (48 + ((m % 10 : Nat) : Int))) = ((UInt8.ofNat (48 + m % 10)).toNat : Int) := by
  rw [w64 _ (by omega) (by omega)]
  have h : m % 10 < 10 := Nat.mod_lt _ (by decide)
  have : ∀ q : Fin 10, IntKind.u8.wrap (48 + ((q.val : Nat) : Int)) = ((UInt8.ofNat (48 + q.val)).toNat : Int) := by decide
  exact this ⟨m % 10, h⟩

theorem dig_step {n m i : Nat} {s : List UInt8} (hsl : s.length ≤ i) (hi : i < 20) (hm : m * 10 ^ i ≤ n) (hD : Lib.decDigits n = Lib.decDigits m ++ s) :
    (UInt8.ofNat (48 + m % 10) :: s).length ≤ i + 1 ∧ i + 1 ≤ 20 ∧ m / 10 * 10 ^ (i + 1) ≤ n ∧ (((UInt8.ofNat (48 + m % 10) :: s) = [] ∧ m / 10 = n ∧ i + 1 = 0) ∨ ((UInt8.ofNat (48 + m % 10) :: s) ≠ [] ∧ 0 < i + 1 ∧ ((m / 10 = 0 ∧ Lib.decDigits n = UInt8.ofNat (48 + m % 10) :: s) ∨ (0 < m / 10 ∧ Lib.decDigits n = Lib.decDigits (m / 10) ++ UInt8.ofNat (48 + m % 10) :: s)))) := by
  refine ⟨by rw [List.length_cons]; omega, by omega, ?_, .inr ⟨by simp, by omega, ?_⟩⟩
  · refine Nat.le_trans ?_ hm
    rw [Nat.pow_succ, Nat.mul_comm (10 ^ i) 10, ← Nat.mul_assoc]
    exact Nat.mul_le_mul_right _ (Nat.div_mul_le_self m 10)
  · by_cases h10 : m < 10
    · refine .inl ⟨by omega, ?_⟩
      rw [hD, Lib.decDigits, dif_pos h10, Nat.mod_eq_of_lt h10]; rfl
    · refine .inr ⟨by omega, ?_⟩
      rw [hD, Lib.decDigits, dif_neg h10, List.append_assoc]; rfl

set_option maxHeartbeats 4000000 in
theorem digits0_pc [GlobF Tryd.prog] (n : Nat) (hn : n < 9223372036854775808) : PC Tryd.prog 28 [.sc (.int .i64 (n : Int))] (str (Lib.decDigits n)) := by
  refine PC.of_body Tryd.func28 Tryd.ntmps28 rfl rfl rfl ?_
  repeat' first
    | (apply p1 (hd := rfl); case hop => first | (apply D_move; rfl) | (apply D_assign; rfl) | (apply D_pickT; rfl; rfl) | (apply D_pickF; rfl; rfl) | (apply D_int; rfl; rfl; rfl) | (apply D_str; rfl; rfl; rfl) | (apply D_conv_int; rfl) | (apply D_b2s; rfl) | (apply D_lit; rfl; rfl; rfl; rfl) | (apply D_neg; rfl) | (apply D_quo; rfl; rfl; first | omega | ((repeat rw [w64 _ (by omega) (by omega)]); omega) | decide) | (apply D_rem; rfl; rfl; first | omega | ((repeat rw [w64 _ (by omega) (by omega)]); omega) | decide) | (apply D_cat; rfl; rfl; all_goals first | omega | ((repeat rw [w64 _ (by omega) (by omega)]); omega) | decide))
    | refine W_seq ?_
    | refine W_region ?_
    | (refine idC ?_; first | refine c1 rfl ?_ | refine c0 rfl ?_ | refine cs rfl (fun _ => ?_) (fun _ => ?_))
    | refine WL_nil ?_
    | (refine idG ?_; first | refine g0t rfl rfl rfl ?_ | refine g0f rfl rfl rfl ?_ | refine g0u rfl rfl rfl ?_ | refine gr rfl rfl ?_ | refine gs rfl rfl (fun _ => ?_) (fun _ => ?_) | refine grn rfl rfl ?_)
    | refine tn ?_
    | refine tr ?_
    | refine br ?_
    | refine bn ?_
    | refine te ?_
    | (refine idB ?_; first | refine bh rfl ?_ | refine bm rfl ?_)
    | refine W_skip ?_
    | refine W_block ?_
    | refine W_exit ?_
    | refine W_ret ?_
    | refine W_label ?_
    | refine W_scope ?_
    | refine sn ?_
    | refine sr ?_
    | refine se ?_
    | (refine idR ?_; first | refine ret1 rfl rfl rfl ?_ | refine rL1 rfl (by first | exact trivial | exact ⟨rfl, trivial⟩) (by first | exact ResO.tmp rfl | exact ResO.cellBA rfl rfl rfl | exact ResO.cellB1 rfl rfl rfl | exact ResO.cellEA rfl rfl | exact ResO.cellE1 rfl) ?_)
    | refine Le.bool ?_
    | refine Le.int ?_
    | refine Le.str ?_
  all_goals first
    | (exfalso; omega)
    | skip
  refine W_loopL (X := Nat × Nat × List UInt8) (fun x => [(0, .sc (.int .i64 (x.1 : Int))), (2, str []), (3, str x.2.2), (4, .sc (.int .i64 (x.2.1 : Int)))]) (fun _ => [])
    (fun x => x.2.2.length ≤ x.2.1 ∧ x.2.1 ≤ 20 ∧ x.1 * 10 ^ x.2.1 ≤ n ∧ ((x.2.2 = [] ∧ x.1 = n ∧ x.2.1 = 0) ∨ (x.2.2 ≠ [] ∧ 0 < x.2.1 ∧ ((x.1 = 0 ∧ Lib.decDigits n = x.2.2) ∨ (0 < x.1 ∧ Lib.decDigits n = Lib.decDigits x.1 ++ x.2.2))))) (fun x => 20 - x.2.1) (n, 0, []) ⟨by dsimp only; decide, by dsimp only; omega, by dsimp only; omega, .inl ⟨rfl, rfl, rfl⟩⟩ ⟨rfl, rfl, rfl, rfl, trivial⟩ rfl ?_
  rintro ⟨m, i, s⟩ ⟨hsl, hi, hm, hor⟩
  dsimp only at hsl hi hm hor ⊢
  have hmn : m ≤ n := Nat.le_trans (Nat.le_mul_of_pos_right _ (Nat.pow_pos (by decide))) hm
  have hmb : m < 9223372036854775808 := by omega
  repeat' first
    | (apply p1 (hd := rfl); case hop => first | (apply D_move; rfl) | (apply D_assign; rfl) | exact D_sc (D_rem rfl rfl (by decide)) (congrArg _ (rem10 m)) | exact D_sc (D_quo rfl rfl (by decide)) (congrArg _ (quo10 m hmb)) | exact D_sc (D_conv_int rfl) (congrArg _ (dgb m)) | exact D_b2s (l := [UInt8.ofNat (48 + m % 10)]) rfl | (apply D_cat; rfl; rfl; focus (simp only [List.length_cons, List.length_nil]; omega)) | (apply D_pickT; rfl; rfl) | (apply D_pickF; rfl; rfl) | (apply D_int; rfl; rfl; rfl) | (apply D_str; rfl; rfl; rfl) | (apply D_conv_int; rfl) | (apply D_b2s; rfl) | (apply D_lit; rfl; rfl; rfl; rfl) | (apply D_neg; rfl) | (apply D_quo; rfl; rfl; first | omega | ((repeat rw [w64 _ (by omega) (by omega)]); omega) | decide) | (apply D_rem; rfl; rfl; first | omega | ((repeat rw [w64 _ (by omega) (by omega)]); omega) | decide) | (apply D_cat; rfl; rfl; all_goals first | omega | ((repeat rw [w64 _ (by omega) (by omega)]); omega) | decide))
    | refine W_seq ?_
    | refine W_region ?_
    | (refine idC ?_; first | refine c1 rfl ?_ | refine c0 rfl ?_ | refine cs rfl (fun _ => ?_) (fun _ => ?_))
    | refine WL_nil ?_
    | (refine idG ?_; first | refine g0t rfl rfl rfl ?_ | refine g0f rfl rfl rfl ?_ | refine g0u rfl rfl rfl ?_ | refine gr rfl rfl ?_ | refine gs rfl rfl (fun _ => ?_) (fun _ => ?_) | refine grn rfl rfl ?_)
    | refine tn ?_
    | refine tr ?_
    | refine br ?_
    | refine bn ?_
    | refine te ?_
    | (refine idB ?_; first | refine bh rfl ?_ | refine bm rfl ?_)
    | refine W_skip ?_
    | refine W_block ?_
    | refine W_exit ?_
    | refine W_ret ?_
    | refine W_label ?_
    | refine W_scope ?_
    | refine sn ?_
    | refine sr ?_
    | refine se ?_
    | (refine idR ?_; first | refine ret1 rfl rfl rfl ?_ | refine rL1 rfl (by first | exact trivial | exact ⟨rfl, trivial⟩) (by first | exact ResO.tmp rfl | exact ResO.cellBA rfl rfl rfl | exact ResO.cellB1 rfl rfl rfl | exact ResO.cellEA rfl rfl | exact ResO.cellE1 rfl) ?_)
    | refine Le.bool ?_
    | refine Le.int ?_
    | refine Le.str ?_
  · rename_i h20 hm0
    have hD : Lib.decDigits n = Lib.decDigits m ++ s := by
      rcases hor with ⟨rfl, rfl, _⟩ | ⟨_, _, ⟨h, _⟩ | ⟨_, h⟩⟩
      · simp
      · omega
      · exact h
    exact ⟨rfl, (m / 10, i + 1, UInt8.ofNat (48 + m % 10) :: s), dig_step hsl (by omega) hm hD, by dsimp only; omega, ⟨rfl, rfl, rfl, ieq (wsucc i (by omega)), trivial⟩, rfl⟩
  · rename_i h20 hm0 hs0
    have hD : Lib.decDigits n = Lib.decDigits m ++ s := by
      rcases hor with ⟨rfl, rfl, _⟩ | ⟨h, _⟩
      · simp
      · exact absurd hs0 h
    exact ⟨rfl, (m / 10, i + 1, UInt8.ofNat (48 + m % 10) :: s), dig_step hsl (by omega) hm hD, by dsimp only; omega, ⟨rfl, rfl, rfl, ieq (wsucc i (by omega)), trivial⟩, rfl⟩
  · rename_i h20 hm0 hs0
    rcases hor with ⟨h, _⟩ | ⟨_, _, ⟨_, h⟩ | ⟨h, _⟩⟩
    · exact absurd h hs0
    · exact h.symm
    · omega
  · rename_i h20
    have e20 : i = 20 := by omega
    subst e20
    rcases hor with ⟨_, _, h⟩ | ⟨_, _, ⟨_, h⟩ | ⟨h, _⟩⟩
    · omega
    · exact h.symm
    · exfalso
      have : 1 * 10 ^ 20 ≤ m * 10 ^ 20 := Nat.mul_le_mul_right _ h
      omega
set_option maxHeartbeats 4000000 in
theorem digits_pc [GlobF Tryd.prog] (n : Int) (h0 : -9223372036854775808 ≤ n) (h1 : n ≤ 9223372036854775807) : PC Tryd.prog 28 [.sc (.int .i64 n)] (str (Lib.itoa n)) := by
  by_cases hn : 0 ≤ n
  · obtain ⟨m, rfl⟩ := Int.eq_ofNat_of_zero_le hn
    rw [Lib.itoa_nonneg]
    exact digits0_pc m (by omega)
  by_cases hm : n = -9223372036854775808
  · subst hm
    refine PC.of_body Tryd.func28 Tryd.ntmps28 rfl rfl rfl ?_
    repeat' first
      | (apply p1 (hd := rfl); case hop => first | (apply D_move; rfl) | (apply D_assign; rfl) | (apply D_pickT; rfl; rfl) | (apply D_pickF; rfl; rfl) | (apply D_int; rfl; rfl; rfl) | (apply D_str; rfl; rfl; rfl) | (apply D_conv_int; rfl) | (apply D_b2s; rfl) | (apply D_lit; rfl; rfl; rfl; rfl) | (apply D_neg; rfl) | (apply D_quo; rfl; rfl; first | omega | ((repeat rw [w64 _ (by omega) (by omega)]); omega) | decide) | (apply D_rem; rfl; rfl; first | omega | ((repeat rw [w64 _ (by omega) (by omega)]); omega) | decide) | (apply D_cat; rfl; rfl; all_goals first | omega | ((repeat rw [w64 _ (by omega) (by omega)]); omega) | decide))
      | refine W_seq ?_
      | refine W_region ?_
      | (refine idC ?_; first | refine c1 rfl ?_ | refine c0 rfl ?_ | refine cs rfl (fun _ => ?_) (fun _ => ?_))
      | refine WL_nil ?_
      | (refine idG ?_; first | refine g0t rfl rfl rfl ?_ | refine g0f rfl rfl rfl ?_ | refine g0u rfl rfl rfl ?_ | refine gr rfl rfl ?_ | refine gs rfl rfl (fun _ => ?_) (fun _ => ?_) | refine grn rfl rfl ?_)
      | refine tn ?_
      | refine tr ?_
      | refine br ?_
      | refine bn ?_
      | refine te ?_
      | (refine idB ?_; first | refine bh rfl ?_ | refine bm rfl ?_)
      | refine W_skip ?_
      | refine W_block ?_
      | refine W_exit ?_
      | refine W_ret ?_
      | refine W_label ?_
      | refine W_scope ?_
      | refine sn ?_
      | refine sr ?_
      | refine se ?_
      | (refine idR ?_; first | refine ret1 rfl rfl rfl ?_ | refine rL1 rfl (by first | exact trivial | exact ⟨rfl, trivial⟩) (by first | exact ResO.tmp rfl | exact ResO.cellBA rfl rfl rfl | exact ResO.cellB1 rfl rfl rfl | exact ResO.cellEA rfl rfl | exact ResO.cellE1 rfl) ?_)
      | refine Le.bool ?_
      | refine Le.int ?_
      | refine Le.str ?_
    all_goals first
      | (exfalso; omega)
      | (have : Lib.itoa (-9223372036854775808) = [45, 57, 50, 50, 51, 51, 55, 50, 48, 51, 54, 56, 53, 52, 55, 55, 53, 56, 48, 56] := by decide +kernel
         exact this.symm)
  · obtain ⟨m, rfl⟩ : ∃ m : Nat, n = -(m : Int) := ⟨n.natAbs, by omega⟩
    rw [Lib.itoa_neg m (by omega)]
    have hd := digits0_pc m (by omega)
    have hw : IntKind.i64.wrap (0 - (-(m : Int))) = (m : Int) := by rw [w64 _ (by omega) (by omega)]; omega
    have hdl : (Lib.decDigits m).length ≤ 20 := by rw [Lib.decDigits_length]; exact Lib.nDigits_le20 m (by omega)
    refine PC.of_body Tryd.func28 Tryd.ntmps28 rfl rfl rfl ?_
    repeat' first
      | (apply p1 (hd := rfl); case hop => first | (apply D_move; rfl) | (apply D_assign; rfl) | exact D_sc (D_neg rfl) (congrArg _ hw) | (apply D_pc hd; rfl; exact .same rfl .nil) | (apply D_cat; rfl; rfl; focus (simp only [List.length_cons, List.length_nil]; omega)) | (apply D_pickT; rfl; rfl) | (apply D_pickF; rfl; rfl) | (apply D_int; rfl; rfl; rfl) | (apply D_str; rfl; rfl; rfl) | (apply D_conv_int; rfl) | (apply D_b2s; rfl) | (apply D_lit; rfl; rfl; rfl; rfl) | (apply D_neg; rfl) | (apply D_quo; rfl; rfl; first | omega | ((repeat rw [w64 _ (by omega) (by omega)]); omega) | decide) | (apply D_rem; rfl; rfl; first | omega | ((repeat rw [w64 _ (by omega) (by omega)]); omega) | decide) | (apply D_cat; rfl; rfl; all_goals first | omega | ((repeat rw [w64 _ (by omega) (by omega)]); omega) | decide))
      | refine W_seq ?_
      | refine W_region ?_
      | (refine idC ?_; first | refine c1 rfl ?_ | refine c0 rfl ?_ | refine cs rfl (fun _ => ?_) (fun _ => ?_))
      | refine WL_nil ?_
      | (refine idG ?_; first | refine g0t rfl rfl rfl ?_ | refine g0f rfl rfl rfl ?_ | refine g0u rfl rfl rfl ?_ | refine gr rfl rfl ?_ | refine gs rfl rfl (fun _ => ?_) (fun _ => ?_) | refine grn rfl rfl ?_)
      | refine tn ?_
      | refine tr ?_
      | refine br ?_
      | refine bn ?_
      | refine te ?_
      | (refine idB ?_; first | refine bh rfl ?_ | refine bm rfl ?_)
      | refine W_skip ?_
      | refine W_block ?_
      | refine W_exit ?_
      | refine W_ret ?_
      | refine W_label ?_
      | refine W_scope ?_
      | refine sn ?_
      | refine sr ?_
      | refine se ?_
      | (refine idR ?_; first | refine ret1 rfl rfl rfl ?_ | refine rL1 rfl (by first | exact trivial | exact ⟨rfl, trivial⟩) (by first | exact ResO.tmp rfl | exact ResO.cellBA rfl rfl rfl | exact ResO.cellB1 rfl rfl rfl | exact ResO.cellEA rfl rfl | exact ResO.cellE1 rfl) ?_)
      | refine Le.bool ?_
      | refine Le.int ?_
      | refine Le.str ?_
    all_goals first
      | (exfalso; omega)
      | rfl
end Go.Proofs
