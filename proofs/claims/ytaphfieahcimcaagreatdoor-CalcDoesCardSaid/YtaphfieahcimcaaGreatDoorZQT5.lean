/- Contracts of the reference's texts of values. -/
import Derived.Test.YtaphfieahcimcaaGreatDoorZQT4
namespace Go.Proofs
open Go.AL
attribute [local irreducible] Go.AL.W Go.AL.WL Go.AL.WD Go.AL.POp Go.AL.PPOp Go.AL.POpS Go.AL.PC Go.AL.AC Go.AL.YW Go.AL.Ret Go.AL.Le Go.AL.thn Go.AL.inBlk Go.AL.scp

theorem D_eqv {P : Program} [GlobF P] {ρ : Operand → Option AV} {o : Oper} {v v' : AV} (h : PPOp P o ρ v) (e : v = v') : PPOp P o ρ v' := e ▸ h
theorem rem10 (m : Nat) : ((m : Int)).tmod 10 = ((m % 10 : Nat) : Int) := by rw [Int.tmod_eq_emod_of_nonneg (by omega)]; omega
theorem quo10 (m : Nat) (hm : m < 9223372036854775808) : IntKind.i64.wrap ((m : Int).tdiv 10) = ((m / 10 : Nat) : Int) := by
  rw [Int.tdiv_eq_ediv_of_nonneg (by omega), w64 _ (by omega) (by omega)]; omega
theorem dgb (m : Nat) : IntKind.u8.wrap (IntKind.i64.wrap (48 + ((m % 10 : Nat) : Int))) = ((UInt8.ofNat (48 + m % 10)).toNat : Int) := by
  rw [w64 _ (by omega) (by omega)]
  have h : m % 10 < 10 := Nat.mod_lt _ (by decide)
  have : ∀ q : Fin 10, IntKind.u8.wrap (48 + ((q.val : Nat) : Int)) = ((UInt8.ofNat (48 + q.val)).toNat : Int) := by decide
  exact this ⟨m % 10, h⟩

theorem dig_step {n m i : Nat} {s : List UInt8} (hsl : s.length ≤ i) (hi : i < 20) (hm : m * 10 ^ i ≤ n) (hD : Lib.decDigits n = Lib.decDigits m ++ s) :
    (UInt8.ofNat (48 + m % 10) :: s).length ≤ i + 1 ∧ i + 1 ≤ 20 ∧ m / 10 * 10 ^ (i + 1) ≤ n ∧ (((UInt8.ofNat (48 + m % 10) :: s) = [] ∧ m / 10 = n ∧ i + 1 = 0) ∨ ((UInt8.ofNat (48 + m % 10) :: s) ≠ [] ∧ 0 < i + 1 ∧ ((m / 10 = 0 ∧ Lib.decDigits n = UInt8.ofNat (48 + m % 10) :: s) ∨ (0 < m / 10 ∧ Lib.decDigits n = Lib.decDigits (m / 10) ++ UInt8.ofNat (48 + m % 10) :: s)))) := by
  refine ⟨by rw [List.length_cons]; omega, by omega, ?_, .inr ⟨by simp, by omega, ?_⟩⟩
  · refine Nat.le_trans ?_ hm
    rw [Nat.pow_succ, Nat.mul_comm (10 ^ i) 10, ← Nat.mul_assoc]
    exact Nat.mul_le_mul_right _ (Nat.div_mul_le_self m 10)
  · by_cases h10 : m < 10
    · refine .inl ⟨by omega, ?_⟩
      rw [hD, Lib.decDigits, dif_pos h10, Nat.mod_eq_of_lt h10]; rfl
    · refine .inr ⟨by omega, ?_⟩
      rw [hD, Lib.decDigits, dif_neg h10, List.append_assoc]; rfl

set_option maxHeartbeats 4000000 in
theorem digits0_pc [GlobF Tryz.prog] (n : Nat) (hn : n < 9223372036854775808) : PC Tryz.prog 50 [.sc (.int .i64 (n : Int))] (str (Lib.decDigits n)) := by
  refine PC.of_body Tryz.func50 Tryz.ntmps50 rfl rfl rfl ?_
  repeat' first
    | (apply p1 (hd := rfl); case hop => first | (apply D_move; rfl) | (apply D_assign; rfl) | (apply D_pickT; rfl; rfl) | (apply D_pickF; rfl; rfl) | (apply D_int; rfl; rfl; rfl) | (apply D_str; rfl; rfl; rfl) | (apply D_conv_int; rfl) | (apply D_b2s; rfl) | (apply D_lit; rfl; rfl; rfl; rfl) | (apply D_neg; rfl) | (apply D_quo; rfl; rfl; first | omega | ((repeat rw [w64 _ (by omega) (by omega)]); omega) | decide) | (apply D_rem; rfl; rfl; first | omega | ((repeat rw [w64 _ (by omega) (by omega)]); omega) | decide) | (apply D_cat; rfl; rfl; all_goals first | omega | ((repeat rw [w64 _ (by omega) (by omega)]); omega) | decide))
    | refine W_seq ?_
    | refine W_region ?_
    | (refine idC ?_; first | refine c1 rfl ?_ | refine c0 rfl ?_ | refine cs rfl (fun _ => ?_) (fun _ => ?_))
    | refine WL_nil ?_
    | (refine idG ?_; first | refine g0t rfl rfl rfl ?_ | refine g0f rfl rfl rfl ?_ | refine g0u rfl rfl rfl ?_ | refine gr rfl rfl ?_ | refine gs rfl rfl (fun _ => ?_) (fun _ => ?_) | refine grn rfl rfl ?_)
    | refine tn ?_
    | refine tr ?_
    | refine br ?_
    | refine bn ?_
    | refine te ?_
    | (refine idB ?_; first | refine bh rfl ?_ | refine bm rfl ?_)
    | refine W_skip ?_
    | refine W_block ?_
    | refine W_exit ?_
    | refine W_ret ?_
    | refine W_label ?_
    | refine W_scope ?_
    | refine sn ?_
    | refine sr ?_
    | refine se ?_
    | (refine idR ?_; first | refine ret1 rfl rfl rfl ?_ | refine rL1 rfl (by first | exact trivial | exact ⟨rfl, trivial⟩) (by first | exact ResO.tmp rfl | exact ResO.cellBA rfl rfl rfl | exact ResO.cellB1 rfl rfl rfl | exact ResO.cellEA rfl rfl | exact ResO.cellE1 rfl) ?_)
    | refine Le.bool ?_
    | refine Le.int ?_
    | refine Le.str ?_
  all_goals first
    | (exfalso; omega)
    | skip
  refine W_loopL (X := Nat × Nat × List UInt8) (fun x => [(0, .sc (.int .i64 (x.1 : Int))), (2, str []), (3, str x.2.2), (4, .sc (.int .i64 (x.2.1 : Int)))]) (fun _ => [])
    (fun x => x.2.2.length ≤ x.2.1 ∧ x.2.1 ≤ 20 ∧ x.1 * 10 ^ x.2.1 ≤ n ∧ ((x.2.2 = [] ∧ x.1 = n ∧ x.2.1 = 0) ∨ (x.2.2 ≠ [] ∧ 0 < x.2.1 ∧ ((x.1 = 0 ∧ Lib.decDigits n = x.2.2) ∨ (0 < x.1 ∧ Lib.decDigits n = Lib.decDigits x.1 ++ x.2.2))))) (fun x => 20 - x.2.1) (n, 0, []) ⟨by dsimp only; decide, by dsimp only; omega, by dsimp only; omega, .inl ⟨rfl, rfl, rfl⟩⟩ ⟨rfl, rfl, rfl, rfl, trivial⟩ rfl ?_
  rintro ⟨m, i, s⟩ ⟨hsl, hi, hm, hor⟩
  dsimp only at hsl hi hm hor ⊢
  have hmn : m ≤ n := Nat.le_trans (Nat.le_mul_of_pos_right _ (Nat.pow_pos (by decide))) hm
  have hmb : m < 9223372036854775808 := by omega
  repeat' first
    | (apply p1 (hd := rfl); case hop => first | (apply D_move; rfl) | (apply D_assign; rfl) | exact D_sc (D_rem rfl rfl (by decide)) (congrArg _ (rem10 m)) | exact D_sc (D_quo rfl rfl (by decide)) (congrArg _ (quo10 m hmb)) | exact D_sc (D_conv_int rfl) (congrArg _ (dgb m)) | exact D_b2s (l := [UInt8.ofNat (48 + m % 10)]) rfl | (apply D_cat; rfl; rfl; focus (simp only [List.length_cons, List.length_nil]; omega)) | (apply D_pickT; rfl; rfl) | (apply D_pickF; rfl; rfl) | (apply D_int; rfl; rfl; rfl) | (apply D_str; rfl; rfl; rfl) | (apply D_conv_int; rfl) | (apply D_b2s; rfl) | (apply D_lit; rfl; rfl; rfl; rfl) | (apply D_neg; rfl) | (apply D_quo; rfl; rfl; first | omega | ((repeat rw [w64 _ (by omega) (by omega)]); omega) | decide) | (apply D_rem; rfl; rfl; first | omega | ((repeat rw [w64 _ (by omega) (by omega)]); omega) | decide) | (apply D_cat; rfl; rfl; all_goals first | omega | ((repeat rw [w64 _ (by omega) (by omega)]); omega) | decide))
    | refine W_seq ?_
    | refine W_region ?_
    | (refine idC ?_; first | refine c1 rfl ?_ | refine c0 rfl ?_ | refine cs rfl (fun _ => ?_) (fun _ => ?_))
    | refine WL_nil ?_
    | (refine idG ?_; first | refine g0t rfl rfl rfl ?_ | refine g0f rfl rfl rfl ?_ | refine g0u rfl rfl rfl ?_ | refine gr rfl rfl ?_ | refine gs rfl rfl (fun _ => ?_) (fun _ => ?_) | refine grn rfl rfl ?_)
    | refine tn ?_
    | refine tr ?_
    | refine br ?_
    | refine bn ?_
    | refine te ?_
    | (refine idB ?_; first | refine bh rfl ?_ | refine bm rfl ?_)
    | refine W_skip ?_
    | refine W_block ?_
    | refine W_exit ?_
    | refine W_ret ?_
    | refine W_label ?_
    | refine W_scope ?_
    | refine sn ?_
    | refine sr ?_
    | refine se ?_
    | (refine idR ?_; first | refine ret1 rfl rfl rfl ?_ | refine rL1 rfl (by first | exact trivial | exact ⟨rfl, trivial⟩) (by first | exact ResO.tmp rfl | exact ResO.cellBA rfl rfl rfl | exact ResO.cellB1 rfl rfl rfl | exact ResO.cellEA rfl rfl | exact ResO.cellE1 rfl) ?_)
    | refine Le.bool ?_
    | refine Le.int ?_
    | refine Le.str ?_
  · rename_i h20 hm0
    have hD : Lib.decDigits n = Lib.decDigits m ++ s := by
      rcases hor with ⟨rfl, rfl, _⟩ | ⟨_, _, ⟨h, _⟩ | ⟨_, h⟩⟩
      · simp
      · omega
      · exact h
    exact ⟨rfl, (m / 10, i + 1, UInt8.ofNat (48 + m % 10) :: s), dig_step hsl (by omega) hm hD, by dsimp only; omega, ⟨rfl, rfl, rfl, ieq (wsucc i (by omega)), trivial⟩, rfl⟩
  · rename_i h20 hm0 hs0
    have hD : Lib.decDigits n = Lib.decDigits m ++ s := by
      rcases hor with ⟨rfl, rfl, _⟩ | ⟨h, _⟩
      · simp
      · exact absurd hs0 h
    exact ⟨rfl, (m / 10, i + 1, UInt8.ofNat (48 + m % 10) :: s), dig_step hsl (by omega) hm hD, by dsimp only; omega, ⟨rfl, rfl, rfl, ieq (wsucc i (by omega)), trivial⟩, rfl⟩
  · rename_i h20 hm0 hs0
    rcases hor with ⟨h, _⟩ | ⟨_, _, ⟨_, h⟩ | ⟨h, _⟩⟩
    · exact absurd h hs0
    · exact h.symm
    · omega
  · rename_i h20
    have e20 : i = 20 := by omega
    subst e20
    rcases hor with ⟨_, _, h⟩ | ⟨_, _, ⟨_, h⟩ | ⟨h, _⟩⟩
    · omega
    · exact h.symm
    · exfalso
      have : 1 * 10 ^ 20 ≤ m * 10 ^ 20 := Nat.mul_le_mul_right _ h
      omega
set_option maxHeartbeats 4000000 in
theorem digits_pc [GlobF Tryz.prog] (n : Int) (h0 : -9223372036854775808 ≤ n) (h1 : n ≤ 9223372036854775807) : PC Tryz.prog 50 [.sc (.int .i64 n)] (str (Lib.itoa n)) := by
  by_cases hn : 0 ≤ n
  · obtain ⟨m, rfl⟩ := Int.eq_ofNat_of_zero_le hn
    rw [Lib.itoa_nonneg]
    exact digits0_pc m (by omega)
  by_cases hm : n = -9223372036854775808
  · subst hm
    refine PC.of_body Tryz.func50 Tryz.ntmps50 rfl rfl rfl ?_
    repeat' first
      | (apply p1 (hd := rfl); case hop => first | (apply D_move; rfl) | (apply D_assign; rfl) | (apply D_pickT; rfl; rfl) | (apply D_pickF; rfl; rfl) | (apply D_int; rfl; rfl; rfl) | (apply D_str; rfl; rfl; rfl) | (apply D_conv_int; rfl) | (apply D_b2s; rfl) | (apply D_lit; rfl; rfl; rfl; rfl) | (apply D_neg; rfl) | (apply D_quo; rfl; rfl; first | omega | ((repeat rw [w64 _ (by omega) (by omega)]); omega) | decide) | (apply D_rem; rfl; rfl; first | omega | ((repeat rw [w64 _ (by omega) (by omega)]); omega) | decide) | (apply D_cat; rfl; rfl; all_goals first | omega | ((repeat rw [w64 _ (by omega) (by omega)]); omega) | decide))
      | refine W_seq ?_
      | refine W_region ?_
      | (refine idC ?_; first | refine c1 rfl ?_ | refine c0 rfl ?_ | refine cs rfl (fun _ => ?_) (fun _ => ?_))
      | refine WL_nil ?_
      | (refine idG ?_; first | refine g0t rfl rfl rfl ?_ | refine g0f rfl rfl rfl ?_ | refine g0u rfl rfl rfl ?_ | refine gr rfl rfl ?_ | refine gs rfl rfl (fun _ => ?_) (fun _ => ?_) | refine grn rfl rfl ?_)
      | refine tn ?_
      | refine tr ?_
      | refine br ?_
      | refine bn ?_
      | refine te ?_
      | (refine idB ?_; first | refine bh rfl ?_ | refine bm rfl ?_)
      | refine W_skip ?_
      | refine W_block ?_
      | refine W_exit ?_
      | refine W_ret ?_
      | refine W_label ?_
      | refine W_scope ?_
      | refine sn ?_
      | refine sr ?_
      | refine se ?_
      | (refine idR ?_; first | refine ret1 rfl rfl rfl ?_ | refine rL1 rfl (by first | exact trivial | exact ⟨rfl, trivial⟩) (by first | exact ResO.tmp rfl | exact ResO.cellBA rfl rfl rfl | exact ResO.cellB1 rfl rfl rfl | exact ResO.cellEA rfl rfl | exact ResO.cellE1 rfl) ?_)
      | refine Le.bool ?_
      | refine Le.int ?_
      | refine Le.str ?_
    all_goals first
      | (exfalso; omega)
      | (have : Lib.itoa (-9223372036854775808) = [45, 57, 50, 50, 51, 51, 55, 50, 48, 51, 54, 56, 53, 52, 55, 55, 53, 56, 48, 56] := by decide +kernel
         exact this.symm)
  · obtain ⟨m, rfl⟩ : ∃ m : Nat, n = -(m : Int) := ⟨n.natAbs, by omega⟩
    rw [Lib.itoa_neg m (by omega)]
    have hd := digits0_pc m (by omega)
    have hw : IntKind.i64.wrap (0 - (-(m : Int))) = (m : Int) := by rw [w64 _ (by omega) (by omega)]; omega
    have hdl : (Lib.decDigits m).length ≤ 20 := by rw [Lib.decDigits_length]; exact Lib.nDigits_le20 m (by omega)
    refine PC.of_body Tryz.func50 Tryz.ntmps50 rfl rfl rfl ?_
    repeat' first
      | (apply p1 (hd := rfl); case hop => first | (apply D_move; rfl) | (apply D_assign; rfl) | exact D_sc (D_neg rfl) (congrArg _ hw) | (apply D_pc hd; rfl; exact .same rfl .nil) | (apply D_cat; rfl; rfl; focus (simp only [List.length_cons, List.length_nil]; omega)) | (apply D_pickT; rfl; rfl) | (apply D_pickF; rfl; rfl) | (apply D_int; rfl; rfl; rfl) | (apply D_str; rfl; rfl; rfl) | (apply D_conv_int; rfl) | (apply D_b2s; rfl) | (apply D_lit; rfl; rfl; rfl; rfl) | (apply D_neg; rfl) | (apply D_quo; rfl; rfl; first | omega | ((repeat rw [w64 _ (by omega) (by omega)]); omega) | decide) | (apply D_rem; rfl; rfl; first | omega | ((repeat rw [w64 _ (by omega) (by omega)]); omega) | decide) | (apply D_cat; rfl; rfl; all_goals first | omega | ((repeat rw [w64 _ (by omega) (by omega)]); omega) | decide))
      | refine W_seq ?_
      | refine W_region ?_
      | (refine idC ?_; first | refine c1 rfl ?_ | refine c0 rfl ?_ | refine cs rfl (fun _ => ?_) (fun _ => ?_))
      | refine WL_nil ?_
      | (refine idG ?_; first | refine g0t rfl rfl rfl ?_ | refine g0f rfl rfl rfl ?_ | refine g0u rfl rfl rfl ?_ | refine gr rfl rfl ?_ | refine gs rfl rfl (fun _ => ?_) (fun _ => ?_) | refine grn rfl rfl ?_)
      | refine tn ?_
      | refine tr ?_
      | refine br ?_
      | refine bn ?_
      | refine te ?_
      | (refine idB ?_; first | refine bh rfl ?_ | refine bm rfl ?_)
      | refine W_skip ?_
      | refine W_block ?_
      | refine W_exit ?_
      | refine W_ret ?_
      | refine W_label ?_
      | refine W_scope ?_
      | refine sn ?_
      | refine sr ?_
      | refine se ?_
      | (refine idR ?_; first | refine ret1 rfl rfl rfl ?_ | refine rL1 rfl (by first | exact trivial | exact ⟨rfl, trivial⟩) (by first | exact ResO.tmp rfl | exact ResO.cellBA rfl rfl rfl | exact ResO.cellB1 rfl rfl rfl | exact ResO.cellEA rfl rfl | exact ResO.cellE1 rfl) ?_)
      | refine Le.bool ?_
      | refine Le.int ?_
      | refine Le.str ?_
    all_goals first
      | (exfalso; omega)
      | rfl
end Go.Proofs

/- Contracts of the reference's texts of values. -/
namespace Go.Proofs
open Go.AL
attribute [local irreducible] Go.AL.W Go.AL.WL Go.AL.WD Go.AL.POp Go.AL.PPOp Go.AL.POpS Go.AL.PC Go.AL.AC Go.AL.YW Go.AL.Ret Go.AL.Le Go.AL.thn Go.AL.inBlk Go.AL.scp

set_option maxHeartbeats 4000000 in
theorem plain1_pc [GlobF Tryz.prog] (c : UInt8) : PC Tryz.prog 52 [.sc (.int .u8 c.toNat)] (.sc (.bool (plainB c))) := by
  refine PC.of_body Tryz.func52 Tryz.ntmps52 rfl rfl rfl ?_
  repeat' first
    | (apply p1 (hd := rfl); case hop => first | (apply D_move; rfl) | (apply D_assign; rfl) | (apply D_pickT; rfl; rfl) | (apply D_pickF; rfl; rfl) | (apply D_int; rfl; rfl; rfl))
    | refine W_seq ?_
    | refine W_region ?_
    | refine WL_nil ?_
    | (refine idG ?_; first | refine g0t rfl rfl rfl ?_ | refine g0f rfl rfl rfl ?_ | refine g0u rfl rfl rfl ?_ | refine gr rfl rfl ?_ | refine gs rfl rfl (fun _ => ?_) (fun _ => ?_) | refine grn rfl rfl ?_)
    | refine tn ?_
    | refine tr ?_
    | refine br ?_
    | refine bn ?_
    | refine te ?_
    | (refine idB ?_; first | refine bh rfl ?_ | refine bm rfl ?_)
    | refine W_skip ?_
    | refine W_block ?_
    | refine W_exit ?_
    | refine W_ret ?_
    | refine W_label ?_
    | refine W_scope ?_
    | refine sn ?_
    | refine sr ?_
    | refine se ?_
    | (refine idR ?_; first | refine ret1 rfl rfl rfl ?_ | refine rL1 rfl (by first | exact trivial | exact ⟨rfl, trivial⟩) (by first | exact ResO.tmp rfl | exact ResO.cellBA rfl rfl rfl | exact ResO.cellB1 rfl rfl rfl | exact ResO.cellEA rfl rfl | exact ResO.cellE1 rfl) ?_)
    | refine Le.bool ?_
    | refine Le.int ?_
    | refine Le.str ?_
  all_goals (refine dP_eq ?_; simp only [plainP, iLe_t, bNot_t, iEq_t, iEq_f, Bool.false_eq_true, false_iff]; omega)
theorem rem16' (c : UInt8) : ((c.toNat : Int).tmod 16) = ((c.toNat % 16 : Nat) : Int) := by
  rw [Int.tmod_eq_emod_of_nonneg (by omega)]; omega
theorem w8 (m : Nat) (h : m < 256) : IntKind.u8.wrap (m : Int) = (m : Int) := by
  have : ∀ q : Fin 256, IntKind.u8.wrap ((q.val : Nat) : Int) = ((q.val : Nat) : Int) := by decide +kernel
  exact this ⟨m, h⟩
theorem quo16' (c : UInt8) : IntKind.u8.wrap ((c.toNat : Int).tdiv 16) = ((c.toNat / 16 : Nat) : Int) := by
  have := c.toNat_lt
  rw [Int.tdiv_eq_ediv_of_nonneg (by omega), show (c.toNat : Int) / 16 = ((c.toNat / 16 : Nat) : Int) by omega]
  exact w8 _ (by omega)
theorem add18 (m : Nat) (h : m < 16) : IntKind.u8.wrap (((m : Nat) : Int) + 1) = ((m + 1 : Nat) : Int) := w8 (m + 1) (by omega)
theorem sl1 (m : Nat) (h : m < digs.length) : str ((digs.take ((m + 1 : Nat) : Int).toNat).drop ((m : Nat) : Int).toNat) = str [digs[m]'h] := by
  have : ∀ q : Fin 16, (digs.take ((q.val + 1 : Nat) : Int).toNat).drop ((q.val : Nat) : Int).toNat = [digs[q.val]'(by show _ < 16; exact q.isLt)] := by decide
  exact congrArg str (this ⟨m, h⟩)
set_option maxHeartbeats 4000000 in
theorem hex1_pc [GlobF Tryz.prog] (c : UInt8) : PC Tryz.prog 51 [.sc (.int .u8 c.toNat)] (str (hexL c)) := by
  have h1 := hx1 c
  have h2 := hx2 c
  have hb := c.toNat_lt
  have q1 : c.toNat / 16 < 16 := by omega
  have q2 : c.toNat % 16 < 16 := by omega
  refine PC.of_body Tryz.func51 Tryz.ntmps51 rfl rfl rfl ?_
  repeat' first
    | (apply p1 (hd := rfl); case hop => first | (apply D_move; rfl) | (apply D_assign; rfl) | exact D_sc (D_quo rfl rfl (by decide)) (congrArg _ (quo16' c)) | exact D_sc (D_rem rfl rfl (by decide)) (congrArg _ (rem16' c)) | exact D_sc (D_int rfl rfl rfl) (congrArg _ (add18 _ q1)) | exact D_sc (D_int rfl rfl rfl) (congrArg _ (add18 _ q2)) | exact D_eqv (D_slS rfl rfl rfl (by omega) (by omega) (by show _ ≤ (16 : Int); omega)) (sl1 _ h1) | exact D_eqv (D_slS rfl rfl rfl (by omega) (by omega) (by show _ ≤ (16 : Int); omega)) (sl1 _ h2) | (apply D_cat; rfl; rfl; focus (show 1 + 1 ≤ _; decide)) | (apply D_int; rfl; rfl; rfl) | (apply D_str; rfl; rfl; rfl) | (apply D_slS; rfl; rfl; rfl; all_goals first | omega | ((repeat rw [w64 _ (by omega) (by omega)]); omega) | decide) | (apply D_slSh; rfl; rfl; all_goals first | omega | ((repeat rw [w64 _ (by omega) (by omega)]); omega) | decide) | (apply D_slSl; rfl; rfl; all_goals first | omega | ((repeat rw [w64 _ (by omega) (by omega)]); omega) | decide) | (apply D_quo; rfl; rfl; first | omega | ((repeat rw [w64 _ (by omega) (by omega)]); omega) | decide) | (apply D_rem; rfl; rfl; first | omega | ((repeat rw [w64 _ (by omega) (by omega)]); omega) | decide) | (apply D_cat; rfl; rfl; all_goals first | omega | ((repeat rw [w64 _ (by omega) (by omega)]); omega) | decide))
    | refine W_seq ?_
    | refine W_region ?_
    | refine WL_nil ?_
    | refine tn ?_
    | refine tr ?_
    | refine br ?_
    | refine bn ?_
    | refine te ?_
    | (refine idB ?_; first | refine bh rfl ?_ | refine bm rfl ?_)
    | refine W_skip ?_
    | refine W_block ?_
    | refine W_exit ?_
    | refine W_ret ?_
    | refine W_label ?_
    | refine W_scope ?_
    | refine sn ?_
    | refine sr ?_
    | refine se ?_
    | (refine idR ?_; first | refine ret1 rfl rfl rfl ?_ | refine rL1 rfl (by first | exact trivial | exact ⟨rfl, trivial⟩) (by first | exact ResO.tmp rfl | exact ResO.cellBA rfl rfl rfl | exact ResO.cellB1 rfl rfl rfl | exact ResO.cellEA rfl rfl | exact ResO.cellE1 rfl) ?_)
    | refine Le.bool ?_
    | refine Le.int ?_
    | refine Le.str ?_
    | (refine idW ?_; first | refine W_draw0 rfl ?_ | refine W_draw1 rfl ?_ | refine W_draw2 rfl ?_ | refine W_draw3 rfl ?_)
    | (apply d1 (hd := rfl); case hop => first | (apply D_move; rfl) | (apply D_assign; rfl) | exact D_sc (D_quo rfl rfl (by decide)) (congrArg _ (quo16' c)) | exact D_sc (D_rem rfl rfl (by decide)) (congrArg _ (rem16' c)) | exact D_sc (D_int rfl rfl rfl) (congrArg _ (add18 _ q1)) | exact D_sc (D_int rfl rfl rfl) (congrArg _ (add18 _ q2)) | exact D_eqv (D_slS rfl rfl rfl (by omega) (by omega) (by show _ ≤ (16 : Int); omega)) (sl1 _ h1) | exact D_eqv (D_slS rfl rfl rfl (by omega) (by omega) (by show _ ≤ (16 : Int); omega)) (sl1 _ h2) | (apply D_cat; rfl; rfl; focus (show 1 + 1 ≤ _; decide)) | (apply D_int; rfl; rfl; rfl) | (apply D_str; rfl; rfl; rfl) | (apply D_slS; rfl; rfl; rfl; all_goals first | omega | ((repeat rw [w64 _ (by omega) (by omega)]); omega) | decide) | (apply D_slSh; rfl; rfl; all_goals first | omega | ((repeat rw [w64 _ (by omega) (by omega)]); omega) | decide) | (apply D_slSl; rfl; rfl; all_goals first | omega | ((repeat rw [w64 _ (by omega) (by omega)]); omega) | decide) | (apply D_quo; rfl; rfl; first | omega | ((repeat rw [w64 _ (by omega) (by omega)]); omega) | decide) | (apply D_rem; rfl; rfl; first | omega | ((repeat rw [w64 _ (by omega) (by omega)]); omega) | decide) | (apply D_cat; rfl; rfl; all_goals first | omega | ((repeat rw [w64 _ (by omega) (by omega)]); omega) | decide))
    | (refine idDn ?_; first | refine dL _ (fun hp' hs => D_loadB1 rfl (hs.trans rfl) rfl) rfl ?_ | refine dL _ (fun hp' hs => D_loadBA rfl (hs.trans rfl) rfl) rfl ?_ | refine dS (S_store rfl rfl rfl rfl rfl rfl rfl) rfl ?_ | refine dV (S_alloc 0 rfl) rfl rfl ?_ | refine dV (S_alloc 1 rfl) rfl rfl ?_ | refine dV (S_alloc 2 rfl) rfl rfl ?_ | refine dV (S_alloc 3 rfl) rfl rfl ?_ | refine dV (S_alloc 4 rfl) rfl rfl ?_ | refine dV (S_alloc 5 rfl) rfl rfl ?_ | refine dV (S_alloc 6 rfl) rfl rfl ?_ | refine dV (S_alloc 7 rfl) rfl rfl ?_)
    | refine WD_nil (by first | decide +kernel | kernel_rfl | rfl) ?_
  all_goals rfl

theorem escL1 {c : UInt8} (h : plainB c = true) : escL c = [c] := by unfold escL; rw [if_pos ((plainB_t c).1 h)]
theorem escL2 {c : UInt8} (h : plainB c = false) : escL c = 92 :: hexL c := by unfold escL; rw [if_neg ((plainB_f c).1 h)]
theorem one_sl (s : List UInt8) (i : Nat) (h : i < s.length) : (s.take (i + 1)).drop i = [s[i]] := by
  rw [List.take_succ_eq_append_getElem h, List.drop_append_of_le_length (by rw [List.length_take]; omega), List.drop_of_length_le (by rw [List.length_take]; omega)]; rfl

theorem one_slI (s : List UInt8) (i : Nat) (h : i < s.length) (hl : s.length < 9223372036854775808) : (s.take (IntKind.i64.wrap ((i : Int) + 1)).toNat).drop ((i : Int)).toNat = [s[i]] := by
  rw [w64 _ (by omega) (by omega)]
  exact one_sl s i h
set_option maxHeartbeats 16000000 in
theorem text1_pc [GlobF Tryz.prog] (v : Val) (hs : v.s.length < 268435456) (h0 : -9223372036854775808 ≤ v.n) (h1 : v.n ≤ 9223372036854775807) : PC Tryz.prog 28 [eV v] (.tu [str (tL v), .sc (.int .i64 (if mayB v then 0 else 10))]) := by
  have hil := Lib.itoa_length_le v.n h0 h1
  refine PC.of_body Tryz.func28 Tryz.ntmps28 rfl rfl rfl ?_
  repeat' first
    | (apply p1 (hd := rfl); case hop => first | (apply D_move; rfl) | (apply D_assign; rfl) | (apply D_pc (may1_pc v (by omega)); rfl; exact .same rfl .nil) | (apply D_pc (digits_pc v.n h0 h1); rfl; exact .same rfl .nil) | (apply D_cat; rfl; rfl; focus (simp only [List.length_cons, List.length_nil, List.length_append]; omega)) | (apply D_load1; rfl) | (apply D_fld; rfl) | (apply D_int; rfl; rfl; rfl) | (apply D_len_str; rfl) | (apply D_str; rfl; rfl; rfl) | (apply D_not; rfl) | (apply D_loadW; rfl; rfl) | (apply D_loadA; rfl; rfl) | (apply D_box; rfl; rfl) | (apply D_idxSn; rfl; rfl; (first | omega | (simp; done))) | (apply D_idxS; rfl; rfl; omega; (first | omega | (simp; done) | (simp; omega))) | (apply D_slS; rfl; rfl; rfl; all_goals first | omega | ((repeat rw [w64 _ (by omega) (by omega)]); omega) | decide) | (apply D_slSh; rfl; rfl; all_goals first | omega | ((repeat rw [w64 _ (by omega) (by omega)]); omega) | decide) | (apply D_slSl; rfl; rfl; all_goals first | omega | ((repeat rw [w64 _ (by omega) (by omega)]); omega) | decide) | exact D_fldB rfl | (apply D_cat; rfl; rfl; all_goals first | omega | ((repeat rw [w64 _ (by omega) (by omega)]); omega) | decide))
    | refine W_seq ?_
    | refine W_region ?_
    | (refine idC ?_; first | refine c1 rfl ?_ | refine c0 rfl ?_ | refine cs rfl (fun _ => ?_) (fun _ => ?_))
    | refine WL_nil ?_
    | refine tn ?_
    | refine tr ?_
    | refine br ?_
    | refine bn ?_
    | refine te ?_
    | (refine idB ?_; first | refine bh rfl ?_ | refine bm rfl ?_)
    | refine W_skip ?_
    | refine W_block ?_
    | refine W_exit ?_
    | refine W_ret ?_
    | refine W_label ?_
    | refine W_scope ?_
    | refine sn ?_
    | refine sr ?_
    | refine se ?_
    | (refine idR ?_; first | refine ret2 rfl rfl rfl rfl ?_ ?_ | refine rL2 rfl (by first | exact trivial | exact ⟨rfl, trivial⟩) (by first | exact ResO.tmp rfl | exact ResO.cellBA rfl rfl rfl | exact ResO.cellB1 rfl rfl rfl | exact ResO.cellEA rfl rfl | exact ResO.cellE1 rfl) (by first | exact ResO.tmp rfl | exact ResO.cellBA rfl rfl rfl | exact ResO.cellB1 rfl rfl rfl | exact ResO.cellEA rfl rfl | exact ResO.cellE1 rfl) ?_ ?_)
    | (refine idLd ?_; first | refine p1L (D_loadB1 rfl rfl rfl) rfl ?_ | refine p1L (D_loadBA rfl rfl rfl) rfl ?_ | refine p1L (D_loadB1 rfl (by (repeat first | assumption | exact get_last | (refine get_last2 ?_; focus (simp; done)) | apply get_set | apply get_app | (apply get_ne; focus omega) | (apply get_ne; focus (simp only [List.length_set, List.length_append, List.length_cons, List.length_nil]; omega))); done) (by rfl)) rfl ?_ | refine p1L (D_loadBA rfl (by (repeat first | assumption | exact get_last | (refine get_last2 ?_; focus (simp; done)) | apply get_set | apply get_app | (apply get_ne; focus omega) | (apply get_ne; focus (simp only [List.length_set, List.length_append, List.length_cons, List.length_nil]; omega))); done) (by rfl)) rfl ?_)
    | refine Le.bool ?_
    | refine Le.int ?_
    | refine Le.str ?_
  all_goals first
    | (rename_i hm; rw [tL_f hm]; done)
    | (rename_i hm; rw [tE_f hm]; done)
    | (rw [tE_t (by assumption)]; done)
    | (rw [tL_t (by assumption)]; simp [textL, iEq, *]; done)
    | skip
  · rename_i hm k1 k2 k5 k6 k7 k4
    have hle : v.s.length ≤ 1000 := by unfold MayP at hm; omega
    refine W_loopL (X := Nat) (fun i => [(1, .ep (vC v)), (5, str ((v.s.take i).flatMap hexL)), (6, .sc (.int .i64 (i : Int)))]) (fun _ => [])
      (fun i => i ≤ v.s.length) (fun i => v.s.length - i) 0 (Nat.zero_le _) ⟨rfl, rfl, rfl, trivial⟩ rfl ?_
    intro i hi
    have hlen : ((v.s.take i).flatMap hexL).length ≤ 2000 := by rw [hexs_len, List.length_take]; omega
    repeat' first
      | (apply p1 (hd := rfl); case hop => first | (apply D_move; rfl) | (apply D_assign; rfl) | (apply D_pc (hex1_pc _); rfl; exact .same rfl .nil) | (apply D_cat; rfl; rfl; focus (show _ + 2 ≤ _; omega)) | (apply D_cat; rfl; rfl; focus (show 1 + _ ≤ _; omega)) | (apply D_load1; rfl) | (apply D_fld; rfl) | (apply D_int; rfl; rfl; rfl) | (apply D_len_str; rfl) | (apply D_str; rfl; rfl; rfl) | (apply D_not; rfl) | (apply D_loadW; rfl; rfl) | (apply D_loadA; rfl; rfl) | (apply D_box; rfl; rfl) | (apply D_idxSn; rfl; rfl; (first | omega | (simp; done))) | (apply D_idxS; rfl; rfl; omega; (first | omega | (simp; done) | (simp; omega))) | (apply D_slS; rfl; rfl; rfl; all_goals first | omega | ((repeat rw [w64 _ (by omega) (by omega)]); omega) | decide) | (apply D_slSh; rfl; rfl; all_goals first | omega | ((repeat rw [w64 _ (by omega) (by omega)]); omega) | decide) | (apply D_slSl; rfl; rfl; all_goals first | omega | ((repeat rw [w64 _ (by omega) (by omega)]); omega) | decide) | exact D_fldB rfl | (apply D_cat; rfl; rfl; all_goals first | omega | ((repeat rw [w64 _ (by omega) (by omega)]); omega) | decide))
      | refine W_seq ?_
      | refine W_region ?_
      | (refine idC ?_; first | refine c1 rfl ?_ | refine c0 rfl ?_ | refine cs rfl (fun _ => ?_) (fun _ => ?_))
      | refine WL_nil ?_
      | refine tn ?_
      | refine tr ?_
      | refine br ?_
      | refine bn ?_
      | refine te ?_
      | (refine idB ?_; first | refine bh rfl ?_ | refine bm rfl ?_)
      | refine W_skip ?_
      | refine W_block ?_
      | refine W_exit ?_
      | refine W_ret ?_
      | refine W_label ?_
      | refine W_scope ?_
      | refine sn ?_
      | refine sr ?_
      | refine se ?_
      | (refine idR ?_; first | refine ret2 rfl rfl rfl rfl ?_ ?_ | refine rL2 rfl (by first | exact trivial | exact ⟨rfl, trivial⟩) (by first | exact ResO.tmp rfl | exact ResO.cellBA rfl rfl rfl | exact ResO.cellB1 rfl rfl rfl | exact ResO.cellEA rfl rfl | exact ResO.cellE1 rfl) (by first | exact ResO.tmp rfl | exact ResO.cellBA rfl rfl rfl | exact ResO.cellB1 rfl rfl rfl | exact ResO.cellEA rfl rfl | exact ResO.cellE1 rfl) ?_ ?_)
      | (refine idLd ?_; first | refine p1L (D_loadB1 rfl rfl rfl) rfl ?_ | refine p1L (D_loadBA rfl rfl rfl) rfl ?_ | refine p1L (D_loadB1 rfl (by (repeat first | assumption | exact get_last | (refine get_last2 ?_; focus (simp; done)) | apply get_set | apply get_app | (apply get_ne; focus omega) | (apply get_ne; focus (simp only [List.length_set, List.length_append, List.length_cons, List.length_nil]; omega))); done) (by rfl)) rfl ?_ | refine p1L (D_loadBA rfl (by (repeat first | assumption | exact get_last | (refine get_last2 ?_; focus (simp; done)) | apply get_set | apply get_app | (apply get_ne; focus omega) | (apply get_ne; focus (simp only [List.length_set, List.length_append, List.length_cons, List.length_nil]; omega))); done) (by rfl)) rfl ?_)
      | refine Le.bool ?_
      | refine Le.int ?_
      | refine Le.str ?_
    · have hi' : i < v.s.length := by omega
      exact ⟨rfl, i + 1, by omega, by omega, ⟨rfl, by rw [flatMap_take _ _ _ hi']; rfl, ieq (wsucc i (by omega)), trivial⟩, rfl⟩
    · rw [tL_t hm, List.take_of_length_le (by omega)]; simp [textL, *]
    · rw [tE_t hm]
  · rename_i hm k1 k2 k5 k6 k7 k4
    have hle : v.s.length ≤ 1000 := by unfold MayP at hm; omega
    refine W_loopL (X := Nat) (fun i => [(1, .ep (vC v)), (5, str ((v.s.take i).flatMap escL)), (7, .sc (.int .i64 (i : Int)))]) (fun _ => [])
      (fun i => i ≤ v.s.length) (fun i => v.s.length - i) 0 (Nat.zero_le _) ⟨rfl, rfl, rfl, trivial⟩ rfl ?_
    intro i hi
    have hlen : ((v.s.take i).flatMap escL).length ≤ 3000 := by have := escs_len (v.s.take i); rw [List.length_take] at this; omega
    by_cases hi' : i < v.s.length
    · repeat' first
        | (apply p1 (hd := rfl); case hop => first | (apply D_move; rfl) | (apply D_assign; rfl) | (apply D_pc (hex1_pc _); rfl; exact .same rfl .nil) | (apply D_pc (plain1_pc _); rfl; exact .same rfl .nil) | exact D_eqv (D_slS rfl rfl rfl (by omega) (by rw [w64 _ (by omega) (by omega)]; omega) (by rw [w64 _ (by omega) (by omega)]; omega)) (congrArg str (one_slI _ _ hi' (by omega))) | (apply D_cat; rfl; rfl; focus (first | (show _ + 1 ≤ _; omega) | (show 1 + 2 ≤ _; omega) | (show (_ ++ [92]).length + 2 ≤ _; rw [List.length_append]; show _ + 1 + 2 ≤ _; omega))) | (apply D_load1; rfl) | (apply D_fld; rfl) | (apply D_int; rfl; rfl; rfl) | (apply D_len_str; rfl) | (apply D_str; rfl; rfl; rfl) | (apply D_not; rfl) | (apply D_loadW; rfl; rfl) | (apply D_loadA; rfl; rfl) | (apply D_box; rfl; rfl) | (apply D_idxSn; rfl; rfl; (first | omega | (simp; done))) | (apply D_idxS; rfl; rfl; omega; (first | omega | (simp; done) | (simp; omega))) | (apply D_slS; rfl; rfl; rfl; all_goals first | omega | ((repeat rw [w64 _ (by omega) (by omega)]); omega) | decide) | (apply D_slSh; rfl; rfl; all_goals first | omega | ((repeat rw [w64 _ (by omega) (by omega)]); omega) | decide) | (apply D_slSl; rfl; rfl; all_goals first | omega | ((repeat rw [w64 _ (by omega) (by omega)]); omega) | decide) | exact D_fldB rfl | (apply D_cat; rfl; rfl; all_goals first | omega | ((repeat rw [w64 _ (by omega) (by omega)]); omega) | decide))
        | refine W_seq ?_
        | refine W_region ?_
        | (refine idC ?_; first | refine c1 rfl ?_ | refine c0 rfl ?_ | refine cs rfl (fun _ => ?_) (fun _ => ?_))
        | refine WL_nil ?_
        | refine tn ?_
        | refine tr ?_
        | refine br ?_
        | refine bn ?_
        | refine te ?_
        | (refine idB ?_; first | refine bh rfl ?_ | refine bm rfl ?_)
        | refine W_skip ?_
        | refine W_block ?_
        | refine W_exit ?_
        | refine W_ret ?_
        | refine W_label ?_
        | refine W_scope ?_
        | refine sn ?_
        | refine sr ?_
        | refine se ?_
        | (refine idR ?_; first | refine ret2 rfl rfl rfl rfl ?_ ?_ | refine rL2 rfl (by first | exact trivial | exact ⟨rfl, trivial⟩) (by first | exact ResO.tmp rfl | exact ResO.cellBA rfl rfl rfl | exact ResO.cellB1 rfl rfl rfl | exact ResO.cellEA rfl rfl | exact ResO.cellE1 rfl) (by first | exact ResO.tmp rfl | exact ResO.cellBA rfl rfl rfl | exact ResO.cellB1 rfl rfl rfl | exact ResO.cellEA rfl rfl | exact ResO.cellE1 rfl) ?_ ?_)
        | (refine idLd ?_; first | refine p1L (D_loadB1 rfl rfl rfl) rfl ?_ | refine p1L (D_loadBA rfl rfl rfl) rfl ?_ | refine p1L (D_loadB1 rfl (by (repeat first | assumption | exact get_last | (refine get_last2 ?_; focus (simp; done)) | apply get_set | apply get_app | (apply get_ne; focus omega) | (apply get_ne; focus (simp only [List.length_set, List.length_append, List.length_cons, List.length_nil]; omega))); done) (by rfl)) rfl ?_ | refine p1L (D_loadBA rfl (by (repeat first | assumption | exact get_last | (refine get_last2 ?_; focus (simp; done)) | apply get_set | apply get_app | (apply get_ne; focus omega) | (apply get_ne; focus (simp only [List.length_set, List.length_append, List.length_cons, List.length_nil]; omega))); done) (by rfl)) rfl ?_)
        | refine Le.bool ?_
        | refine Le.int ?_
        | refine Le.str ?_
      · rename_i hpl
        exact ⟨rfl, i + 1, by omega, by omega, ⟨rfl, by rw [flatMap_take _ _ _ hi', escL1 hpl]; rfl, ieq (wsucc i (by omega)), trivial⟩, rfl⟩
      · rename_i hpl
        exact ⟨rfl, i + 1, by omega, by omega, ⟨rfl, by rw [flatMap_take _ _ _ hi', escL2 hpl]; exact congrArg (fun l => some (str l)) (List.append_assoc _ [92] (hexL _)), ieq (wsucc i (by omega)), trivial⟩, rfl⟩
      all_goals exact absurd hi' (by omega)
    · repeat' first
        | (apply p1 (hd := rfl); case hop => first | (apply D_move; rfl) | (apply D_assign; rfl) | (apply D_cat; rfl; rfl; focus (first | (show 1 + _ ≤ _; omega) | (rw [List.length_append]; show 1 + _ + 1 ≤ _; omega))) | (apply D_load1; rfl) | (apply D_fld; rfl) | (apply D_int; rfl; rfl; rfl) | (apply D_len_str; rfl) | (apply D_str; rfl; rfl; rfl) | (apply D_not; rfl) | (apply D_loadW; rfl; rfl) | (apply D_loadA; rfl; rfl) | (apply D_box; rfl; rfl) | (apply D_idxSn; rfl; rfl; (first | omega | (simp; done))) | (apply D_idxS; rfl; rfl; omega; (first | omega | (simp; done) | (simp; omega))) | (apply D_slS; rfl; rfl; rfl; all_goals first | omega | ((repeat rw [w64 _ (by omega) (by omega)]); omega) | decide) | (apply D_slSh; rfl; rfl; all_goals first | omega | ((repeat rw [w64 _ (by omega) (by omega)]); omega) | decide) | (apply D_slSl; rfl; rfl; all_goals first | omega | ((repeat rw [w64 _ (by omega) (by omega)]); omega) | decide) | exact D_fldB rfl | (apply D_cat; rfl; rfl; all_goals first | omega | ((repeat rw [w64 _ (by omega) (by omega)]); omega) | decide))
        | refine W_seq ?_
        | refine W_region ?_
        | (refine idC ?_; first | refine c1 rfl ?_ | refine c0 rfl ?_ | refine cs rfl (fun _ => ?_) (fun _ => ?_))
        | refine WL_nil ?_
        | refine tn ?_
        | refine tr ?_
        | refine br ?_
        | refine bn ?_
        | refine te ?_
        | (refine idB ?_; first | refine bh rfl ?_ | refine bm rfl ?_)
        | refine W_skip ?_
        | refine W_block ?_
        | refine W_exit ?_
        | refine W_ret ?_
        | refine W_label ?_
        | refine W_scope ?_
        | refine sn ?_
        | refine sr ?_
        | refine se ?_
        | (refine idR ?_; first | refine ret2 rfl rfl rfl rfl ?_ ?_ | refine rL2 rfl (by first | exact trivial | exact ⟨rfl, trivial⟩) (by first | exact ResO.tmp rfl | exact ResO.cellBA rfl rfl rfl | exact ResO.cellB1 rfl rfl rfl | exact ResO.cellEA rfl rfl | exact ResO.cellE1 rfl) (by first | exact ResO.tmp rfl | exact ResO.cellBA rfl rfl rfl | exact ResO.cellB1 rfl rfl rfl | exact ResO.cellEA rfl rfl | exact ResO.cellE1 rfl) ?_ ?_)
        | (refine idLd ?_; first | refine p1L (D_loadB1 rfl rfl rfl) rfl ?_ | refine p1L (D_loadBA rfl rfl rfl) rfl ?_ | refine p1L (D_loadB1 rfl (by (repeat first | assumption | exact get_last | (refine get_last2 ?_; focus (simp; done)) | apply get_set | apply get_app | (apply get_ne; focus omega) | (apply get_ne; focus (simp only [List.length_set, List.length_append, List.length_cons, List.length_nil]; omega))); done) (by rfl)) rfl ?_ | refine p1L (D_loadBA rfl (by (repeat first | assumption | exact get_last | (refine get_last2 ?_; focus (simp; done)) | apply get_set | apply get_app | (apply get_ne; focus omega) | (apply get_ne; focus (simp only [List.length_set, List.length_append, List.length_cons, List.length_nil]; omega))); done) (by rfl)) rfl ?_)
        | refine Le.bool ?_
        | refine Le.int ?_
        | refine Le.str ?_
      · exact absurd hi' (by omega)
      · rw [tL_t hm, List.take_of_length_le (by omega)]; simp [textL, *]
      · rw [tE_t hm]
end Go.Proofs
