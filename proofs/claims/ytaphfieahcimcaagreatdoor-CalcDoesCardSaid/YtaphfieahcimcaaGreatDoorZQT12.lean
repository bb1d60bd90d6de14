/- Contracts of the reference's readers of values' texts: digits, numbers. -/
import Derived.Test.YtaphfieahcimcaaGreatDoorZQT11
import Derived.Test.YtaphfieahcimcaaGreatDoorZQT5
namespace Go.Proofs
open Go.AL
attribute [local irreducible] Go.AL.W Go.AL.WL Go.AL.WD Go.AL.POp Go.AL.PPOp Go.AL.POpS Go.AL.PC Go.AL.AC Go.AL.YW Go.AL.Ret Go.AL.Le Go.AL.thn Go.AL.inBlk Go.AL.scp

theorem nib_lo {c : UInt8} (h : digP c) : nibI c = (c.toNat : Int) - 48 := by
  unfold digP at h
  unfold nibI nib; rw [if_pos (by omega)]; simp only; omega
theorem nib_hi {c : UInt8} (h1 : 97 ≤ (c.toNat : Int)) (h2 : (c.toNat : Int) ≤ 102) : nibI c = (c.toNat : Int) - 87 := by
  unfold nibI nib; rw [if_neg (by omega), if_pos (by omega)]; simp only; omega
theorem nib_no {c : UInt8} (h : ¬ digP c) (h1 : ¬ (97 ≤ (c.toNat : Int) ∧ (c.toNat : Int) ≤ 102)) : nibI c = -1 := by
  unfold digP at h
  unfold nibI nib; rw [if_neg (by omega), if_neg (by omega)]
theorem w8i (z : Int) (h0 : 0 ≤ z) (h : z < 256) : IntKind.u8.wrap z = z := by
  obtain ⟨m, rfl⟩ := Int.eq_ofNat_of_zero_le h0
  exact w8 m (by omega)
set_option maxHeartbeats 4000000 in
theorem nibble1_pc [GlobF Tryz.prog] (c : UInt8) : PC Tryz.prog 69 [.sc (.int .u8 c.toNat)] (.sc (.int .i64 (nibI c))) := by
  have hb := c.toNat_lt
  refine PC.of_body Tryz.func69 Tryz.ntmps69 rfl rfl rfl ?_
  repeat' first
    | (apply p1 (hd := rfl); case hop => first | (apply D_move; rfl) | (apply D_assign; rfl) | (apply D_pc (digit_pc _); rfl; exact .same rfl .nil) | (apply D_pickT; rfl; rfl) | (apply D_pickF; rfl; rfl) | (apply D_int; rfl; rfl; rfl) | (apply D_conv_int; rfl))
    | refine W_seq ?_
    | refine W_region ?_
    | (refine idC ?_; first | refine c1 rfl ?_ | refine c0 rfl ?_ | refine cs rfl (fun _ => ?_) (fun _ => ?_))
    | refine WL_nil ?_
    | (refine idG ?_; first | refine g0t rfl rfl rfl ?_ | refine g0f rfl rfl rfl ?_ | refine g0u rfl rfl rfl ?_ | refine gr rfl rfl ?_ | refine gs rfl rfl (fun _ => ?_) (fun _ => ?_) | refine grn rfl rfl ?_)
    | refine tn ?_
    | refine tr ?_
    | refine br ?_
    | refine bn ?_
    | refine te ?_
    | (refine idB ?_; first | refine bh rfl ?_ | refine bm rfl ?_)
    | refine W_skip ?_
    | refine W_block ?_
    | refine W_exit ?_
    | refine W_ret ?_
    | refine W_label ?_
    | refine W_scope ?_
    | refine sn ?_
    | refine sr ?_
    | refine se ?_
    | (refine idR ?_; first | refine ret1 rfl rfl rfl ?_ | refine rL1 rfl (by first | exact trivial | exact ⟨rfl, trivial⟩) (by first | exact ResO.tmp rfl | exact ResO.cellBA rfl rfl rfl | exact ResO.cellB1 rfl rfl rfl | exact ResO.cellEA rfl rfl | exact ResO.cellE1 rfl) ?_)
    | refine Le.bool ?_
    | refine Le.int ?_
    | refine Le.str ?_
  · rename_i h
    have h' := h
    unfold digP at h'
    rw [nib_lo h, w8i _ (by omega) (by omega), w64 _ (by omega) (by omega)]
  · rename_i h h1 h2
    rw [nib_hi h1 h2, w8i _ (by omega) (by omega), w64 ((c.toNat : Int) - 97) (by omega) (by omega), w64 _ (by omega) (by omega)]; omega
  · rename_i h h1 h2
    rw [nib_no h (by omega)]
  · rename_i h h1
    rw [nib_no h (by omega)]
theorem nDigits_le19 (u : Nat) (h : u < 10000000000000000000) : Lib.nDigits u ≤ 19 := by
  rcases Nat.eq_zero_or_pos u with rfl | h1
  · rw [Lib.nDigits_small (by omega)]; omega
  · have := Lib.numDigits_eq u h1 (by omega)
    obtain ⟨h2, h3⟩ := this
    rcases Nat.lt_or_ge (Lib.l10 (Lib.bitLen u)) 19 with h4 | h4
    · split at h2 <;> omega
    · have e : Lib.l10 (Lib.bitLen u) = 19 := by omega
      rw [e, if_neg (by omega)] at h2; omega
theorem num_shape {s : List UInt8} {n : Int} (h : NumP s n) : (∃ u : Nat, n = u ∧ s = Lib.decDigits u) ∨ (∃ u : Nat, n = -(u : Int) ∧ s = 45 :: Lib.decDigits u) := by
  obtain ⟨h0, h1, h⟩ := h
  by_cases hneg : n < 0
  · obtain ⟨u, rfl⟩ : ∃ u : Nat, n = -(u : Int) := ⟨n.natAbs, by omega⟩
    rw [Lib.itoa_neg u (by omega)] at h
    exact .inr ⟨u, rfl, h.symm⟩
  · obtain ⟨u, rfl⟩ : ∃ u : Nat, n = u := ⟨n.toNat, by omega⟩
    rw [Lib.itoa_nonneg] at h
    exact .inl ⟨u, rfl, h.symm⟩
theorem num_bad {s d : List UInt8} (hd : s = d ∧ s.head? ≠ some 45 ∨ s = 45 :: d) (hb : d.length < 1 ∨ 19 < d.length ∨ ∃ (i : Nat) (h : i < d.length), ¬ digP d[i]) : pB s = false := by
  have key : ∀ u : Nat, u ≤ 9223372036854775808 → d = Lib.decDigits u → False := fun u hu e => by
    subst e
    rcases hb with hb | hb | ⟨i, hi, hb⟩
    · have := dec_ne u; exact this (List.length_eq_zero_iff.1 (by omega))
    · rw [Lib.decDigits_length] at hb; have := nDigits_le19 u (by omega); omega
    · have := dec_digs u _ (List.getElem_mem hi)
      unfold isD at this; unfold digP at hb; omega
  cases hp : pB s with
  | false => rfl
  | true =>
    exfalso
    obtain ⟨n, hn⟩ := (pB_iff s).1 hp
    have h0 := hn.1
    have h1 := hn.2.1
    rcases num_shape hn with ⟨u, rfl, e⟩ | ⟨u, rfl, e⟩
    · rcases hd with ⟨rfl, _⟩ | rfl
      · exact key u (by omega) e
      · exact absurd (dec_digs u 45 (by rw [← e]; exact .head _)) (by unfold isD; decide)
    · rcases hd with ⟨rfl, hh⟩ | rfl
      · rw [e] at hh; exact hh rfl
      · injection e with _ e
        exact key u (by omega) e
theorem num_val {s d : List UInt8} {m : Int} {sg : Int} (hd : (s = d ∧ s.head? ≠ some 45 ∧ sg = 1) ∨ (s = 45 :: d ∧ sg = -1)) (hm : m = IntKind.i64.wrap (sg * (dval 0 d : Int))) :
    (-9223372036854775808 ≤ m ∧ m ≤ 9223372036854775807) ∧ (sEq (Lib.itoa m) s = pB s) ∧ (pB s = true → m = pN s) := by
  have hr : -9223372036854775808 ≤ m ∧ m ≤ 9223372036854775807 := by
    subst hm
    simp [IntKind.wrap, IntKind.signed, IntKind.bits]; omega
  have hv : pB s = true → m = pN s := fun hp => by
    obtain ⟨n, hn⟩ := (pB_iff s).1 hp
    rw [pN_of hn]
    have h0 := hn.1
    have h1 := hn.2.1
    rcases num_shape hn with ⟨u, rfl, e⟩ | ⟨u, rfl, e⟩
    · rcases hd with ⟨rfl, _, rfl⟩ | ⟨rfl, _⟩
      · rw [hm, e, dec_val, w64 _ (by omega) (by omega)]; omega
      · exact absurd (dec_digs u 45 (by rw [← e]; exact .head _)) (by unfold isD; decide)
    · rcases hd with ⟨rfl, hh, _⟩ | ⟨rfl, rfl⟩
      · rw [e] at hh; exact absurd rfl hh
      · injection e with _ e
        rw [hm, e, dec_val, w64 _ (by omega) (by omega)]; omega
  refine ⟨hr, ?_, hv⟩
  rw [Bool.eq_iff_iff, sEq_t]
  constructor
  · intro e; exact (pB_iff s).2 ⟨m, hr.1, hr.2, e⟩
  · intro hp
    obtain ⟨n, hn⟩ := (pB_iff s).1 hp
    rw [hv hp, pN_of hn]; exact hn.2.2
theorem wrap_step (x : Int) (c : Int) : IntKind.i64.wrap (IntKind.i64.wrap (IntKind.i64.wrap x * 10) + c) = IntKind.i64.wrap (x * 10 + c) := by
  simp [IntKind.wrap, IntKind.signed, IntKind.bits]; omega
theorem i64_rng (z : Int) : -9223372036854775808 ≤ IntKind.i64.wrap z ∧ IntKind.i64.wrap z ≤ 9223372036854775807 := by
  simp [IntKind.wrap, IntKind.signed, IntKind.bits]; omega
def badD (d : List UInt8) : Prop := d.length < 1 ∨ 19 < d.length ∨ ∃ (i : Nat) (h : i < d.length), ¬ digP d[i]
open Classical in
noncomputable def mOf (d : List UInt8) (sg : Int) : Int := if badD d then 0 else IntKind.i64.wrap (sg * (dval 0 d : Int))
theorem mOf_bad {d : List UInt8} {sg : Int} (h : badD d) : 0 = mOf d sg := by unfold mOf; rw [if_pos h]
theorem dval_take {d : List UInt8} {i : Nat} (h : i < d.length) (hd : digP d[i]) : ((dval 0 (d.take (i + 1)) : Nat) : Int) = (dval 0 (d.take i) : Nat) * 10 + ((d[i].toNat : Int) - 48) := by
  rw [List.take_succ_eq_append_getElem h, dval_snoc]
  unfold digP at hd
  omega
theorem num_end {s d : List UInt8} {i : Nat} {sg : Int} (hd : (s = d ∧ s.head? ≠ some 45 ∧ sg = 1) ∨ (s = 45 :: d ∧ sg = -1)) (h1 : 1 ≤ d.length) (h2 : d.length ≤ 19) (hz : ∀ (j : Nat) (h : j < d.length), j < i → digP d[j]) (hi : d.length ≤ i) :
    IntKind.i64.wrap (sg * (dval 0 (d.take i) : Int)) = mOf d sg ∧ sEq (Lib.itoa (IntKind.i64.wrap (sg * (dval 0 (d.take i) : Int)))) s = pB s := by
  have hg : ¬ badD d := by
    rintro (h | h | ⟨j, hj, h⟩)
    · omega
    · omega
    · exact h (hz j hj (by omega))
  rw [List.take_of_length_le hi]
  exact ⟨by unfold mOf; rw [if_neg hg], (num_val hd rfl).2.1⟩
theorem num_badS {s d : List UInt8} {sg : Int} (hd : (s = d ∧ s.head? ≠ some 45 ∧ sg = 1) ∨ (s = 45 :: d ∧ sg = -1)) (h : badD d) : false = pB s :=
  (num_bad (hd.imp (fun h => ⟨h.1, h.2.1⟩) (fun h => h.1)) h).symm
theorem mOf_ok {s d : List UInt8} {sg : Int} (hd : (s = d ∧ s.head? ≠ some 45 ∧ sg = 1) ∨ (s = 45 :: d ∧ sg = -1)) (hp : pB s = true) : mOf d sg = pN s := by
  have hg : ¬ badD d := fun h => by have := num_badS hd h; rw [hp] at this; cases this
  unfold mOf; rw [if_neg hg]
  exact (num_val hd rfl).2.2 hp
theorem digw {c : UInt8} (h : digP c) : IntKind.i64.wrap (IntKind.u8.wrap ((c.toNat : Int) - 48)) = (c.toNat : Int) - 48 := by
  unfold digP at h
  rw [w8i _ (by omega) (by omega), w64 _ (by omega) (by omega)]
theorem stepM {c : UInt8} {x : Int} (h : digP c) : IntKind.i64.wrap (IntKind.i64.wrap (IntKind.i64.wrap x * 10) - IntKind.i64.wrap (IntKind.u8.wrap ((c.toNat : Int) - 48))) = IntKind.i64.wrap (x * 10 + -((c.toNat : Int) - 48)) := by
  rw [digw h, Int.sub_eq_add_neg, wrap_step]
theorem stepP {c : UInt8} {x : Int} (h : digP c) : IntKind.i64.wrap (IntKind.i64.wrap (IntKind.i64.wrap x * 10) + IntKind.i64.wrap (IntKind.u8.wrap ((c.toNat : Int) - 48))) = IntKind.i64.wrap (x * 10 + ((c.toNat : Int) - 48)) := by
  rw [digw h, wrap_step]
theorem dig_all {d : List UInt8} {i : Nat} (h : i < d.length) (hz : ∀ (j : Nat) (h : j < d.length), j < i → digP d[j]) (hd : digP d[i]) : ∀ (j : Nat) (h : j < d.length), j < i + 1 → digP d[j] := fun j hj hji => by
  by_cases e : j = i
  · subst e; exact hd
  · exact hz j hj (by omega)
set_option maxHeartbeats 16000000 in
theorem numberA_pc [GlobF Tryz.prog] (r : List UInt8) (hs : r.length < 281474976710656) : PC Tryz.prog 53 [str (45 :: r)] (.tu [.sc (.int .i64 (mOf r (-1))), .sc (.bool (pB (45 :: r)))]) := by
  have hd : (45 :: r = r ∧ (45 :: r).head? ≠ some 45 ∧ (-1 : Int) = 1) ∨ ((45 : UInt8) :: r = 45 :: r ∧ (-1 : Int) = -1) := .inr ⟨rfl, rfl⟩
  refine PC.of_body Tryz.func53 Tryz.ntmps53 rfl rfl rfl ?_
  repeat' first
    | (apply p1 (hd := rfl); case hop => first | (apply D_move; rfl) | (apply D_assign; rfl) | (refine D_eqv (D_slSl (l := 45 :: r) (i := 1) rfl rfl (by decide) ?_) (v' := str r) rfl; rw [List.length_cons]; omega) | (apply D_pickT; rfl; rfl) | (apply D_pickF; rfl; rfl) | (apply D_int; rfl; rfl; rfl) | (apply D_len_str; rfl) | (apply D_str; rfl; rfl; rfl) | (apply D_not; rfl) | (apply D_conv_int; rfl) | (apply D_idxSn; rfl; rfl; (first | omega | (simp; done))) | (apply D_idxS; rfl; rfl; omega; (first | omega | (simp; done) | (simp; omega))) | (apply D_slS; rfl; rfl; rfl; all_goals first | omega | ((repeat rw [w64 _ (by omega) (by omega)]); omega) | decide) | (apply D_slSh; rfl; rfl; all_goals first | omega | ((repeat rw [w64 _ (by omega) (by omega)]); omega) | decide) | (apply D_slSl; rfl; rfl; all_goals first | omega | ((repeat rw [w64 _ (by omega) (by omega)]); omega) | decide))
    | refine W_seq ?_
    | refine W_region ?_
    | (refine idC ?_; first | refine c1 rfl ?_ | refine c0 rfl ?_ | refine cs rfl (fun _ => ?_) (fun _ => ?_))
    | refine WL_nil ?_
    | (refine idG ?_; first | refine g0t rfl rfl rfl ?_ | refine g0f rfl rfl rfl ?_ | refine g0u rfl rfl rfl ?_ | refine gr rfl rfl ?_ | refine gs rfl rfl (fun _ => ?_) (fun _ => ?_) | refine grn rfl rfl ?_)
    | refine tn ?_
    | refine tr ?_
    | refine br ?_
    | refine bn ?_
    | refine te ?_
    | (refine idB ?_; first | refine bh rfl ?_ | refine bm rfl ?_)
    | refine W_skip ?_
    | refine W_block ?_
    | refine W_exit ?_
    | refine W_ret ?_
    | refine W_label ?_
    | refine W_scope ?_
    | refine sn ?_
    | refine sr ?_
    | refine se ?_
    | (refine idR ?_; first | refine ret2 rfl rfl rfl rfl ?_ ?_ | refine rL2 rfl (by first | exact trivial | exact ⟨rfl, trivial⟩) (by first | exact ResO.tmp rfl | exact ResO.cellBA rfl rfl rfl | exact ResO.cellB1 rfl rfl rfl | exact ResO.cellEA rfl rfl | exact ResO.cellE1 rfl) (by first | exact ResO.tmp rfl | exact ResO.cellBA rfl rfl rfl | exact ResO.cellB1 rfl rfl rfl | exact ResO.cellEA rfl rfl | exact ResO.cellE1 rfl) ?_ ?_)
    | refine Le.bool ?_
    | refine Le.int ?_
    | refine Le.str ?_
  all_goals first
    | exact absurd (show (((45 :: r)[0]'(by simp)).toNat : Int) = 45 from rfl) (by assumption)
    | exact mOf_bad (.inl (by omega))
    | exact num_badS hd (.inl (by omega))
    | exact mOf_bad (.inr (.inl (by omega)))
    | exact num_badS hd (.inr (.inl (by omega)))
    | (exfalso; rename_i hh; rw [List.length_cons] at hh; omega)
    | skip
  rename_i g1 g2
  refine W_loopL (X := Nat) (fun i => [(0, str (45 :: r)), (4, str r), (5, .sc (.int .i64 (IntKind.i64.wrap (-1 * (dval 0 (r.take i) : Int))))), (6, .sc (.int .i64 (i : Int)))]) (fun _ => [])
    (fun i => i ≤ r.length ∧ ∀ (j : Nat) (h : j < r.length), j < i → digP r[j]) (fun i => r.length - i) 0 ⟨Nat.zero_le _, fun j h h' => absurd h' (Nat.not_lt_zero _)⟩ ⟨rfl, rfl, rfl, rfl, trivial⟩ rfl ?_
  rintro i ⟨hi, hz⟩
  obtain ⟨e0, e1⟩ := i64_rng (-1 * (dval 0 (r.take i) : Int))
  repeat' first
    | (apply p1 (hd := rfl); case hop => first | (apply D_move; rfl) | (apply D_assign; rfl) | (apply D_pc (digit_pc _); rfl; exact .same rfl .nil) | (apply D_pc (digits_pc _ e0 e1); rfl; exact .same rfl .nil) | (apply D_pickT; rfl; rfl) | (apply D_pickF; rfl; rfl) | (apply D_int; rfl; rfl; rfl) | (apply D_len_str; rfl) | (apply D_str; rfl; rfl; rfl) | (apply D_not; rfl) | (apply D_conv_int; rfl) | (apply D_idxSn; rfl; rfl; (first | omega | (simp; done))) | (apply D_idxS; rfl; rfl; omega; (first | omega | (simp; done) | (simp; omega))) | (apply D_slS; rfl; rfl; rfl; all_goals first | omega | ((repeat rw [w64 _ (by omega) (by omega)]); omega) | decide) | (apply D_slSh; rfl; rfl; all_goals first | omega | ((repeat rw [w64 _ (by omega) (by omega)]); omega) | decide) | (apply D_slSl; rfl; rfl; all_goals first | omega | ((repeat rw [w64 _ (by omega) (by omega)]); omega) | decide))
    | refine W_seq ?_
    | refine W_region ?_
    | (refine idC ?_; first | refine c1 rfl ?_ | refine c0 rfl ?_ | refine cs rfl (fun _ => ?_) (fun _ => ?_))
    | refine WL_nil ?_
    | (refine idG ?_; first | refine g0t rfl rfl rfl ?_ | refine g0f rfl rfl rfl ?_ | refine g0u rfl rfl rfl ?_ | refine gr rfl rfl ?_ | refine gs rfl rfl (fun _ => ?_) (fun _ => ?_) | refine grn rfl rfl ?_)
    | refine tn ?_
    | refine tr ?_
    | refine br ?_
    | refine bn ?_
    | refine te ?_
    | (refine idB ?_; first | refine bh rfl ?_ | refine bm rfl ?_)
    | refine W_skip ?_
    | refine W_block ?_
    | refine W_exit ?_
    | refine W_ret ?_
    | refine W_label ?_
    | refine W_scope ?_
    | refine sn ?_
    | refine sr ?_
    | refine se ?_
    | (refine idR ?_; first | refine ret2 rfl rfl rfl rfl ?_ ?_ | refine rL2 rfl (by first | exact trivial | exact ⟨rfl, trivial⟩) (by first | exact ResO.tmp rfl | exact ResO.cellBA rfl rfl rfl | exact ResO.cellB1 rfl rfl rfl | exact ResO.cellEA rfl rfl | exact ResO.cellE1 rfl) (by first | exact ResO.tmp rfl | exact ResO.cellBA rfl rfl rfl | exact ResO.cellB1 rfl rfl rfl | exact ResO.cellEA rfl rfl | exact ResO.cellE1 rfl) ?_ ?_)
    | refine Le.bool ?_
    | refine Le.int ?_
    | refine Le.str ?_
  · rename_i h1 h2
    exact mOf_bad (.inr (.inr ⟨i, by omega, h2⟩))
  · rename_i h1 h2
    exact num_badS hd (.inr (.inr ⟨i, by omega, h2⟩))
  · exfalso; rename_i hh; rw [List.length_cons] at hh; omega
  · rename_i h1 h2 _
    have h1' : i < r.length := by omega
    exact ⟨rfl, i + 1, ⟨by omega, dig_all h1' hz h2⟩, by omega, ⟨rfl, rfl, ieq (by rw [stepM h2, dval_take h1' h2]; congr 1; omega), ieq (wsucc i (by omega)), trivial⟩, rfl⟩
  · exact (num_end hd (by omega) (by omega) hz (by omega)).1
  · exact (num_end hd (by omega) (by omega) hz (by omega)).2

theorem hd_no {s : List UInt8} (h : s.head? ≠ some 45) (h0 : 0 < s.length) : (s[0].toNat : Int) ≠ 45 := by
  cases s with
  | nil => simp at h0
  | cons c r =>
    intro e
    have e' : (c.toNat : Int) = 45 := e
    have : c = 45 := UInt8.toNat_inj.1 (by show c.toNat = 45; omega)
    rw [this] at h; exact h rfl
set_option maxHeartbeats 16000000 in
theorem numberB_pc [GlobF Tryz.prog] (r : List UInt8) (h45 : r.head? ≠ some 45) (hs : r.length < 281474976710656) : PC Tryz.prog 53 [str r] (.tu [.sc (.int .i64 (mOf r 1)), .sc (.bool (pB r))]) := by
  have hd : (r = r ∧ r.head? ≠ some 45 ∧ (1 : Int) = 1) ∨ (r = 45 :: r ∧ (1 : Int) = -1) := .inl ⟨rfl, h45, rfl⟩
  refine PC.of_body Tryz.func53 Tryz.ntmps53 rfl rfl rfl ?_
  repeat' first
    | (apply p1 (hd := rfl); case hop => first | (apply D_move; rfl) | (apply D_assign; rfl) | (apply D_pickT; rfl; rfl) | (apply D_pickF; rfl; rfl) | (apply D_int; rfl; rfl; rfl) | (apply D_len_str; rfl) | (apply D_str; rfl; rfl; rfl) | (apply D_not; rfl) | (apply D_conv_int; rfl) | (apply D_idxSn; rfl; rfl; (first | omega | (simp; done))) | (apply D_idxS; rfl; rfl; omega; (first | omega | (simp; done) | (simp; omega))) | (apply D_slS; rfl; rfl; rfl; all_goals first | omega | ((repeat rw [w64 _ (by omega) (by omega)]); omega) | decide) | (apply D_slSh; rfl; rfl; all_goals first | omega | ((repeat rw [w64 _ (by omega) (by omega)]); omega) | decide) | (apply D_slSl; rfl; rfl; all_goals first | omega | ((repeat rw [w64 _ (by omega) (by omega)]); omega) | decide))
    | refine W_seq ?_
    | refine W_region ?_
    | (refine idC ?_; first | refine c1 rfl ?_ | refine c0 rfl ?_ | refine cs rfl (fun _ => ?_) (fun _ => ?_))
    | refine WL_nil ?_
    | (refine idG ?_; first | refine g0t rfl rfl rfl ?_ | refine g0f rfl rfl rfl ?_ | refine g0u rfl rfl rfl ?_ | refine gr rfl rfl ?_ | refine gs rfl rfl (fun _ => ?_) (fun _ => ?_) | refine grn rfl rfl ?_)
    | refine tn ?_
    | refine tr ?_
    | refine br ?_
    | refine bn ?_
    | refine te ?_
    | (refine idB ?_; first | refine bh rfl ?_ | refine bm rfl ?_)
    | refine W_skip ?_
    | refine W_block ?_
    | refine W_exit ?_
    | refine W_ret ?_
    | refine W_label ?_
    | refine W_scope ?_
    | refine sn ?_
    | refine sr ?_
    | refine se ?_
    | (refine idR ?_; first | refine ret2 rfl rfl rfl rfl ?_ ?_ | refine rL2 rfl (by first | exact trivial | exact ⟨rfl, trivial⟩) (by first | exact ResO.tmp rfl | exact ResO.cellBA rfl rfl rfl | exact ResO.cellB1 rfl rfl rfl | exact ResO.cellEA rfl rfl | exact ResO.cellE1 rfl) (by first | exact ResO.tmp rfl | exact ResO.cellBA rfl rfl rfl | exact ResO.cellB1 rfl rfl rfl | exact ResO.cellEA rfl rfl | exact ResO.cellE1 rfl) ?_ ?_)
    | refine Le.bool ?_
    | refine Le.int ?_
    | refine Le.str ?_
  all_goals first
    | (exfalso; refine hd_no h45 (by omega) ?_; assumption)
    | exact mOf_bad (.inl (by omega))
    | exact num_badS hd (.inl (by omega))
    | exact mOf_bad (.inr (.inl (by omega)))
    | exact num_badS hd (.inr (.inl (by omega)))
    | (exfalso; omega)
    | skip
  rename_i g1 g2
  refine W_loopL (X := Nat) (fun i => [(0, str r), (4, str r), (5, .sc (.int .i64 (IntKind.i64.wrap (1 * (dval 0 (r.take i) : Int))))), (6, .sc (.int .i64 (i : Int)))]) (fun _ => [])
    (fun i => i ≤ r.length ∧ ∀ (j : Nat) (h : j < r.length), j < i → digP r[j]) (fun i => r.length - i) 0 ⟨Nat.zero_le _, fun j h h' => absurd h' (Nat.not_lt_zero _)⟩ ⟨rfl, rfl, rfl, rfl, trivial⟩ rfl ?_
  rintro i ⟨hi, hz⟩
  obtain ⟨e0, e1⟩ := i64_rng (1 * (dval 0 (r.take i) : Int))
  repeat' first
    | (apply p1 (hd := rfl); case hop => first | (apply D_move; rfl) | (apply D_assign; rfl) | (apply D_pc (digit_pc _); rfl; exact .same rfl .nil) | (apply D_pc (digits_pc _ e0 e1); rfl; exact .same rfl .nil) | (apply D_pickT; rfl; rfl) | (apply D_pickF; rfl; rfl) | (apply D_int; rfl; rfl; rfl) | (apply D_len_str; rfl) | (apply D_str; rfl; rfl; rfl) | (apply D_not; rfl) | (apply D_conv_int; rfl) | (apply D_idxSn; rfl; rfl; (first | omega | (simp; done))) | (apply D_idxS; rfl; rfl; omega; (first | omega | (simp; done) | (simp; omega))) | (apply D_slS; rfl; rfl; rfl; all_goals first | omega | ((repeat rw [w64 _ (by omega) (by omega)]); omega) | decide) | (apply D_slSh; rfl; rfl; all_goals first | omega | ((repeat rw [w64 _ (by omega) (by omega)]); omega) | decide) | (apply D_slSl; rfl; rfl; all_goals first | omega | ((repeat rw [w64 _ (by omega) (by omega)]); omega) | decide))
    | refine W_seq ?_
    | refine W_region ?_
    | (refine idC ?_; first | refine c1 rfl ?_ | refine c0 rfl ?_ | refine cs rfl (fun _ => ?_) (fun _ => ?_))
    | refine WL_nil ?_
    | (refine idG ?_; first | refine g0t rfl rfl rfl ?_ | refine g0f rfl rfl rfl ?_ | refine g0u rfl rfl rfl ?_ | refine gr rfl rfl ?_ | refine gs rfl rfl (fun _ => ?_) (fun _ => ?_) | refine grn rfl rfl ?_)
    | refine tn ?_
    | refine tr ?_
    | refine br ?_
    | refine bn ?_
    | refine te ?_
    | (refine idB ?_; first | refine bh rfl ?_ | refine bm rfl ?_)
    | refine W_skip ?_
    | refine W_block ?_
    | refine W_exit ?_
    | refine W_ret ?_
    | refine W_label ?_
    | refine W_scope ?_
    | refine sn ?_
    | refine sr ?_
    | refine se ?_
    | (refine idR ?_; first | refine ret2 rfl rfl rfl rfl ?_ ?_ | refine rL2 rfl (by first | exact trivial | exact ⟨rfl, trivial⟩) (by first | exact ResO.tmp rfl | exact ResO.cellBA rfl rfl rfl | exact ResO.cellB1 rfl rfl rfl | exact ResO.cellEA rfl rfl | exact ResO.cellE1 rfl) (by first | exact ResO.tmp rfl | exact ResO.cellBA rfl rfl rfl | exact ResO.cellB1 rfl rfl rfl | exact ResO.cellEA rfl rfl | exact ResO.cellE1 rfl) ?_ ?_)
    | refine Le.bool ?_
    | refine Le.int ?_
    | refine Le.str ?_
  · rename_i h1 h2
    exact mOf_bad (.inr (.inr ⟨i, by omega, h2⟩))
  · rename_i h1 h2
    exact num_badS hd (.inr (.inr ⟨i, by omega, h2⟩))
  · rename_i h1 h2 _
    have h1' : i < r.length := by omega
    exact ⟨rfl, i + 1, ⟨by omega, dig_all h1' hz h2⟩, by omega, ⟨rfl, rfl, ieq (by rw [stepP h2, dval_take h1' h2]; congr 1; omega), ieq (wsucc i (by omega)), trivial⟩, rfl⟩
  · exfalso; rename_i hh; exact hh rfl
  · exact (num_end hd (by omega) (by omega) hz (by omega)).1
  · exact (num_end hd (by omega) (by omega) hz (by omega)).2

theorem number1_pc [GlobF Tryz.prog] (s : List UInt8) (hs : s.length < 281474976710656) : ∃ m, PC Tryz.prog 53 [str s] (.tu [.sc (.int .i64 m), .sc (.bool (pB s))]) ∧ (pB s = true → m = pN s) := by
  by_cases h : s.head? = some 45
  · cases s with
    | nil => cases h
    | cons c r =>
      have : c = 45 := by simpa using h
      subst this
      exact ⟨_, numberA_pc r (by simp at hs; omega), fun hp => mOf_ok (.inr ⟨rfl, rfl⟩) hp⟩
  · exact ⟨_, numberB_pc s h hs, fun hp => mOf_ok (.inl ⟨rfl, h, rfl⟩) hp⟩
end Go.Proofs
