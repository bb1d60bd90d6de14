/- Contracts of keys' functions: numbers. -/
import Derived.Test.YtpfalehodcbnbaaAD1
namespace Go.Proofs
open Go.AL
attribute [local irreducible] Go.AL.W Go.AL.WL Go.AL.WD Go.AL.POp Go.AL.PPOp Go.AL.POpS Go.AL.PC Go.AL.AC Go.AL.YW Go.AL.Ret Go.AL.Le Go.AL.thn Go.AL.inBlk

/-- The last bytes of a number, the least one at the end. -/
def nb (V k : Nat) : UInt8 := UInt8.ofNat (V / 256 ^ k)
def lowb (V : Nat) : Nat → List UInt8
  | 0 => []
  | i + 1 => nb V i :: lowb V i
def num64 (n : Int) : Nat := ((n + 9223372036854775808) % 18446744073709551616).toNat
def num8 (n : Int) : List UInt8 := lowb (num64 n) 8
theorem lowb_len (V : Nat) : ∀ i, (lowb V i).length = i
  | 0 => rfl
  | i + 1 => by simp [lowb, lowb_len V i]
theorem num8_len (n : Int) : (num8 n).length = 8 := lowb_len _ _
theorem num64_lt (n : Int) : num64 n < 18446744073709551616 := by unfold num64; omega
theorem num64_i (n : Int) : (num64 n : Int) = (n + 9223372036854775808) % 18446744073709551616 := by unfold num64; omega

set_option maxHeartbeats 4000000 in
theorem num1_pc [GlobF Try.prog] (n : Int) : PC Try.prog 82 [.sc (.int .i64 n)] (.sl none 1 ((num8 n).map byteC)) := by
  refine PC.of_body Try.func82 Try.ntmps82 rfl rfl rfl ?_
  repeat' first
    | (apply p1 (hd := rfl); case hop => first | (apply D_move; rfl) | (apply D_assign; rfl) | (apply D_int; rfl; rfl; rfl) | (apply D_conv_int; rfl) | (apply D_lit; rfl; rfl; rfl; rfl) | (apply D_quo; rfl; rfl; first | omega | ((repeat rw [w64 _ (by omega) (by omega)]); omega) | decide) | (apply D_rem; rfl; rfl; first | omega | ((repeat rw [w64 _ (by omega) (by omega)]); omega) | decide))
    | refine W_seq ?_
    | refine W_region ?_
    | (refine idC ?_; first | refine c1 rfl ?_ | refine c0 rfl ?_ | refine cs rfl (fun _ => ?_) (fun _ => ?_))
    | refine WL_nil ?_
    | refine tn ?_
    | refine tr ?_
    | refine br ?_
    | refine bn ?_
    | refine te ?_
    | (refine idB ?_; first | refine bh rfl ?_ | refine bm rfl ?_)
    | refine W_skip ?_
    | refine W_block ?_
    | refine W_exit ?_
    | refine W_ret ?_
    | refine W_label ?_
    | refine W_scope ?_
    | refine sn ?_
    | refine sr ?_
    | refine se ?_
    | (refine idR ?_; first | refine ret1 rfl rfl rfl ?_ | refine rL1 rfl (by first | exact trivial | exact ⟨rfl, trivial⟩) (by first | exact ResO.tmp rfl | exact ResO.cellBA rfl rfl rfl | exact ResO.cellB1 rfl rfl rfl | exact ResO.cellEA rfl rfl | exact ResO.cellE1 rfl) ?_)
    | refine Le.bool ?_
    | refine Le.int ?_
    | refine Le.str ?_
    | (refine idAp ?_; refine m_app rfl rfl (by first | rfl | assumption | exact get_set (by assumption) | exact get_set (get_set (by assumption)) | exact get_set (get_set (get_set (by assumption))) | ((repeat first | assumption | exact get_last | (refine get_last2 ?_; focus (simp; done)) | apply get_set | apply get_app | (apply get_ne; focus omega)); done)) ?_ rfl rfl ?_ ?_ rfl ?_; (first | rfl | focus (simp only [List.length_map, List.length_append, List.length_cons, List.length_nil]; omega) | focus (simp; done) | focus (simp; omega)); (first | focus (simp only [List.length_map, List.length_append, List.length_cons, List.length_nil]; omega) | focus (simp; done) | focus (simp; omega)); (first | focus (simp only [List.length_map, List.length_append, List.length_cons, List.length_nil]; omega) | focus (simp; done) | focus (simp; omega)))
    | (refine idAp ?_; refine m_appB rfl rfl rfl (by first | rfl | assumption | exact get_set (by assumption) | exact get_set (get_set (by assumption)) | exact get_set (get_set (get_set (by assumption))) | ((repeat first | assumption | exact get_last | (refine get_last2 ?_; focus (simp; done)) | apply get_set | apply get_app | (apply get_ne; focus omega)); done)) ?_ rfl rfl ?_ ?_ rfl ?_; (first | rfl | focus (simp only [List.length_map, List.length_append, List.length_cons, List.length_nil]; omega) | focus (simp; done) | focus (simp; omega)); (first | focus (simp only [List.length_map, List.length_append, List.length_cons, List.length_nil]; omega) | focus (simp; done) | focus (simp; omega)); (first | focus (simp only [List.length_map, List.length_append, List.length_cons, List.length_nil]; omega) | focus (simp; done) | focus (simp; omega)))
  refine W_adopt 4 1 5 rfl ?_
  have h0 : IntKind.u64.wrap (IntKind.u64.wrap n + 9223372036854775808) = (num64 n : Int) := by
    rw [num64_i]
    simp only [IntKind.wrap, IntKind.bits, IntKind.signed, Bool.false_and, Bool.false_eq_true, if_false]
    omega
  have hV := num64_lt n
  unfold num8
  generalize hN : num64 n = V at *
  refine W_loopR (X := Nat) (fun i => [(3, .sc (.int .u64 ((V / 256 ^ i : Nat) : Int))), (4, .sl (some 0) 1 ((lowb V i).map byteC)), (5, .sc (.int .i64 (i : Int)))]) (fun i => [.tail i 1 5])
    (fun i => i ≤ 8) (fun i => 8 - i) 0 (by omega) ⟨ieq (by rw [h0]; simp), rfl, rfl, trivial⟩ rfl ?_
  intro i hi
  have hl := lowb_len V i
  repeat' first
    | refine m_lit (d := 16) rfl rfl rfl rfl rfl rfl ?_
    | (apply p1 (hd := rfl); case hop => first | (apply D_move; rfl) | (apply D_assign; rfl) | (apply D_int; rfl; rfl; rfl) | (apply D_conv_int; rfl) | (apply D_lit; rfl; rfl; rfl; rfl) | (apply D_quo; rfl; rfl; first | omega | ((repeat rw [w64 _ (by omega) (by omega)]); omega) | decide) | (apply D_rem; rfl; rfl; first | omega | ((repeat rw [w64 _ (by omega) (by omega)]); omega) | decide))
    | refine W_seq ?_
    | refine W_region ?_
    | (refine idC ?_; first | refine c1 rfl ?_ | refine c0 rfl ?_ | refine cs rfl (fun _ => ?_) (fun _ => ?_))
    | refine WL_nil ?_
    | refine tn ?_
    | refine tr ?_
    | refine br ?_
    | refine bn ?_
    | refine te ?_
    | (refine idB ?_; first | refine bh rfl ?_ | refine bm rfl ?_)
    | refine W_skip ?_
    | refine W_block ?_
    | refine W_exit ?_
    | refine W_ret ?_
    | refine W_label ?_
    | refine W_scope ?_
    | refine sn ?_
    | refine sr ?_
    | refine se ?_
    | (refine idR ?_; first | refine ret1 rfl rfl rfl ?_ | refine rL1 rfl (by first | exact trivial | exact ⟨rfl, trivial⟩) (by first | exact ResO.tmp rfl | exact ResO.cellBA rfl rfl rfl | exact ResO.cellB1 rfl rfl rfl | exact ResO.cellEA rfl rfl | exact ResO.cellE1 rfl) ?_)
    | refine Le.bool ?_
    | refine Le.int ?_
    | refine Le.str ?_
    | (refine idAp ?_; refine m_app rfl rfl (by first | rfl | assumption | exact get_set (by assumption) | exact get_set (get_set (by assumption)) | exact get_set (get_set (get_set (by assumption))) | ((repeat first | assumption | exact get_last | (refine get_last2 ?_; focus (simp; done)) | apply get_set | apply get_app | (apply get_ne; focus omega)); done)) ?_ rfl rfl ?_ ?_ rfl ?_; (first | rfl | focus (simp only [List.length_map, List.length_append, List.length_cons, List.length_nil]; omega) | focus (simp; done) | focus (simp; omega)); (first | focus (simp only [List.length_map, List.length_append, List.length_cons, List.length_nil]; omega) | focus (simp; done) | focus (simp; omega)); (first | focus (simp only [List.length_map, List.length_append, List.length_cons, List.length_nil]; omega) | focus (simp; done) | focus (simp; omega)))
    | (refine idAp ?_; refine m_appB rfl rfl rfl (by first | rfl | assumption | exact get_set (by assumption) | exact get_set (get_set (by assumption)) | exact get_set (get_set (get_set (by assumption))) | ((repeat first | assumption | exact get_last | (refine get_last2 ?_; focus (simp; done)) | apply get_set | apply get_app | (apply get_ne; focus omega)); done)) ?_ rfl rfl ?_ ?_ rfl ?_; (first | rfl | focus (simp only [List.length_map, List.length_append, List.length_cons, List.length_nil]; omega) | focus (simp; done) | focus (simp; omega)); (first | focus (simp only [List.length_map, List.length_append, List.length_cons, List.length_nil]; omega) | focus (simp; done) | focus (simp; omega)); (first | focus (simp only [List.length_map, List.length_append, List.length_cons, List.length_nil]; omega) | focus (simp; done) | focus (simp; omega)))
  · rename_i hlt
    refine ⟨rfl, i + 1, by omega, by omega, [1], ?_⟩
    have hq : V / 256 ^ i < 18446744073709551616 := Nat.lt_of_le_of_lt (Nat.div_le_self _ _) hV
    refine ⟨by decide, fun r hr => absurd hr (Nat.not_lt_zero r), fun r hr => (by cases hr), ⟨⟨_, rfl, ?_⟩, ⟨_, rfl, ?_⟩, ⟨_, rfl, ?_⟩, trivial⟩, ⟨⟨_, rfl, ?_⟩, trivial⟩⟩
    · have e : IntKind.u64.wrap (((V / 256 ^ i : Nat) : Int).tdiv 256) = ((V / 256 ^ (i + 1) : Nat) : Int) := by
        rw [Int.tdiv_eq_ediv_of_nonneg (Int.natCast_nonneg _), show ((V / 256 ^ i : Nat) : Int) / 256 = ((V / 256 ^ (i + 1) : Nat) : Int) by rw [Nat.pow_succ, ← Nat.div_div_eq_div_mul]; rfl]
        exact u64w _ (Nat.lt_of_le_of_lt (Nat.div_le_self _ _) hV)
      rw [e]; exact .pur
    · have e : IntKind.u8.wrap (((V / 256 ^ i : Nat) : Int).tmod 256) = ((nb V i).toNat : Int) := by
        unfold nb
        rw [Int.tmod_eq_emod_of_nonneg (Int.natCast_nonneg _), show ((V / 256 ^ i : Nat) : Int) % 256 = ((V / 256 ^ i % 256 : Nat) : Int) from rfl, u8w]
        simp
      rw [e]
      exact .sl (r := 0) rfl
    · rw [wsucc i (by omega)]; exact .pur
    · rw [show ([[AV.sc (.int .u8 (IntKind.u8.wrap (((V / 256 ^ i : Nat) : Int).tmod 256)))]] : List (List AV)).length + (List.map byteC (lowb V i)).length = i + 1 by simp [hl]; omega]
      exact .tail _ _ _
  · have : i = 8 := by omega
    subst this
    exact Le.of_tok rfl

/-- A byte of a number, as the program takes it. -/
abbrev nx (V : Int) (i : Nat) : AV := .sc (.int .u8 (IntKind.u8.wrap (V.fdiv (2 ^ (min (IntKind.i64.wrap (56 - IntKind.i64.wrap (8 * (i : Int)))).toNat IntKind.u64.bits)))))
theorem nx_eq (V i : Nat) (hi : i < 8) : nx V i = .sc (.int .u8 ((nb V (7 - i)).toNat : Int)) := by
  have h1 : IntKind.i64.wrap (8 * (i : Int)) = 8 * (i : Int) := w64 _ (by omega) (by omega)
  have h2 : IntKind.i64.wrap (56 - 8 * (i : Int)) = ((8 * (7 - i) : Nat) : Int) := by rw [w64 _ (by omega) (by omega)]; omega
  have h3 : min (8 * (7 - i)) IntKind.u64.bits = 8 * (7 - i) := Nat.min_eq_left (by show _ ≤ 64; omega)
  have h4 : ((V : Int).fdiv (2 ^ (8 * (7 - i)))) = ((V / 256 ^ (7 - i) : Nat) : Int) := by
    have e : ((2 : Int) ^ (8 * (7 - i))) = ((256 ^ (7 - i) : Nat) : Int) := by rw [show (256 : Nat) = 2 ^ 8 from rfl, ← Nat.pow_mul]; simp
    rw [Int.fdiv_eq_ediv_of_nonneg _ (by rw [e]; exact Int.natCast_nonneg _), e]; rfl
  simp only [nx, h1, h2, Int.toNat_natCast, h3, h4, u8w, nb]
abbrev nxs (V : Int) : List AV := [nx V 0, nx V 1, nx V 2, nx V 3, nx V 4, nx V 5, nx V 6, nx V 7]
theorem nxs_eq (V : Nat) : nxs V = (lowb V 8).map fun b => .sc (.int .u8 (b.toNat : Int)) := by
  simp only [nxs, nx_eq V _ (by decide : (0 : Nat) < 8), nx_eq V 1 (by decide), nx_eq V 2 (by decide), nx_eq V 3 (by decide), nx_eq V 4 (by decide), nx_eq V 5 (by decide), nx_eq V 6 (by decide), nx_eq V 7 (by decide)]
  rfl
abbrev z8 : List AV := [.sc (.int .u8 0), .sc (.int .u8 0), .sc (.int .u8 0), .sc (.int .u8 0), .sc (.int .u8 0), .sc (.int .u8 0), .sc (.int .u8 0), .sc (.int .u8 0)]

theorem xor63a (y : Nat) (h : y < 9223372036854775808) : y ^^^ 9223372036854775808 = y + 9223372036854775808 := by
  have h1 := Nat.two_pow_add_eq_or_of_lt (i := 63) (b := y) h 1
  have h2 : 2 ^ 63 * 1 ||| y = y ^^^ 9223372036854775808 := by
    apply Nat.eq_of_testBit_eq
    intro j
    rw [show (2 ^ 63 * 1 : Nat) = 2 ^ 63 from rfl, show (9223372036854775808 : Nat) = 2 ^ 63 from rfl, Nat.testBit_or, Nat.testBit_xor, Nat.testBit_two_pow]
    by_cases e : 63 = j
    · subst e; rw [Nat.testBit_lt_two_pow h]; rfl
    · simp [e]
  omega
theorem xor63 (m : Nat) (h : m < 18446744073709551616) : m ^^^ 9223372036854775808 = (m + 9223372036854775808) % 18446744073709551616 := by
  rcases Nat.lt_or_ge m 9223372036854775808 with h1 | h1
  · rw [xor63a m h1]; omega
  · obtain ⟨y, rfl⟩ : ∃ y, m = y + 9223372036854775808 := ⟨m - 9223372036854775808, by omega⟩
    rw [← xor63a y (by omega), Nat.xor_assoc, Nat.xor_self, Nat.xor_zero]
    rw [xor63a y (by omega)]; omega

set_option maxHeartbeats 4000000 in
theorem num0_pc [GlobF Try.prog] (n : Int) : PC Try.prog 101 [.sc (.int .i64 n)] (.ag ((num8 n).map fun b => .sc (.int .u8 (b.toNat : Int)))) := by
  have hV : IntKind.u64.wrap ((BitVec.ofInt IntKind.u64.bits (IntKind.u64.wrap n) ^^^ BitVec.ofInt IntKind.u64.bits 9223372036854775808).toNat : Int) = (num64 n : Int) := by
    have e1 : IntKind.u64.wrap n = ((n % 18446744073709551616).toNat : Int) := by
      simp only [IntKind.wrap, IntKind.bits, IntKind.signed, Bool.false_and, Bool.false_eq_true, if_false]
      omega
    have e2 : num64 n = ((n % 18446744073709551616).toNat + 9223372036854775808) % 18446744073709551616 := by unfold num64; omega
    have hm : (n % 18446744073709551616).toNat < 18446744073709551616 := by omega
    rw [e1, e2]
    generalize (n % 18446744073709551616).toNat = m at hm
    rw [BitVec.toNat_xor, show (BitVec.ofInt IntKind.u64.bits (m : Int)).toNat = m by simp [IntKind.bits]; omega, show (BitVec.ofInt IntKind.u64.bits 9223372036854775808).toNat = 9223372036854775808 by decide, xor63 m hm]
    exact u64w _ (by omega)
  rw [show (num8 n).map (fun b => AV.sc (.int .u8 (b.toNat : Int))) = nxs (num64 n) from (nxs_eq _).symm]
  refine PC.of_body Try.func101 Try.ntmps101 rfl rfl rfl ?_
  repeat' first
    | (apply p1 (hd := rfl); case hop => first | (apply D_move; rfl) | (apply D_assign; rfl) | (apply D_load1; rfl) | (apply D_int; rfl; rfl; rfl) | (apply D_loadW; rfl; rfl) | (apply D_loadA; rfl; rfl) | (apply D_conv_int; rfl) | (apply D_ixPE; rfl; rfl; all_goals first | omega | ((repeat rw [w64 _ (by omega) (by omega)]); omega) | decide) | (apply D_ixPB; rfl; rfl; all_goals first | omega | ((repeat rw [w64 _ (by omega) (by omega)]); omega) | decide) | (apply D_shr; rfl; rfl; first | omega | ((repeat rw [w64 _ (by omega) (by omega)]); omega) | decide))
    | refine W_seq ?_
    | refine W_region ?_
    | (refine idC ?_; first | refine c1 rfl ?_ | refine c0 rfl ?_ | refine cs rfl (fun _ => ?_) (fun _ => ?_))
    | refine WL_nil ?_
    | refine tn ?_
    | refine tr ?_
    | refine br ?_
    | refine bn ?_
    | refine te ?_
    | (refine idB ?_; first | refine bh rfl ?_ | refine bm rfl ?_)
    | refine W_skip ?_
    | refine W_block ?_
    | refine W_exit ?_
    | refine W_ret ?_
    | refine W_label ?_
    | refine W_scope ?_
    | refine sn ?_
    | refine sr ?_
    | refine se ?_
    | (refine idR ?_; first | refine ret1 rfl rfl rfl ?_ | refine rL1 rfl (by first | exact trivial | exact ⟨rfl, trivial⟩) (by first | exact ResO.tmp rfl | exact ResO.cellBA rfl rfl rfl | exact ResO.cellB1 rfl rfl rfl | exact ResO.cellEA rfl rfl | exact ResO.cellE1 rfl) ?_)
    | (refine idLd ?_; first | refine p1L (D_loadB1 rfl rfl rfl) rfl ?_ | refine p1L (D_loadBA rfl rfl rfl) rfl ?_ | refine p1L (D_loadB1 rfl (by (repeat first | assumption | exact get_last | (refine get_last2 ?_; focus (simp; done)) | apply get_set | apply get_app | (apply get_ne; focus omega) | (apply get_ne; focus (simp only [List.length_set, List.length_append, List.length_cons, List.length_nil]; omega))); done) (by rfl)) rfl ?_ | refine p1L (D_loadBA rfl (by (repeat first | assumption | exact get_last | (refine get_last2 ?_; focus (simp; done)) | apply get_set | apply get_app | (apply get_ne; focus omega) | (apply get_ne; focus (simp only [List.length_set, List.length_append, List.length_cons, List.length_nil]; omega))); done) (by rfl)) rfl ?_)
    | (refine idA ?_; first | refine m_alloc rfl ?_)
    | (refine idS ?_; first | refine pS (S_store rfl rfl rfl rfl rfl rfl rfl) ?_ | refine pS (S_store rfl rfl rfl (by (repeat first | assumption | exact get_last | (refine get_last2 ?_; focus (simp; done)) | apply get_set | apply get_app | (apply get_ne; focus omega) | (apply get_ne; focus (simp only [List.length_set, List.length_append, List.length_cons, List.length_nil]; omega))); done) (by rfl) (by rfl) (by rfl)) ?_)
    | refine Le.bool ?_
    | refine Le.int ?_
    | refine Le.str ?_
  refine W_loopL (X := Nat) (fun i => [(2, .bp 0 0), (3, .bp 1 0), (4, .sc (.int .u64 (num64 n : Int))), (9, .sc (.int .i64 (i : Int)))]) (fun i => [.cells z8, .cells ((nxs (num64 n)).take i ++ z8.drop i)])
    (fun i => i ≤ 8) (fun i => 8 - i) 0 (by omega) ⟨rfl, rfl, ieq hV, rfl, trivial⟩ rfl ?_
  intro i hi
  have hc : i = 0 ∨ i = 1 ∨ i = 2 ∨ i = 3 ∨ i = 4 ∨ i = 5 ∨ i = 6 ∨ i = 7 ∨ i = 8 := by omega
  rcases hc with rfl | rfl | rfl | rfl | rfl | rfl | rfl | rfl | rfl
  all_goals
    repeat' first
      | (apply p1 (hd := rfl); case hop => first | (apply D_move; rfl) | (apply D_assign; rfl) | (apply D_load1; rfl) | (apply D_int; rfl; rfl; rfl) | (apply D_loadW; rfl; rfl) | (apply D_loadA; rfl; rfl) | (apply D_conv_int; rfl) | (apply D_ixPE; rfl; rfl; all_goals first | omega | ((repeat rw [w64 _ (by omega) (by omega)]); omega) | decide) | (apply D_ixPB; rfl; rfl; all_goals first | omega | ((repeat rw [w64 _ (by omega) (by omega)]); omega) | decide) | (apply D_shr; rfl; rfl; first | omega | ((repeat rw [w64 _ (by omega) (by omega)]); omega) | decide))
      | refine W_seq ?_
      | refine W_region ?_
      | (refine idC ?_; first | refine c1 rfl ?_ | refine c0 rfl ?_ | refine cs rfl (fun _ => ?_) (fun _ => ?_))
      | refine WL_nil ?_
      | refine tn ?_
      | refine tr ?_
      | refine br ?_
      | refine bn ?_
      | refine te ?_
      | (refine idB ?_; first | refine bh rfl ?_ | refine bm rfl ?_)
      | refine W_skip ?_
      | refine W_block ?_
      | refine W_exit ?_
      | refine W_ret ?_
      | refine W_label ?_
      | refine W_scope ?_
      | refine sn ?_
      | refine sr ?_
      | refine se ?_
      | (refine idR ?_; first | refine ret1 rfl rfl rfl ?_ | refine rL1 rfl (by first | exact trivial | exact ⟨rfl, trivial⟩) (by first | exact ResO.tmp rfl | exact ResO.cellBA rfl rfl rfl | exact ResO.cellB1 rfl rfl rfl | exact ResO.cellEA rfl rfl | exact ResO.cellE1 rfl) ?_)
      | (refine idLd ?_; first | refine p1L (D_loadB1 rfl rfl rfl) rfl ?_ | refine p1L (D_loadBA rfl rfl rfl) rfl ?_ | refine p1L (D_loadB1 rfl (by (repeat first | assumption | exact get_last | (refine get_last2 ?_; focus (simp; done)) | apply get_set | apply get_app | (apply get_ne; focus omega) | (apply get_ne; focus (simp only [List.length_set, List.length_append, List.length_cons, List.length_nil]; omega))); done) (by rfl)) rfl ?_ | refine p1L (D_loadBA rfl (by (repeat first | assumption | exact get_last | (refine get_last2 ?_; focus (simp; done)) | apply get_set | apply get_app | (apply get_ne; focus omega) | (apply get_ne; focus (simp only [List.length_set, List.length_append, List.length_cons, List.length_nil]; omega))); done) (by rfl)) rfl ?_)
      | (refine idA ?_; first | refine m_alloc rfl ?_)
      | (refine idS ?_; first | refine pS (S_store rfl rfl rfl rfl rfl rfl rfl) ?_ | refine pS (S_store rfl rfl rfl (by (repeat first | assumption | exact get_last | (refine get_last2 ?_; focus (simp; done)) | apply get_set | apply get_app | (apply get_ne; focus omega) | (apply get_ne; focus (simp only [List.length_set, List.length_append, List.length_cons, List.length_nil]; omega))); done) (by rfl) (by rfl) (by rfl)) ?_)
      | refine Le.bool ?_
      | refine Le.int ?_
      | refine Le.str ?_
  all_goals first
    | (refine ⟨rfl, _, ?_, ?_, ⟨rfl, rfl, rfl, ieq (wsucc _ (by omega)), trivial⟩, rfl⟩ <;> omega)
    | omega
    | exact Le.of_eq rfl
end Go.Proofs

/- Contracts of keys' functions: values' bytes. -/
namespace Go.Proofs
open Go.AL
attribute [local irreducible] Go.AL.W Go.AL.WL Go.AL.WD Go.AL.POp Go.AL.PPOp Go.AL.POpS Go.AL.PC Go.AL.AC Go.AL.YW Go.AL.Ret Go.AL.Le Go.AL.thn Go.AL.inBlk

set_option maxHeartbeats 1000000 in
theorem num_pc [GlobF Try.prog] (n : Int) : PC Try.prog 80 [.sc (.int .i64 n)] (.sl none 1 ((num8 n).map byteC)) := by
  refine PC.of_body Try.func80 Try.ntmps80 rfl rfl rfl ?_
  repeat' first
    | (apply p1 (hd := rfl); case hop => first | (apply D_move; rfl) | (apply D_assign; rfl) | (apply D_pc (num0_pc n); rfl; exact .same rfl .nil) | (apply D_slPE; rfl; rfl; rfl))
    | refine W_seq ?_
    | refine W_region ?_
    | refine WL_nil ?_
    | refine tn ?_
    | refine tr ?_
    | refine br ?_
    | refine bn ?_
    | refine te ?_
    | (refine idB ?_; first | refine bh rfl ?_ | refine bm rfl ?_)
    | refine W_skip ?_
    | refine W_block ?_
    | refine W_exit ?_
    | refine W_ret ?_
    | refine W_label ?_
    | refine W_scope ?_
    | refine sn ?_
    | refine sr ?_
    | refine se ?_
    | (refine idR ?_; first | refine ret1 rfl rfl rfl ?_ | refine rL1 rfl (by first | exact trivial | exact ⟨rfl, trivial⟩) (by first | exact ResO.tmp rfl | exact ResO.cellBA rfl rfl rfl | exact ResO.cellB1 rfl rfl rfl | exact ResO.cellEA rfl rfl | exact ResO.cellE1 rfl) ?_)
    | (refine idA ?_; first | refine m_var rfl rfl rfl rfl rfl rfl rfl ?_ | refine m_alloc rfl ?_)
    | (refine idS ?_; first | refine pS (S_store rfl rfl rfl rfl rfl rfl rfl) ?_ | refine pS (S_store rfl rfl rfl (by (repeat first | assumption | exact get_last | (refine get_last2 ?_; focus (simp; done)) | apply get_set | apply get_app | (apply get_ne; focus omega) | (apply get_ne; focus (simp only [List.length_set, List.length_append, List.length_cons, List.length_nil]; omega))); done) (by rfl) (by rfl) (by rfl)) ?_)
    | refine Le.bool ?_
    | refine Le.int ?_
    | refine Le.str ?_
  all_goals exact Le.of_eq rfl

def esc (s : List UInt8) : List UInt8 := s.flatMap fun c => if c = 0 then [0, 255] else [c]
def textB (s : List UInt8) : List UInt8 := esc s ++ [0, 1]
theorem esc_len (s : List UInt8) : (esc s).length ≤ 2 * s.length := by
  induction s with
  | nil => simp [esc]
  | cons c s ih =>
    simp only [esc, List.flatMap_cons, List.length_append, List.length_cons] at ih ⊢
    split <;> simp only [List.length_cons, List.length_nil] <;> omega
theorem esc_succ (s : List UInt8) (i : Nat) (h : i < s.length) : esc (s.take (i + 1)) = esc (s.take i) ++ (if s[i] = 0 then [0, 255] else [s[i]]) := by
  simp only [esc, List.take_succ_eq_append_getElem h, List.flatMap_append, List.flatMap_cons, List.flatMap_nil, List.append_nil]
theorem esc_take_len (s : List UInt8) (i : Nat) : (esc (s.take i)).length ≤ 2 * s.length := Nat.le_trans (esc_len _) (by simp only [List.length_take]; omega)
theorem u8z {c : UInt8} (h : (c.toNat : Int) = 0) : c = 0 := by
  apply UInt8.toNat.inj; show _ = 0; omega
theorem u8nz {c : UInt8} (h : (c.toNat : Int) ≠ 0) : c ≠ 0 := fun e => h (by rw [e]; rfl)

set_option maxHeartbeats 4000000 in
theorem text_ac [GlobF Try.prog] {h : List AObj} {tk : Nat} {els : List (List AV)} (s : List UInt8) {n : Nat} (ht : h[tk]? = some (.tail n 1 5)) (hn : n = els.length) (hb : els.length < 1099511627776) (hs : s.length < 1099511627776) :
    AC Try.prog 102 [.sl (some tk) 1 els, str s] h (fun v h' => v = .sl (some tk) 1 (els ++ (textB s).map byteC) ∧ h' = h.set tk (.tail (els.length + (textB s).length) 1 5)) := by
  subst hn
  refine AC.of_body Try.func102 Try.ntmps102 rfl rfl rfl ?_
  repeat' first
    | (apply p1 (hd := rfl); case hop => first | (apply D_move; rfl) | (apply D_assign; rfl) | (apply D_load1; rfl) | (apply D_int; rfl; rfl; rfl) | (apply D_lenM; rfl) | (apply D_len_sl; rfl) | (apply D_loadW; rfl; rfl) | (apply D_loadA; rfl; rfl) | (apply D_s2b; rfl) | (apply D_len_nil; rfl) | (apply D_idxAn; rfl; rfl; (first | omega | (simp; done))) | (apply D_idxA; rfl; rfl; omega; (first | omega | (simp; done) | (simp; omega))) | (apply D_idxA0; rfl; rfl; omega; (first | omega | (simp; done) | (simp; omega))) | (apply D_lit; rfl; rfl; rfl; rfl))
    | refine W_seq ?_
    | refine W_region ?_
    | (refine idC ?_; first | refine c1 rfl ?_ | refine c0 rfl ?_ | refine cs rfl (fun _ => ?_) (fun _ => ?_))
    | refine WL_nil ?_
    | refine tn ?_
    | refine tr ?_
    | refine br ?_
    | refine bn ?_
    | refine te ?_
    | (refine idB ?_; first | refine bh rfl ?_ | refine bm rfl ?_)
    | refine W_skip ?_
    | refine W_block ?_
    | refine W_exit ?_
    | refine W_ret ?_
    | refine W_label ?_
    | refine W_scope ?_
    | refine sn ?_
    | refine sr ?_
    | refine se ?_
    | refine Le.bool ?_
    | refine Le.int ?_
    | refine Le.str ?_
    | (refine idAp ?_; refine m_app rfl rfl (by first | rfl | assumption | exact get_set (by assumption) | exact get_set (get_set (by assumption)) | exact get_set (get_set (get_set (by assumption))) | ((repeat first | assumption | exact get_last | (refine get_last2 ?_; focus (simp; done)) | apply get_set | apply get_app | (apply get_ne; focus omega)); done)) ?_ rfl rfl ?_ ?_ rfl ?_; (first | rfl | focus (simp only [List.length_map, List.length_append, List.length_cons, List.length_nil]; omega) | focus (simp; done) | focus (simp; omega)); (first | focus (simp only [List.length_map, List.length_append, List.length_cons, List.length_nil]; omega) | focus (simp; done) | focus (simp; omega)); (first | focus (simp only [List.length_map, List.length_append, List.length_cons, List.length_nil]; omega) | focus (simp; done) | focus (simp; omega)))
    | (refine idAp ?_; refine m_appB rfl rfl rfl (by first | rfl | assumption | exact get_set (by assumption) | exact get_set (get_set (by assumption)) | exact get_set (get_set (get_set (by assumption))) | ((repeat first | assumption | exact get_last | (refine get_last2 ?_; focus (simp; done)) | apply get_set | apply get_app | (apply get_ne; focus omega)); done)) ?_ rfl rfl ?_ ?_ rfl ?_; (first | rfl | focus (simp only [List.length_map, List.length_append, List.length_cons, List.length_nil]; omega) | focus (simp; done) | focus (simp; omega)); (first | focus (simp only [List.length_map, List.length_append, List.length_cons, List.length_nil]; omega) | focus (simp; done) | focus (simp; omega)); (first | focus (simp only [List.length_map, List.length_append, List.length_cons, List.length_nil]; omega) | focus (simp; done) | focus (simp; omega)))
  refine W_loopL (X := Nat) (fun i => [(0, .sl (some tk) 1 (els ++ (esc (s.take i)).map byteC)), (8, bytesAV s), (9, .sc (.int .i64 (s.length : Int))), (10, .sc (.int .i64 (i : Int)))]) (fun i => h.set tk (.tail (els.length + (esc (s.take i)).length) 1 5))
    (fun i => i ≤ s.length) (fun i => s.length - i) 0 (by omega) ⟨sleq (by simp [esc]), rfl, rfl, rfl, trivial⟩ (by rw [show (esc (s.take 0)).length = 0 by simp [esc]]; exact set_self ht) ?_
  intro i hi
  have hl := esc_take_len s i
  repeat' first
    | (apply p1 (hd := rfl); case hop => first | (apply D_move; rfl) | (apply D_assign; rfl) | (apply D_load1; rfl) | (apply D_int; rfl; rfl; rfl) | (apply D_lenM; rfl) | (apply D_len_sl; rfl) | (apply D_loadW; rfl; rfl) | (apply D_loadA; rfl; rfl) | (apply D_s2b; rfl) | (apply D_len_nil; rfl) | (apply D_idxAn; rfl; rfl; (first | omega | (simp; done))) | (apply D_idxA; rfl; rfl; omega; (first | omega | (simp; done) | (simp; omega))) | (apply D_idxA0; rfl; rfl; omega; (first | omega | (simp; done) | (simp; omega))) | (apply D_lit; rfl; rfl; rfl; rfl))
    | refine W_seq ?_
    | refine W_region ?_
    | (refine idC ?_; first | refine c1 rfl ?_ | refine c0 rfl ?_ | refine cs rfl (fun _ => ?_) (fun _ => ?_))
    | refine WL_nil ?_
    | refine tn ?_
    | refine tr ?_
    | refine br ?_
    | refine bn ?_
    | refine te ?_
    | (refine idB ?_; first | refine bh rfl ?_ | refine bm rfl ?_)
    | refine W_skip ?_
    | refine W_block ?_
    | refine W_exit ?_
    | refine W_ret ?_
    | refine W_label ?_
    | refine W_scope ?_
    | refine sn ?_
    | refine sr ?_
    | refine se ?_
    | refine Le.bool ?_
    | refine Le.int ?_
    | refine Le.str ?_
    | (refine idAp ?_; refine m_app rfl rfl (by first | rfl | assumption | exact get_set (by assumption) | exact get_set (get_set (by assumption)) | exact get_set (get_set (get_set (by assumption))) | ((repeat first | assumption | exact get_last | (refine get_last2 ?_; focus (simp; done)) | apply get_set | apply get_app | (apply get_ne; focus omega)); done)) ?_ rfl rfl ?_ ?_ rfl ?_; (first | rfl | focus (simp only [List.length_map, List.length_append, List.length_cons, List.length_nil]; omega) | focus (simp; done) | focus (simp; omega)); (first | focus (simp only [List.length_map, List.length_append, List.length_cons, List.length_nil]; omega) | focus (simp; done) | focus (simp; omega)); (first | focus (simp only [List.length_map, List.length_append, List.length_cons, List.length_nil]; omega) | focus (simp; done) | focus (simp; omega)))
    | (refine idAp ?_; refine m_appB rfl rfl rfl (by first | rfl | assumption | exact get_set (by assumption) | exact get_set (get_set (by assumption)) | exact get_set (get_set (get_set (by assumption))) | ((repeat first | assumption | exact get_last | (refine get_last2 ?_; focus (simp; done)) | apply get_set | apply get_app | (apply get_ne; focus omega)); done)) ?_ rfl rfl ?_ ?_ rfl ?_; (first | rfl | focus (simp only [List.length_map, List.length_append, List.length_cons, List.length_nil]; omega) | focus (simp; done) | focus (simp; omega)); (first | focus (simp only [List.length_map, List.length_append, List.length_cons, List.length_nil]; omega) | focus (simp; done) | focus (simp; omega)); (first | focus (simp only [List.length_map, List.length_append, List.length_cons, List.length_nil]; omega) | focus (simp; done) | focus (simp; omega)))
  · rename_i h1 h2
    have h1' : i < s.length := by omega
    have e : esc (s.take (i + 1)) = esc (s.take i) ++ [0, 255] := by rw [esc_succ s i h1', if_pos (u8z h2)]
    refine ⟨rfl, i + 1, by omega, by omega, ⟨sleq ?_, rfl, rfl, ieq (wsucc i (by omega)), trivial⟩, ?_⟩
    · rw [e]; simp [u8z h2]
    · refine Eq.symm ((setSet2 rfl).trans (setSet2 ?_))
      rw [e]; simp; omega
  · rename_i h1 h2
    have h1' : i < s.length := by omega
    have e : esc (s.take (i + 1)) = esc (s.take i) ++ [s[i]] := by rw [esc_succ s i h1', if_neg (u8nz h2)]
    refine ⟨rfl, i + 1, by omega, by omega, ⟨sleq ?_, rfl, rfl, ieq (wsucc i (by omega)), trivial⟩, ?_⟩
    · rw [e]; simp
    · refine Eq.symm (setSet2 ?_)
      rw [e]; simp; omega
  · have : i = s.length := by omega
    subst this
    rw [List.take_length] at *
    refine retK1 (.inl rfl) rfl rfl (ResO.tmp rfl) ⟨?_, ?_⟩
    · simp [textB]
    · exact setSet2 (by simp [textB]; omega)

def u8i (n : Int) : UInt8 := UInt8.ofNat (n % 256).toNat
theorem u8iw (n : Int) : IntKind.u8.wrap n = ((u8i n).toNat : Int) := by
  have : ((n % 256).toNat : Int) = n % 256 := by omega
  unfold u8i
  rw [← u8w, this]
  simp only [IntKind.wrap, IntKind.bits, IntKind.signed, Bool.false_and, Bool.false_eq_true, if_false]
  omega
def valB (v : Val) : List UInt8 := [u8i v.kind] ++ (if v.kind = 2 then [u8i v.n] else if v.kind = 3 ∨ v.kind = 4 ∨ v.kind = 7 then textB v.s else num8 v.n)
theorem textB_len (s : List UInt8) : (textB s).length ≤ 2 * s.length + 2 := by have := esc_len s; simp only [textB, List.length_append, List.length_cons, List.length_nil]; omega
theorem valB_len (v : Val) : (valB v).length ≤ 2 * v.s.length + 9 := by
  have h1 := textB_len v.s
  have h2 := num8_len v.n
  simp only [valB, List.length_append, List.length_cons, List.length_nil]
  split
  · simp only [List.length_cons, List.length_nil]; omega
  · split <;> omega

set_option maxHeartbeats 4000000 in
theorem written_ac [GlobF Try.prog] {h : List AObj} {tk : Nat} {els : List (List AV)} (v : Val) {n : Nat} (ht : h[tk]? = some (.tail n 1 5)) (hn : n = els.length) (hb : els.length < 549755813888) (hs : v.s.length < 549755813888) :
    AC Try.prog 81 [.sl (some tk) 1 els, eV v] h (fun u h' => u = .sl (some tk) 1 (els ++ (valB v).map byteC) ∧ h' = h.set tk (.tail (els.length + (valB v).length) 1 5)) := by
  subst hn
  have hn := num8_len v.n
  have h8 := u8iw v.kind
  have h9 := u8iw v.n
  refine AC.of_body Try.func81 Try.ntmps81 rfl rfl rfl ?_
  repeat' first
    | (apply p1 (hd := rfl); case hop => first | (apply D_move; rfl) | (apply D_assign; rfl) | (apply D_pc (num_pc v.n); rfl; exact .same rfl .nil) | (apply D_load1; rfl) | (apply D_fld; rfl) | (apply D_int; rfl; rfl; rfl) | (apply D_loadW; rfl; rfl) | (apply D_loadA; rfl; rfl) | (apply D_box; rfl; rfl) | (apply D_conv_int; rfl) | (apply D_lit; rfl; rfl; rfl; rfl) | exact D_fldB rfl)
    | refine W_seq ?_
    | refine W_region ?_
    | (refine idC ?_; first | refine c1 rfl ?_ | refine c0 rfl ?_ | refine cs rfl (fun _ => ?_) (fun _ => ?_))
    | refine WL_nil ?_
    | refine tn ?_
    | refine tr ?_
    | refine br ?_
    | refine bn ?_
    | refine te ?_
    | (refine idB ?_; first | refine bh rfl ?_ | refine bm rfl ?_)
    | refine W_skip ?_
    | refine W_block ?_
    | refine W_exit ?_
    | refine W_ret ?_
    | refine W_label ?_
    | refine W_scope ?_
    | refine sn ?_
    | refine sr ?_
    | refine se ?_
    | (refine idLd ?_; first | refine p1L (D_loadB1 rfl rfl rfl) rfl ?_ | refine p1L (D_loadBA rfl rfl rfl) rfl ?_ | refine p1L (D_loadB1 rfl (by (repeat first | assumption | exact get_last | (refine get_last2 ?_; focus (simp; done)) | apply get_set | apply get_app | (apply get_ne; focus omega) | (apply get_ne; focus (simp only [List.length_set, List.length_append, List.length_cons, List.length_nil]; omega))); done) (by rfl)) rfl ?_ | refine p1L (D_loadBA rfl (by (repeat first | assumption | exact get_last | (refine get_last2 ?_; focus (simp; done)) | apply get_set | apply get_app | (apply get_ne; focus omega) | (apply get_ne; focus (simp only [List.length_set, List.length_append, List.length_cons, List.length_nil]; omega))); done) (by rfl)) rfl ?_)
    | refine Le.bool ?_
    | refine Le.int ?_
    | refine Le.str ?_
    | (refine idAp ?_; refine m_app rfl rfl (by first | rfl | assumption | exact get_set (by assumption) | exact get_set (get_set (by assumption)) | exact get_set (get_set (get_set (by assumption))) | ((repeat first | assumption | exact get_last | (refine get_last2 ?_; focus (simp; done)) | apply get_set | apply get_app | (apply get_ne; focus omega)); done)) ?_ rfl rfl ?_ ?_ rfl ?_; (first | rfl | focus (simp only [List.length_map, List.length_append, List.length_cons, List.length_nil]; omega) | focus (simp; done) | focus (simp; omega)); (first | focus (simp only [List.length_map, List.length_append, List.length_cons, List.length_nil]; omega) | focus (simp; done) | focus (simp; omega)); (first | focus (simp only [List.length_map, List.length_append, List.length_cons, List.length_nil]; omega) | focus (simp; done) | focus (simp; omega)))
    | (refine idAp ?_; refine m_appB rfl rfl rfl (by first | rfl | assumption | exact get_set (by assumption) | exact get_set (get_set (by assumption)) | exact get_set (get_set (get_set (by assumption))) | ((repeat first | assumption | exact get_last | (refine get_last2 ?_; focus (simp; done)) | apply get_set | apply get_app | (apply get_ne; focus omega)); done)) ?_ rfl rfl ?_ ?_ rfl ?_; (first | rfl | focus (simp only [List.length_map, List.length_append, List.length_cons, List.length_nil]; omega) | focus (simp; done) | focus (simp; omega)); (first | focus (simp only [List.length_map, List.length_append, List.length_cons, List.length_nil]; omega) | focus (simp; done) | focus (simp; omega)); (first | focus (simp only [List.length_map, List.length_append, List.length_cons, List.length_nil]; omega) | focus (simp; done) | focus (simp; omega)))
    | (refine m_call (text_ac v.s (by first | exact get_set (by assumption)) (by simp) (by simp; omega) (by omega)) rfl rfl rfl ?_; rintro _ _ ⟨rfl, rfl⟩)
  all_goals
    refine retK1 (.inl rfl) rfl rfl (ResO.tmp rfl) ⟨?_, ?_⟩
  all_goals first
    | (simp only [h8, h9]; simp [valB, *]; done)
    | (refine (setSet2 rfl).trans (setSet2 ?_); simp [valB, *]; done)
    | (refine setSet2 ?_; simp [valB, *]; done)
    | (refine (setSet2 rfl).trans (setSet2 ?_); simp [valB, *]; omega)
    | (refine setSet2 ?_; simp [valB, *]; omega)

/-! Parts' bytes. -/
noncomputable def partB (p : Prt) : List UInt8 := if p.value then valB p.v else num8 p.n
def PartP (p : Prt) : Prop := p.value = true → mayB p.v = true
open Classical in
noncomputable def keyE (l : List Prt) : Int := if ∀ p, p ∈ l → PartP p then 0 else 10
open Classical in
noncomputable def keyB (l : List Prt) : List UInt8 := if ∀ p, p ∈ l → PartP p then l.flatMap partB else []
theorem may_len {v : Val} (h : mayB v = true) : v.s.length ≤ 1000 := by
  simp only [mayB, dP_t, MayP] at h
  rcases h with h | h | h | h | h
  all_goals first
    | (have := h.2; simp_all; done)
    | (have := h.2.1; simp_all; done)
    | (have := h.2.2; omega)
    | (have := h.2.2.2.1; omega)
theorem part_len {p : Prt} (h : PartP p) : (partB p).length ≤ 2009 := by
  unfold partB
  split
  · rename_i e
    have := may_len (h e)
    have := valB_len p.v
    omega
  · rw [num8_len]; omega
theorem flat_len2 {l : List Prt} (h : ∀ p, p ∈ l → PartP p) : (l.flatMap partB).length ≤ 2009 * l.length := by
  induction l with
  | nil => simp
  | cons p l ih =>
    have h1 := part_len (h p (.head _))
    have h2 := ih fun q hq => h q (.tail _ hq)
    simp only [List.flatMap_cons, List.length_append, List.length_cons]; omega
theorem flat_succ (l : List Prt) (i : Nat) (h : i < l.length) : (l.take (i + 1)).flatMap partB = (l.take i).flatMap partB ++ partB l[i] := by
  simp only [List.take_succ_eq_append_getElem h, List.flatMap_append, List.flatMap_cons, List.flatMap_nil, List.append_nil]
theorem take_all {l : List Prt} {i : Nat} (h : i < l.length) (h1 : ∀ p, p ∈ l.take i → PartP p) (h2 : PartP l[i]) : ∀ p, p ∈ l.take (i + 1) → PartP p := by
  intro p hp
  rw [List.take_succ_eq_append_getElem h, List.mem_append] at hp
  rcases hp with hp | hp
  · exact h1 p hp
  · simp at hp; subst hp; exact h2

set_option maxHeartbeats 4000000 in
theorem key_pc [GlobF Try.prog] (l : List Prt) (hl : l.length < 1048576) (hs : ∀ p, p ∈ l → p.v.s.length < 9223372036854775808) : PC Try.prog 49 [.sl none 5 (l.map pC)] (.tu [.sl none 1 ((keyB l).map byteC), .sc (.int .i64 (keyE l))]) := by
  refine PC.of_body Try.func49 Try.ntmps49 rfl rfl rfl ?_
  repeat' first
    | (apply p1 (hd := rfl); case hop => first | (apply D_move; rfl) | (apply D_assign; rfl) | (apply D_load1; rfl) | (apply D_fld; rfl) | (apply D_int; rfl; rfl; rfl) | (apply D_lenM; rfl) | (apply D_len_sl; rfl) | (apply D_not; rfl) | (apply D_loadW; rfl; rfl) | (apply D_loadA; rfl; rfl) | (apply D_len_nil; rfl) | (apply D_idxAn; rfl; rfl; (first | omega | (simp; done))) | (apply D_idxA; rfl; rfl; omega; (first | omega | (simp; done) | (simp; omega))) | (apply D_idxA0; rfl; rfl; omega; (first | omega | (simp; done) | (simp; omega))) | exact D_fldB rfl)
    | refine W_seq ?_
    | refine W_region ?_
    | (refine idC ?_; first | refine c1 rfl ?_ | refine c0 rfl ?_ | refine cs rfl (fun _ => ?_) (fun _ => ?_))
    | refine WL_nil ?_
    | refine tn ?_
    | refine tr ?_
    | refine br ?_
    | refine bn ?_
    | refine te ?_
    | (refine idB ?_; first | refine bh rfl ?_ | refine bm rfl ?_)
    | refine W_skip ?_
    | refine W_block ?_
    | refine W_exit ?_
    | refine W_ret ?_
    | refine W_label ?_
    | refine W_scope ?_
    | refine sn ?_
    | refine sr ?_
    | refine se ?_
    | (refine idR ?_; first | refine ret2 rfl rfl rfl rfl ?_ ?_ | refine rL2 rfl (by first | exact trivial | exact ⟨rfl, trivial⟩) (by first | exact ResO.tmp rfl | exact ResO.cellBA rfl rfl rfl | exact ResO.cellB1 rfl rfl rfl | exact ResO.cellEA rfl rfl | exact ResO.cellE1 rfl) (by first | exact ResO.tmp rfl | exact ResO.cellBA rfl rfl rfl | exact ResO.cellB1 rfl rfl rfl | exact ResO.cellEA rfl rfl | exact ResO.cellE1 rfl) ?_ ?_)
    | (refine idLd ?_; first | refine p1L (D_loadB1 rfl rfl rfl) rfl ?_ | refine p1L (D_loadBA rfl rfl rfl) rfl ?_ | refine p1L (D_loadB1 rfl (by (repeat first | assumption | exact get_last | (refine get_last2 ?_; focus (simp; done)) | apply get_set | apply get_app | (apply get_ne; focus omega) | (apply get_ne; focus (simp only [List.length_set, List.length_append, List.length_cons, List.length_nil]; omega))); done) (by rfl)) rfl ?_ | refine p1L (D_loadBA rfl (by (repeat first | assumption | exact get_last | (refine get_last2 ?_; focus (simp; done)) | apply get_set | apply get_app | (apply get_ne; focus omega) | (apply get_ne; focus (simp only [List.length_set, List.length_append, List.length_cons, List.length_nil]; omega))); done) (by rfl)) rfl ?_)
    | (refine idA ?_; first | refine m_var rfl rfl rfl rfl rfl rfl rfl ?_ | refine m_alloc rfl ?_)
    | (refine idS ?_; first | refine pS (S_store rfl rfl rfl rfl rfl rfl rfl) ?_ | refine pS (S_store rfl rfl rfl (by (repeat first | assumption | exact get_last | (refine get_last2 ?_; focus (simp; done)) | apply get_set | apply get_app | (apply get_ne; focus omega) | (apply get_ne; focus (simp only [List.length_set, List.length_append, List.length_cons, List.length_nil]; omega))); done) (by rfl) (by rfl) (by rfl)) ?_)
    | refine Le.bool ?_
    | refine Le.int ?_
    | refine Le.str ?_
    | (refine idAp ?_; refine m_app rfl rfl (by first | rfl | assumption | exact get_set (by assumption) | exact get_set (get_set (by assumption)) | exact get_set (get_set (get_set (by assumption))) | ((repeat first | assumption | exact get_last | (refine get_last2 ?_; focus (simp; done)) | apply get_set | apply get_app | (apply get_ne; focus omega)); done)) ?_ rfl rfl ?_ ?_ rfl ?_; (first | rfl | focus (simp only [List.length_map, List.length_append, List.length_cons, List.length_nil]; omega) | focus (simp; done) | focus (simp; omega)); (first | focus (simp only [List.length_map, List.length_append, List.length_cons, List.length_nil]; omega) | focus (simp; done) | focus (simp; omega)); (first | focus (simp only [List.length_map, List.length_append, List.length_cons, List.length_nil]; omega) | focus (simp; done) | focus (simp; omega)))
    | (refine idAp ?_; refine m_appB rfl rfl rfl (by first | rfl | assumption | exact get_set (by assumption) | exact get_set (get_set (by assumption)) | exact get_set (get_set (get_set (by assumption))) | ((repeat first | assumption | exact get_last | (refine get_last2 ?_; focus (simp; done)) | apply get_set | apply get_app | (apply get_ne; focus omega)); done)) ?_ rfl rfl ?_ ?_ rfl ?_; (first | rfl | focus (simp only [List.length_map, List.length_append, List.length_cons, List.length_nil]; omega) | focus (simp; done) | focus (simp; omega)); (first | focus (simp only [List.length_map, List.length_append, List.length_cons, List.length_nil]; omega) | focus (simp; done) | focus (simp; omega)); (first | focus (simp only [List.length_map, List.length_append, List.length_cons, List.length_nil]; omega) | focus (simp; done) | focus (simp; omega)))
  refine W_adopt 4 1 5 rfl ?_
  refine W_loopL (X := Nat) (fun i => [(4, .sl (some 0) 1 (((l.take i).flatMap partB).map byteC)), (8, .sl none 5 (l.map pC)), (9, .sc (.int .i64 (l.length : Int))), (10, .sc (.int .i64 (i : Int)))]) (fun i => [.tail ((l.take i).flatMap partB).length 1 5])
    (fun i => i ≤ l.length ∧ ∀ p, p ∈ l.take i → PartP p) (fun i => l.length - i) 0 ⟨by omega, fun p hp => by simp at hp⟩ ⟨rfl, rfl, rfl, rfl, trivial⟩ rfl ?_
  rintro i ⟨hi, hz⟩
  have hf := flat_len2 hz
  have ht : (l.take i).length ≤ l.length := by simp only [List.length_take]; omega
  repeat' first
    | (apply p1 (hd := rfl); case hop => first | (apply D_move; rfl) | (apply D_assign; rfl) | (apply D_pc (num_pc _); rfl; exact .same rfl .nil) | (apply D_pc (check_pc _ (hs _ (List.getElem_mem _))); rfl; exact .same rfl .nil) | (apply D_load1; rfl) | (apply D_fld; rfl) | (apply D_int; rfl; rfl; rfl) | (apply D_lenM; rfl) | (apply D_len_sl; rfl) | (apply D_not; rfl) | (apply D_loadW; rfl; rfl) | (apply D_loadA; rfl; rfl) | (apply D_len_nil; rfl) | (apply D_idxAn; rfl; rfl; (first | omega | (simp; done))) | (apply D_idxA; rfl; rfl; omega; (first | omega | (simp; done) | (simp; omega))) | (apply D_idxA0; rfl; rfl; omega; (first | omega | (simp; done) | (simp; omega))) | exact D_fldB rfl)
    | refine W_seq ?_
    | refine W_region ?_
    | (refine idC ?_; first | refine c1 rfl ?_ | refine c0 rfl ?_ | refine cs rfl (fun _ => ?_) (fun _ => ?_))
    | refine WL_nil ?_
    | refine tn ?_
    | refine tr ?_
    | refine br ?_
    | refine bn ?_
    | refine te ?_
    | (refine idB ?_; first | refine bh rfl ?_ | refine bm rfl ?_)
    | refine W_skip ?_
    | refine W_block ?_
    | refine W_exit ?_
    | refine W_ret ?_
    | refine W_label ?_
    | refine W_scope ?_
    | refine sn ?_
    | refine sr ?_
    | refine se ?_
    | (refine idR ?_; first | refine ret2 rfl rfl rfl rfl ?_ ?_ | refine rL2 rfl (by first | exact trivial | exact ⟨rfl, trivial⟩) (by first | exact ResO.tmp rfl | exact ResO.cellBA rfl rfl rfl | exact ResO.cellB1 rfl rfl rfl | exact ResO.cellEA rfl rfl | exact ResO.cellE1 rfl) (by first | exact ResO.tmp rfl | exact ResO.cellBA rfl rfl rfl | exact ResO.cellB1 rfl rfl rfl | exact ResO.cellEA rfl rfl | exact ResO.cellE1 rfl) ?_ ?_)
    | (refine idLd ?_; first | refine p1L (D_loadB1 rfl rfl rfl) rfl ?_ | refine p1L (D_loadBA rfl rfl rfl) rfl ?_ | refine p1L (D_loadB1 rfl (by (repeat first | assumption | exact get_last | (refine get_last2 ?_; focus (simp; done)) | apply get_set | apply get_app | (apply get_ne; focus omega) | (apply get_ne; focus (simp only [List.length_set, List.length_append, List.length_cons, List.length_nil]; omega))); done) (by rfl)) rfl ?_ | refine p1L (D_loadBA rfl (by (repeat first | assumption | exact get_last | (refine get_last2 ?_; focus (simp; done)) | apply get_set | apply get_app | (apply get_ne; focus omega) | (apply get_ne; focus (simp only [List.length_set, List.length_append, List.length_cons, List.length_nil]; omega))); done) (by rfl)) rfl ?_)
    | (refine idA ?_; first | refine m_var rfl rfl rfl rfl rfl rfl rfl ?_ | refine m_alloc rfl ?_)
    | (refine idS ?_; first | refine pS (S_store rfl rfl rfl rfl rfl rfl rfl) ?_ | refine pS (S_store rfl rfl rfl (by (repeat first | assumption | exact get_last | (refine get_last2 ?_; focus (simp; done)) | apply get_set | apply get_app | (apply get_ne; focus omega) | (apply get_ne; focus (simp only [List.length_set, List.length_append, List.length_cons, List.length_nil]; omega))); done) (by rfl) (by rfl) (by rfl)) ?_)
    | refine Le.bool ?_
    | refine Le.int ?_
    | refine Le.str ?_
    | (refine idAp ?_; refine m_app rfl rfl (by first | rfl | assumption | exact get_set (by assumption) | exact get_set (get_set (by assumption)) | exact get_set (get_set (get_set (by assumption))) | ((repeat first | assumption | exact get_last | (refine get_last2 ?_; focus (simp; done)) | apply get_set | apply get_app | (apply get_ne; focus omega)); done)) ?_ rfl rfl ?_ ?_ rfl ?_; (first | rfl | focus (simp only [List.length_map, List.length_append, List.length_cons, List.length_nil, num8_len]; omega) | focus (simp; done) | focus (simp; omega)); (first | focus (simp only [List.length_map, List.length_append, List.length_cons, List.length_nil, num8_len]; omega) | focus (simp; done) | focus (simp; omega)); (first | focus (simp only [List.length_map, List.length_append, List.length_cons, List.length_nil, num8_len]; omega) | focus (simp; done) | focus (simp; omega)))
    | (refine idAp ?_; refine m_appB rfl rfl rfl (by first | rfl | assumption | exact get_set (by assumption) | exact get_set (get_set (by assumption)) | exact get_set (get_set (get_set (by assumption))) | ((repeat first | assumption | exact get_last | (refine get_last2 ?_; focus (simp; done)) | apply get_set | apply get_app | (apply get_ne; focus omega)); done)) ?_ rfl rfl ?_ ?_ rfl ?_; (first | rfl | focus (simp only [List.length_map, List.length_append, List.length_cons, List.length_nil, num8_len]; omega) | focus (simp; done) | focus (simp; omega)); (first | focus (simp only [List.length_map, List.length_append, List.length_cons, List.length_nil, num8_len]; omega) | focus (simp; done) | focus (simp; omega)); (first | focus (simp only [List.length_map, List.length_append, List.length_cons, List.length_nil, num8_len]; omega) | focus (simp; done) | focus (simp; omega)))
    | (refine m_call (written_ac _ rfl (by simp) ?_ ?_) rfl rfl rfl ?_; rotate_left 2; rintro _ _ ⟨rfl, rfl⟩)
  · rename_i h1 h2
    have h1' : i < l.length := by omega
    have e : partB l[i] = num8 l[i].n := by simp [partB, h2]
    refine ⟨rfl, i + 1, ⟨by omega, take_all h1' hz (fun h => by rw [h2] at h; cases h)⟩, by omega, ⟨sleq ?_, rfl, rfl, ieq (wsucc i (by omega)), trivial⟩, ?_⟩
    · rw [flat_succ l i h1', e, List.map_append]
    · rw [flat_succ l i h1', e, List.length_append]; simp
  · rename_i h1 h2 h3
    have : ¬ ∀ p, p ∈ l → PartP p := fun h => by
      have := h _ (List.getElem_mem (show i < l.length by omega)) h2
      simp [this] at h3
    rw [show keyB l = [] by simp only [keyB, if_neg this]]
    exact Le.nil rfl
  · rename_i h1 h2 h3
    have : ¬ ∀ p, p ∈ l → PartP p := fun h => by
      have := h _ (List.getElem_mem (show i < l.length by omega)) h2
      simp [this] at h3
    rw [show keyE l = 10 by simp only [keyE, if_neg this]]
    split
    · rename_i h4; rw [if_pos h4] at h3; exact absurd rfl h3
    · rfl
  · rename_i h1 h2 h3
    have h1' : i < l.length := by omega
    have hm : mayB l[i].v = true := by
      cases hm : mayB l[i].v
      · simp [hm] at h3
      · rfl
    have e : partB l[i] = valB l[i].v := by simp [partB, h2]
    refine ⟨rfl, i + 1, ⟨by omega, take_all h1' hz (fun _ => hm)⟩, by omega, ⟨sleq ?_, rfl, rfl, ieq (wsucc i (by omega)), trivial⟩, ?_⟩
    · rw [flat_succ l i h1', e, List.map_append]
    · rw [flat_succ l i h1', e, List.length_append]; simp
  · simp only [List.length_map]; omega
  · rename_i h1 h2 h3
    have hm : mayB l[i].v = true := by
      cases hm : mayB l[i].v
      · simp [hm] at h3
      · rfl
    have := may_len hm
    omega
  · have : i = l.length := by omega
    subst this
    rw [List.take_length] at *
    rw [show keyB l = l.flatMap partB by simp only [keyB, if_pos hz]]
    exact Le.of_tok rfl
  · have : i = l.length := by omega
    subst this
    rw [List.take_length] at *
    simp only [keyE, if_pos hz]
end Go.Proofs

/- Contracts of keys' functions: the reference's. -/
namespace Go.Proofs
open Go.AL
attribute [local irreducible] Go.AL.W Go.AL.WL Go.AL.WD Go.AL.POp Go.AL.PPOp Go.AL.POpS Go.AL.PC Go.AL.AC Go.AL.YW Go.AL.Ret Go.AL.Le Go.AL.thn Go.AL.inBlk

noncomputable def valE (v : Val) : List UInt8 := if mayB v then valB v else []
set_option maxHeartbeats 4000000 in
theorem value1_pc [GlobF Try.prog] (v : Val) (hl : v.s.length < 9223372036854775808) : PC Try.prog 83 [eV v] (.tu [.sl none 1 ((valE v).map byteC), .sc (.int .i64 (if mayB v then 0 else 10))]) := by
  have h8 := u8iw v.kind
  have h9 := u8iw v.n
  have hn := num8_len v.n
  refine PC.of_body Try.func83 Try.ntmps83 rfl rfl rfl ?_
  repeat' first
    | refine m_lit (d := 14) rfl rfl rfl rfl rfl rfl ?_
    | (apply p1 (hd := rfl); case hop => first | (apply D_move; rfl) | (apply D_assign; rfl) | (apply D_pc (may1_pc v hl); rfl; exact .same rfl .nil) | (apply D_pc (num1_pc _); rfl; exact .same rfl .nil) | (apply D_load1; rfl) | (apply D_fld; rfl) | (apply D_pickT; rfl; rfl) | (apply D_pickF; rfl; rfl) | (apply D_int; rfl; rfl; rfl) | (apply D_len_str; rfl) | (apply D_not; rfl) | (apply D_loadW; rfl; rfl) | (apply D_loadA; rfl; rfl) | (apply D_box; rfl; rfl) | (apply D_conv_int; rfl) | (apply D_idxSn; rfl; rfl; (first | omega | (simp; done))) | (apply D_idxS; rfl; rfl; omega; (first | omega | (simp; done) | (simp; omega))) | (apply D_lit; rfl; rfl; rfl; rfl) | exact D_fldB rfl)
    | refine W_seq ?_
    | refine W_region ?_
    | (refine idC ?_; first | refine c1 rfl ?_ | refine c0 rfl ?_ | refine cs rfl (fun _ => ?_) (fun _ => ?_))
    | refine WL_nil ?_
    | (refine idG ?_; first | refine g0t rfl rfl rfl ?_ | refine g0f rfl rfl rfl ?_ | refine g0u rfl rfl rfl ?_ | refine gr rfl rfl ?_ | refine gs rfl rfl (fun _ => ?_) (fun _ => ?_) | refine grn rfl rfl ?_)
    | refine tn ?_
    | refine tr ?_
    | refine br ?_
    | refine bn ?_
    | refine te ?_
    | (refine idB ?_; first | refine bh rfl ?_ | refine bm rfl ?_)
    | refine W_skip ?_
    | refine W_block ?_
    | refine W_exit ?_
    | refine W_ret ?_
    | refine W_label ?_
    | refine W_scope ?_
    | refine sn ?_
    | refine sr ?_
    | refine se ?_
    | (refine idR ?_; first | refine ret2 rfl rfl rfl rfl ?_ ?_ | refine rL2 rfl (by first | exact trivial | exact ⟨rfl, trivial⟩) (by first | exact ResO.tmp rfl | exact ResO.cellBA rfl rfl rfl | exact ResO.cellB1 rfl rfl rfl | exact ResO.cellEA rfl rfl | exact ResO.cellE1 rfl) (by first | exact ResO.tmp rfl | exact ResO.cellBA rfl rfl rfl | exact ResO.cellB1 rfl rfl rfl | exact ResO.cellEA rfl rfl | exact ResO.cellE1 rfl) ?_ ?_)
    | (refine idLd ?_; first | refine p1L (D_loadB1 rfl rfl rfl) rfl ?_ | refine p1L (D_loadBA rfl rfl rfl) rfl ?_ | refine p1L (D_loadB1 rfl (by (repeat first | assumption | exact get_last | (refine get_last2 ?_; focus (simp; done)) | apply get_set | apply get_app | (apply get_ne; focus omega) | (apply get_ne; focus (simp only [List.length_set, List.length_append, List.length_cons, List.length_nil]; omega))); done) (by rfl)) rfl ?_ | refine p1L (D_loadBA rfl (by (repeat first | assumption | exact get_last | (refine get_last2 ?_; focus (simp; done)) | apply get_set | apply get_app | (apply get_ne; focus omega) | (apply get_ne; focus (simp only [List.length_set, List.length_append, List.length_cons, List.length_nil]; omega))); done) (by rfl)) rfl ?_)
    | refine Le.bool ?_
    | refine Le.int ?_
    | refine Le.str ?_
    | (refine idAp ?_; refine m_app rfl rfl (by first | rfl | assumption | exact get_set (by assumption) | exact get_set (get_set (by assumption)) | exact get_set (get_set (get_set (by assumption))) | ((repeat first | assumption | exact get_last | (refine get_last2 ?_; focus (simp; done)) | apply get_set | apply get_app | (apply get_ne; focus omega)); done)) ?_ rfl rfl ?_ ?_ rfl ?_; (first | rfl | focus (simp only [List.length_map, List.length_append, List.length_cons, List.length_nil, num8_len]; omega) | focus (simp; done) | focus (simp; omega)); (first | focus (simp only [List.length_map, List.length_append, List.length_cons, List.length_nil, num8_len]; omega) | focus (simp; done) | focus (simp; omega)); (first | focus (simp only [List.length_map, List.length_append, List.length_cons, List.length_nil, num8_len]; omega) | focus (simp; done) | focus (simp; omega)))
    | (refine idAp ?_; refine m_appB rfl rfl rfl (by first | rfl | assumption | exact get_set (by assumption) | exact get_set (get_set (by assumption)) | exact get_set (get_set (get_set (by assumption))) | ((repeat first | assumption | exact get_last | (refine get_last2 ?_; focus (simp; done)) | apply get_set | apply get_app | (apply get_ne; focus omega)); done)) ?_ rfl rfl ?_ ?_ rfl ?_; (first | rfl | focus (simp only [List.length_map, List.length_append, List.length_cons, List.length_nil, num8_len]; omega) | focus (simp; done) | focus (simp; omega)); (first | focus (simp only [List.length_map, List.length_append, List.length_cons, List.length_nil, num8_len]; omega) | focus (simp; done) | focus (simp; omega)); (first | focus (simp only [List.length_map, List.length_append, List.length_cons, List.length_nil, num8_len]; omega) | focus (simp; done) | focus (simp; omega)))
  all_goals first
    | (rename_i hm; have hm' : mayB v = false := (dP_f (p := MayP v)).symm ▸ hm; first | exact Le.nil (by simp [valE, hm']) | (simp [hm']; done) | (rw [show valE v = [] by simp [valE, hm']]; exact Le.nil rfl))
    | (have hm' : mayB v = true := (dP_t (p := MayP v)).symm ▸ (by assumption)
       first
         | (simp [hm']; done)
         | (refine Le.tokq ?_; simp only [h8, h9]; simp [valE, valB, hm', *]; done)
         | skip)
  have hm' : mayB v = true := (dP_t (p := MayP v)).symm ▸ (by assumption)
  have hlen := may_len hm'
  have e0 : v.kind = 3 ∨ v.kind = 4 ∨ v.kind = 7 := by
    have : MayP v := by assumption
    simp only [MayP] at this; omega
  have ev : valE v = [u8i v.kind] ++ textB v.s := by simp [valE, valB, hm', e0, *]
  refine W_loopL (X := Nat) (fun i => [(1, .ep (vC v)), (5, .sl (some 0) 1 ([[.sc (.int .u8 (u8i v.kind).toNat)]] ++ (esc (v.s.take i)).map byteC)), (6, .sc (.int .i64 (i : Int)))]) (fun i => [.tail (1 + (esc (v.s.take i)).length) 1 5])
    (fun i => i ≤ v.s.length) (fun i => v.s.length - i) 0 (by omega) ⟨rfl, sleq (by simp [esc, h8]), rfl, trivial⟩ (by simp [esc]) ?_
  intro i hi
  have hl' := esc_take_len v.s i
  repeat' first
    | (apply p1 (hd := rfl); case hop => first | (apply D_move; rfl) | (apply D_assign; rfl) | (apply D_load1; rfl) | (apply D_fld; rfl) | (apply D_pickT; rfl; rfl) | (apply D_pickF; rfl; rfl) | (apply D_int; rfl; rfl; rfl) | (apply D_len_str; rfl) | (apply D_not; rfl) | (apply D_loadW; rfl; rfl) | (apply D_loadA; rfl; rfl) | (apply D_box; rfl; rfl) | (apply D_conv_int; rfl) | (apply D_idxSn; rfl; rfl; (first | omega | (simp; done))) | (apply D_idxS; rfl; rfl; omega; (first | omega | (simp; done) | (simp; omega))) | (apply D_lit; rfl; rfl; rfl; rfl) | exact D_fldB rfl)
    | refine W_seq ?_
    | refine W_region ?_
    | (refine idC ?_; first | refine c1 rfl ?_ | refine c0 rfl ?_ | refine cs rfl (fun _ => ?_) (fun _ => ?_))
    | refine WL_nil ?_
    | (refine idG ?_; first | refine g0t rfl rfl rfl ?_ | refine g0f rfl rfl rfl ?_ | refine g0u rfl rfl rfl ?_ | refine gr rfl rfl ?_ | refine gs rfl rfl (fun _ => ?_) (fun _ => ?_) | refine grn rfl rfl ?_)
    | refine tn ?_
    | refine tr ?_
    | refine br ?_
    | refine bn ?_
    | refine te ?_
    | (refine idB ?_; first | refine bh rfl ?_ | refine bm rfl ?_)
    | refine W_skip ?_
    | refine W_block ?_
    | refine W_exit ?_
    | refine W_ret ?_
    | refine W_label ?_
    | refine W_scope ?_
    | refine sn ?_
    | refine sr ?_
    | refine se ?_
    | (refine idR ?_; first | refine ret2 rfl rfl rfl rfl ?_ ?_ | refine rL2 rfl (by first | exact trivial | exact ⟨rfl, trivial⟩) (by first | exact ResO.tmp rfl | exact ResO.cellBA rfl rfl rfl | exact ResO.cellB1 rfl rfl rfl | exact ResO.cellEA rfl rfl | exact ResO.cellE1 rfl) (by first | exact ResO.tmp rfl | exact ResO.cellBA rfl rfl rfl | exact ResO.cellB1 rfl rfl rfl | exact ResO.cellEA rfl rfl | exact ResO.cellE1 rfl) ?_ ?_)
    | (refine idLd ?_; first | refine p1L (D_loadB1 rfl rfl rfl) rfl ?_ | refine p1L (D_loadBA rfl rfl rfl) rfl ?_ | refine p1L (D_loadB1 rfl (by (repeat first | assumption | exact get_last | (refine get_last2 ?_; focus (simp; done)) | apply get_set | apply get_app | (apply get_ne; focus omega) | (apply get_ne; focus (simp only [List.length_set, List.length_append, List.length_cons, List.length_nil]; omega))); done) (by rfl)) rfl ?_ | refine p1L (D_loadBA rfl (by (repeat first | assumption | exact get_last | (refine get_last2 ?_; focus (simp; done)) | apply get_set | apply get_app | (apply get_ne; focus omega) | (apply get_ne; focus (simp only [List.length_set, List.length_append, List.length_cons, List.length_nil]; omega))); done) (by rfl)) rfl ?_)
    | refine Le.bool ?_
    | refine Le.int ?_
    | refine Le.str ?_
    | (refine idAp ?_; refine m_app rfl rfl (by first | rfl | assumption | exact get_set (by assumption) | exact get_set (get_set (by assumption)) | exact get_set (get_set (get_set (by assumption))) | ((repeat first | assumption | exact get_last | (refine get_last2 ?_; focus (simp; done)) | apply get_set | apply get_app | (apply get_ne; focus omega)); done)) ?_ rfl rfl ?_ ?_ rfl ?_; (first | rfl | focus (simp only [List.length_map, List.length_append, List.length_cons, List.length_nil]; omega) | focus (simp; done) | focus (simp; omega)); (first | focus (simp only [List.length_map, List.length_append, List.length_cons, List.length_nil]; omega) | focus (simp; done) | focus (simp; omega)); (first | focus (simp only [List.length_map, List.length_append, List.length_cons, List.length_nil]; omega) | focus (simp; done) | focus (simp; omega)))
    | (refine idAp ?_; refine m_appB rfl rfl rfl (by first | rfl | assumption | exact get_set (by assumption) | exact get_set (get_set (by assumption)) | exact get_set (get_set (get_set (by assumption))) | ((repeat first | assumption | exact get_last | (refine get_last2 ?_; focus (simp; done)) | apply get_set | apply get_app | (apply get_ne; focus omega)); done)) ?_ rfl rfl ?_ ?_ rfl ?_; (first | rfl | focus (simp only [List.length_map, List.length_append, List.length_cons, List.length_nil]; omega) | focus (simp; done) | focus (simp; omega)); (first | focus (simp only [List.length_map, List.length_append, List.length_cons, List.length_nil]; omega) | focus (simp; done) | focus (simp; omega)); (first | focus (simp only [List.length_map, List.length_append, List.length_cons, List.length_nil]; omega) | focus (simp; done) | focus (simp; omega)))
  · rename_i h1 h2
    have h1' : i < v.s.length := by omega
    have e : esc (v.s.take (i + 1)) = esc (v.s.take i) ++ [0, 255] := by rw [esc_succ v.s i h1', if_pos (u8z h2)]
    refine ⟨rfl, i + 1, by omega, by omega, ⟨rfl, sleq ?_, ieq (wsucc i (by omega)), trivial⟩, ?_⟩
    · rw [e]; simp
    · rw [e]; simp; omega
  · rename_i h1 h2
    have h1' : i < v.s.length := by omega
    have e : esc (v.s.take (i + 1)) = esc (v.s.take i) ++ [v.s[i]] := by rw [esc_succ v.s i h1', if_neg (u8nz h2)]
    refine ⟨rfl, i + 1, by omega, by omega, ⟨rfl, sleq ?_, ieq (wsucc i (by omega)), trivial⟩, ?_⟩
    · rw [e]; simp
    · rw [e]; simp; omega
  · have : i = v.s.length := by omega
    subst this
    rw [List.take_length] at *
    rw [ev]
    exact Le.tokq (by simp [textB])
  · simp [hm']

theorem valE_len (v : Val) : (valE v).length ≤ 2009 := by
  unfold valE
  split
  · rename_i h; have := may_len h; have := valB_len v; omega
  · simp

set_option maxHeartbeats 4000000 in
theorem key1_pc [GlobF Try.prog] (l : List Prt) (hl : l.length < 1048576) (hs : ∀ p, p ∈ l → p.v.s.length < 9223372036854775808) : PC Try.prog 51 [.sl none 5 (l.map pC)] (.tu [.sl none 1 ((keyB l).map byteC), .sc (.int .i64 (keyE l))]) := by
  refine PC.of_body Try.func51 Try.ntmps51 rfl rfl rfl ?_
  repeat' first
    | (apply p1 (hd := rfl); case hop => first | (apply D_move; rfl) | (apply D_assign; rfl) | (apply D_load1; rfl) | (apply D_fld; rfl) | (apply D_int; rfl; rfl; rfl) | (apply D_lenM; rfl) | (apply D_len_sl; rfl) | (apply D_ext; rfl; rfl) | (apply D_not; rfl) | (apply D_loadW; rfl; rfl) | (apply D_loadA; rfl; rfl) | (apply D_len_nil; rfl) | (apply D_idxAn; rfl; rfl; (first | omega | (simp; done))) | (apply D_idxA; rfl; rfl; omega; (first | omega | (simp; done) | (simp; omega))) | (apply D_idxA0; rfl; rfl; omega; (first | omega | (simp; done) | (simp; omega))) | exact D_fldB rfl)
    | refine W_seq ?_
    | refine W_region ?_
    | (refine idC ?_; first | refine c1 rfl ?_ | refine c0 rfl ?_ | refine cs rfl (fun _ => ?_) (fun _ => ?_))
    | refine WL_nil ?_
    | refine tn ?_
    | refine tr ?_
    | refine br ?_
    | refine bn ?_
    | refine te ?_
    | (refine idB ?_; first | refine bh rfl ?_ | refine bm rfl ?_)
    | refine W_skip ?_
    | refine W_block ?_
    | refine W_exit ?_
    | refine W_ret ?_
    | refine W_label ?_
    | refine W_scope ?_
    | refine sn ?_
    | refine sr ?_
    | refine se ?_
    | (refine idR ?_; first | refine ret2 rfl rfl rfl rfl ?_ ?_ | refine rL2 rfl (by first | exact trivial | exact ⟨rfl, trivial⟩) (by first | exact ResO.tmp rfl | exact ResO.cellBA rfl rfl rfl | exact ResO.cellB1 rfl rfl rfl | exact ResO.cellEA rfl rfl | exact ResO.cellE1 rfl) (by first | exact ResO.tmp rfl | exact ResO.cellBA rfl rfl rfl | exact ResO.cellB1 rfl rfl rfl | exact ResO.cellEA rfl rfl | exact ResO.cellE1 rfl) ?_ ?_)
    | (refine idLd ?_; first | refine p1L (D_loadB1 rfl rfl rfl) rfl ?_ | refine p1L (D_loadBA rfl rfl rfl) rfl ?_ | refine p1L (D_loadB1 rfl (by (repeat first | assumption | exact get_last | (refine get_last2 ?_; focus (simp; done)) | apply get_set | apply get_app | (apply get_ne; focus omega) | (apply get_ne; focus (simp only [List.length_set, List.length_append, List.length_cons, List.length_nil]; omega))); done) (by rfl)) rfl ?_ | refine p1L (D_loadBA rfl (by (repeat first | assumption | exact get_last | (refine get_last2 ?_; focus (simp; done)) | apply get_set | apply get_app | (apply get_ne; focus omega) | (apply get_ne; focus (simp only [List.length_set, List.length_append, List.length_cons, List.length_nil]; omega))); done) (by rfl)) rfl ?_)
    | refine Le.bool ?_
    | refine Le.int ?_
    | refine Le.str ?_
    | (refine idAp ?_; refine m_app rfl rfl (by first | rfl | assumption | exact get_set (by assumption) | exact get_set (get_set (by assumption)) | exact get_set (get_set (get_set (by assumption))) | ((repeat first | assumption | exact get_last | (refine get_last2 ?_; focus (simp; done)) | apply get_set | apply get_app | (apply get_ne; focus omega)); done)) ?_ rfl rfl ?_ ?_ rfl ?_; (first | rfl | focus (simp only [List.length_map, List.length_append, List.length_cons, List.length_nil]; omega) | focus (simp; done) | focus (simp; omega)); (first | focus (simp only [List.length_map, List.length_append, List.length_cons, List.length_nil]; omega) | focus (simp; done) | focus (simp; omega)); (first | focus (simp only [List.length_map, List.length_append, List.length_cons, List.length_nil]; omega) | focus (simp; done) | focus (simp; omega)))
    | (refine idAp ?_; refine m_appB rfl rfl rfl (by first | rfl | assumption | exact get_set (by assumption) | exact get_set (get_set (by assumption)) | exact get_set (get_set (get_set (by assumption))) | ((repeat first | assumption | exact get_last | (refine get_last2 ?_; focus (simp; done)) | apply get_set | apply get_app | (apply get_ne; focus omega)); done)) ?_ rfl rfl ?_ ?_ rfl ?_; (first | rfl | focus (simp only [List.length_map, List.length_append, List.length_cons, List.length_nil]; omega) | focus (simp; done) | focus (simp; omega)); (first | focus (simp only [List.length_map, List.length_append, List.length_cons, List.length_nil]; omega) | focus (simp; done) | focus (simp; omega)); (first | focus (simp only [List.length_map, List.length_append, List.length_cons, List.length_nil]; omega) | focus (simp; done) | focus (simp; omega)))
  refine W_adopt 4 1 5 rfl ?_
  refine W_loopL (X := Nat) (fun i => [(0, .sl none 5 (l.map pC)), (4, .sl (some 0) 1 (((l.take i).flatMap partB).map byteC)), (5, .sc (.int .i64 (i : Int)))]) (fun i => [.tail ((l.take i).flatMap partB).length 1 5])
    (fun i => i ≤ l.length ∧ ∀ p, p ∈ l.take i → PartP p) (fun i => l.length - i) 0 ⟨by omega, fun p hp => by simp at hp⟩ ⟨rfl, rfl, rfl, trivial⟩ rfl ?_
  rintro i ⟨hi, hz⟩
  have hf := flat_len2 hz
  have ht : (l.take i).length ≤ l.length := by simp only [List.length_take]; omega
  repeat' first
    | (apply p1 (hd := rfl); case hop => first | (apply D_move; rfl) | (apply D_assign; rfl) | (apply D_pc (num1_pc _); rfl; exact .same rfl .nil) | (apply D_pc (value1_pc _ (hs _ (List.getElem_mem _))); rfl; exact .same rfl .nil) | (apply D_load1; rfl) | (apply D_fld; rfl) | (apply D_int; rfl; rfl; rfl) | (apply D_lenM; rfl) | (apply D_len_sl; rfl) | (apply D_ext; rfl; rfl) | (apply D_not; rfl) | (apply D_loadW; rfl; rfl) | (apply D_loadA; rfl; rfl) | (apply D_len_nil; rfl) | (apply D_idxAn; rfl; rfl; (first | omega | (simp; done))) | (apply D_idxA; rfl; rfl; omega; (first | omega | (simp; done) | (simp; omega))) | (apply D_idxA0; rfl; rfl; omega; (first | omega | (simp; done) | (simp; omega))) | exact D_fldB rfl)
    | refine W_seq ?_
    | refine W_region ?_
    | (refine idC ?_; first | refine c1 rfl ?_ | refine c0 rfl ?_ | refine cs rfl (fun _ => ?_) (fun _ => ?_))
    | refine WL_nil ?_
    | refine tn ?_
    | refine tr ?_
    | refine br ?_
    | refine bn ?_
    | refine te ?_
    | (refine idB ?_; first | refine bh rfl ?_ | refine bm rfl ?_)
    | refine W_skip ?_
    | refine W_block ?_
    | refine W_exit ?_
    | refine W_ret ?_
    | refine W_label ?_
    | refine W_scope ?_
    | refine sn ?_
    | refine sr ?_
    | refine se ?_
    | (refine idR ?_; first | refine ret2 rfl rfl rfl rfl ?_ ?_ | refine rL2 rfl (by first | exact trivial | exact ⟨rfl, trivial⟩) (by first | exact ResO.tmp rfl | exact ResO.cellBA rfl rfl rfl | exact ResO.cellB1 rfl rfl rfl | exact ResO.cellEA rfl rfl | exact ResO.cellE1 rfl) (by first | exact ResO.tmp rfl | exact ResO.cellBA rfl rfl rfl | exact ResO.cellB1 rfl rfl rfl | exact ResO.cellEA rfl rfl | exact ResO.cellE1 rfl) ?_ ?_)
    | (refine idLd ?_; first | refine p1L (D_loadB1 rfl rfl rfl) rfl ?_ | refine p1L (D_loadBA rfl rfl rfl) rfl ?_ | refine p1L (D_loadB1 rfl (by (repeat first | assumption | exact get_last | (refine get_last2 ?_; focus (simp; done)) | apply get_set | apply get_app | (apply get_ne; focus omega) | (apply get_ne; focus (simp only [List.length_set, List.length_append, List.length_cons, List.length_nil]; omega))); done) (by rfl)) rfl ?_ | refine p1L (D_loadBA rfl (by (repeat first | assumption | exact get_last | (refine get_last2 ?_; focus (simp; done)) | apply get_set | apply get_app | (apply get_ne; focus omega) | (apply get_ne; focus (simp only [List.length_set, List.length_append, List.length_cons, List.length_nil]; omega))); done) (by rfl)) rfl ?_)
    | refine Le.bool ?_
    | refine Le.int ?_
    | refine Le.str ?_
    | (refine idAp ?_; refine m_app rfl rfl (by first | rfl | assumption | exact get_set (by assumption) | exact get_set (get_set (by assumption)) | exact get_set (get_set (get_set (by assumption))) | ((repeat first | assumption | exact get_last | (refine get_last2 ?_; focus (simp; done)) | apply get_set | apply get_app | (apply get_ne; focus omega)); done)) ?_ rfl rfl ?_ ?_ rfl ?_; (first | rfl | focus (simp only [List.length_map, List.length_append, List.length_cons, List.length_nil, num8_len]; omega) | focus (simp; done) | focus (simp; omega)); (first | focus (simp only [List.length_map, List.length_append, List.length_cons, List.length_nil, num8_len]; omega) | focus (simp; done) | focus (simp; omega)); (first | focus (simp only [List.length_map, List.length_append, List.length_cons, List.length_nil, num8_len]; omega) | focus (simp; done) | focus (simp; omega)))
    | (refine idAp ?_; refine m_appB rfl rfl rfl (by first | rfl | assumption | exact get_set (by assumption) | exact get_set (get_set (by assumption)) | exact get_set (get_set (get_set (by assumption))) | ((repeat first | assumption | exact get_last | (refine get_last2 ?_; focus (simp; done)) | apply get_set | apply get_app | (apply get_ne; focus omega)); done)) ?_ rfl rfl ?_ ?_ rfl ?_; (first | rfl | focus (simp only [List.length_map, List.length_append, List.length_cons, List.length_nil, num8_len]; omega) | focus (simp; done) | focus (simp; omega)); (first | focus (simp only [List.length_map, List.length_append, List.length_cons, List.length_nil, num8_len]; omega) | focus (simp; done) | focus (simp; omega)); (first | focus (simp only [List.length_map, List.length_append, List.length_cons, List.length_nil, num8_len]; omega) | focus (simp; done) | focus (simp; omega)))
  · rename_i h1 h2
    have h1' : i < l.length := by omega
    have e : partB l[i] = num8 l[i].n := by simp [partB, h2]
    refine ⟨rfl, i + 1, ⟨by omega, take_all h1' hz (fun h => by rw [h2] at h; cases h)⟩, by omega, ⟨rfl, sleq ?_, ieq (wsucc i (by omega)), trivial⟩, ?_⟩
    · rw [flat_succ l i h1', e, List.map_append]
    · rw [flat_succ l i h1', e, List.length_append]; simp
  · rename_i h1 h2 h3
    have : ¬ ∀ p, p ∈ l → PartP p := fun h => by
      have := h _ (List.getElem_mem (show i < l.length by omega)) h2
      simp [this] at h3
    rw [show keyB l = [] by simp only [keyB, if_neg this]]
    exact Le.nil rfl
  · rename_i h1 h2 h3
    have : ¬ ∀ p, p ∈ l → PartP p := fun h => by
      have := h _ (List.getElem_mem (show i < l.length by omega)) h2
      simp [this] at h3
    rw [show keyE l = 10 by simp only [keyE, if_neg this]]
    split
    · rename_i h4; rw [if_pos h4] at h3; exact absurd rfl h3
    · rfl
  · rename_i h1 h2 h3
    have h1' : i < l.length := by omega
    have hm : mayB l[i].v = true := by
      cases hm : mayB l[i].v
      · simp [hm] at h3
      · rfl
    have hv := valE_len l[i].v
    have e : partB l[i] = valE l[i].v := by simp [partB, h2, valE, hm]
    repeat' first
      | (apply p1 (hd := rfl); case hop => first | (apply D_move; rfl) | (apply D_assign; rfl) | (apply D_load1; rfl) | (apply D_fld; rfl) | (apply D_int; rfl; rfl; rfl) | (apply D_lenM; rfl) | (apply D_len_sl; rfl) | (apply D_ext; rfl; rfl) | (apply D_not; rfl) | (apply D_loadW; rfl; rfl) | (apply D_loadA; rfl; rfl) | (apply D_len_nil; rfl) | (apply D_idxAn; rfl; rfl; (first | omega | (simp; done))) | (apply D_idxA; rfl; rfl; omega; (first | omega | (simp; done) | (simp; omega))) | (apply D_idxA0; rfl; rfl; omega; (first | omega | (simp; done) | (simp; omega))) | exact D_fldB rfl)
      | refine W_seq ?_
      | refine W_region ?_
      | (refine idC ?_; first | refine c1 rfl ?_ | refine c0 rfl ?_ | refine cs rfl (fun _ => ?_) (fun _ => ?_))
      | refine WL_nil ?_
      | refine tn ?_
      | refine tr ?_
      | refine br ?_
      | refine bn ?_
      | refine te ?_
      | (refine idB ?_; first | refine bh rfl ?_ | refine bm rfl ?_)
      | refine W_skip ?_
      | refine W_block ?_
      | refine W_exit ?_
      | refine W_ret ?_
      | refine W_label ?_
      | refine W_scope ?_
      | refine sn ?_
      | refine sr ?_
      | refine se ?_
      | (refine idR ?_; first | refine ret2 rfl rfl rfl rfl ?_ ?_ | refine rL2 rfl (by first | exact trivial | exact ⟨rfl, trivial⟩) (by first | exact ResO.tmp rfl | exact ResO.cellBA rfl rfl rfl | exact ResO.cellB1 rfl rfl rfl | exact ResO.cellEA rfl rfl | exact ResO.cellE1 rfl) (by first | exact ResO.tmp rfl | exact ResO.cellBA rfl rfl rfl | exact ResO.cellB1 rfl rfl rfl | exact ResO.cellEA rfl rfl | exact ResO.cellE1 rfl) ?_ ?_)
      | (refine idLd ?_; first | refine p1L (D_loadB1 rfl rfl rfl) rfl ?_ | refine p1L (D_loadBA rfl rfl rfl) rfl ?_ | refine p1L (D_loadB1 rfl (by (repeat first | assumption | exact get_last | (refine get_last2 ?_; focus (simp; done)) | apply get_set | apply get_app | (apply get_ne; focus omega) | (apply get_ne; focus (simp only [List.length_set, List.length_append, List.length_cons, List.length_nil]; omega))); done) (by rfl)) rfl ?_ | refine p1L (D_loadBA rfl (by (repeat first | assumption | exact get_last | (refine get_last2 ?_; focus (simp; done)) | apply get_set | apply get_app | (apply get_ne; focus omega) | (apply get_ne; focus (simp only [List.length_set, List.length_append, List.length_cons, List.length_nil]; omega))); done) (by rfl)) rfl ?_)
      | refine Le.bool ?_
      | refine Le.int ?_
      | refine Le.str ?_
      | (refine idAp ?_; refine m_app rfl rfl (by first | rfl | assumption | exact get_set (by assumption) | exact get_set (get_set (by assumption)) | exact get_set (get_set (get_set (by assumption))) | ((repeat first | assumption | exact get_last | (refine get_last2 ?_; focus (simp; done)) | apply get_set | apply get_app | (apply get_ne; focus omega)); done)) ?_ rfl rfl ?_ ?_ rfl ?_; (first | rfl | focus (simp only [List.length_map, List.length_append, List.length_cons, List.length_nil]; omega) | focus (simp; done) | focus (simp; omega)); (first | focus (simp only [List.length_map, List.length_append, List.length_cons, List.length_nil]; omega) | focus (simp; done) | focus (simp; omega)); (first | focus (simp only [List.length_map, List.length_append, List.length_cons, List.length_nil]; omega) | focus (simp; done) | focus (simp; omega)))
      | (refine idAp ?_; refine m_appB rfl rfl rfl (by first | rfl | assumption | exact get_set (by assumption) | exact get_set (get_set (by assumption)) | exact get_set (get_set (get_set (by assumption))) | ((repeat first | assumption | exact get_last | (refine get_last2 ?_; focus (simp; done)) | apply get_set | apply get_app | (apply get_ne; focus omega)); done)) ?_ rfl rfl ?_ ?_ rfl ?_; (first | rfl | focus (simp only [List.length_map, List.length_append, List.length_cons, List.length_nil]; omega) | focus (simp; done) | focus (simp; omega)); (first | focus (simp only [List.length_map, List.length_append, List.length_cons, List.length_nil]; omega) | focus (simp; done) | focus (simp; omega)); (first | focus (simp only [List.length_map, List.length_append, List.length_cons, List.length_nil]; omega) | focus (simp; done) | focus (simp; omega)))
    refine ⟨rfl, i + 1, ⟨by omega, take_all h1' hz (fun _ => hm)⟩, by omega, ⟨rfl, sleq ?_, ieq (wsucc i (by omega)), trivial⟩, ?_⟩
    · rw [flat_succ l i h1', e, List.map_append]
    · rw [flat_succ l i h1', e, List.length_append]; simp
  · have : i = l.length := by omega
    subst this
    rw [List.take_length] at *
    rw [show keyB l = l.flatMap partB by simp only [keyB, if_pos hz]]
    exact Le.of_tok rfl
  · have : i = l.length := by omega
    subst this
    rw [List.take_length] at *
    simp only [keyE, if_pos hz]
end Go.Proofs
